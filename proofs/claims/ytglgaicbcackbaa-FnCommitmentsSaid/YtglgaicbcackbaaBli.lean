/- Contracts of BlindsFor.
   Conditions: none beyond the calls' own tests. -/
import Derived.Test.YtglgaicbcackbaaCom
import Derived.Test.YtglgaicbcackbaaLst
import Derived.Test.YtglgaicbcackbaaMrk
namespace Go.Proofs.Ytglgaicbcackbaa
open Go.RowKit
set_option linter.unusedVariables false
/-- The blinds below k with a mark. -/
def blindsL (p v m : Int) : Nat → List Int
  | 0 => []
  | k + 1 => blindsL p v m k ++ (if markF p v k = m then [(k : Int)] else [])
theorem blindsL_y {p v m : Int} {k : Nat} (h : (markF p v k == m) = true) : blindsL p v m (k + 1) = blindsL p v m k ++ [(k : Int)] := by
  have : markF p v k = m := by simpa using h
  simp [blindsL, this]
theorem blindsL_n {p v m : Int} {k : Nat} (h : (markF p v k == m) = false) : blindsL p v m (k + 1) = blindsL p v m k := by
  have : ¬ markF p v k = m := by simpa using h
  simp [blindsL, this]
theorem blindsL_len (p v m : Int) (k : Nat) : (blindsL p v m k).length ≤ k := by
  induction k with
  | zero => simp [blindsL]
  | succ k ih => unfold blindsL; split <;> simp <;> omega
def blindsB (p v m q : Int) : Bool := inR p 0 1 && inR v 0 65535 && inR m 0 65535 && inR q 0 2000
def blindsR (p v m q : Int) : List Int := if blindsB p v m q then blindsL p v m (q.toNat + 1) else []
theorem blindsR_len (p v m q : Int) : (blindsR p v m q).length ≤ 2001 := by
  unfold blindsR
  split
  · rename_i h
    have h4 : inR q 0 2000 = true := by simp only [blindsB, Bool.and_eq_true] at h; exact h.2
    have := inR_iff.1 h4
    have := blindsL_len p v m (q.toNat + 1)
    omega
  · simp
set_option maxHeartbeats 2000000 in
theorem spec_BlindsFor (p v m q : Int) (w : World) :
    Calls Try.prog 10 #[.int .i64 p, .int .i64 v, .int .i64 m, .int .i64 q] w fun e w' => ∃ A n c, e = .returned (.tuple #[.slice A n c, .bool (blindsB p v m q)]) ∧ OwnI w.heap.size w' A n c (blindsR p v m q) ∧ Bl w w' := by
  rcases hB : blindsB p v m q
  · go_enter Try.func10, Try.ntmps10
    go_wp2_with (first | (go_at_call 77; refine (spec_cmParty _ _).mono ?_; rintro e w' ⟨rfl, rfl⟩) | (go_at_call 78; refine (spec_cmValue _ _).mono ?_; rintro e w' ⟨rfl, rfl⟩) | (go_at_call 79; refine (spec_lbGood _ _).mono ?_; rintro e w' ⟨rfl, rfl⟩) | (go_at_call 80; refine (spec_l1In _ _ _ _).mono ?_; rintro e w' ⟨rfl, rfl⟩))
    all_goals first
      | (exfalso; simp_all [blindsB]; done)
      | (go_ret2; exact ⟨none, 0, 0, rfl, by simpa [blindsR, hB] using OwnI.nil w.heap.size w, Bl.refl w⟩)
  · have hb : inR p 0 1 = true ∧ inR v 0 65535 = true ∧ inR m 0 65535 = true ∧ inR q 0 2000 = true := by simpa [blindsB, and_assoc] using hB
    obtain ⟨h1, h2, h3, h4⟩ := hb
    have i1 := inR_iff.1 h1
    have i2 := inR_iff.1 h2
    have i4 := inR_iff.1 h4
    have HB := Lib.hid hB
    clear hB
    have hown0 := OwnI.nil w.heap.size w
    have hW0 := Bl.refl w
    go_enter Try.func10, Try.ntmps10
    go_wp2_with (first | (go_at_call 77; refine (spec_cmParty _ _).mono ?_; rintro e w' ⟨rfl, rfl⟩) | (go_at_call 78; refine (spec_cmValue _ _).mono ?_; rintro e w' ⟨rfl, rfl⟩) | (go_at_call 79; refine (spec_lbGood _ _).mono ?_; rintro e w' ⟨rfl, rfl⟩) | (go_at_call 80; refine (spec_l1In _ _ _ _).mono ?_; rintro e w' ⟨rfl, rfl⟩))
    obtain ⟨Q, rfl⟩ : ∃ Q : Nat, q = Q := ⟨q.toNat, by omega⟩
    go_loopw [10, 11] (fun o i wr => ∃ k n A c, k ≤ Q + 1 ∧ n ≤ k ∧ i = .int .i64 (k : Nat) ∧ o = .slice A n c ∧ OwnI w.heap.size wr A n c (blindsL p v m k) ∧ Bl w wr) (fun _ i _ => Q + 1 - (intOf i).toNat)
    case atStart => exact ⟨0, 0, _, _, by omega, by omega, rfl, rfl, hown0, hW0⟩
    case round =>
      obtain ⟨k, n, A, c, hk, hnk, rfl, rfl, hown, hW⟩ := hrel
      by_cases hlt : k < Q + 1
      · have hmk := Lib.hid (show dig [p, v, (k : Int), 51] = markF p v k from rfl)
        have i5 : (k : Int) ≤ 2000 := by omega
        have hwz := hW.sz
        rcases hx : (markF p v k == m)
        · have HX := Lib.hid (blindsL_n hx)
          go_wp2_with (first | (go_at_call 68; refine (spec_cmMark _ _ _ _ (by omega) (by omega) (by omega)).mono ?_; rintro e w1 ⟨rfl, hb1⟩; replace hown := hown.keep hb1; replace hW := hW.call hb1))
          go_roundw
          case rel => exact ⟨k + 1, n, A, c, by omega, by omega, by go_num, rfl, by rw [HX.out]; exact hown, hW⟩
          case measure => simp [intOf]; omega
        · have HX := Lib.hid (blindsL_y hx)
          go_wp2_with (first | (go_at_call 68; refine (spec_cmMark _ _ _ _ (by omega) (by omega) (by omega)).mono ?_; rintro e w1 ⟨rfl, hb1⟩; replace hown := hown.keep hb1; replace hW := hW.call hb1) | (at_builtin; refine ap_int rfl rfl rfl (hown.alloc _) rfl (rd_new1 _ _ _) (by omega) (by have := hW.sz; simp; omega) ?_; intro A2 c2 w2 hown2 hg2 hat2; replace hW := (hW.alloc _).grown hg2 (fun k hk => (hown.blk k hk).1)))
          go_roundw
          case rel => exact ⟨k + 1, n + 1, A2, c2, by omega, by omega, by go_num, rfl, by rw [HX.out]; exact hown2, hW⟩
          case measure => simp [intOf]; omega
      · have he : k = Q + 1 := by omega
        subst he
        have hR := Lib.hid (show blindsR p v m Q = blindsL p v m (Q + 1) by unfold blindsR; rw [HB.out]; rfl)
        go_wp2
        go_ret2
        exact ⟨A, n, c, rfl, by rw [hR.out]; exact hown, hW⟩
set_option maxHeartbeats 2000000 in
theorem impl_BlindsFor (p v m q : Int) (w : World) :
    Calls Try.prog 9 #[.int .i64 p, .int .i64 v, .int .i64 m, .int .i64 q] w fun e w' => ∃ A n c, e = .returned (.tuple #[.slice A n c, .bool (blindsB p v m q)]) ∧ OwnI w.heap.size w' A n c (blindsR p v m q) ∧ Bl w w' := by
  rcases hB : blindsB p v m q
  · go_enter Try.func9, Try.ntmps9
    go_wp2_with (first | (go_at_call 72; refine (impl_isBit _ _).mono ?_; rintro e w' ⟨rfl, rfl⟩) | (go_at_call 73; refine (impl_isValue _ _).mono ?_; rintro e w' ⟨rfl, rfl⟩) | (go_at_call 74; refine (impl_isLabel _ _).mono ?_; rintro e w' ⟨rfl, rfl⟩) | (go_at_call 75; refine (impl_within _ _ _ _).mono ?_; rintro e w' ⟨rfl, rfl⟩))
    all_goals first
      | (exfalso; simp_all [blindsB]; done)
      | (go_ret2; exact ⟨none, 0, 0, rfl, by simpa [blindsR, hB] using OwnI.nil w.heap.size w, Bl.refl w⟩)
  · have hb : inR p 0 1 = true ∧ inR v 0 65535 = true ∧ inR m 0 65535 = true ∧ inR q 0 2000 = true := by simpa [blindsB, and_assoc] using hB
    obtain ⟨h1, h2, h3, h4⟩ := hb
    have i1 := inR_iff.1 h1
    have i2 := inR_iff.1 h2
    have i4 := inR_iff.1 h4
    have HB := Lib.hid hB
    clear hB
    have hown0 := own_made w
    have hW0 := (Bl.refl w).alloc (.cells #[] 3)
    go_enter Try.func9, Try.ntmps9
    go_wp2_with (first | (go_at_call 72; refine (impl_isBit _ _).mono ?_; rintro e w' ⟨rfl, rfl⟩) | (go_at_call 73; refine (impl_isValue _ _).mono ?_; rintro e w' ⟨rfl, rfl⟩) | (go_at_call 74; refine (impl_isLabel _ _).mono ?_; rintro e w' ⟨rfl, rfl⟩) | (go_at_call 75; refine (impl_within _ _ _ _).mono ?_; rintro e w' ⟨rfl, rfl⟩))
    obtain ⟨Q, rfl⟩ : ∃ Q : Nat, q = Q := ⟨q.toNat, by omega⟩
    go_loopw [10, 33] (fun o i wr => ∃ k n A c, k ≤ Q + 1 ∧ n ≤ k ∧ i = .int .i64 (k : Nat) ∧ o = .slice A n c ∧ OwnI w.heap.size wr A n c (blindsL p v m k) ∧ Bl w wr) (fun _ i _ => Q + 1 - (intOf i).toNat)
    case atStart => exact ⟨0, 0, _, _, by omega, by omega, rfl, rfl, hown0, hW0⟩
    case round =>
      obtain ⟨k, n, A, c, hk, hnk, rfl, rfl, hown, hW⟩ := hrel
      by_cases hlt : k < Q + 1
      · have hmk := Lib.hid (show dig [p, v, (k : Int), 51] = markF p v k from rfl)
        have i5 : (k : Int) ≤ 2000 := by omega
        have hwz := hW.sz
        rcases hx : (markF p v k == m)
        · have HX := Lib.hid (blindsL_n hx)
          go_wp2_with (first | (go_at_call 76; refine (impl_digest _ 4 4 _ _ (rd_new4 _ _ _ _ _ _) (words4 (by omega) (by omega) (by omega) (by omega)) (by omega)).mono ?_; rintro e w1 ⟨rfl, hb1⟩; replace hown := (hown.alloc _).keep hb1; replace hW := (hW.alloc _).call hb1; rw [hmk.out]))
          go_roundw
          case rel => exact ⟨k + 1, n, A, c, by omega, by omega, by go_num, rfl, by rw [HX.out]; exact hown, hW⟩
          case measure => simp [intOf]; omega
        · have HX := Lib.hid (blindsL_y hx)
          go_wp2_with (first | (go_at_call 76; refine (impl_digest _ 4 4 _ _ (rd_new4 _ _ _ _ _ _) (words4 (by omega) (by omega) (by omega) (by omega)) (by omega)).mono ?_; rintro e w1 ⟨rfl, hb1⟩; replace hown := (hown.alloc _).keep hb1; replace hW := (hW.alloc _).call hb1; rw [hmk.out]) | (at_builtin; refine ap_int rfl rfl rfl (hown.alloc _) rfl (rd_new1 _ _ _) (by omega) (by have := hW.sz; simp; omega) ?_; intro A2 c2 w2 hown2 hg2 hat2; replace hW := (hW.alloc _).grown hg2 (fun k hk => (hown.blk k hk).1)))
          go_roundw
          case rel => exact ⟨k + 1, n + 1, A2, c2, by omega, by omega, by go_num, rfl, by rw [HX.out]; exact hown2, hW⟩
          case measure => simp [intOf]; omega
      · have he : k = Q + 1 := by omega
        subst he
        have hR := Lib.hid (show blindsR p v m Q = blindsL p v m (Q + 1) by unfold blindsR; rw [HB.out]; rfl)
        go_wp2
        go_ret2
        exact ⟨A, n, c, rfl, by rw [hR.out]; exact hown, hW⟩
end Go.Proofs.Ytglgaicbcackbaa
