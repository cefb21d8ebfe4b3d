/- Contracts of ConsistentInputs, and the walk of its law.
   Conditions: none beyond the calls' own tests. -/
import Derived.Test.YtglgaicbcackbaaFld
import Derived.Test.YtglgaicbcackbaaLst
import Derived.Test.YtglgaicbcackbaaMrk
namespace Go.Proofs.Ytglgaicbcackbaa
open Go.RowKit
set_option linter.unusedVariables false
/-- The inputs below k that give an output. -/
def consL (p i o : Int) : Nat → List Int
  | 0 => []
  | k + 1 => consL p i o k ++ (if i * (k : Int) % p = o then [(k : Int)] else [])
theorem consL_y {p i o : Int} {k : Nat} (h : (i * (k : Int) % p == o) = true) : consL p i o (k + 1) = consL p i o k ++ [(k : Int)] := by
  have : i * (k : Int) % p = o := by simpa using h
  simp [consL, this]
theorem consL_n {p i o : Int} {k : Nat} (h : (i * (k : Int) % p == o) = false) : consL p i o (k + 1) = consL p i o k := by
  have : ¬ i * (k : Int) % p = o := by simpa using h
  simp [consL, this]
theorem consL_len (p i o : Int) (k : Nat) : (consL p i o k).length ≤ k := by
  induction k with
  | zero => simp [consL]
  | succ k ih => unfold consL; split <;> simp <;> omega
def consB (p party i o : Int) : Bool := primeB p && inR i 0 (p - 1) && inR o 0 (p - 1) && inR party 0 1
def consR (p party i o : Int) : List Int := if consB p party i o then consL p i o p.toNat else []
theorem consR_len (p party i o : Int) : (consR p party i o).length ≤ 251 := by
  unfold consR
  split
  · rename_i h
    have hp : primeB p = true := by simp only [consB, Bool.and_eq_true] at h; exact h.1.1.1
    have := primeB_bd hp
    have := consL_len p i o p.toNat
    omega
  · simp
theorem mul_bd2 (a b : Int) (m n : Int) (h1 : 0 ≤ a) (h2 : a ≤ m) (h3 : 0 ≤ b) (h4 : b ≤ n) : 0 ≤ a * b ∧ a * b ≤ m * n :=
  ⟨Int.mul_nonneg h1 h3, Int.mul_le_mul h2 h4 h3 (by omega)⟩
set_option maxHeartbeats 2000000 in
theorem spec_ConsistentInputs (p party i o : Int) (w : World) :
    Calls Try.prog 51 #[.int .i64 p, .int .i64 party, .int .i64 i, .int .i64 o] w fun e w' => ∃ A n c, e = .returned (.tuple #[.slice A n c, .bool (consB p party i o)]) ∧ OwnI w.heap.size w' A n c (consR p party i o) ∧ Bl w w' := by
  rcases hB : consB p party i o
  case false =>
    have hall := Lib.hid (show (primeB p && allR [i, o] 0 (p - 1)) = (primeB p && inR i 0 (p - 1) && inR o 0 (p - 1)) by simp [allR, Bool.and_assoc])
    rcases hq : (primeB p && inR i 0 (p - 1) && inR o 0 (p - 1))
    · go_enter Try.func51, Try.ntmps51
      go_wp2_with (first | (go_at_call 122; refine (spec_fpIn _ _ _ [i, o] p _ (rd_new2 _ _ _ _)).mono ?_; rintro e w' ⟨rfl, rfl⟩; rw [hall.out]) | (go_at_call 80; refine (spec_l1In _ _ _ _).mono ?_; rintro e w' ⟨rfl, rfl⟩))
      go_ret2
      exact ⟨none, 0, 0, rfl, by simpa [consR, hB] using OwnI.nil w.heap.size _, (Bl.refl w).alloc _⟩
    · have h4 : inR party 0 1 = false := by simpa [consB, hq] using hB
      go_enter Try.func51, Try.ntmps51
      go_wp2_with (first | (go_at_call 122; refine (spec_fpIn _ _ _ [i, o] p _ (rd_new2 _ _ _ _)).mono ?_; rintro e w' ⟨rfl, rfl⟩; rw [hall.out]) | (go_at_call 80; refine (spec_l1In _ _ _ _).mono ?_; rintro e w' ⟨rfl, rfl⟩))
      go_ret2
      exact ⟨none, 0, 0, rfl, by simpa [consR, hB] using OwnI.nil w.heap.size _, (Bl.refl w).alloc _⟩
  · have hb : primeB p = true ∧ inR i 0 (p - 1) = true ∧ inR o 0 (p - 1) = true ∧ inR party 0 1 = true := by simpa [consB, and_assoc] using hB
    obtain ⟨hp, h2, h3, h4⟩ := hb
    have i1 := primeB_bd hp
    have i2 := inR_iff.1 h2
    have i3 := inR_iff.1 h3
    have hall := Lib.hid (show (primeB p && allR [i, o] 0 (p - 1)) = true by simp [allR, hp, h2, h3])
    have HB := Lib.hid hB
    clear hB
    have hown0 := OwnI.nil w.heap.size (w.alloc (.cells #[.int .i64 i, .int .i64 o] 3))
    have hW0 := (Bl.refl w).alloc (.cells #[.int .i64 i, .int .i64 o] 3)
    have hp0 : (p == 0) = false := by simp; omega
    go_enter Try.func51, Try.ntmps51
    go_wp2_with (first | (go_at_call 122; refine (spec_fpIn _ _ _ [i, o] p _ (rd_new2 _ _ _ _)).mono ?_; rintro e w' ⟨rfl, rfl⟩; rw [hall.out]) | (go_at_call 80; refine (spec_l1In _ _ _ _).mono ?_; rintro e w' ⟨rfl, rfl⟩))
    obtain ⟨N, rfl⟩ : ∃ N : Nat, p = N := ⟨p.toNat, by omega⟩
    go_loopw [10, 11] (fun q i' wr => ∃ k n A c, k ≤ N ∧ n ≤ k ∧ i' = .int .i64 (k : Nat) ∧ q = .slice A n c ∧ OwnI w.heap.size wr A n c (consL N i o k) ∧ Bl w wr) (fun _ i' _ => N - (intOf i').toNat)
    case atStart => exact ⟨0, 0, _, _, by omega, by omega, rfl, rfl, hown0, hW0⟩
    case round =>
      obtain ⟨k, n, A, c, hk, hnk, rfl, rfl, hown, hW⟩ := hrel
      clear hown0 hW0
      by_cases hlt : k < N
      · obtain ⟨m0, m1⟩ := mul_bd2 i k 251 251 (by omega) (by omega) (by omega) (by omega)
        rcases hx : (i * (k : Int) % N == o)
        · have HX := Lib.hid (consL_n hx)
          go_wp2
          go_roundw
          case rel => exact ⟨k + 1, n, A, c, by omega, by omega, by go_num, rfl, by rw [HX.out]; exact hown, hW⟩
          case measure => simp [intOf]; omega
        · have HX := Lib.hid (consL_y hx)
          go_wp2_with (first | (at_builtin; refine ap_int rfl rfl rfl (hown.alloc _) rfl (rd_new1 _ _ _) (by omega) (by have := hW.sz; simp; omega) ?_; intro A2 c2 w2 hown2 hg2 hat2; replace hW := (hW.alloc _).grown hg2 (fun k hk => (hown.blk k hk).1)))
          go_roundw
          case rel => exact ⟨k + 1, n + 1, A2, c2, by omega, by omega, by go_num, rfl, by rw [HX.out]; exact hown2, hW⟩
          case measure => simp [intOf]; omega
      · have he : k = N := by omega
        subst he
        have hR := Lib.hid (show consR k party i o = consL k i o k by unfold consR; rw [HB.out]; rfl)
        go_wp2
        go_ret2
        exact ⟨A, n, c, rfl, by rw [hR.out]; exact hown, hW⟩
set_option maxHeartbeats 2000000 in
theorem impl_ConsistentInputs (p party i o : Int) (w : World) :
    Calls Try.prog 50 #[.int .i64 p, .int .i64 party, .int .i64 i, .int .i64 o] w fun e w' => ∃ A n c, e = .returned (.tuple #[.slice A n c, .bool (consB p party i o)]) ∧ OwnI w.heap.size w' A n c (consR p party i o) ∧ Bl w w' := by
  rcases hB : consB p party i o
  case false =>
    rcases e1 : elemB p i <;> rcases e2 : elemB p o <;> rcases h4 : inR party 0 1
    case true.true.true => exfalso; simp_all [consB, elemB]
    all_goals
      go_enter Try.func50, Try.ntmps50
      go_wp2_with (first | (go_at_call 121; refine (impl_isElement _ _ _).mono ?_; rintro e w' ⟨rfl, rfl⟩) | (go_at_call 72; refine (impl_isBit _ _).mono ?_; rintro e w' ⟨rfl, rfl⟩))
      go_ret2
      exact ⟨none, 0, 0, rfl, by simpa [consR, hB] using OwnI.nil w.heap.size _, Bl.refl w⟩
  · have hb : primeB p = true ∧ inR i 0 (p - 1) = true ∧ inR o 0 (p - 1) = true ∧ inR party 0 1 = true := by simpa [consB, and_assoc] using hB
    obtain ⟨hp, h2, h3, h4⟩ := hb
    have i1 := primeB_bd hp
    have i2 := inR_iff.1 h2
    have i3 := inR_iff.1 h3
    have e1 : elemB p i = true := by simp [elemB, hp, h2]
    have e2 : elemB p o = true := by simp [elemB, hp, h3]
    have HB := Lib.hid hB
    clear hB
    have hown0 := own_made w
    have hW0 := (Bl.refl w).alloc (.cells #[] 3)
    have hp0 : (p == 0) = false := by simp; omega
    go_enter Try.func50, Try.ntmps50
    go_wp2_with (first | (go_at_call 121; refine (impl_isElement _ _ _).mono ?_; rintro e w' ⟨rfl, rfl⟩) | (go_at_call 72; refine (impl_isBit _ _).mono ?_; rintro e w' ⟨rfl, rfl⟩))
    obtain ⟨N, rfl⟩ : ∃ N : Nat, p = N := ⟨p.toNat, by omega⟩
    go_loopw [10, 29] (fun q i' wr => ∃ k n A c, k ≤ N ∧ n ≤ k ∧ i' = .int .i64 (k : Nat) ∧ q = .slice A n c ∧ OwnI w.heap.size wr A n c (consL N i o k) ∧ Bl w wr) (fun _ i' _ => N - (intOf i').toNat)
    case atStart => exact ⟨0, 0, _, _, by omega, by omega, rfl, rfl, hown0, hW0⟩
    case round =>
      obtain ⟨k, n, A, c, hk, hnk, rfl, rfl, hown, hW⟩ := hrel
      clear hown0 hW0
      by_cases hlt : k < N
      · obtain ⟨m0, m1⟩ := mul_bd2 i k 251 251 (by omega) (by omega) (by omega) (by omega)
        rcases hx : (i * (k : Int) % N == o)
        · have HX := Lib.hid (consL_n hx)
          go_wp2
          go_roundw
          case rel => exact ⟨k + 1, n, A, c, by omega, by omega, by go_num, rfl, by rw [HX.out]; exact hown, hW⟩
          case measure => simp [intOf]; omega
        · have HX := Lib.hid (consL_y hx)
          go_wp2_with (first | (at_builtin; refine ap_int rfl rfl rfl (hown.alloc _) rfl (rd_new1 _ _ _) (by omega) (by have := hW.sz; simp; omega) ?_; intro A2 c2 w2 hown2 hg2 hat2; replace hW := (hW.alloc _).grown hg2 (fun k hk => (hown.blk k hk).1)))
          go_roundw
          case rel => exact ⟨k + 1, n + 1, A2, c2, by omega, by omega, by go_num, rfl, by rw [HX.out]; exact hown2, hW⟩
          case measure => simp [intOf]; omega
      · have he : k = N := by omega
        subst he
        have hR := Lib.hid (show consR k party i o = consL k i o k by unfold consR; rw [HB.out]; rfl)
        go_wp2
        go_ret2
        exact ⟨A, n, c, rfl, by rw [hR.out]; exact hown, hW⟩
end Go.Proofs.Ytglgaicbcackbaa
