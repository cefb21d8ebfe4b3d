/- Contracts of FirstClash, and the walk of its law.
   Conditions: none beyond the calls' own tests. -/
import Derived.Test.YtglgaicbcackbaaCom
import Derived.Test.YtglgaicbcackbaaMrk
namespace Go.Proofs.Ytglgaicbcackbaa
open Go.RowKit
set_option linter.unusedVariables false
/-- The marks of a value for the blinds below k. -/
def clashL (p b : Int) (k : Nat) : List Int := (List.range k).map fun y => markF p b (y : Nat)
theorem clashL_succ (p b : Int) (k : Nat) : clashL p b (k + 1) = clashL p b k ++ [markF p b k] := by simp [clashL, List.range_succ]
theorem clashL_len (p b : Int) (k : Nat) : (clashL p b k).length = k := by simp [clashL]
/-- The first place of a number. -/
def place (l : List Int) (v : Int) : Option Nat := l.findIdx? (· == v)
theorem place_some {l : List Int} {v : Int} {y : Nat} (hy : l[y]? = some v) (hno : ∀ z, z < y → l[z]? ≠ some v) : place l v = some y := by
  unfold place
  obtain ⟨hlt, hv⟩ := List.getElem?_eq_some_iff.1 hy
  rw [List.findIdx?_eq_some_iff_getElem]
  refine ⟨hlt, by simp [hv], fun j hj => ?_⟩
  have := hno j hj
  rw [List.getElem?_eq_getElem (by omega)] at this
  simpa using this
theorem place_none {l : List Int} {v : Int} (hno : ∀ z, z < l.length → l[z]? ≠ some v) : place l v = none := by
  unfold place
  rw [List.findIdx?_eq_none_iff]
  intro x hx
  obtain ⟨z, hz, rfl⟩ := List.mem_iff_getElem.1 hx
  have := hno z hz
  rw [List.getElem?_eq_getElem hz] at this
  simpa using this
/-- The search for a clash from x on, f rounds. -/
def clash (l : List Int) (p a : Int) : Nat → Nat → Int × Int × Bool
  | 0, _ => (0, 0, false)
  | f + 1, x => match place l (markF p a x) with
    | some y => (x, y, true)
    | none => clash l p a f (x + 1)
theorem clash_some {l : List Int} {p a : Int} {f x y : Nat} (h : place l (markF p a x) = some y) : clash l p a (f + 1) x = ((x : Int), (y : Int), true) := by simp [clash, h]
theorem clash_none {l : List Int} {p a : Int} {f x : Nat} (h : place l (markF p a x) = none) : clash l p a (f + 1) x = clash l p a f (x + 1) := by simp [clash, h]
def fcB (p a b q : Int) : Bool := inR p 0 1 && inR a 0 65535 && inR b 0 65535 && !(a == b) && inR q 0 400
def fcR (p a b q : Int) : Int × Int × Bool := if fcB p a b q then clash (clashL p b (q.toNat + 1)) p a (q.toNat + 1) 0 else (0, 0, false)
theorem ret3 {x y : Int} {o : Bool} {t : Int × Int × Bool} (h : t = (x, y, o)) : Ending.returned (.tuple #[.int .i64 x, .int .i64 y, .bool o]) = .returned (.tuple #[.int .i64 t.1, .int .i64 t.2.1, .bool t.2.2]) := by rw [h]
set_option maxHeartbeats 4000000 in
theorem spec_FirstClash (p a b q : Int) (w : World) :
    Calls Try.prog 15 #[.int .i64 p, .int .i64 a, .int .i64 b, .int .i64 q] w fun e w' => e = .returned (.tuple #[.int .i64 (fcR p a b q).1, .int .i64 (fcR p a b q).2.1, .bool (fcR p a b q).2.2]) ∧ Bl w w' := by
  rcases hB : fcB p a b q
  · have hR := Lib.hid (show fcR p a b q = (0, 0, false) by simp [fcR, hB])
    go_enter Try.func15, Try.ntmps15
    go_wp2_with (first | (go_at_call 77; refine (spec_cmParty _ _).mono ?_; rintro e w' ⟨rfl, rfl⟩) | (go_at_call 78; refine (spec_cmValue _ _).mono ?_; rintro e w' ⟨rfl, rfl⟩) | (go_at_call 80; refine (spec_l1In _ _ _ _).mono ?_; rintro e w' ⟨rfl, rfl⟩))
    all_goals first
      | (exfalso; simp_all [fcB]; done)
      | (go_ret3; exact ⟨ret3 hR.out, Bl.refl w⟩)
  · have hb : inR p 0 1 = true ∧ inR a 0 65535 = true ∧ inR b 0 65535 = true ∧ (a == b) = false ∧ inR q 0 400 = true := by simpa [fcB, and_assoc] using hB
    obtain ⟨h1, h2, h3, h5, h4⟩ := hb
    have i1 := inR_iff.1 h1
    have i2 := inR_iff.1 h2
    have i3 := inR_iff.1 h3
    have i4 := inR_iff.1 h4
    have HB := Lib.hid hB
    clear hB
    have hown0 := OwnI.nil w.heap.size w
    have hW0 := Bl.refl w
    obtain ⟨N, rfl⟩ : ∃ N : Nat, q = N := ⟨q.toNat, by omega⟩
    have hR := Lib.hid (show fcR p a b N = clash (clashL p b (N + 1)) p a (N + 1) 0 by unfold fcR; rw [HB.out]; rfl)
    go_enter Try.func15, Try.ntmps15
    go_wp2_with (first | (go_at_call 77; refine (spec_cmParty _ _).mono ?_; rintro e w' ⟨rfl, rfl⟩) | (go_at_call 78; refine (spec_cmValue _ _).mono ?_; rintro e w' ⟨rfl, rfl⟩) | (go_at_call 80; refine (spec_l1In _ _ _ _).mono ?_; rintro e w' ⟨rfl, rfl⟩))
    go_loopw [11, 12] (fun o i wr => ∃ k A c, k ≤ N + 1 ∧ i = .int .i64 (k : Nat) ∧ o = .slice A k c ∧ OwnI w.heap.size wr A k c (clashL p b k) ∧ Bl w wr) (fun _ i _ => N + 1 - (intOf i).toNat)
    case atStart => exact ⟨0, _, _, by omega, rfl, rfl, hown0, hW0⟩
    case round =>
      obtain ⟨k, A, c, hk, rfl, rfl, hown, hW⟩ := hrel
      clear hown0 hW0
      by_cases hlt : k < N + 1
      · have i5 : (k : Int) ≤ 400 := by omega
        have hcs := Lib.hid (clashL_succ p b k)
        go_wp2_with (first | (go_at_call 68; refine (spec_cmMark _ _ _ _ (by omega) (by omega) (by omega)).mono ?_; rintro e w1 ⟨rfl, hb1⟩; replace hown := hown.keep hb1; replace hW := hW.call hb1) | (at_builtin; refine ap_int rfl rfl rfl (hown.alloc _) rfl (rd_new1 _ _ _) (by omega) (by have := hW.sz; simp; omega) ?_; intro A2 c2 w2 hown2 hg2 hat2; replace hW := (hW.alloc _).grown hg2 (fun k hk => (hown.blk k hk).1)))
        go_roundw
        case rel => exact ⟨k + 1, A2, c2, by omega, by go_num, rfl, by rw [hcs.out]; exact hown2, hW⟩
        case measure => simp [intOf]; omega
      · have he : k = N + 1 := by omega
        subst he
        have hrd0 := hown.rd
        have hW0 := hW
        clear hown hW hlt
        generalize clashL p b (N + 1) = L at *
        have hLl := Lib.hid hrd0.length
        have hle := hrd0.le
        go_wp2
        go_loopw [13] (fun i wr => ∃ x, x ≤ N + 1 ∧ i = .int .i64 (x : Nat) ∧ Hid (clash L p a (N + 1) 0 = clash L p a (N + 1 - x) x) ∧ RdI wr A (N + 1) c L ∧ Bl w wr) (fun i _ => N + 1 - (intOf i).toNat)
        case atStart => exact ⟨0, by omega, rfl, Lib.hid rfl, hrd0, hW0⟩
        case round =>
          obtain ⟨x, hx, rfl, hcl, hrd, hW⟩ := hrel
          clear hrd0 hW0
          by_cases hxl : x < N + 1
          · have i6 : (x : Int) ≤ 400 := by omega
            generalize hM : markF p a x = M
            have HM := Lib.hid hM
            clear hM
            go_wp2_with (first | (go_at_call 68; refine (spec_cmMark _ _ _ _ (by omega) (by omega) (by omega)).mono ?_; rintro e w1 ⟨rfl, hb1⟩; replace hrd := hrd.keep hb1; replace hW := hW.call hb1; rw [HM.out]))
            obtain ⟨wo, hwo⟩ : ∃ wo : World, wo = w1 := ⟨_, rfl⟩
            subst hwo
            go_loop [63] (fun i => ∃ y, y ≤ N + 1 ∧ i = .int .i64 (y : Nat) ∧ Hid (∀ z, z < y → L[z]? ≠ some M)) (fun i => N + 1 - (intOf i).toNat)
            case atStart => exact ⟨0, by omega, rfl, Lib.hid (fun z hz => by omega)⟩
            case round =>
              obtain ⟨y, hy, rfl, hno⟩ := hrel
              by_cases hyl : y < N + 1
              · obtain ⟨ad, v, rfl, hadb, hv, hcell⟩ := hrd.at_ hyl
                have HV := Lib.hid hv
                clear hv
                rcases hvm : (v == M)
                · have hst : Hid (∀ z, z < y + 1 → L[z]? ≠ some M) := by
                    intro z hz
                    rcases Nat.lt_or_ge z y with h | h
                    · exact hno.out z h
                    · have : z = y := by omega
                      subst this
                      rw [HV.out]; simpa using hvm
                  go_wp2
                  go_round
                  case rel => exact ⟨y + 1, by omega, by go_num, hst⟩
                  case measure => simp [intOf]; omega
                · have hpl := Lib.hid (place_some (l := L) (v := M) (y := y) (by rw [HV.out]; simpa using hvm) hno.out)
                  have hfin := Lib.hid (show fcR p a b N = ((x : Int), (y : Int), true) by
                    rw [hR.out, hcl.out, show N + 1 - x = (N - x) + 1 by omega]; exact clash_some (by rw [HM.out]; exact hpl.out))
                  go_wp2
                  go_ret3
                  exact ⟨ret3 hfin.out, hW⟩
              · have hpn : Hid (place L M = none) := place_none (fun z hz => hno.out z (by rw [hLl.out] at hz; omega))
                have hnx : Hid (clash L p a (N + 1) 0 = clash L p a (N + 1 - (x + 1)) (x + 1)) := by
                  have e2 : clash L p a ((N + 1 - (x + 1)) + 1) x = clash L p a (N + 1 - (x + 1)) (x + 1) := clash_none (by rw [HM.out]; exact hpn.out)
                  rw [show (N + 1 - (x + 1)) + 1 = N + 1 - x by omega] at e2
                  exact hcl.out.trans e2
                go_wp2
                go_roundw
                case rel => first | exact ⟨_, _, _, _, ⟨x + 1, by omega, by go_num, hnx⟩, rfl, rfl, rfl, rfl⟩ | exact ⟨_, _, _, _, _, _, _, _, ⟨x + 1, by omega, by go_num, hnx⟩, rfl, rfl, rfl, rfl, rfl, rfl, rfl, rfl⟩
                case measure => simp [intOf]; omega
          · have hfin := Lib.hid (show fcR p a b N = (0, 0, false) by
              rw [hR.out, hcl.out, show N + 1 - x = 0 by omega]; rfl)
            go_wp2
            go_ret3
            exact ⟨ret3 hfin.out, hW⟩
set_option maxHeartbeats 4000000 in
theorem impl_FirstClash (p a b q : Int) (w : World) :
    Calls Try.prog 14 #[.int .i64 p, .int .i64 a, .int .i64 b, .int .i64 q] w fun e w' => e = .returned (.tuple #[.int .i64 (fcR p a b q).1, .int .i64 (fcR p a b q).2.1, .bool (fcR p a b q).2.2]) ∧ Bl w w' := by
  rcases hB : fcB p a b q
  · have hR := Lib.hid (show fcR p a b q = (0, 0, false) by simp [fcR, hB])
    go_enter Try.func14, Try.ntmps14
    go_wp2_with (first | (go_at_call 72; refine (impl_isBit _ _).mono ?_; rintro e w' ⟨rfl, rfl⟩) | (go_at_call 73; refine (impl_isValue _ _).mono ?_; rintro e w' ⟨rfl, rfl⟩) | (go_at_call 75; refine (impl_within _ _ _ _).mono ?_; rintro e w' ⟨rfl, rfl⟩))
    all_goals first
      | (exfalso; simp_all [fcB]; done)
      | (go_ret3; exact ⟨ret3 hR.out, Bl.refl w⟩)
  · have hb : inR p 0 1 = true ∧ inR a 0 65535 = true ∧ inR b 0 65535 = true ∧ (a == b) = false ∧ inR q 0 400 = true := by simpa [fcB, and_assoc] using hB
    obtain ⟨h1, h2, h3, h5, h4⟩ := hb
    have i1 := inR_iff.1 h1
    have i2 := inR_iff.1 h2
    have i3 := inR_iff.1 h3
    have i4 := inR_iff.1 h4
    have HB := Lib.hid hB
    clear hB
    have hown0 := own_made w
    have hW0 := (Bl.refl w).alloc (.cells #[] 3)
    obtain ⟨N, rfl⟩ : ∃ N : Nat, q = N := ⟨q.toNat, by omega⟩
    have hR := Lib.hid (show fcR p a b N = clash (clashL p b (N + 1)) p a (N + 1) 0 by unfold fcR; rw [HB.out]; rfl)
    go_enter Try.func14, Try.ntmps14
    go_wp2_with (first | (go_at_call 72; refine (impl_isBit _ _).mono ?_; rintro e w' ⟨rfl, rfl⟩) | (go_at_call 73; refine (impl_isValue _ _).mono ?_; rintro e w' ⟨rfl, rfl⟩) | (go_at_call 75; refine (impl_within _ _ _ _).mono ?_; rintro e w' ⟨rfl, rfl⟩))
    go_loopw [11, 43] (fun o i wr => ∃ k A c, k ≤ N + 1 ∧ i = .int .i64 (k : Nat) ∧ o = .slice A k c ∧ OwnI w.heap.size wr A k c (clashL p b k) ∧ Bl w wr) (fun _ i _ => N + 1 - (intOf i).toNat)
    case atStart => exact ⟨0, _, _, by omega, rfl, rfl, hown0, hW0⟩
    case round =>
      obtain ⟨k, A, c, hk, rfl, rfl, hown, hW⟩ := hrel
      clear hown0 hW0
      by_cases hlt : k < N + 1
      · have i5 : (k : Int) ≤ 400 := by omega
        have hcs := Lib.hid (clashL_succ p b k)
        go_wp2_with (first | (go_at_call 82; refine (impl_mark _ _ _ _ (by omega) (by omega) (by omega)).mono ?_; rintro e w1 ⟨rfl, hb1⟩; replace hown := hown.keep hb1; replace hW := hW.call hb1) | (at_builtin; refine ap_int rfl rfl rfl (hown.alloc _) rfl (rd_new1 _ _ _) (by omega) (by have := hW.sz; simp; omega) ?_; intro A2 c2 w2 hown2 hg2 hat2; replace hW := (hW.alloc _).grown hg2 (fun k hk => (hown.blk k hk).1)))
        go_roundw
        case rel => exact ⟨k + 1, A2, c2, by omega, by go_num, rfl, by rw [hcs.out]; exact hown2, hW⟩
        case measure => simp [intOf]; omega
      · have he : k = N + 1 := by omega
        subst he
        have hrd0 := hown.rd
        have hW0 := hW
        clear hown hW hlt
        generalize clashL p b (N + 1) = L at *
        have hLl := Lib.hid hrd0.length
        have hle := hrd0.le
        go_wp2
        go_loopw [56] (fun i wr => ∃ x, x ≤ N + 1 ∧ i = .int .i64 (x : Nat) ∧ Hid (clash L p a (N + 1) 0 = clash L p a (N + 1 - x) x) ∧ RdI wr A (N + 1) c L ∧ Bl w wr) (fun i _ => N + 1 - (intOf i).toNat)
        case atStart => exact ⟨0, by omega, rfl, Lib.hid rfl, hrd0, hW0⟩
        case round =>
          obtain ⟨x, hx, rfl, hcl, hrd, hW⟩ := hrel
          clear hrd0 hW0
          by_cases hxl : x < N + 1
          · have i6 : (x : Int) ≤ 400 := by omega
            generalize hM : markF p a x = M
            have HM := Lib.hid hM
            clear hM
            go_wp2_with (first | (go_at_call 82; refine (impl_mark _ _ _ _ (by omega) (by omega) (by omega)).mono ?_; rintro e w1 ⟨rfl, hb1⟩; replace hrd := hrd.keep hb1; replace hW := hW.call hb1; rw [HM.out]))
            obtain ⟨wo, hwo⟩ : ∃ wo : World, wo = w1 := ⟨_, rfl⟩
            subst hwo
            go_loop [65] (fun i => ∃ y, y ≤ N + 1 ∧ i = .int .i64 (y : Nat) ∧ Hid (∀ z, z < y → L[z]? ≠ some M)) (fun i => N + 1 - (intOf i).toNat)
            case atStart => exact ⟨0, by omega, rfl, Lib.hid (fun z hz => by omega)⟩
            case round =>
              obtain ⟨y, hy, rfl, hno⟩ := hrel
              by_cases hyl : y < N + 1
              · obtain ⟨ad, v, rfl, hadb, hv, hcell⟩ := hrd.at_ hyl
                have HV := Lib.hid hv
                clear hv
                rcases hvm : (v == M)
                · have hst : Hid (∀ z, z < y + 1 → L[z]? ≠ some M) := by
                    intro z hz
                    rcases Nat.lt_or_ge z y with h | h
                    · exact hno.out z h
                    · have : z = y := by omega
                      subst this
                      rw [HV.out]; simpa using hvm
                  go_wp2
                  go_round
                  case rel => exact ⟨y + 1, by omega, by go_num, hst⟩
                  case measure => simp [intOf]; omega
                · have hpl := Lib.hid (place_some (l := L) (v := M) (y := y) (by rw [HV.out]; simpa using hvm) hno.out)
                  have hfin := Lib.hid (show fcR p a b N = ((x : Int), (y : Int), true) by
                    rw [hR.out, hcl.out, show N + 1 - x = (N - x) + 1 by omega]; exact clash_some (by rw [HM.out]; exact hpl.out))
                  go_wp2
                  go_ret3
                  exact ⟨ret3 hfin.out, hW⟩
              · have hpn : Hid (place L M = none) := place_none (fun z hz => hno.out z (by rw [hLl.out] at hz; omega))
                have hnx : Hid (clash L p a (N + 1) 0 = clash L p a (N + 1 - (x + 1)) (x + 1)) := by
                  have e2 : clash L p a ((N + 1 - (x + 1)) + 1) x = clash L p a (N + 1 - (x + 1)) (x + 1) := clash_none (by rw [HM.out]; exact hpn.out)
                  rw [show (N + 1 - (x + 1)) + 1 = N + 1 - x by omega] at e2
                  exact hcl.out.trans e2
                go_wp2
                go_roundw
                case rel => first | exact ⟨_, _, _, _, ⟨x + 1, by omega, by go_num, hnx⟩, rfl, rfl, rfl, rfl⟩ | exact ⟨_, _, _, _, _, _, _, _, ⟨x + 1, by omega, by go_num, hnx⟩, rfl, rfl, rfl, rfl, rfl, rfl, rfl, rfl⟩
                case measure => simp [intOf]; omega
          · have hfin := Lib.hid (show fcR p a b N = (0, 0, false) by
              rw [hR.out, hcl.out, show N + 1 - x = 0 by omega]; rfl)
            go_wp2
            go_ret3
            exact ⟨ret3 hfin.out, hW⟩
end Go.Proofs.Ytglgaicbcackbaa
