/- Contracts of RandomOf, and the walk of its law.
   Conditions: none beyond the calls' own tests. -/
import Derived.Test.YtefphdmebdcchaaRan
namespace Go.Proofs.Ytefphdmebdcchaa
open Go.RowKit
set_option linter.unusedVariables false
def raB (p c : Int) : Bool := smallB p && inR c 0 (pw p 9 - 1)
def raR (p c : Int) : List Int := if raB p c then (digs p c 9).1 else []
theorem raR_len (p c : Int) : (raR p c).length ≤ 9 := by unfold raR; split <;> simp [digs_len]
set_option maxHeartbeats 1000000 in
theorem spec_RandomOf (p c : Int) (w : World) :
    Calls Try.prog 21 #[.int .i64 p, .int .i64 c] w fun e w' => ∃ A n c', e = .returned (.tuple #[.slice A n c', .bool (raB p c)]) ∧ OwnI w.heap.size w' A n c' (raR p c) ∧ Bl w w' := by
  rcases hB : raB p c
  case false =>
    have hR := Lib.hid (show raR p c = [] by simp [raR, hB])
    rcases hs : smallB p
    · go_enter Try.func21, Try.ntmps21
      go_wp2_with (first | (go_at_call 45; refine (spec_vwSmall _ _).mono ?_; rintro e w' ⟨rfl, rfl⟩))
      go_ret2
      exact ⟨none, 0, 0, rfl, by rw [hR.out]; exact OwnI.nil _ _, Bl.refl _⟩
    · have hb := smallB_bd hs
      have hq := pw_bd p (by omega) (by omega) 9 (by omega)
      have hi : inR c 0 (pw p 9 - 1) = false := by simpa [raB, hs] using hB
      go_enter Try.func21, Try.ntmps21
      go_wp2_with (first | (go_at_call 45; refine (spec_vwSmall _ _).mono ?_; rintro e w' ⟨rfl, rfl⟩) | (go_at_call 46; refine (spec_vwPower p 9 _ (by omega) (by omega) (by omega)).mono ?_; rintro e w' ⟨rfl, rfl⟩) | (go_at_call 43; refine (spec_l1In _ _ _ _).mono ?_; rintro e w' ⟨rfl, rfl⟩))
      go_ret2
      exact ⟨none, 0, 0, rfl, by rw [hR.out]; exact OwnI.nil _ _, Bl.refl _⟩
  · have hs : smallB p = true ∧ inR c 0 (pw p 9 - 1) = true := by simpa [raB] using hB
    obtain ⟨hs, hi⟩ := hs
    have hb := smallB_bd hs
    have hq := pw_bd p (by omega) (by omega) 9 (by omega)
    have hc := inR_iff.1 hi
    have hR := Lib.hid (show raR p c = (digs p c 9).1 by simp [raR, hB])
    clear hB
    go_enter Try.func21, Try.ntmps21
    go_wp2_with (first | (go_at_call 45; refine (spec_vwSmall _ _).mono ?_; rintro e w' ⟨rfl, rfl⟩) | (go_at_call 46; refine (spec_vwPower p 9 _ (by omega) (by omega) (by omega)).mono ?_; rintro e w' ⟨rfl, rfl⟩) | (go_at_call 43; refine (spec_l1In _ _ _ _).mono ?_; rintro e w' ⟨rfl, rfl⟩) | (go_at_call 47; refine (spec_vwDigits p c 9 _ (by omega) (by omega) (by omega) (by omega) (by omega)).mono ?_; rintro e w1 ⟨A1, c1, rfl, hown1, hb1⟩))
    go_ret2
    exact ⟨A1, 9, c1, rfl, by rw [hR.out]; exact hown1, hb1⟩
set_option maxHeartbeats 1000000 in
theorem impl_RandomOf (p c : Int) (w : World) :
    Calls Try.prog 22 #[.int .i64 p, .int .i64 c] w fun e w' => ∃ A n c', e = .returned (.tuple #[.slice A n c', .bool (raB p c)]) ∧ OwnI w.heap.size w' A n c' (raR p c) ∧ Bl w w' := by
  rcases hB : raB p c
  case false =>
    have hR := Lib.hid (show raR p c = [] by simp [raR, hB])
    rcases hs : smallB p
    · go_enter Try.func22, Try.ntmps22
      go_wp2_with (first | (go_at_call 48; refine (impl_isSmallField _ _).mono ?_; rintro e w' ⟨rfl, rfl⟩))
      go_ret2
      exact ⟨none, 0, 0, rfl, by rw [hR.out]; exact OwnI.nil _ _, Bl.refl _⟩
    · have hb := smallB_bd hs
      have hq := pw_bd p (by omega) (by omega) 9 (by omega)
      have hi : inR c 0 (pw p 9 - 1) = false := by simpa [raB, hs] using hB
      go_enter Try.func22, Try.ntmps22
      go_wp2_with (first | (go_at_call 48; refine (impl_isSmallField _ _).mono ?_; rintro e w' ⟨rfl, rfl⟩) | (go_at_call 50; refine (impl_powerOf p 9 _ (by omega) (by omega) (by omega)).mono ?_; rintro e w' ⟨rfl, rfl⟩) | (go_at_call 49; refine (impl_within _ _ _ _).mono ?_; rintro e w' ⟨rfl, rfl⟩))
      go_ret2
      exact ⟨none, 0, 0, rfl, by rw [hR.out]; exact OwnI.nil _ _, Bl.refl _⟩
  · have hs : smallB p = true ∧ inR c 0 (pw p 9 - 1) = true := by simpa [raB] using hB
    obtain ⟨hs, hi⟩ := hs
    have hb := smallB_bd hs
    have hq := pw_bd p (by omega) (by omega) 9 (by omega)
    have hc := inR_iff.1 hi
    have hR := Lib.hid (show raR p c = (digs p c 9).1 by simp [raR, hB])
    clear hB
    go_enter Try.func22, Try.ntmps22
    go_wp2_with (first | (go_at_call 48; refine (impl_isSmallField _ _).mono ?_; rintro e w' ⟨rfl, rfl⟩) | (go_at_call 50; refine (impl_powerOf p 9 _ (by omega) (by omega) (by omega)).mono ?_; rintro e w' ⟨rfl, rfl⟩) | (go_at_call 49; refine (impl_within _ _ _ _).mono ?_; rintro e w' ⟨rfl, rfl⟩) | (go_at_call 51; refine (impl_digitsOf p c 9 _ (by omega) (by omega) (by omega) (by omega) (by omega)).mono ?_; rintro e w1 ⟨A1, c1, rfl, hown1, hb1⟩))
    go_ret2
    exact ⟨A1, 9, c1, rfl, by rw [hR.out]; exact hown1, hb1⟩
set_option maxHeartbeats 2000000 in
theorem law_RandomOf (p c : Int) (w : World) :
    Calls Try.prog 5 #[.int .i64 p, .int .i64 c] w fun e w' => e = .returned (.bool true) ∧ Bl w w' := by
  go_enter Try.func5, Try.ntmps5
  go_wp2_with fail
  refine (spec_RandomOf p c _).mono ?_
  rintro e w1 ⟨A1, n1, c1, rfl, hs0, hb1⟩
  go_wp2_with fail
  refine (impl_RandomOf p c _).mono ?_
  rintro e w2 ⟨A2, n2, c2, rfl, ho2, hb2⟩
  have hs2 := hs0.rd.keep hb2
  go_wp2_with fail
  refine (laws_eqIntS _ _ _ _ _ _ _ _ _ ho2.rd hs2).mono ?_
  rintro e w3 ⟨rfl, hb3⟩
  have ho3 := ho2.keep hb3
  have hle := ho3.length
  have hlb := raR_len p c
  have hn2 : n2 ≤ 1000000000000000000 := by omega
  clear hlb hle
  go_wp2_with fail
  refine (laws_markIntS _ _ _ _ _ _ _ ho3 (by omega) (by omega)).mono ?_
  rintro e w4 ⟨rfl, hm4, hg4⟩
  have hs4 := (hs2.keep hb3).grown hg4 (own_apart hs0 ho3 (Nat.le_refl _))
  have hW4 := ((hb1.call hb2).call hb3).grown hg4 (fun k hk => Nat.le_trans hb1.sz (ho3.blk k hk).1)
  clear hg4
  go_wp2_with fail
  refine (laws_heldIntS _ _ _ _ _ hm4.rd (by omega) (by omega)).mono ?_
  rintro e w5 ⟨rfl, rfl⟩
  go_wp2_with fail
  refine (impl_RandomOf p c _).mono ?_
  rintro e w6 ⟨A6, n6, c6, rfl, ho6, hb6⟩
  go_wp2_with fail
  refine (laws_eqIntS _ _ _ _ _ _ _ _ _ ho6.rd (hs4.keep hb6)).mono ?_
  rintro e w7 ⟨rfl, hb7⟩
  go_wp2_with fail
  refine (laws_heldIntS _ _ _ _ _ ((hm4.rd.keep hb6).keep hb7) (by omega) (by omega)).mono ?_
  rintro e w8 ⟨rfl, rfl⟩
  go_wp2
  go_ret
  exact ⟨rfl, (hW4.call hb6).call hb7⟩
end Go.Proofs.Ytefphdmebdcchaa
