/- Contracts of RandomOf, and the walk of its law.
   Conditions: none beyond the calls' own tests. -/
import Derived.Test.YtglgaicbcackbaaRan
namespace Go.Proofs.Ytglgaicbcackbaa
open Go.RowKit
set_option linter.unusedVariables false
def raB (p c : Int) : Bool := smallB p && inR c 0 (pw p 9 - 1)
def raR (p c : Int) : List Int := if raB p c then (digs p c 9).1 else []
theorem raR_len (p c : Int) : (raR p c).length ≤ 9 := by unfold raR; split <;> simp [digs_len]
set_option maxHeartbeats 1000000 in
theorem spec_RandomOf (p c : Int) (w : World) :
    Calls Try.prog 45 #[.int .i64 p, .int .i64 c] w fun e w' => ∃ A n c', e = .returned (.tuple #[.slice A n c', .bool (raB p c)]) ∧ OwnI w.heap.size w' A n c' (raR p c) ∧ Bl w w' := by
  rcases hB : raB p c
  case false =>
    have hR := Lib.hid (show raR p c = [] by simp [raR, hB])
    rcases hs : smallB p
    · go_enter Try.func45, Try.ntmps45
      go_wp2_with (first | (go_at_call 114; refine (spec_vwSmall _ _).mono ?_; rintro e w' ⟨rfl, rfl⟩))
      go_ret2
      exact ⟨none, 0, 0, rfl, by rw [hR.out]; exact OwnI.nil _ _, Bl.refl _⟩
    · have hb := smallB_bd hs
      have hq := pw_bd p (by omega) (by omega) 9 (by omega)
      have hi : inR c 0 (pw p 9 - 1) = false := by simpa [raB, hs] using hB
      go_enter Try.func45, Try.ntmps45
      go_wp2_with (first | (go_at_call 114; refine (spec_vwSmall _ _).mono ?_; rintro e w' ⟨rfl, rfl⟩) | (go_at_call 115; refine (spec_vwPower p 9 _ (by omega) (by omega) (by omega)).mono ?_; rintro e w' ⟨rfl, rfl⟩) | (go_at_call 80; refine (spec_l1In _ _ _ _).mono ?_; rintro e w' ⟨rfl, rfl⟩))
      go_ret2
      exact ⟨none, 0, 0, rfl, by rw [hR.out]; exact OwnI.nil _ _, Bl.refl _⟩
  · have hs : smallB p = true ∧ inR c 0 (pw p 9 - 1) = true := by simpa [raB] using hB
    obtain ⟨hs, hi⟩ := hs
    have hb := smallB_bd hs
    have hq := pw_bd p (by omega) (by omega) 9 (by omega)
    have hc := inR_iff.1 hi
    have hR := Lib.hid (show raR p c = (digs p c 9).1 by simp [raR, hB])
    clear hB
    go_enter Try.func45, Try.ntmps45
    go_wp2_with (first | (go_at_call 114; refine (spec_vwSmall _ _).mono ?_; rintro e w' ⟨rfl, rfl⟩) | (go_at_call 115; refine (spec_vwPower p 9 _ (by omega) (by omega) (by omega)).mono ?_; rintro e w' ⟨rfl, rfl⟩) | (go_at_call 80; refine (spec_l1In _ _ _ _).mono ?_; rintro e w' ⟨rfl, rfl⟩) | (go_at_call 105; refine (spec_vwDigits p c 9 _ (by omega) (by omega) (by omega) (by omega) (by omega)).mono ?_; rintro e w1 ⟨A1, c1, rfl, hown1, hb1⟩))
    go_ret2
    exact ⟨A1, 9, c1, rfl, by rw [hR.out]; exact hown1, hb1⟩
set_option maxHeartbeats 1000000 in
theorem impl_RandomOf (p c : Int) (w : World) :
    Calls Try.prog 44 #[.int .i64 p, .int .i64 c] w fun e w' => ∃ A n c', e = .returned (.tuple #[.slice A n c', .bool (raB p c)]) ∧ OwnI w.heap.size w' A n c' (raR p c) ∧ Bl w w' := by
  rcases hB : raB p c
  case false =>
    have hR := Lib.hid (show raR p c = [] by simp [raR, hB])
    rcases hs : smallB p
    · go_enter Try.func44, Try.ntmps44
      go_wp2_with (first | (go_at_call 111; refine (impl_isSmallField _ _).mono ?_; rintro e w' ⟨rfl, rfl⟩))
      go_ret2
      exact ⟨none, 0, 0, rfl, by rw [hR.out]; exact OwnI.nil _ _, Bl.refl _⟩
    · have hb := smallB_bd hs
      have hq := pw_bd p (by omega) (by omega) 9 (by omega)
      have hi : inR c 0 (pw p 9 - 1) = false := by simpa [raB, hs] using hB
      go_enter Try.func44, Try.ntmps44
      go_wp2_with (first | (go_at_call 111; refine (impl_isSmallField _ _).mono ?_; rintro e w' ⟨rfl, rfl⟩) | (go_at_call 112; refine (impl_powerOf p 9 _ (by omega) (by omega) (by omega)).mono ?_; rintro e w' ⟨rfl, rfl⟩) | (go_at_call 75; refine (impl_within _ _ _ _).mono ?_; rintro e w' ⟨rfl, rfl⟩))
      go_ret2
      exact ⟨none, 0, 0, rfl, by rw [hR.out]; exact OwnI.nil _ _, Bl.refl _⟩
  · have hs : smallB p = true ∧ inR c 0 (pw p 9 - 1) = true := by simpa [raB] using hB
    obtain ⟨hs, hi⟩ := hs
    have hb := smallB_bd hs
    have hq := pw_bd p (by omega) (by omega) 9 (by omega)
    have hc := inR_iff.1 hi
    have hR := Lib.hid (show raR p c = (digs p c 9).1 by simp [raR, hB])
    clear hB
    go_enter Try.func44, Try.ntmps44
    go_wp2_with (first | (go_at_call 111; refine (impl_isSmallField _ _).mono ?_; rintro e w' ⟨rfl, rfl⟩) | (go_at_call 112; refine (impl_powerOf p 9 _ (by omega) (by omega) (by omega)).mono ?_; rintro e w' ⟨rfl, rfl⟩) | (go_at_call 75; refine (impl_within _ _ _ _).mono ?_; rintro e w' ⟨rfl, rfl⟩) | (go_at_call 113; refine (impl_digitsOf p c 9 _ (by omega) (by omega) (by omega) (by omega) (by omega)).mono ?_; rintro e w1 ⟨A1, c1, rfl, hown1, hb1⟩))
    go_ret2
    exact ⟨A1, 9, c1, rfl, by rw [hR.out]; exact hown1, hb1⟩
end Go.Proofs.Ytglgaicbcackbaa
