/- The walk of the law on codes of views.
   Conditions: none. -/
import Derived.Test.YtefphdmebdcchaaVco
import Derived.Test.YtefphdmebdcchaaToi
namespace Go.Proofs.Ytefphdmebdcchaa
open Go.RowKit
set_option linter.unusedVariables false
set_option maxHeartbeats 1000000 in
theorem law_ViewCode (p : Int) (A : Option Addr) (n c : Nat) (l : List Int) (w : World) (h : RdI w A n c l) :
    Calls Try.prog 6 #[.int .i64 p, .slice A n c] w fun e w' => e = .returned (.bool true) ∧ Bl w w' := by
  obtain ⟨hle1, hle2⟩ := h.le
  by_cases hn : (1048576 : Int) < n
  · go_enter Try.func6, Try.ntmps6
    go_wp2
    go_ret
    exact ⟨rfl, Bl.refl _⟩
  · go_enter Try.func6, Try.ntmps6
    go_wp2_with fail
    refine (laws_toIntS A n c l _ h (by omega)).mono ?_
    rintro e w1 ⟨A1, c1, rfl, h1, hb1⟩
    go_wp2_with fail
    refine (spec_ViewCode A1 n c1 l p _ h1.rd).mono ?_
    rintro e w2 ⟨rfl, hb2⟩
    have hW2 := hb1.call hb2
    go_wp2_with fail
    refine (laws_toIntS A n c l _ (h.keep hW2) (by omega)).mono ?_
    rintro e w3 ⟨A3, c3, rfl, h3, hb3⟩
    have hW3 := hW2.call hb3
    go_wp2_with fail
    refine (impl_ViewCode A3 n c3 l p _ h3.rd).mono ?_
    rintro e w4 ⟨rfl, hb4⟩
    have hW4 := hW3.call hb4
    go_wp2_with fail
    refine (laws_toIntS A n c l _ (h.keep hW4) (by omega)).mono ?_
    rintro e w5 ⟨A5, c5, rfl, h5, hb5⟩
    go_wp2_with fail
    refine (laws_eqIntS _ _ _ _ _ _ _ _ _ ((h3.keep hb4).keep hb5).rd h5.rd).mono ?_
    rintro e w6 ⟨rfl, hb6⟩
    go_wp2
    go_ret
    exact ⟨rfl, (hW4.call hb5).call hb6⟩
end Go.Proofs.Ytefphdmebdcchaa
