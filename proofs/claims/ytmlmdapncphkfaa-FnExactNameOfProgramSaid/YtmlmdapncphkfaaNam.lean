/- The walk of the law on the programs' names: each of the twelve, and every other number.
   Conditions: none. -/
import Derived.Test.YtmlmdapncphkfaaDig
namespace Go.Proofs.Ytmlmdapncphkfaa
open Go.RowKit
set_option linter.unusedVariables false
theorem field0 (a b c d e : Value) (w : World) : (Instr.field 63 (.agg #[a, b, c, d, e]) 0).run Try.prog w = .ok a w := by kernel_rfl
set_option maxHeartbeats 8000000 in
theorem law_NameOfProgram (k : Int) (w : World) :
    Calls Try.prog 3 #[.int .i64 k] w fun e w' => e = .returned (.bool true) ∧ Bl w w' := by
  by_cases hk : 0 ≤ k ∧ k ≤ 11
  · have hc : k = 0 ∨ k = 1 ∨ k = 2 ∨ k = 3 ∨ k = 4 ∨ k = 5 ∨ k = 6 ∨ k = 7 ∨ k = 8 ∨ k = 9 ∨ k = 10 ∨ k = 11 := by omega
    rcases hc with rfl | rfl | rfl | rfl | rfl | rfl | rfl | rfl | rfl | rfl | rfl | rfl
    all_goals
      clear hk
      have hfld := field0
      go_enter Try.func3, Try.ntmps3
      go_wp2
      go_ret
      refine ⟨rfl, ?_⟩
      repeat (first | exact Bl.refl _ | apply Bl.alloc)
  · have hq : inR k 0 11 = false := inR_not.2 hk
    clear hk
    go_enter Try.func3, Try.ntmps3
    go_wp2_with (first
      | (go_at_call 59; refine (spec_l1In _ _ _ _).mono ?_; rintro e w' ⟨rfl, rfl⟩)
      | (go_at_call 60; refine (impl_within _ _ _ _).mono ?_; rintro e w' ⟨rfl, rfl⟩)
      | go_in)
    go_ret
    exact ⟨rfl, Bl.refl _⟩
end Go.Proofs.Ytmlmdapncphkfaa
