/- Contracts of the draws of OpensTo.
   Conditions: the text is bytes. -/
import Derived.Test.YtglgaicbcackbaaDrv
namespace Go.Proofs.Ytglgaicbcackbaa
open Go.RowKit
set_option linter.unusedVariables false
set_option maxRecDepth 20000 in
set_option maxHeartbeats 4000000 in
theorem spec_DrawOpensTo (w : World) (A : Option Addr) (n c : Nat) (l : List Int) (h : RdB w A n c l) :
    Calls Try.prog 32 #[.slice A n c] w fun e w' => ∃ a b c d o, e = .returned (.agg #[.int .i64 a, .int .i64 b, .int .i64 c, .int .i64 d, .bool o]) ∧ Bl w w' := by
  have hC := Cur.new (w.alloc (.cells #[.int .i64 0, .int .i64 0, .int .i64 0, .int .i64 0, .bool false] 38)) (h.keep ((Bl.refl w).alloc _)) (g := w.heap.size + 1)
  have hG := World.grownBy.refl ((w.alloc (.cells #[.int .i64 0, .int .i64 0, .int .i64 0, .int .i64 0, .bool false] 38)).alloc (.cells #[.slice A n c, .int .i64 0, .int .u64 0] 67)) (some (w.heap.size + 1))
  have hz := (Blk.new w 38 #[.int .i64 0, .int .i64 0, .int .i64 0, .int .i64 0, .bool false]).alloc (.cells #[.slice A n c, .int .i64 0, .int .u64 0] 67)
  go_enter Try.func32, Try.ntmps32
  go_wp2_with (first | (go_at_call 67; refine (cur_pick _ _ _ hC (by omega) _ (by omega)).mono ?_; rintro e w1 ⟨x, rfl, hb0, hb1, hC1, hG1⟩; replace hz := hz.grown hG1 (by intro e; injection e with e; omega); replace hG := Lib.grownBy_trans hG hG1; replace hC := hC1; clear hC1 hG1) | (go_at_call 91; refine (cur_sealedOf _ _ _ hC (by omega) _ (by omega)).mono ?_; rintro e w1 ⟨a, b, c2, d, o, rfl, hC1, hG1⟩; replace hz := hz.grown hG1 (by intro e; injection e with e; omega); replace hG := Lib.grownBy_trans hG hG1; replace hC := hC1; clear hC1 hG1; have z0 := hz.cell 0 (.int .i64 0) rfl; have z1 := hz.cell 1 (.int .i64 0) rfl; have z2 := hz.cell 2 (.int .i64 0) rfl; have z3 := hz.cell 3 (.int .i64 0) rfl; have z4 := hz.cell 4 (.bool false) rfl; have zf := hz.frozen; have zl := hz.lt))
  refine bodyPost_ret (v := .agg #[.int .i64 a, .int .i64 b, .int .i64 c2, .int .i64 d, .bool o]) (by simp only [results, Try.results32]; go_simp) rfl ⟨_, _, _, _, _, rfl, ?_⟩
  repeat (first | (with_reducible refine Bl.setCell ?_ (by dsimp only; omega) _) | exact Bl.grown (((Bl.refl w).alloc _).alloc _) hG (fun k hk => by cases hk; omega))
end Go.Proofs.Ytglgaicbcackbaa
