/- Contracts of IsCellPlan, and the walk of its law.
   Conditions: none. -/
import Derived.Test.YtlmlffiajgofeaaIpl
namespace Go.Proofs.Ytlmlffiajgofeaa
open Go.RowKit
set_option linter.unusedVariables false
def rgB (a b : Int) (gl : List Gt) (ol P : List Int) : Bool := rightB P (luL ((a + b).toNat + gl.length) gl ol) (a + b).toNat gl.length
def icV (a b : Int) (gl : List Gt) (ol P : List Int) : Bool := goodC a b gl ol && rgB a b gl ol P
set_option maxHeartbeats 1000000 in
theorem impl_IsCellPlan (a b : Int) (Ag Ao Ap : Option Addr) (n cg m co np cp : Nat) (gl : List Gt) (ol P : List Int) (w : World) (hg : RdG w Ag n cg gl) (ho : RdI w Ao m co ol) (hp : RdI w Ap np cp P) :
    Calls Try.prog 42 #[.agg #[.int .i64 a, .int .i64 b, .slice Ag n cg, .slice Ao m co], .slice Ap np cp] w fun e w' => e = .returned (.tuple #[.bool (icV a b gl ol P), .bool (goodC a b gl ol)]) ∧ Bl w w' := by
  have hW := (Bl.refl w).alloc (.cells #[.int .i64 a, .int .i64 b, .slice Ag n cg, .slice Ao m co] 26)
  have hB := Blk.new w 26 #[.int .i64 a, .int .i64 b, .slice Ag n cg, .slice Ao m co]
  have hG := Lib.hid (impl_IsCircuit a b Ag Ao n cg m co gl ol (w.alloc (.cells #[.int .i64 a, .int .i64 b, .slice Ag n cg, .slice Ao m co] 26)) (hg.keep hW) (ho.keep hW))
  rcases hgd : goodC a b gl ol
  · rw [hgd] at hG
    have hR := Lib.hid (show icV a b gl ol P = false by simp [icV, hgd])
    go_enter Try.func42, Try.ntmps42
    go_wp2_with (go_at_call 50; refine hG.out.mono ?_; rintro e w1 ⟨rfl, hb1⟩)
    go_ret2
    exact ⟨by rw [hR.out]; rfl, (by (repeat (first | assumption | with_reducible exact Bl.refl _ | with_reducible refine Bl.drewN ?_ _ | with_reducible refine Bl.drew ?_ | with_reducible refine Bl.alloc ?_ _ | (with_reducible refine Bl.call ?_ (by assumption)))))⟩
  · rw [hgd] at hG
    have HGD := Lib.hid hgd
    have hR := Lib.hid (show icV a b gl ol P = rightB P (luL ((a + b).toNat + n) gl ol) (a + b).toNat n by simp [icV, hgd, rgB, hg.2])
    clear hgd
    go_enter Try.func42, Try.ntmps42
    go_wp2_with (first | (go_at_call 50; refine hG.out.mono ?_; rintro e w1 ⟨rfl, hb1⟩; replace hB := hB.keep hb1; replace hW := hW.call hb1; have hB_l := hB.lt; have hB_0 := hB.cell 0 _ rfl; have hB_1 := hB.cell 1 _ rfl; have hB_2 := hB.cell 2 _ rfl; have hB_3 := hB.cell 3 _ rfl) | (go_at_call 86; refine (impl_isPlan a b Ag Ao Ap n cg m co np cp gl ol P _ (hg.keep hW) (ho.keep hW) (hp.keep hW) HGD.out).mono ?_; rintro e w2 ⟨rfl, hb2⟩))
    go_ret2
    exact ⟨by rw [hR.out]; rfl, hW.call hb2⟩
set_option maxHeartbeats 1000000 in
theorem spec_IsCellPlan (a b : Int) (Ag Ao Ap : Option Addr) (n cg m co np cp : Nat) (gl : List Gt) (ol P : List Int) (w : World) (hg : RdG w Ag n cg gl) (ho : RdI w Ao m co ol) (hp : RdI w Ap np cp P) :
    Calls Try.prog 48 #[.agg #[.int .i64 a, .int .i64 b, .slice Ag n cg, .slice Ao m co], .slice Ap np cp] w fun e w' => e = .returned (.tuple #[.bool (icV a b gl ol P), .bool (goodC a b gl ol)]) ∧ Bl w w' := by
  have hW := (Bl.refl w).alloc (.cells #[.int .i64 a, .int .i64 b, .slice Ag n cg, .slice Ao m co] 26)
  have hB := Blk.new w 26 #[.int .i64 a, .int .i64 b, .slice Ag n cg, .slice Ao m co]
  have hG := Lib.hid (spec_ciGood a b Ag Ao n cg m co gl ol (w.alloc (.cells #[.int .i64 a, .int .i64 b, .slice Ag n cg, .slice Ao m co] 26)) (hg.keep hW) (ho.keep hW))
  rcases hgd : goodC a b gl ol
  · rw [hgd] at hG
    have hR := Lib.hid (show icV a b gl ol P = false by simp [icV, hgd])
    go_enter Try.func48, Try.ntmps48
    go_wp2_with (go_at_call 53; refine hG.out.mono ?_; rintro e w1 ⟨rfl, hb1⟩)
    go_ret2
    exact ⟨by rw [hR.out]; rfl, (by (repeat (first | assumption | with_reducible exact Bl.refl _ | with_reducible refine Bl.drewN ?_ _ | with_reducible refine Bl.drew ?_ | with_reducible refine Bl.alloc ?_ _ | (with_reducible refine Bl.call ?_ (by assumption)))))⟩
  · rw [hgd] at hG
    have HGD := Lib.hid hgd
    have hR := Lib.hid (show icV a b gl ol P = rightB P (luL ((a + b).toNat + n) gl ol) (a + b).toNat n by simp [icV, hgd, rgB, hg.2])
    clear hgd
    go_enter Try.func48, Try.ntmps48
    go_wp2_with (first | (go_at_call 53; refine hG.out.mono ?_; rintro e w1 ⟨rfl, hb1⟩; replace hB := hB.keep hb1; replace hW := hW.call hb1; have hB_l := hB.lt; have hB_0 := hB.cell 0 _ rfl; have hB_1 := hB.cell 1 _ rfl; have hB_2 := hB.cell 2 _ rfl; have hB_3 := hB.cell 3 _ rfl) | (go_at_call 89; refine (spec_svRight a b Ag Ao Ap n cg m co np cp gl ol P _ (hg.keep hW) (ho.keep hW) (hp.keep hW) HGD.out).mono ?_; rintro e w2 ⟨rfl, hb2⟩))
    go_ret2
    exact ⟨by rw [hR.out]; rfl, hW.call hb2⟩
end Go.Proofs.Ytlmlffiajgofeaa
