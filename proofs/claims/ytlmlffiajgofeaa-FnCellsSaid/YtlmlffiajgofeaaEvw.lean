/- Contracts of EvalInCells, and the walk of its law.
   Conditions: none. -/
import Derived.Test.YtlmlffiajgofeaaEvs
import Derived.Test.YtlmlffiajgofeaaRof
namespace Go.Proofs.Ytlmlffiajgofeaa
open Go.RowKit
set_option linter.unusedVariables false
theorem evR_len (a b : Int) (gl : List Gt) (ol P la lb : List Int) : (evR a b gl ol P la lb).length ≤ 1000000000 := by
  unfold evR
  split
  · rename_i h
    simp only [evB, Bool.and_eq_true] at h
    have := (goodC_facts (ask_facts h.1).1).2.2.2.2.2.1
    simp only [evO, pickE_len]
    omega
  · simp
set_option maxHeartbeats 4000000 in
theorem impl_EvalInCells (a b : Int) (Ag Ao Ap Aa Ab : Option Addr) (n cg m co np cp na ca nb cb : Nat) (gl : List Gt) (ol P la lb : List Int) (w : World) (hg : RdG w Ag n cg gl) (ho : RdI w Ao m co ol) (hp : RdI w Ap np cp P) (ha : RdI w Aa na ca la) (hb : RdI w Ab nb cb lb) :
    Calls Try.prog 36 #[.agg #[.int .i64 a, .int .i64 b, .slice Ag n cg, .slice Ao m co], .slice Ap np cp, .slice Aa na ca, .slice Ab nb cb] w fun e w' => ∃ A' n' c', e = .returned (.tuple #[.slice A' n' c', .bool (evB a b gl ol P la lb)]) ∧ OwnI w.heap.size w' A' n' c' (evR a b gl ol P la lb) ∧ Bl w w' := by
  rcases hev : evB a b gl ol P la lb
  · have hR := Lib.hid (show evR a b gl ol P la lb = [] by unfold evR; rw [hev]; rfl)
    have hW := (Bl.refl w).alloc (.cells #[.int .i64 a, .int .i64 b, .slice Ag n cg, .slice Ao m co] 26)
    have hB := Blk.new w 26 #[.int .i64 a, .int .i64 b, .slice Ag n cg, .slice Ao m co]
    rcases hask : askB a b gl ol la lb
    · have HK := Lib.hid hask
      clear hask hev
      go_enter Try.func36, Try.ntmps36
      go_wp2_with (go_at_call 61; refine (impl_areInputs _ _ Ag Ao n cg m co gl ol Aa Ab na ca nb cb la lb _ (hg.keep hW) (ho.keep hW) (ha.keep hW) (hb.keep hW)).mono ?_; rintro e w1 ⟨rfl, hb1⟩; rw [HK.out]; replace hB := hB.keep hb1; replace hW := hW.call hb1; clear hb1; have hB_l := hB.lt; have hB_0 := hB.cell 0 _ rfl; have hB_1 := hB.cell 1 _ rfl; have hB_2 := hB.cell 2 _ rfl; have hB_3 := hB.cell 3 _ rfl)
      go_ret2
      exact ⟨none, 0, 0, rfl, by rw [hR.out]; exact OwnI.nil _ _, hW⟩
    · have hrt : rightB P (luL ((a + b).toNat + n) gl ol) (a + b).toNat n = false := by
        unfold evB at hev
        rw [hask, Bool.true_and, hg.2] at hev
        exact hev
      have HK := Lib.hid hask
      have HR := Lib.hid hrt
      have HG := Lib.hid (ask_facts hask).1
      clear hask hev hrt
      go_enter Try.func36, Try.ntmps36
      go_wp2_with (first | (go_at_call 61; refine (impl_areInputs _ _ Ag Ao n cg m co gl ol Aa Ab na ca nb cb la lb _ (hg.keep hW) (ho.keep hW) (ha.keep hW) (hb.keep hW)).mono ?_; rintro e w1 ⟨rfl, hb1⟩; rw [HK.out]; replace hB := hB.keep hb1; replace hW := hW.call hb1; clear hb1; have hB_l := hB.lt; have hB_0 := hB.cell 0 _ rfl; have hB_1 := hB.cell 1 _ rfl; have hB_2 := hB.cell 2 _ rfl; have hB_3 := hB.cell 3 _ rfl) | (go_at_call 86; refine (impl_isPlan _ _ Ag Ao Ap n cg m co _ cp gl ol P _ (hg.keep hW) (ho.keep hW) (hp.keep hW) HG.out).mono ?_; rintro e w3 ⟨rfl, hb1⟩; rw [HR.out]; replace hB := hB.keep hb1; replace hW := hW.call hb1; clear hb1; clear hB_l hB_0 hB_1 hB_2 hB_3; have hB_l := hB.lt; have hB_0 := hB.cell 0 _ rfl; have hB_1 := hB.cell 1 _ rfl; have hB_2 := hB.cell 2 _ rfl; have hB_3 := hB.cell 3 _ rfl))
      go_ret2
      exact ⟨none, 0, 0, rfl, by rw [hR.out]; exact OwnI.nil _ _, hW⟩
  · refine (impl_EvalInCells_t a b Ag Ao Ap Aa Ab n cg m co np cp na ca nb cb gl ol P la lb w hg ho hp ha hb hev).mono ?_
    rintro e w' ⟨A', n', c', he, ho2, hb2⟩
    exact ⟨A', n', c', he, by unfold evR; rw [if_pos hev]; exact ho2, hb2⟩
set_option maxHeartbeats 4000000 in
theorem spec_EvalInCells (a b : Int) (Ag Ao Ap Aa Ab : Option Addr) (n cg m co np cp na ca nb cb : Nat) (gl : List Gt) (ol P la lb : List Int) (w : World) (hg : RdG w Ag n cg gl) (ho : RdI w Ao m co ol) (hp : RdI w Ap np cp P) (ha : RdI w Aa na ca la) (hb : RdI w Ab nb cb lb) :
    Calls Try.prog 37 #[.agg #[.int .i64 a, .int .i64 b, .slice Ag n cg, .slice Ao m co], .slice Ap np cp, .slice Aa na ca, .slice Ab nb cb] w fun e w' => ∃ A' n' c', e = .returned (.tuple #[.slice A' n' c', .bool (evB a b gl ol P la lb)]) ∧ OwnI w.heap.size w' A' n' c' (evR a b gl ol P la lb) ∧ Bl w w' := by
  rcases hev : evB a b gl ol P la lb
  · have hR := Lib.hid (show evR a b gl ol P la lb = [] by unfold evR; rw [hev]; rfl)
    have hW := (Bl.refl w).alloc (.cells #[.int .i64 a, .int .i64 b, .slice Ag n cg, .slice Ao m co] 26)
    have hB := Blk.new w 26 #[.int .i64 a, .int .i64 b, .slice Ag n cg, .slice Ao m co]
    rcases hask : askB a b gl ol la lb
    · have HK := Lib.hid hask
      clear hask hev
      go_enter Try.func37, Try.ntmps37
      go_wp2_with (go_at_call 88; refine (spec_ciAsked _ _ Ag Ao n cg m co gl ol Aa Ab na ca nb cb la lb _ (hg.keep hW) (ho.keep hW) (ha.keep hW) (hb.keep hW)).mono ?_; rintro e w1 ⟨rfl, hb1⟩; rw [HK.out]; replace hB := hB.keep hb1; replace hW := hW.call hb1; clear hb1; have hB_l := hB.lt; have hB_0 := hB.cell 0 _ rfl; have hB_1 := hB.cell 1 _ rfl; have hB_2 := hB.cell 2 _ rfl; have hB_3 := hB.cell 3 _ rfl)
      go_ret2
      exact ⟨none, 0, 0, rfl, by rw [hR.out]; exact OwnI.nil _ _, hW⟩
    · have hrt : rightB P (luL ((a + b).toNat + n) gl ol) (a + b).toNat n = false := by
        unfold evB at hev
        rw [hask, Bool.true_and, hg.2] at hev
        exact hev
      have HK := Lib.hid hask
      have HR := Lib.hid hrt
      have HG := Lib.hid (ask_facts hask).1
      clear hask hev hrt
      go_enter Try.func37, Try.ntmps37
      go_wp2_with (first | (go_at_call 88; refine (spec_ciAsked _ _ Ag Ao n cg m co gl ol Aa Ab na ca nb cb la lb _ (hg.keep hW) (ho.keep hW) (ha.keep hW) (hb.keep hW)).mono ?_; rintro e w1 ⟨rfl, hb1⟩; rw [HK.out]; replace hB := hB.keep hb1; replace hW := hW.call hb1; clear hb1; have hB_l := hB.lt; have hB_0 := hB.cell 0 _ rfl; have hB_1 := hB.cell 1 _ rfl; have hB_2 := hB.cell 2 _ rfl; have hB_3 := hB.cell 3 _ rfl) | (go_at_call 89; refine (spec_svRight _ _ Ag Ao Ap n cg m co _ cp gl ol P _ (hg.keep hW) (ho.keep hW) (hp.keep hW) HG.out).mono ?_; rintro e w3 ⟨rfl, hb1⟩; rw [HR.out]; replace hB := hB.keep hb1; replace hW := hW.call hb1; clear hb1; clear hB_l hB_0 hB_1 hB_2 hB_3; have hB_l := hB.lt; have hB_0 := hB.cell 0 _ rfl; have hB_1 := hB.cell 1 _ rfl; have hB_2 := hB.cell 2 _ rfl; have hB_3 := hB.cell 3 _ rfl))
      go_ret2
      exact ⟨none, 0, 0, rfl, by rw [hR.out]; exact OwnI.nil _ _, hW⟩
  · refine (spec_EvalInCells_t a b Ag Ao Ap Aa Ab n cg m co np cp na ca nb cb gl ol P la lb w hg ho hp ha hb hev).mono ?_
    rintro e w' ⟨A', n', c', he, ho2, hb2⟩
    exact ⟨A', n', c', he, by unfold evR; rw [if_pos hev]; exact ho2, hb2⟩
end Go.Proofs.Ytlmlffiajgofeaa
