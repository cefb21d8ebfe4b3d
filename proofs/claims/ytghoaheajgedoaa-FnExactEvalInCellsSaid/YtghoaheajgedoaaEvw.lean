/- Contracts of EvalInCells, and the walk of its law.
   Conditions: none. -/
import Derived.Test.YtghoaheajgedoaaEvs
import Derived.Test.YtghoaheajgedoaaRof
namespace Go.Proofs.Ytghoaheajgedoaa
open Go.RowKit
set_option linter.unusedVariables false
theorem evR_len (a b : Int) (gl : List Gt) (ol P la lb : List Int) : (evR a b gl ol P la lb).length ≤ 1000000000 := by
  unfold evR
  split
  · rename_i h
    simp only [evB, Bool.and_eq_true] at h
    have := (goodC_facts (ask_facts h.1).1).2.2.2.2.2.1
    simp only [evO, pickE_len]
    omega
  · simp
set_option maxHeartbeats 4000000 in
theorem impl_EvalInCells (a b : Int) (Ag Ao Ap Aa Ab : Option Addr) (n cg m co np cp na ca nb cb : Nat) (gl : List Gt) (ol P la lb : List Int) (w : World) (hg : RdG w Ag n cg gl) (ho : RdI w Ao m co ol) (hp : RdI w Ap np cp P) (ha : RdI w Aa na ca la) (hb : RdI w Ab nb cb lb) :
    Calls Try.prog 46 #[.agg #[.int .i64 a, .int .i64 b, .slice Ag n cg, .slice Ao m co], .slice Ap np cp, .slice Aa na ca, .slice Ab nb cb] w fun e w' => ∃ A' n' c', e = .returned (.tuple #[.slice A' n' c', .bool (evB a b gl ol P la lb)]) ∧ OwnI w.heap.size w' A' n' c' (evR a b gl ol P la lb) ∧ Bl w w' := by
  rcases hev : evB a b gl ol P la lb
  · have hR := Lib.hid (show evR a b gl ol P la lb = [] by unfold evR; rw [hev]; rfl)
    have hW := (Bl.refl w).alloc (.cells #[.int .i64 a, .int .i64 b, .slice Ag n cg, .slice Ao m co] 31)
    have hB := Blk.new w 31 #[.int .i64 a, .int .i64 b, .slice Ag n cg, .slice Ao m co]
    rcases hask : askB a b gl ol la lb
    · have HK := Lib.hid hask
      clear hask hev
      go_enter Try.func46, Try.ntmps46
      go_wp2_with (go_at_call 79; refine (impl_areInputs _ _ Ag Ao n cg m co gl ol Aa Ab na ca nb cb la lb _ (hg.keep hW) (ho.keep hW) (ha.keep hW) (hb.keep hW)).mono ?_; rintro e w1 ⟨rfl, hb1⟩; rw [HK.out]; replace hB := hB.keep hb1; replace hW := hW.call hb1; clear hb1; have hB_l := hB.lt; have hB_0 := hB.cell 0 _ rfl; have hB_1 := hB.cell 1 _ rfl; have hB_2 := hB.cell 2 _ rfl; have hB_3 := hB.cell 3 _ rfl)
      go_ret2
      exact ⟨none, 0, 0, rfl, by rw [hR.out]; exact OwnI.nil _ _, hW⟩
    · have hrt : rightB P (luL ((a + b).toNat + n) gl ol) (a + b).toNat n = false := by
        unfold evB at hev
        rw [hask, Bool.true_and, hg.2] at hev
        exact hev
      have HK := Lib.hid hask
      have HR := Lib.hid hrt
      have HG := Lib.hid (ask_facts hask).1
      clear hask hev hrt
      go_enter Try.func46, Try.ntmps46
      go_wp2_with (first | (go_at_call 79; refine (impl_areInputs _ _ Ag Ao n cg m co gl ol Aa Ab na ca nb cb la lb _ (hg.keep hW) (ho.keep hW) (ha.keep hW) (hb.keep hW)).mono ?_; rintro e w1 ⟨rfl, hb1⟩; rw [HK.out]; replace hB := hB.keep hb1; replace hW := hW.call hb1; clear hb1; have hB_l := hB.lt; have hB_0 := hB.cell 0 _ rfl; have hB_1 := hB.cell 1 _ rfl; have hB_2 := hB.cell 2 _ rfl; have hB_3 := hB.cell 3 _ rfl) | (go_at_call 71; refine (impl_isPlan _ _ Ag Ao Ap n cg m co _ cp gl ol P _ (hg.keep hW) (ho.keep hW) (hp.keep hW) HG.out).mono ?_; rintro e w3 ⟨rfl, hb1⟩; rw [HR.out]; replace hB := hB.keep hb1; replace hW := hW.call hb1; clear hb1; clear hB_l hB_0 hB_1 hB_2 hB_3; have hB_l := hB.lt; have hB_0 := hB.cell 0 _ rfl; have hB_1 := hB.cell 1 _ rfl; have hB_2 := hB.cell 2 _ rfl; have hB_3 := hB.cell 3 _ rfl))
      go_ret2
      exact ⟨none, 0, 0, rfl, by rw [hR.out]; exact OwnI.nil _ _, hW⟩
  · refine (impl_EvalInCells_t a b Ag Ao Ap Aa Ab n cg m co np cp na ca nb cb gl ol P la lb w hg ho hp ha hb hev).mono ?_
    rintro e w' ⟨A', n', c', he, ho2, hb2⟩
    exact ⟨A', n', c', he, by unfold evR; rw [if_pos hev]; exact ho2, hb2⟩
set_option maxHeartbeats 4000000 in
theorem spec_EvalInCells (a b : Int) (Ag Ao Ap Aa Ab : Option Addr) (n cg m co np cp na ca nb cb : Nat) (gl : List Gt) (ol P la lb : List Int) (w : World) (hg : RdG w Ag n cg gl) (ho : RdI w Ao m co ol) (hp : RdI w Ap np cp P) (ha : RdI w Aa na ca la) (hb : RdI w Ab nb cb lb) :
    Calls Try.prog 45 #[.agg #[.int .i64 a, .int .i64 b, .slice Ag n cg, .slice Ao m co], .slice Ap np cp, .slice Aa na ca, .slice Ab nb cb] w fun e w' => ∃ A' n' c', e = .returned (.tuple #[.slice A' n' c', .bool (evB a b gl ol P la lb)]) ∧ OwnI w.heap.size w' A' n' c' (evR a b gl ol P la lb) ∧ Bl w w' := by
  rcases hev : evB a b gl ol P la lb
  · have hR := Lib.hid (show evR a b gl ol P la lb = [] by unfold evR; rw [hev]; rfl)
    have hW := (Bl.refl w).alloc (.cells #[.int .i64 a, .int .i64 b, .slice Ag n cg, .slice Ao m co] 31)
    have hB := Blk.new w 31 #[.int .i64 a, .int .i64 b, .slice Ag n cg, .slice Ao m co]
    rcases hask : askB a b gl ol la lb
    · have HK := Lib.hid hask
      clear hask hev
      go_enter Try.func45, Try.ntmps45
      go_wp2_with (go_at_call 75; refine (spec_ciAsked _ _ Ag Ao n cg m co gl ol Aa Ab na ca nb cb la lb _ (hg.keep hW) (ho.keep hW) (ha.keep hW) (hb.keep hW)).mono ?_; rintro e w1 ⟨rfl, hb1⟩; rw [HK.out]; replace hB := hB.keep hb1; replace hW := hW.call hb1; clear hb1; have hB_l := hB.lt; have hB_0 := hB.cell 0 _ rfl; have hB_1 := hB.cell 1 _ rfl; have hB_2 := hB.cell 2 _ rfl; have hB_3 := hB.cell 3 _ rfl)
      go_ret2
      exact ⟨none, 0, 0, rfl, by rw [hR.out]; exact OwnI.nil _ _, hW⟩
    · have hrt : rightB P (luL ((a + b).toNat + n) gl ol) (a + b).toNat n = false := by
        unfold evB at hev
        rw [hask, Bool.true_and, hg.2] at hev
        exact hev
      have HK := Lib.hid hask
      have HR := Lib.hid hrt
      have HG := Lib.hid (ask_facts hask).1
      clear hask hev hrt
      go_enter Try.func45, Try.ntmps45
      go_wp2_with (first | (go_at_call 75; refine (spec_ciAsked _ _ Ag Ao n cg m co gl ol Aa Ab na ca nb cb la lb _ (hg.keep hW) (ho.keep hW) (ha.keep hW) (hb.keep hW)).mono ?_; rintro e w1 ⟨rfl, hb1⟩; rw [HK.out]; replace hB := hB.keep hb1; replace hW := hW.call hb1; clear hb1; have hB_l := hB.lt; have hB_0 := hB.cell 0 _ rfl; have hB_1 := hB.cell 1 _ rfl; have hB_2 := hB.cell 2 _ rfl; have hB_3 := hB.cell 3 _ rfl) | (go_at_call 70; refine (spec_svRight _ _ Ag Ao Ap n cg m co _ cp gl ol P _ (hg.keep hW) (ho.keep hW) (hp.keep hW) HG.out).mono ?_; rintro e w3 ⟨rfl, hb1⟩; rw [HR.out]; replace hB := hB.keep hb1; replace hW := hW.call hb1; clear hb1; clear hB_l hB_0 hB_1 hB_2 hB_3; have hB_l := hB.lt; have hB_0 := hB.cell 0 _ rfl; have hB_1 := hB.cell 1 _ rfl; have hB_2 := hB.cell 2 _ rfl; have hB_3 := hB.cell 3 _ rfl))
      go_ret2
      exact ⟨none, 0, 0, rfl, by rw [hR.out]; exact OwnI.nil _ _, hW⟩
  · refine (spec_EvalInCells_t a b Ag Ao Ap Aa Ab n cg m co np cp na ca nb cb gl ol P la lb w hg ho hp ha hb hev).mono ?_
    rintro e w' ⟨A', n', c', he, ho2, hb2⟩
    exact ⟨A', n', c', he, by unfold evR; rw [if_pos hev]; exact ho2, hb2⟩
set_option maxHeartbeats 1000000 in
theorem laws_markCircuit2 (a b : Int) (A B : Option Addr) (n c m d base : Nat) (gl : List Gt) (ol : List Int) (w : World) (h : OwnC base w A n c gl B m d ol) (hn : n ≤ 7036874417766) (hm : m ≤ 7036874417766) :
    Calls Try.prog 22 #[.agg #[.int .i64 a, .int .i64 b, .slice A n c, .slice B m d], .int .i64 1] w fun e w' => ∃ (r : Int) (wa wb wc : World), e = .returned (.int .i64 r) ∧ 0 ≤ r ∧ r ≤ 1000000000000000 ∧ Bl w wa ∧ wa.grownBy wb (A.map (·.block)) ∧ wb.grownBy w' (B.map (·.block)) := by
  obtain ⟨hG, hO, hap⟩ := h
  go_enter Try.func22, Try.ntmps22
  go_wp2_with fail
  refine (laws_markGateS A n c base gl 1 _ (hG.keep (by (repeat (first | assumption | with_reducible exact Bl.refl _ | with_reducible refine Bl.drewN ?_ _ | with_reducible refine Bl.drew ?_ | with_reducible refine Bl.alloc ?_ _ | (with_reducible refine Bl.call ?_ (by assumption)))))) (by omega) (by omega)).mono ?_
  rintro e w1 ⟨rfl, hm1, hg1⟩
  have k2 : w1.cell? ⟨w.heap.size, 3, none⟩ = some (.slice B m d) := hg1.cell (by go_simp) (by intro he; have := (hG.blk _ he.symm).2; simp at this)
  have hO1 : OwnI base w1 B m d ol := OwnI.grown (hO.keep (by (repeat (first | assumption | with_reducible exact Bl.refl _ | with_reducible refine Bl.drewN ?_ _ | with_reducible refine Bl.drew ?_ | with_reducible refine Bl.alloc ?_ _ | (with_reducible refine Bl.call ?_ (by assumption)))))) hg1 (by
    rintro x rfl he
    cases A with
    | none => cases he
    | some y => exact hap y rfl he.symm)
  go_wp2_with fail
  refine (laws_markIntS B m d base ol (1 + 3 * n) _ hO1 (by omega) (by omega)).mono ?_
  rintro e w2 ⟨rfl, hm2, hg2⟩
  go_wp2
  go_ret
  exact ⟨_, _, w1, w1, rfl, by omega, by omega, (by (repeat (first | assumption | with_reducible exact Bl.refl _ | with_reducible refine Bl.drewN ?_ _ | with_reducible refine Bl.drew ?_ | with_reducible refine Bl.alloc ?_ _ | (with_reducible refine Bl.call ?_ (by assumption))))), hg1, hg2⟩
set_option maxRecDepth 20000 in
set_option maxHeartbeats 8000000 in
theorem law_EvalInCells (a b : Int) (A B : Option Addr) (n c m d : Nat) (TP : Option Addr) (nP cP : Nat) (lP : List Int) (TU : Option Addr) (nU cU : Nat) (lU : List Int) (TV : Option Addr) (nV cV : Nat) (lV : List Int) (gl : List Gt) (ol : List Int) (w : World) (h : RdC w A n c gl B m d ol) (hP : RdI w TP nP cP lP) (hU : RdI w TU nU cU lU) (hV : RdI w TV nV cV lV) :
    Calls Try.prog 13 #[.agg #[.int .i64 a, .int .i64 b, .slice A n c, .slice B m d], .slice TP nP cP, .slice TU nU cU, .slice TV nV cV] w fun e w' => e = .returned (.bool true) ∧ Bl w w' := by
  obtain ⟨hle1, hle2⟩ := h.g.le
  obtain ⟨hle3, hle4⟩ := h.o.le
  obtain ⟨hlxP, hlyP⟩ := hP.le
  obtain ⟨hlxU, hlyU⟩ := hU.le
  obtain ⟨hlxV, hlyV⟩ := hV.le
  by_cases qP : (1048576 : Int) < nP
  · go_enter Try.func13, Try.ntmps13
    go_wp2
    go_ret
    exact ⟨rfl, (by (repeat (first | assumption | with_reducible exact Bl.refl _ | with_reducible refine Bl.drewN ?_ _ | with_reducible refine Bl.drew ?_ | with_reducible refine Bl.alloc ?_ _ | (with_reducible refine Bl.call ?_ (by assumption)))))⟩
  by_cases qU : (1048576 : Int) < nU
  · go_enter Try.func13, Try.ntmps13
    go_wp2
    go_ret
    exact ⟨rfl, (by (repeat (first | assumption | with_reducible exact Bl.refl _ | with_reducible refine Bl.drewN ?_ _ | with_reducible refine Bl.drew ?_ | with_reducible refine Bl.alloc ?_ _ | (with_reducible refine Bl.call ?_ (by assumption)))))⟩
  by_cases qV : (1048576 : Int) < nV
  · go_enter Try.func13, Try.ntmps13
    go_wp2
    go_ret
    exact ⟨rfl, (by (repeat (first | assumption | with_reducible exact Bl.refl _ | with_reducible refine Bl.drewN ?_ _ | with_reducible refine Bl.drew ?_ | with_reducible refine Bl.alloc ?_ _ | (with_reducible refine Bl.call ?_ (by assumption)))))⟩
  have hW := (Bl.refl w).alloc (.cells #[.int .i64 a, .int .i64 b, .slice A n c, .slice B m d] 25)
  have hA := Blk.new w 25 #[.int .i64 a, .int .i64 b, .slice A n c, .slice B m d]
  (try clear hA_l hA_0 hA_1 hA_2 hA_3)
  have hA_l := hA.lt; have hA_0 := hA.cell 0 _ rfl; have hA_1 := hA.cell 1 _ rfl; have hA_2 := hA.cell 2 _ rfl; have hA_3 := hA.cell 3 _ rfl
  go_enter Try.func13, Try.ntmps13
  go_wp2_with fail
  refine (laws_szCircuit a b A B n c m d _ hle1 hle2 hle3 hle4).mono ?_
  rintro e w2 ⟨r, rfl, hr, hb2⟩
  replace hA := hA.keep hb2
  replace hW := hW.call hb2
  (try clear hA_l hA_0 hA_1 hA_2 hA_3)
  have hA_l := hA.lt; have hA_0 := hA.cell 0 _ rfl; have hA_1 := hA.cell 1 _ rfl; have hA_2 := hA.cell 2 _ rfl; have hA_3 := hA.cell 3 _ rfl
  rcases hr with rfl | ⟨hr0, hn, hm⟩
  · go_wp2
    go_ret
    exact ⟨rfl, hW⟩
  go_wp2_with fail
  refine (laws_toCircuit a b A B n c m d gl ol _ (h.keep hW) (by omega) (by omega)).mono ?_
  rintro e w3 ⟨A3, c3, B3, d3, rfl, hC2, hb3⟩
  replace hA := hA.keep hb3
  replace hW := hW.call hb3
  (try clear hA_l hA_0 hA_1 hA_2 hA_3)
  have hA_l := hA.lt; have hA_0 := hA.cell 0 _ rfl; have hA_1 := hA.cell 1 _ rfl; have hA_2 := hA.cell 2 _ rfl; have hA_3 := hA.cell 3 _ rfl
  go_wp2_with fail
  refine (laws_toIntS TP nP cP lP _ (hP.keep hW) (by omega)).mono ?_
  rintro e w4 ⟨XPs, dPs, rfl, hsP, hb4⟩
  replace hA := hA.keep hb4
  replace hC2 := hC2.keep hb4
  replace hW := hW.call hb4
  (try clear hA_l hA_0 hA_1 hA_2 hA_3)
  have hA_l := hA.lt; have hA_0 := hA.cell 0 _ rfl; have hA_1 := hA.cell 1 _ rfl; have hA_2 := hA.cell 2 _ rfl; have hA_3 := hA.cell 3 _ rfl
  go_wp2_with fail
  refine (laws_toIntS TU nU cU lU _ (hU.keep hW) (by omega)).mono ?_
  rintro e w5 ⟨XUs, dUs, rfl, hsU, hb5⟩
  replace hA := hA.keep hb5
  replace hC2 := hC2.keep hb5
  replace hsP := hsP.keep hb5
  replace hW := hW.call hb5
  (try clear hA_l hA_0 hA_1 hA_2 hA_3)
  have hA_l := hA.lt; have hA_0 := hA.cell 0 _ rfl; have hA_1 := hA.cell 1 _ rfl; have hA_2 := hA.cell 2 _ rfl; have hA_3 := hA.cell 3 _ rfl
  go_wp2_with fail
  refine (laws_toIntS TV nV cV lV _ (hV.keep hW) (by omega)).mono ?_
  rintro e w6 ⟨XVs, dVs, rfl, hsV, hb6⟩
  replace hA := hA.keep hb6
  replace hC2 := hC2.keep hb6
  replace hsP := hsP.keep hb6
  replace hsU := hsU.keep hb6
  replace hW := hW.call hb6
  (try clear hA_l hA_0 hA_1 hA_2 hA_3)
  have hA_l := hA.lt; have hA_0 := hA.cell 0 _ rfl; have hA_1 := hA.cell 1 _ rfl; have hA_2 := hA.cell 2 _ rfl; have hA_3 := hA.cell 3 _ rfl
  go_wp2_with fail
  refine (spec_EvalInCells a b A3 B3 XPs XUs XVs n c3 m d3 nP dPs nU dUs nV dVs gl ol lP lU lV _ hC2.1.rd hC2.2.1.rd hsP.rd hsU.rd hsV.rd).mono ?_
  rintro e w7 ⟨As, ns, cs, rfl, h3, hb7⟩
  replace hA := hA.keep hb7
  replace hC2 := hC2.keep hb7
  replace hsP := hsP.keep hb7
  replace hsU := hsU.keep hb7
  replace hsV := hsV.keep hb7
  replace hW := hW.call hb7
  (try clear hA_l hA_0 hA_1 hA_2 hA_3)
  have hA_l := hA.lt; have hA_0 := hA.cell 0 _ rfl; have hA_1 := hA.cell 1 _ rfl; have hA_2 := hA.cell 2 _ rfl; have hA_3 := hA.cell 3 _ rfl
  clear hC2 hsP hsU hsV
  have b3 : ∀ k, As.map (·.block) = some k → k < w7.heap.size := fun k hk => (h3.blk k hk).2
  have s3 := hW.sz
  have sA3 := hA.lt
  go_wp2_with fail
  refine (laws_toCircuit a b A B n c m d gl ol _ (h.keep hW) (by omega) (by omega)).mono ?_
  rintro e w8 ⟨A8, c8, B8, d8, rfl, hC4, hb8⟩
  replace hA := hA.keep hb8
  replace h3 := h3.keep hb8
  replace hW := hW.call hb8
  (try clear hA_l hA_0 hA_1 hA_2 hA_3)
  have hA_l := hA.lt; have hA_0 := hA.cell 0 _ rfl; have hA_1 := hA.cell 1 _ rfl; have hA_2 := hA.cell 2 _ rfl; have hA_3 := hA.cell 3 _ rfl
  have b4A := hC4.1.blk
  have b4B := hC4.2.1.blk
  have s4 := hb8.sz
  have hX := Blk.new w8 31 #[.int .i64 a, .int .i64 b, .slice A8 n c8, .slice B8 m d8]
  obtain ⟨gx, hgx⟩ : ∃ g, w8.heap.size = g := ⟨_, rfl⟩
  replace hA := hA.alloc (.cells #[.int .i64 a, .int .i64 b, .slice A8 n c8, .slice B8 m d8] 31)
  replace hW := hW.alloc (.cells #[.int .i64 a, .int .i64 b, .slice A8 n c8, .slice B8 m d8] 31)
  replace hC4 := hC4.keep ((Bl.refl w8).alloc (.cells #[.int .i64 a, .int .i64 b, .slice A8 n c8, .slice B8 m d8] 31))
  replace h3 := h3.keep ((Bl.refl w8).alloc (.cells #[.int .i64 a, .int .i64 b, .slice A8 n c8, .slice B8 m d8] 31))
  go_wp2_with fail
  refine (laws_toIntS TP nP cP lP _ (hP.keep hW) (by omega)).mono ?_
  rintro e w9 ⟨XPi, dPi, rfl, hiP, hb9⟩
  replace hA := hA.keep hb9
  replace h3 := h3.keep hb9
  replace hC4 := hC4.keep hb9
  replace hW := hW.call hb9
  (try clear hA_l hA_0 hA_1 hA_2 hA_3)
  have hA_l := hA.lt; have hA_0 := hA.cell 0 _ rfl; have hA_1 := hA.cell 1 _ rfl; have hA_2 := hA.cell 2 _ rfl; have hA_3 := hA.cell 3 _ rfl
  rw [hgx] at hX
  replace hX := hX.keep hb9
  (try clear hA_l hA_0 hA_1 hA_2 hA_3 hX_l hX_0 hX_1 hX_2 hX_3)
  have hA_l := hA.lt; have hA_0 := hA.cell 0 _ rfl; have hA_1 := hA.cell 1 _ rfl; have hA_2 := hA.cell 2 _ rfl; have hA_3 := hA.cell 3 _ rfl; have hX_l := hX.lt; have hX_0 := hX.cell 0 _ rfl; have hX_1 := hX.cell 1 _ rfl; have hX_2 := hX.cell 2 _ rfl; have hX_3 := hX.cell 3 _ rfl
  have zP : w8.heap.size + 1 ≤ w9.heap.size := by have := hb9.sz; simpa using this
  have bP := hiP.blk
  go_wp2_with fail
  refine (laws_toIntS TU nU cU lU _ (hU.keep hW) (by omega)).mono ?_
  rintro e w10 ⟨XUi, dUi, rfl, hiU, hb10⟩
  replace hA := hA.keep hb10
  replace h3 := h3.keep hb10
  replace hC4 := hC4.keep hb10
  replace hiP := hiP.keep hb10
  replace hX := hX.keep hb10
  replace hW := hW.call hb10
  (try clear hA_l hA_0 hA_1 hA_2 hA_3 hX_l hX_0 hX_1 hX_2 hX_3)
  have hA_l := hA.lt; have hA_0 := hA.cell 0 _ rfl; have hA_1 := hA.cell 1 _ rfl; have hA_2 := hA.cell 2 _ rfl; have hA_3 := hA.cell 3 _ rfl; have hX_l := hX.lt; have hX_0 := hX.cell 0 _ rfl; have hX_1 := hX.cell 1 _ rfl; have hX_2 := hX.cell 2 _ rfl; have hX_3 := hX.cell 3 _ rfl
  have zU := hb10.sz
  have bU := hiU.blk
  go_wp2_with fail
  refine (laws_toIntS TV nV cV lV _ (hV.keep hW) (by omega)).mono ?_
  rintro e w11 ⟨XVi, dVi, rfl, hiV, hb11⟩
  replace hA := hA.keep hb11
  replace h3 := h3.keep hb11
  replace hC4 := hC4.keep hb11
  replace hiP := hiP.keep hb11
  replace hX := hX.keep hb11
  replace hiU := hiU.keep hb11
  replace hW := hW.call hb11
  (try clear hA_l hA_0 hA_1 hA_2 hA_3 hX_l hX_0 hX_1 hX_2 hX_3)
  have hA_l := hA.lt; have hA_0 := hA.cell 0 _ rfl; have hA_1 := hA.cell 1 _ rfl; have hA_2 := hA.cell 2 _ rfl; have hA_3 := hA.cell 3 _ rfl; have hX_l := hX.lt; have hX_0 := hX.cell 0 _ rfl; have hX_1 := hX.cell 1 _ rfl; have hX_2 := hX.cell 2 _ rfl; have hX_3 := hX.cell 3 _ rfl
  have zV := hb11.sz
  have bV := hiV.blk
  go_wp2_with fail
  refine (impl_EvalInCells a b A8 B8 XPi XUi XVi n c8 m d8 nP dPi nU dUi nV dVi gl ol lP lU lV _ hC4.1.rd hC4.2.1.rd hiP.rd hiU.rd hiV.rd).mono ?_
  rintro e w12 ⟨Ai, ni, ci, rfl, h5, hb12⟩
  replace hA := hA.keep hb12
  replace h3 := h3.keep hb12
  replace hC4 := hC4.keep hb12
  replace hiP := hiP.keep hb12
  replace hX := hX.keep hb12
  replace hiU := hiU.keep hb12
  replace hiV := hiV.keep hb12
  replace hW := hW.call hb12
  (try clear hA_l hA_0 hA_1 hA_2 hA_3 hX_l hX_0 hX_1 hX_2 hX_3)
  have hA_l := hA.lt; have hA_0 := hA.cell 0 _ rfl; have hA_1 := hA.cell 1 _ rfl; have hA_2 := hA.cell 2 _ rfl; have hA_3 := hA.cell 3 _ rfl; have hX_l := hX.lt; have hX_0 := hX.cell 0 _ rfl; have hX_1 := hX.cell 1 _ rfl; have hX_2 := hX.cell 2 _ rfl; have hX_3 := hX.cell 3 _ rfl
  have b5 : ∀ k, Ai.map (·.block) = some k → w11.heap.size ≤ k := fun k hk => (h5.blk k hk).1
  go_wp2_with fail
  refine (laws_eqIntS _ _ _ _ _ _ _ _ _ h5.rd h3.rd).mono ?_
  rintro e w13 ⟨rfl, hb13⟩
  replace hA := hA.keep hb13
  replace h3 := h3.keep hb13
  replace hC4 := hC4.keep hb13
  replace hiP := hiP.keep hb13
  replace hX := hX.keep hb13
  replace hiU := hiU.keep hb13
  replace hiV := hiV.keep hb13
  replace h5 := h5.keep hb13
  replace hW := hW.call hb13
  (try clear hA_l hA_0 hA_1 hA_2 hA_3 hX_l hX_0 hX_1 hX_2 hX_3)
  have hA_l := hA.lt; have hA_0 := hA.cell 0 _ rfl; have hA_1 := hA.cell 1 _ rfl; have hA_2 := hA.cell 2 _ rfl; have hA_3 := hA.cell 3 _ rfl; have hX_l := hX.lt; have hX_0 := hX.cell 0 _ rfl; have hX_1 := hX.cell 1 _ rfl; have hX_2 := hX.cell 2 _ rfl; have hX_3 := hX.cell 3 _ rfl
  go_wp2_with fail
  go_region_held3 (fun w' => w'.cell? ⟨w.heap.size, 0, none⟩ = some (.int .i64 a) ∧ w'.cell? ⟨w.heap.size, 1, none⟩ = some (.int .i64 b) ∧ w'.cell? ⟨w.heap.size, 2, none⟩ = some (.slice A n c) ∧ w'.cell? ⟨w.heap.size, 3, none⟩ = some (.slice B m d) ∧ w'.cell? ⟨gx, 0, none⟩ = some (.int .i64 a) ∧ w'.cell? ⟨gx, 1, none⟩ = some (.int .i64 b) ∧ w'.cell? ⟨gx, 2, none⟩ = some (.slice A8 n c8) ∧ w'.cell? ⟨gx, 3, none⟩ = some (.slice B8 m d8)) (first | exact ⟨hA_0, hA_1, hA_2, hA_3, hX_0, hX_1, hX_2, hX_3⟩ | go_keep) (first | (go_at_call 16; refine (laws_toCircuit a b A B n c m d gl ol _ (h.keep (by first | exact hW | exact hW.drew)) (by omega) (by omega)).mono ?_; rintro e w1 ⟨A30, c30, B30, d30, rfl, hC30, hb30⟩; replace hW := (by first | exact hW.call hb30 | exact hW.drew.call hb30 | exact (hW.alloc _).call hb30 | exact (hW.alloc _).drew.call hb30 | exact (hW.drewN _).call hb30 | exact (hW.drew.alloc _).call hb30 | exact ((hW.alloc _).alloc _).call hb30 | exact ((hW.alloc _).alloc _).drew.call hb30 | exact (((hW.alloc _).alloc _).alloc _).call hb30); replace hA := (by first | exact hA.keep hb30 | exact hA.drew.keep hb30 | exact (hA.alloc _).keep hb30 | exact (hA.alloc _).drew.keep hb30 | exact (hA.drewN _).keep hb30 | exact (hA.drew.alloc _).keep hb30 | exact ((hA.alloc _).alloc _).keep hb30 | exact ((hA.alloc _).alloc _).drew.keep hb30 | exact (((hA.alloc _).alloc _).alloc _).keep hb30); replace hX := (by first | exact hX.keep hb30 | exact hX.drew.keep hb30 | exact (hX.alloc _).keep hb30 | exact (hX.alloc _).drew.keep hb30 | exact (hX.drewN _).keep hb30 | exact (hX.drew.alloc _).keep hb30 | exact ((hX.alloc _).alloc _).keep hb30 | exact ((hX.alloc _).alloc _).drew.keep hb30 | exact (((hX.alloc _).alloc _).alloc _).keep hb30); clear hA_l hA_0 hA_1 hA_2 hA_3 hX_l hX_0 hX_1 hX_2 hX_3; have hA_l := hA.lt; have hA_0 := hA.cell 0 _ rfl; have hA_1 := hA.cell 1 _ rfl; have hA_2 := hA.cell 2 _ rfl; have hA_3 := hA.cell 3 _ rfl; have hX_l := hX.lt; have hX_0 := hX.cell 0 _ rfl; have hX_1 := hX.cell 1 _ rfl; have hX_2 := hX.cell 2 _ rfl; have hX_3 := hX.cell 3 _ rfl; replace h3 := (by first | exact h3.keep hb30 | exact (h3.keep (Bl.refl _).drew).keep hb30 | exact (h3.keep ((Bl.refl _).drew)).keep hb30 | exact h3.keep ((Bl.refl _).drew.call hb30)); replace hC4 := (by first | exact hC4.keep hb30 | exact (hC4.keep (Bl.refl _).drew).keep hb30 | exact (hC4.keep ((Bl.refl _).drew)).keep hb30 | exact hC4.keep ((Bl.refl _).drew.call hb30)); replace hiP := (by first | exact hiP.keep hb30 | exact (hiP.keep (Bl.refl _).drew).keep hb30 | exact (hiP.keep ((Bl.refl _).drew)).keep hb30 | exact hiP.keep ((Bl.refl _).drew.call hb30)); replace hiU := (by first | exact hiU.keep hb30 | exact (hiU.keep (Bl.refl _).drew).keep hb30 | exact (hiU.keep ((Bl.refl _).drew)).keep hb30 | exact hiU.keep ((Bl.refl _).drew.call hb30)); replace hiV := (by first | exact hiV.keep hb30 | exact (hiV.keep (Bl.refl _).drew).keep hb30 | exact (hiV.keep ((Bl.refl _).drew)).keep hb30 | exact hiV.keep ((Bl.refl _).drew.call hb30)); replace h5 := (by first | exact h5.keep hb30 | exact (h5.keep (Bl.refl _).drew).keep hb30 | exact (h5.keep ((Bl.refl _).drew)).keep hb30 | exact h5.keep ((Bl.refl _).drew.call hb30))) | (go_at_call 18; refine (laws_eqCircuit a b A8 B8 A30 B30 n c8 m d8 c30 d30 gl ol _ (OwnC.rd hC4) hC30.rd).mono ?_; rintro e w1 ⟨rfl, hb31⟩; replace hW := (by first | exact hW.call hb31 | exact hW.drew.call hb31 | exact (hW.alloc _).call hb31 | exact (hW.alloc _).drew.call hb31 | exact (hW.drewN _).call hb31 | exact (hW.drew.alloc _).call hb31 | exact ((hW.alloc _).alloc _).call hb31 | exact ((hW.alloc _).alloc _).drew.call hb31 | exact (((hW.alloc _).alloc _).alloc _).call hb31); replace hA := (by first | exact hA.keep hb31 | exact hA.drew.keep hb31 | exact (hA.alloc _).keep hb31 | exact (hA.alloc _).drew.keep hb31 | exact (hA.drewN _).keep hb31 | exact (hA.drew.alloc _).keep hb31 | exact ((hA.alloc _).alloc _).keep hb31 | exact ((hA.alloc _).alloc _).drew.keep hb31 | exact (((hA.alloc _).alloc _).alloc _).keep hb31); replace hX := (by first | exact hX.keep hb31 | exact hX.drew.keep hb31 | exact (hX.alloc _).keep hb31 | exact (hX.alloc _).drew.keep hb31 | exact (hX.drewN _).keep hb31 | exact (hX.drew.alloc _).keep hb31 | exact ((hX.alloc _).alloc _).keep hb31 | exact ((hX.alloc _).alloc _).drew.keep hb31 | exact (((hX.alloc _).alloc _).alloc _).keep hb31); clear hA_l hA_0 hA_1 hA_2 hA_3 hX_l hX_0 hX_1 hX_2 hX_3; have hA_l := hA.lt; have hA_0 := hA.cell 0 _ rfl; have hA_1 := hA.cell 1 _ rfl; have hA_2 := hA.cell 2 _ rfl; have hA_3 := hA.cell 3 _ rfl; have hX_l := hX.lt; have hX_0 := hX.cell 0 _ rfl; have hX_1 := hX.cell 1 _ rfl; have hX_2 := hX.cell 2 _ rfl; have hX_3 := hX.cell 3 _ rfl; replace h3 := (by first | exact h3.keep hb31 | exact (h3.keep (Bl.refl _).drew).keep hb31 | exact (h3.keep ((Bl.refl _).drew)).keep hb31 | exact h3.keep ((Bl.refl _).drew.call hb31)); replace hC4 := (by first | exact hC4.keep hb31 | exact (hC4.keep (Bl.refl _).drew).keep hb31 | exact (hC4.keep ((Bl.refl _).drew)).keep hb31 | exact hC4.keep ((Bl.refl _).drew.call hb31)); replace hiP := (by first | exact hiP.keep hb31 | exact (hiP.keep (Bl.refl _).drew).keep hb31 | exact (hiP.keep ((Bl.refl _).drew)).keep hb31 | exact hiP.keep ((Bl.refl _).drew.call hb31)); replace hiU := (by first | exact hiU.keep hb31 | exact (hiU.keep (Bl.refl _).drew).keep hb31 | exact (hiU.keep ((Bl.refl _).drew)).keep hb31 | exact hiU.keep ((Bl.refl _).drew.call hb31)); replace hiV := (by first | exact hiV.keep hb31 | exact (hiV.keep (Bl.refl _).drew).keep hb31 | exact (hiV.keep ((Bl.refl _).drew)).keep hb31 | exact hiV.keep ((Bl.refl _).drew.call hb31)); replace h5 := (by first | exact h5.keep hb31 | exact (h5.keep (Bl.refl _).drew).keep hb31 | exact (h5.keep ((Bl.refl _).drew)).keep hb31 | exact h5.keep ((Bl.refl _).drew.call hb31))))
  go_wp2_with fail
  refine (laws_toIntS TP nP cP lP _ (hP.keep hW) (by omega)).mono ?_
  rintro e w14 ⟨XPe, dPe, rfl, heP, hb14⟩
  replace hA := hA.keep hb14
  replace h3 := h3.keep hb14
  replace hC4 := hC4.keep hb14
  replace hiP := hiP.keep hb14
  replace hX := hX.keep hb14
  replace hiU := hiU.keep hb14
  replace hiV := hiV.keep hb14
  replace h5 := h5.keep hb14
  replace hW := hW.call hb14
  (try clear hA_l hA_0 hA_1 hA_2 hA_3 hX_l hX_0 hX_1 hX_2 hX_3)
  have hA_l := hA.lt; have hA_0 := hA.cell 0 _ rfl; have hA_1 := hA.cell 1 _ rfl; have hA_2 := hA.cell 2 _ rfl; have hA_3 := hA.cell 3 _ rfl; have hX_l := hX.lt; have hX_0 := hX.cell 0 _ rfl; have hX_1 := hX.cell 1 _ rfl; have hX_2 := hX.cell 2 _ rfl; have hX_3 := hX.cell 3 _ rfl
  go_wp2_with fail
  refine (laws_eqIntS _ _ _ _ _ _ _ _ _ hiP.rd heP.rd).mono ?_
  rintro e w15 ⟨rfl, hb15⟩
  replace hA := hA.keep hb15
  replace h3 := h3.keep hb15
  replace hC4 := hC4.keep hb15
  replace hiP := hiP.keep hb15
  replace hX := hX.keep hb15
  replace hiU := hiU.keep hb15
  replace hiV := hiV.keep hb15
  replace h5 := h5.keep hb15
  replace heP := heP.keep hb15
  replace hW := hW.call hb15
  (try clear hA_l hA_0 hA_1 hA_2 hA_3 hX_l hX_0 hX_1 hX_2 hX_3)
  have hA_l := hA.lt; have hA_0 := hA.cell 0 _ rfl; have hA_1 := hA.cell 1 _ rfl; have hA_2 := hA.cell 2 _ rfl; have hA_3 := hA.cell 3 _ rfl; have hX_l := hX.lt; have hX_0 := hX.cell 0 _ rfl; have hX_1 := hX.cell 1 _ rfl; have hX_2 := hX.cell 2 _ rfl; have hX_3 := hX.cell 3 _ rfl
  go_wp2_with fail
  refine (laws_toIntS TU nU cU lU _ (hU.keep hW) (by omega)).mono ?_
  rintro e w16 ⟨XUe, dUe, rfl, heU, hb16⟩
  replace hA := hA.keep hb16
  replace h3 := h3.keep hb16
  replace hC4 := hC4.keep hb16
  replace hiP := hiP.keep hb16
  replace hX := hX.keep hb16
  replace hiU := hiU.keep hb16
  replace hiV := hiV.keep hb16
  replace h5 := h5.keep hb16
  replace hW := hW.call hb16
  (try clear hA_l hA_0 hA_1 hA_2 hA_3 hX_l hX_0 hX_1 hX_2 hX_3)
  have hA_l := hA.lt; have hA_0 := hA.cell 0 _ rfl; have hA_1 := hA.cell 1 _ rfl; have hA_2 := hA.cell 2 _ rfl; have hA_3 := hA.cell 3 _ rfl; have hX_l := hX.lt; have hX_0 := hX.cell 0 _ rfl; have hX_1 := hX.cell 1 _ rfl; have hX_2 := hX.cell 2 _ rfl; have hX_3 := hX.cell 3 _ rfl
  go_wp2_with fail
  refine (laws_eqIntS _ _ _ _ _ _ _ _ _ hiU.rd heU.rd).mono ?_
  rintro e w17 ⟨rfl, hb17⟩
  replace hA := hA.keep hb17
  replace h3 := h3.keep hb17
  replace hC4 := hC4.keep hb17
  replace hiP := hiP.keep hb17
  replace hX := hX.keep hb17
  replace hiU := hiU.keep hb17
  replace hiV := hiV.keep hb17
  replace h5 := h5.keep hb17
  replace heU := heU.keep hb17
  replace hW := hW.call hb17
  (try clear hA_l hA_0 hA_1 hA_2 hA_3 hX_l hX_0 hX_1 hX_2 hX_3)
  have hA_l := hA.lt; have hA_0 := hA.cell 0 _ rfl; have hA_1 := hA.cell 1 _ rfl; have hA_2 := hA.cell 2 _ rfl; have hA_3 := hA.cell 3 _ rfl; have hX_l := hX.lt; have hX_0 := hX.cell 0 _ rfl; have hX_1 := hX.cell 1 _ rfl; have hX_2 := hX.cell 2 _ rfl; have hX_3 := hX.cell 3 _ rfl
  go_wp2_with fail
  refine (laws_toIntS TV nV cV lV _ (hV.keep hW) (by omega)).mono ?_
  rintro e w18 ⟨XVe, dVe, rfl, heV, hb18⟩
  replace hA := hA.keep hb18
  replace h3 := h3.keep hb18
  replace hC4 := hC4.keep hb18
  replace hiP := hiP.keep hb18
  replace hX := hX.keep hb18
  replace hiU := hiU.keep hb18
  replace hiV := hiV.keep hb18
  replace h5 := h5.keep hb18
  replace hW := hW.call hb18
  (try clear hA_l hA_0 hA_1 hA_2 hA_3 hX_l hX_0 hX_1 hX_2 hX_3)
  have hA_l := hA.lt; have hA_0 := hA.cell 0 _ rfl; have hA_1 := hA.cell 1 _ rfl; have hA_2 := hA.cell 2 _ rfl; have hA_3 := hA.cell 3 _ rfl; have hX_l := hX.lt; have hX_0 := hX.cell 0 _ rfl; have hX_1 := hX.cell 1 _ rfl; have hX_2 := hX.cell 2 _ rfl; have hX_3 := hX.cell 3 _ rfl
  go_wp2_with fail
  refine (laws_eqIntS _ _ _ _ _ _ _ _ _ hiV.rd heV.rd).mono ?_
  rintro e w19 ⟨rfl, hb19⟩
  replace hA := hA.keep hb19
  replace h3 := h3.keep hb19
  replace hC4 := hC4.keep hb19
  replace hiP := hiP.keep hb19
  replace hX := hX.keep hb19
  replace hiU := hiU.keep hb19
  replace hiV := hiV.keep hb19
  replace h5 := h5.keep hb19
  replace heV := heV.keep hb19
  replace hW := hW.call hb19
  (try clear hA_l hA_0 hA_1 hA_2 hA_3 hX_l hX_0 hX_1 hX_2 hX_3)
  have hA_l := hA.lt; have hA_0 := hA.cell 0 _ rfl; have hA_1 := hA.cell 1 _ rfl; have hA_2 := hA.cell 2 _ rfl; have hA_3 := hA.cell 3 _ rfl; have hX_l := hX.lt; have hX_0 := hX.cell 0 _ rfl; have hX_1 := hX.cell 1 _ rfl; have hX_2 := hX.cell 2 _ rfl; have hX_3 := hX.cell 3 _ rfl
  have aA3 : ∀ a, As = some a → some a.block ≠ A8.map (·.block) := ne_of_lt_le b3 (fun k hk => (b4A k hk).1)
  have aB3 : ∀ a, As = some a → some a.block ≠ B8.map (·.block) := ne_of_lt_le b3 (fun k hk => (b4B k hk).1)
  have aA5 : ∀ a, Ai = some a → some a.block ≠ A8.map (·.block) := ne_of_le_lt b5 (fun k hk => by have := (b4A k hk).2; omega)
  have aB5 : ∀ a, Ai = some a → some a.block ≠ B8.map (·.block) := ne_of_le_lt b5 (fun k hk => by have := (b4B k hk).2; omega)
  have a35 : ∀ a, As = some a → some a.block ≠ Ai.map (·.block) := ne_of_lt_le (fun k hk => (by have := b3 k hk; omega : k < w11.heap.size)) b5
  have a3P : ∀ a, As = some a → some a.block ≠ XPi.map (·.block) := ne_of_lt_le (b := w8.heap.size) (fun k hk => by have := b3 k hk; omega) (fun k hk => by have := (bP k hk).1; (try simp at this); omega)
  have a5P : ∀ a, Ai = some a → some a.block ≠ XPi.map (·.block) := ne_of_le_lt b5 (fun k hk => by have := (bP k hk).2; omega)
  have a3U : ∀ a, As = some a → some a.block ≠ XUi.map (·.block) := ne_of_lt_le (b := w8.heap.size) (fun k hk => by have := b3 k hk; omega) (fun k hk => by have := (bU k hk).1; (try simp at this); omega)
  have a5U : ∀ a, Ai = some a → some a.block ≠ XUi.map (·.block) := ne_of_le_lt b5 (fun k hk => by have := (bU k hk).2; omega)
  have a3V : ∀ a, As = some a → some a.block ≠ XVi.map (·.block) := ne_of_lt_le (b := w8.heap.size) (fun k hk => by have := b3 k hk; omega) (fun k hk => by have := (bV k hk).1; (try simp at this); omega)
  have a5V : ∀ a, Ai = some a → some a.block ≠ XVi.map (·.block) := ne_of_le_lt b5 (fun k hk => by have := (bV k hk).2; omega)
  have axUP : ∀ a, XUi = some a → some a.block ≠ XPi.map (·.block) := by
    rintro q rfl he
    have e1 := (bU q.block rfl).1
    have e2 := (bP q.block he.symm).2
    (try simp at e1); omega
  have axVP : ∀ a, XVi = some a → some a.block ≠ XPi.map (·.block) := by
    rintro q rfl he
    have e1 := (bV q.block rfl).1
    have e2 := (bP q.block he.symm).2
    (try simp at e1); omega
  have axVU : ∀ a, XVi = some a → some a.block ≠ XUi.map (·.block) := by
    rintro q rfl he
    have e1 := (bV q.block rfl).1
    have e2 := (bU q.block he.symm).2
    (try simp at e1); omega
  have aAP : ∀ a, XPi = some a → some a.block ≠ A8.map (·.block) := ne_of_le_lt (b := w8.heap.size) (fun k hk => by have := (bP k hk).1; (try simp at this); omega) (fun k hk => (b4A k hk).2)
  have aBP : ∀ a, XPi = some a → some a.block ≠ B8.map (·.block) := ne_of_le_lt (b := w8.heap.size) (fun k hk => by have := (bP k hk).1; (try simp at this); omega) (fun k hk => (b4B k hk).2)
  have aAU : ∀ a, XUi = some a → some a.block ≠ A8.map (·.block) := ne_of_le_lt (b := w8.heap.size) (fun k hk => by have := (bU k hk).1; (try simp at this); omega) (fun k hk => (b4A k hk).2)
  have aBU : ∀ a, XUi = some a → some a.block ≠ B8.map (·.block) := ne_of_le_lt (b := w8.heap.size) (fun k hk => by have := (bU k hk).1; (try simp at this); omega) (fun k hk => (b4B k hk).2)
  have aAV : ∀ a, XVi = some a → some a.block ≠ A8.map (·.block) := ne_of_le_lt (b := w8.heap.size) (fun k hk => by have := (bV k hk).1; (try simp at this); omega) (fun k hk => (b4A k hk).2)
  have aBV : ∀ a, XVi = some a → some a.block ≠ B8.map (·.block) := ne_of_le_lt (b := w8.heap.size) (fun k hk => by have := (bV k hk).1; (try simp at this); omega) (fun k hk => (b4B k hk).2)
  go_wp2_with fail
  refine (laws_markCircuit2 a b A8 B8 n c8 m d8 _ gl ol _ hC4 (by omega) (by omega)).mono ?_
  rintro e w40 ⟨rm, wa, wb, wx, rfl, hrm, hrm2, hba, hgb, hgc⟩
  replace h3 := OwnI.grown (OwnI.grown (h3.keep hba) hgb aA3) hgc aB3
  replace h5 := OwnI.grown (OwnI.grown (h5.keep hba) hgb aA5) hgc aB5
  replace hiP := OwnI.grown (OwnI.grown (hiP.keep hba) hgb aAP) hgc aBP
  replace hiU := OwnI.grown (OwnI.grown (hiU.keep hba) hgb aAU) hgc aBU
  replace hiV := OwnI.grown (OwnI.grown (hiV.keep hba) hgb aAV) hgc aBV
  replace hW := ((hW.call hba).grown hgb (fun k hk => Nat.le_trans s3 (b4A k hk).1)).grown hgc (fun k hk => Nat.le_trans s3 (b4B k hk).1)
  clear hX hX_l hX_0 hX_1 hX_2 hX_3 hC4
  replace hA := Blk.grown (Blk.grown (hA.keep hba) hgb (by intro he; have := (b4A _ he.symm).1; omega)) hgc (by intro he; have := (b4B _ he.symm).1; omega)
  clear hgb hgc hba
  (try clear hA_l hA_0 hA_1 hA_2 hA_3)
  have hA_l := hA.lt; have hA_0 := hA.cell 0 _ rfl; have hA_1 := hA.cell 1 _ rfl; have hA_2 := hA.cell 2 _ rfl; have hA_3 := hA.cell 3 _ rfl
  have i0 : 0 ≤ rm := hrm
  skip
  go_wp2_with fail
  refine (laws_markIntS _ _ _ _ _ rm _ hiP (by omega) (by omega)).mono ?_
  rintro e wm0 ⟨rfl, hmmP, hgm⟩
  replace h3 := OwnI.grown h3 hgm a3P
  replace h5 := OwnI.grown h5 hgm a5P
  replace hiU := OwnI.grown hiU hgm axUP
  replace hiV := OwnI.grown hiV hgm axVP
  replace hW := hW.grown hgm (fun k hk => by have := (bP k hk).1; (try simp at this); omega)
  replace hA := Blk.grown hA hgm (by intro he; have := (bP _ he.symm).1; (try simp at this); omega)
  clear hgm hiP hmmP
  (try clear hA_l hA_0 hA_1 hA_2 hA_3)
  have hA_l := hA.lt; have hA_0 := hA.cell 0 _ rfl; have hA_1 := hA.cell 1 _ rfl; have hA_2 := hA.cell 2 _ rfl; have hA_3 := hA.cell 3 _ rfl
  go_wp2_with fail
  refine (laws_markIntS _ _ _ _ _ _ _ hiU (by omega) (by omega)).mono ?_
  rintro e wm1 ⟨rfl, hmmU, hgm⟩
  replace h3 := OwnI.grown h3 hgm a3U
  replace h5 := OwnI.grown h5 hgm a5U
  replace hiV := OwnI.grown hiV hgm axVU
  replace hW := hW.grown hgm (fun k hk => by have := (bU k hk).1; (try simp at this); omega)
  replace hA := Blk.grown hA hgm (by intro he; have := (bU _ he.symm).1; (try simp at this); omega)
  clear hgm hiU hmmU
  (try clear hA_l hA_0 hA_1 hA_2 hA_3)
  have hA_l := hA.lt; have hA_0 := hA.cell 0 _ rfl; have hA_1 := hA.cell 1 _ rfl; have hA_2 := hA.cell 2 _ rfl; have hA_3 := hA.cell 3 _ rfl
  go_wp2_with fail
  refine (laws_markIntS _ _ _ _ _ _ _ hiV (by omega) (by omega)).mono ?_
  rintro e wm2 ⟨rfl, hmmV, hgm⟩
  replace h3 := OwnI.grown h3 hgm a3V
  replace h5 := OwnI.grown h5 hgm a5V
  replace hW := hW.grown hgm (fun k hk => by have := (bV k hk).1; (try simp at this); omega)
  replace hA := Blk.grown hA hgm (by intro he; have := (bV _ he.symm).1; (try simp at this); omega)
  clear hgm hiV hmmV
  (try clear hA_l hA_0 hA_1 hA_2 hA_3)
  have hA_l := hA.lt; have hA_0 := hA.cell 0 _ rfl; have hA_1 := hA.cell 1 _ rfl; have hA_2 := hA.cell 2 _ rfl; have hA_3 := hA.cell 3 _ rfl
  have i0k : ¬ (rm + (nP : Int) + (nU : Int) + (nV : Int) < 0) := by omega
  go_wp2_with fail
  refine (laws_eqIntS _ _ _ _ _ _ _ _ _ h5.rd h3.rd).mono ?_
  rintro e w51 ⟨rfl, hb51⟩
  replace hA := hA.keep hb51
  replace h3 := h3.keep hb51
  replace h5 := h5.keep hb51
  replace hW := hW.call hb51
  (try clear hA_l hA_0 hA_1 hA_2 hA_3)
  have hA_l := hA.lt; have hA_0 := hA.cell 0 _ rfl; have hA_1 := hA.cell 1 _ rfl; have hA_2 := hA.cell 2 _ rfl; have hA_3 := hA.cell 3 _ rfl
  have hlen := h5.length
  have hlb := evR_len a b gl ol lP lU lV
  have hn5 : ni ≤ 1000000000000000000 := by omega
  clear hlen hlb
  go_wp2_with fail
  refine (laws_markIntS _ _ _ _ _ 1 _ h5 (by omega) (by omega)).mono ?_
  rintro e w60 ⟨rfl, hm5, hgm⟩
  replace h3 := OwnI.grown h3 hgm a35
  replace hW := hW.grown hgm (fun k hk => by have := b5 k hk; omega)
  replace hA := Blk.grown hA hgm (by intro he; have := b5 _ he.symm; omega)
  clear hgm h5
  (try clear hA_l hA_0 hA_1 hA_2 hA_3)
  have hA_l := hA.lt; have hA_0 := hA.cell 0 _ rfl; have hA_1 := hA.cell 1 _ rfl; have hA_2 := hA.cell 2 _ rfl; have hA_3 := hA.cell 3 _ rfl
  go_wp2_with fail
  refine (laws_heldIntS _ _ _ 1 _ hm5.rd (by omega) (by omega)).mono ?_
  rintro e w61 ⟨rfl, rfl⟩
  go_wp2_with fail
  refine (laws_toCircuit a b A B n c m d gl ol _ (h.keep hW) (by omega) (by omega)).mono ?_
  rintro e w62 ⟨A62, c62, B62, d62, rfl, hC6, hb62⟩
  replace hA := hA.keep hb62
  replace h3 := h3.keep hb62
  replace hm5 := hm5.keep hb62
  replace hW := hW.call hb62
  (try clear hA_l hA_0 hA_1 hA_2 hA_3)
  have hA_l := hA.lt; have hA_0 := hA.cell 0 _ rfl; have hA_1 := hA.cell 1 _ rfl; have hA_2 := hA.cell 2 _ rfl; have hA_3 := hA.cell 3 _ rfl
  go_wp2_with fail
  refine (laws_toIntS TP nP cP lP _ (hP.keep hW) (by omega)).mono ?_
  rintro e w63 ⟨XPh, dPh, rfl, hhP, hb63⟩
  replace hA := hA.keep hb63
  replace h3 := h3.keep hb63
  replace hm5 := hm5.keep hb63
  replace hC6 := hC6.keep hb63
  replace hW := hW.call hb63
  (try clear hA_l hA_0 hA_1 hA_2 hA_3)
  have hA_l := hA.lt; have hA_0 := hA.cell 0 _ rfl; have hA_1 := hA.cell 1 _ rfl; have hA_2 := hA.cell 2 _ rfl; have hA_3 := hA.cell 3 _ rfl
  go_wp2_with fail
  refine (laws_toIntS TU nU cU lU _ (hU.keep hW) (by omega)).mono ?_
  rintro e w64 ⟨XUh, dUh, rfl, hhU, hb64⟩
  replace hA := hA.keep hb64
  replace h3 := h3.keep hb64
  replace hm5 := hm5.keep hb64
  replace hC6 := hC6.keep hb64
  replace hhP := hhP.keep hb64
  replace hW := hW.call hb64
  (try clear hA_l hA_0 hA_1 hA_2 hA_3)
  have hA_l := hA.lt; have hA_0 := hA.cell 0 _ rfl; have hA_1 := hA.cell 1 _ rfl; have hA_2 := hA.cell 2 _ rfl; have hA_3 := hA.cell 3 _ rfl
  go_wp2_with fail
  refine (laws_toIntS TV nV cV lV _ (hV.keep hW) (by omega)).mono ?_
  rintro e w65 ⟨XVh, dVh, rfl, hhV, hb65⟩
  replace hA := hA.keep hb65
  replace h3 := h3.keep hb65
  replace hm5 := hm5.keep hb65
  replace hC6 := hC6.keep hb65
  replace hhP := hhP.keep hb65
  replace hhU := hhU.keep hb65
  replace hW := hW.call hb65
  (try clear hA_l hA_0 hA_1 hA_2 hA_3)
  have hA_l := hA.lt; have hA_0 := hA.cell 0 _ rfl; have hA_1 := hA.cell 1 _ rfl; have hA_2 := hA.cell 2 _ rfl; have hA_3 := hA.cell 3 _ rfl
  go_wp2_with fail
  refine (impl_EvalInCells a b A62 B62 XPh XUh XVh n c62 m d62 nP dPh nU dUh nV dVh gl ol lP lU lV _ hC6.1.rd hC6.2.1.rd hhP.rd hhU.rd hhV.rd).mono ?_
  rintro e w66 ⟨Ah, nh, ch, rfl, h7, hb66⟩
  replace hA := hA.keep hb66
  replace h3 := h3.keep hb66
  replace hm5 := hm5.keep hb66
  replace hC6 := hC6.keep hb66
  replace hhP := hhP.keep hb66
  replace hhU := hhU.keep hb66
  replace hhV := hhV.keep hb66
  replace hW := hW.call hb66
  (try clear hA_l hA_0 hA_1 hA_2 hA_3)
  have hA_l := hA.lt; have hA_0 := hA.cell 0 _ rfl; have hA_1 := hA.cell 1 _ rfl; have hA_2 := hA.cell 2 _ rfl; have hA_3 := hA.cell 3 _ rfl
  go_wp2_with fail
  refine (laws_eqIntS _ _ _ _ _ _ _ _ _ h7.rd h3.rd).mono ?_
  rintro e w67 ⟨rfl, hb67⟩
  replace hA := hA.keep hb67
  replace h3 := h3.keep hb67
  replace hm5 := hm5.keep hb67
  replace hC6 := hC6.keep hb67
  replace hhP := hhP.keep hb67
  replace hhU := hhU.keep hb67
  replace hhV := hhV.keep hb67
  replace hW := hW.call hb67
  (try clear hA_l hA_0 hA_1 hA_2 hA_3)
  have hA_l := hA.lt; have hA_0 := hA.cell 0 _ rfl; have hA_1 := hA.cell 1 _ rfl; have hA_2 := hA.cell 2 _ rfl; have hA_3 := hA.cell 3 _ rfl
  go_wp2_with fail
  refine (laws_heldIntS _ _ _ 1 _ hm5.rd (by omega) (by omega)).mono ?_
  rintro e w90 ⟨rfl, rfl⟩
  go_wp2
  go_ret
  exact ⟨rfl, hW⟩
end Go.Proofs.Ytghoaheajgedoaa
