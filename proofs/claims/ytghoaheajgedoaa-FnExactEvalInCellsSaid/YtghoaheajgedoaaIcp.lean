/- Contracts of IsCellPlan, and the walk of its law.
   Conditions: none. -/
import Derived.Test.YtghoaheajgedoaaIpl
namespace Go.Proofs.Ytghoaheajgedoaa
open Go.RowKit
set_option linter.unusedVariables false
def rgB (a b : Int) (gl : List Gt) (ol P : List Int) : Bool := rightB P (luL ((a + b).toNat + gl.length) gl ol) (a + b).toNat gl.length
def icV (a b : Int) (gl : List Gt) (ol P : List Int) : Bool := goodC a b gl ol && rgB a b gl ol P
set_option maxHeartbeats 1000000 in
theorem impl_IsCellPlan (a b : Int) (Ag Ao Ap : Option Addr) (n cg m co np cp : Nat) (gl : List Gt) (ol P : List Int) (w : World) (hg : RdG w Ag n cg gl) (ho : RdI w Ao m co ol) (hp : RdI w Ap np cp P) :
    Calls Try.prog 40 #[.agg #[.int .i64 a, .int .i64 b, .slice Ag n cg, .slice Ao m co], .slice Ap np cp] w fun e w' => e = .returned (.tuple #[.bool (icV a b gl ol P), .bool (goodC a b gl ol)]) ∧ Bl w w' := by
  have hW := (Bl.refl w).alloc (.cells #[.int .i64 a, .int .i64 b, .slice Ag n cg, .slice Ao m co] 31)
  have hB := Blk.new w 31 #[.int .i64 a, .int .i64 b, .slice Ag n cg, .slice Ao m co]
  have hG := Lib.hid (impl_IsCircuit a b Ag Ao n cg m co gl ol (w.alloc (.cells #[.int .i64 a, .int .i64 b, .slice Ag n cg, .slice Ao m co] 31)) (hg.keep hW) (ho.keep hW))
  rcases hgd : goodC a b gl ol
  · rw [hgd] at hG
    have hR := Lib.hid (show icV a b gl ol P = false by simp [icV, hgd])
    go_enter Try.func40, Try.ntmps40
    go_wp2_with (go_at_call 53; refine hG.out.mono ?_; rintro e w1 ⟨rfl, hb1⟩)
    go_ret2
    exact ⟨by rw [hR.out]; rfl, (by (repeat (first | assumption | with_reducible exact Bl.refl _ | with_reducible refine Bl.drewN ?_ _ | with_reducible refine Bl.drew ?_ | with_reducible refine Bl.alloc ?_ _ | (with_reducible refine Bl.call ?_ (by assumption)))))⟩
  · rw [hgd] at hG
    have HGD := Lib.hid hgd
    have hR := Lib.hid (show icV a b gl ol P = rightB P (luL ((a + b).toNat + n) gl ol) (a + b).toNat n by simp [icV, hgd, rgB, hg.2])
    clear hgd
    go_enter Try.func40, Try.ntmps40
    go_wp2_with (first | (go_at_call 53; refine hG.out.mono ?_; rintro e w1 ⟨rfl, hb1⟩; replace hB := hB.keep hb1; replace hW := hW.call hb1; have hB_l := hB.lt; have hB_0 := hB.cell 0 _ rfl; have hB_1 := hB.cell 1 _ rfl; have hB_2 := hB.cell 2 _ rfl; have hB_3 := hB.cell 3 _ rfl) | (go_at_call 71; refine (impl_isPlan a b Ag Ao Ap n cg m co np cp gl ol P _ (hg.keep hW) (ho.keep hW) (hp.keep hW) HGD.out).mono ?_; rintro e w2 ⟨rfl, hb2⟩))
    go_ret2
    exact ⟨by rw [hR.out]; rfl, hW.call hb2⟩
set_option maxHeartbeats 1000000 in
theorem spec_IsCellPlan (a b : Int) (Ag Ao Ap : Option Addr) (n cg m co np cp : Nat) (gl : List Gt) (ol P : List Int) (w : World) (hg : RdG w Ag n cg gl) (ho : RdI w Ao m co ol) (hp : RdI w Ap np cp P) :
    Calls Try.prog 38 #[.agg #[.int .i64 a, .int .i64 b, .slice Ag n cg, .slice Ao m co], .slice Ap np cp] w fun e w' => e = .returned (.tuple #[.bool (icV a b gl ol P), .bool (goodC a b gl ol)]) ∧ Bl w w' := by
  have hW := (Bl.refl w).alloc (.cells #[.int .i64 a, .int .i64 b, .slice Ag n cg, .slice Ao m co] 31)
  have hB := Blk.new w 31 #[.int .i64 a, .int .i64 b, .slice Ag n cg, .slice Ao m co]
  have hG := Lib.hid (spec_ciGood a b Ag Ao n cg m co gl ol (w.alloc (.cells #[.int .i64 a, .int .i64 b, .slice Ag n cg, .slice Ao m co] 31)) (hg.keep hW) (ho.keep hW))
  rcases hgd : goodC a b gl ol
  · rw [hgd] at hG
    have hR := Lib.hid (show icV a b gl ol P = false by simp [icV, hgd])
    go_enter Try.func38, Try.ntmps38
    go_wp2_with (go_at_call 49; refine hG.out.mono ?_; rintro e w1 ⟨rfl, hb1⟩)
    go_ret2
    exact ⟨by rw [hR.out]; rfl, (by (repeat (first | assumption | with_reducible exact Bl.refl _ | with_reducible refine Bl.drewN ?_ _ | with_reducible refine Bl.drew ?_ | with_reducible refine Bl.alloc ?_ _ | (with_reducible refine Bl.call ?_ (by assumption)))))⟩
  · rw [hgd] at hG
    have HGD := Lib.hid hgd
    have hR := Lib.hid (show icV a b gl ol P = rightB P (luL ((a + b).toNat + n) gl ol) (a + b).toNat n by simp [icV, hgd, rgB, hg.2])
    clear hgd
    go_enter Try.func38, Try.ntmps38
    go_wp2_with (first | (go_at_call 49; refine hG.out.mono ?_; rintro e w1 ⟨rfl, hb1⟩; replace hB := hB.keep hb1; replace hW := hW.call hb1; have hB_l := hB.lt; have hB_0 := hB.cell 0 _ rfl; have hB_1 := hB.cell 1 _ rfl; have hB_2 := hB.cell 2 _ rfl; have hB_3 := hB.cell 3 _ rfl) | (go_at_call 70; refine (spec_svRight a b Ag Ao Ap n cg m co np cp gl ol P _ (hg.keep hW) (ho.keep hW) (hp.keep hW) HGD.out).mono ?_; rintro e w2 ⟨rfl, hb2⟩))
    go_ret2
    exact ⟨by rw [hR.out]; rfl, hW.call hb2⟩
set_option maxHeartbeats 8000000 in
theorem law_IsCellPlan (a b : Int) (A B : Option Addr) (n c m d : Nat) (TP : Option Addr) (nP cP : Nat) (lP : List Int) (gl : List Gt) (ol : List Int) (w : World) (h : RdC w A n c gl B m d ol) (hP : RdI w TP nP cP lP) :
    Calls Try.prog 10 #[.agg #[.int .i64 a, .int .i64 b, .slice A n c, .slice B m d], .slice TP nP cP] w fun e w' => e = .returned (.bool true) ∧ Bl w w' := by
  obtain ⟨hle1, hle2⟩ := h.g.le
  obtain ⟨hle3, hle4⟩ := h.o.le
  obtain ⟨hlxP, hlyP⟩ := hP.le
  by_cases qP : (1048576 : Int) < nP
  · go_enter Try.func10, Try.ntmps10
    go_wp2
    go_ret
    exact ⟨rfl, (by (repeat (first | assumption | with_reducible exact Bl.refl _ | with_reducible refine Bl.drewN ?_ _ | with_reducible refine Bl.drew ?_ | with_reducible refine Bl.alloc ?_ _ | (with_reducible refine Bl.call ?_ (by assumption)))))⟩
  have hW := (Bl.refl w).alloc (.cells #[.int .i64 a, .int .i64 b, .slice A n c, .slice B m d] 25)
  have hA := Blk.new w 25 #[.int .i64 a, .int .i64 b, .slice A n c, .slice B m d]
  (try clear hA_l hA_0 hA_1 hA_2 hA_3)
  have hA_l := hA.lt; have hA_0 := hA.cell 0 _ rfl; have hA_1 := hA.cell 1 _ rfl; have hA_2 := hA.cell 2 _ rfl; have hA_3 := hA.cell 3 _ rfl
  go_enter Try.func10, Try.ntmps10
  go_wp2_with fail
  refine (laws_szCircuit a b A B n c m d _ hle1 hle2 hle3 hle4).mono ?_
  rintro e w2 ⟨r, rfl, hr, hb2⟩
  replace hA := hA.keep hb2
  replace hW := hW.call hb2
  (try clear hA_l hA_0 hA_1 hA_2 hA_3)
  have hA_l := hA.lt; have hA_0 := hA.cell 0 _ rfl; have hA_1 := hA.cell 1 _ rfl; have hA_2 := hA.cell 2 _ rfl; have hA_3 := hA.cell 3 _ rfl
  rcases hr with rfl | ⟨hr0, hn, hm⟩
  · go_wp2
    go_ret
    exact ⟨rfl, hW⟩
  go_wp2_with fail
  refine (laws_toCircuit a b A B n c m d gl ol _ (h.keep hW) (by omega) (by omega)).mono ?_
  rintro e w3 ⟨A3, c3, B3, d3, rfl, hC2, hb3⟩
  replace hA := hA.keep hb3
  replace hW := hW.call hb3
  (try clear hA_l hA_0 hA_1 hA_2 hA_3)
  have hA_l := hA.lt; have hA_0 := hA.cell 0 _ rfl; have hA_1 := hA.cell 1 _ rfl; have hA_2 := hA.cell 2 _ rfl; have hA_3 := hA.cell 3 _ rfl
  go_wp2_with fail
  refine (laws_toIntS TP nP cP lP _ (hP.keep hW) (by omega)).mono ?_
  rintro e w4 ⟨XPs, dPs, rfl, hsP, hb4⟩
  replace hA := hA.keep hb4
  replace hC2 := hC2.keep hb4
  replace hW := hW.call hb4
  (try clear hA_l hA_0 hA_1 hA_2 hA_3)
  have hA_l := hA.lt; have hA_0 := hA.cell 0 _ rfl; have hA_1 := hA.cell 1 _ rfl; have hA_2 := hA.cell 2 _ rfl; have hA_3 := hA.cell 3 _ rfl
  go_wp2_with fail
  refine (spec_IsCellPlan a b A3 B3 XPs n c3 m d3 nP dPs gl ol lP _ hC2.1.rd hC2.2.1.rd hsP.rd).mono ?_
  rintro e w5 ⟨rfl, hb5⟩
  replace hA := hA.keep hb5
  replace hC2 := hC2.keep hb5
  replace hsP := hsP.keep hb5
  replace hW := hW.call hb5
  (try clear hA_l hA_0 hA_1 hA_2 hA_3)
  have hA_l := hA.lt; have hA_0 := hA.cell 0 _ rfl; have hA_1 := hA.cell 1 _ rfl; have hA_2 := hA.cell 2 _ rfl; have hA_3 := hA.cell 3 _ rfl
  clear hC2 hsP
  have s3 := hW.sz
  have sA3 := hA.lt
  go_wp2_with fail
  refine (laws_toCircuit a b A B n c m d gl ol _ (h.keep hW) (by omega) (by omega)).mono ?_
  rintro e w6 ⟨A6, c6, B6, d6, rfl, hC4, hb6⟩
  replace hA := hA.keep hb6
  replace hW := hW.call hb6
  (try clear hA_l hA_0 hA_1 hA_2 hA_3)
  have hA_l := hA.lt; have hA_0 := hA.cell 0 _ rfl; have hA_1 := hA.cell 1 _ rfl; have hA_2 := hA.cell 2 _ rfl; have hA_3 := hA.cell 3 _ rfl
  have b4A := hC4.1.blk
  have b4B := hC4.2.1.blk
  have s4 := hb6.sz
  have hX := Blk.new w6 31 #[.int .i64 a, .int .i64 b, .slice A6 n c6, .slice B6 m d6]
  obtain ⟨gx, hgx⟩ : ∃ g, w6.heap.size = g := ⟨_, rfl⟩
  replace hA := hA.alloc (.cells #[.int .i64 a, .int .i64 b, .slice A6 n c6, .slice B6 m d6] 31)
  replace hW := hW.alloc (.cells #[.int .i64 a, .int .i64 b, .slice A6 n c6, .slice B6 m d6] 31)
  replace hC4 := hC4.keep ((Bl.refl w6).alloc (.cells #[.int .i64 a, .int .i64 b, .slice A6 n c6, .slice B6 m d6] 31))
  go_wp2_with fail
  refine (laws_toIntS TP nP cP lP _ (hP.keep hW) (by omega)).mono ?_
  rintro e w7 ⟨XPi, dPi, rfl, hiP, hb7⟩
  replace hA := hA.keep hb7
  replace hC4 := hC4.keep hb7
  replace hW := hW.call hb7
  (try clear hA_l hA_0 hA_1 hA_2 hA_3)
  have hA_l := hA.lt; have hA_0 := hA.cell 0 _ rfl; have hA_1 := hA.cell 1 _ rfl; have hA_2 := hA.cell 2 _ rfl; have hA_3 := hA.cell 3 _ rfl
  rw [hgx] at hX
  replace hX := hX.keep hb7
  (try clear hA_l hA_0 hA_1 hA_2 hA_3 hX_l hX_0 hX_1 hX_2 hX_3)
  have hA_l := hA.lt; have hA_0 := hA.cell 0 _ rfl; have hA_1 := hA.cell 1 _ rfl; have hA_2 := hA.cell 2 _ rfl; have hA_3 := hA.cell 3 _ rfl; have hX_l := hX.lt; have hX_0 := hX.cell 0 _ rfl; have hX_1 := hX.cell 1 _ rfl; have hX_2 := hX.cell 2 _ rfl; have hX_3 := hX.cell 3 _ rfl
  have zP : w6.heap.size + 1 ≤ w7.heap.size := by have := hb7.sz; simpa using this
  have bP := hiP.blk
  go_wp2_with fail
  refine (impl_IsCellPlan a b A6 B6 XPi n c6 m d6 nP dPi gl ol lP _ hC4.1.rd hC4.2.1.rd hiP.rd).mono ?_
  rintro e w8 ⟨rfl, hb8⟩
  replace hA := hA.keep hb8
  replace hC4 := hC4.keep hb8
  replace hiP := hiP.keep hb8
  replace hX := hX.keep hb8
  replace hW := hW.call hb8
  (try clear hA_l hA_0 hA_1 hA_2 hA_3 hX_l hX_0 hX_1 hX_2 hX_3)
  have hA_l := hA.lt; have hA_0 := hA.cell 0 _ rfl; have hA_1 := hA.cell 1 _ rfl; have hA_2 := hA.cell 2 _ rfl; have hA_3 := hA.cell 3 _ rfl; have hX_l := hX.lt; have hX_0 := hX.cell 0 _ rfl; have hX_1 := hX.cell 1 _ rfl; have hX_2 := hX.cell 2 _ rfl; have hX_3 := hX.cell 3 _ rfl
  go_wp2_with fail
  go_region_held3 (fun w' => w'.cell? ⟨w.heap.size, 0, none⟩ = some (.int .i64 a) ∧ w'.cell? ⟨w.heap.size, 1, none⟩ = some (.int .i64 b) ∧ w'.cell? ⟨w.heap.size, 2, none⟩ = some (.slice A n c) ∧ w'.cell? ⟨w.heap.size, 3, none⟩ = some (.slice B m d) ∧ w'.cell? ⟨gx, 0, none⟩ = some (.int .i64 a) ∧ w'.cell? ⟨gx, 1, none⟩ = some (.int .i64 b) ∧ w'.cell? ⟨gx, 2, none⟩ = some (.slice A6 n c6) ∧ w'.cell? ⟨gx, 3, none⟩ = some (.slice B6 m d6)) (first | exact ⟨hA_0, hA_1, hA_2, hA_3, hX_0, hX_1, hX_2, hX_3⟩ | go_keep) (first | (go_at_call 16; refine (laws_toCircuit a b A B n c m d gl ol _ (h.keep (by first | exact hW | exact hW.drew)) (by omega) (by omega)).mono ?_; rintro e w1 ⟨A30, c30, B30, d30, rfl, hC30, hb30⟩; replace hW := (by first | exact hW.call hb30 | exact hW.drew.call hb30 | exact (hW.alloc _).call hb30 | exact (hW.alloc _).drew.call hb30 | exact (hW.drewN _).call hb30 | exact (hW.drew.alloc _).call hb30 | exact ((hW.alloc _).alloc _).call hb30 | exact ((hW.alloc _).alloc _).drew.call hb30 | exact (((hW.alloc _).alloc _).alloc _).call hb30); replace hA := (by first | exact hA.keep hb30 | exact hA.drew.keep hb30 | exact (hA.alloc _).keep hb30 | exact (hA.alloc _).drew.keep hb30 | exact (hA.drewN _).keep hb30 | exact (hA.drew.alloc _).keep hb30 | exact ((hA.alloc _).alloc _).keep hb30 | exact ((hA.alloc _).alloc _).drew.keep hb30 | exact (((hA.alloc _).alloc _).alloc _).keep hb30); replace hX := (by first | exact hX.keep hb30 | exact hX.drew.keep hb30 | exact (hX.alloc _).keep hb30 | exact (hX.alloc _).drew.keep hb30 | exact (hX.drewN _).keep hb30 | exact (hX.drew.alloc _).keep hb30 | exact ((hX.alloc _).alloc _).keep hb30 | exact ((hX.alloc _).alloc _).drew.keep hb30 | exact (((hX.alloc _).alloc _).alloc _).keep hb30); clear hA_l hA_0 hA_1 hA_2 hA_3 hX_l hX_0 hX_1 hX_2 hX_3; have hA_l := hA.lt; have hA_0 := hA.cell 0 _ rfl; have hA_1 := hA.cell 1 _ rfl; have hA_2 := hA.cell 2 _ rfl; have hA_3 := hA.cell 3 _ rfl; have hX_l := hX.lt; have hX_0 := hX.cell 0 _ rfl; have hX_1 := hX.cell 1 _ rfl; have hX_2 := hX.cell 2 _ rfl; have hX_3 := hX.cell 3 _ rfl; replace hC4 := (by first | exact hC4.keep hb30 | exact (hC4.keep (Bl.refl _).drew).keep hb30 | exact (hC4.keep ((Bl.refl _).drew)).keep hb30 | exact hC4.keep ((Bl.refl _).drew.call hb30)); replace hiP := (by first | exact hiP.keep hb30 | exact (hiP.keep (Bl.refl _).drew).keep hb30 | exact (hiP.keep ((Bl.refl _).drew)).keep hb30 | exact hiP.keep ((Bl.refl _).drew.call hb30))) | (go_at_call 18; refine (laws_eqCircuit a b A6 B6 A30 B30 n c6 m d6 c30 d30 gl ol _ (OwnC.rd hC4) hC30.rd).mono ?_; rintro e w1 ⟨rfl, hb31⟩; replace hW := (by first | exact hW.call hb31 | exact hW.drew.call hb31 | exact (hW.alloc _).call hb31 | exact (hW.alloc _).drew.call hb31 | exact (hW.drewN _).call hb31 | exact (hW.drew.alloc _).call hb31 | exact ((hW.alloc _).alloc _).call hb31 | exact ((hW.alloc _).alloc _).drew.call hb31 | exact (((hW.alloc _).alloc _).alloc _).call hb31); replace hA := (by first | exact hA.keep hb31 | exact hA.drew.keep hb31 | exact (hA.alloc _).keep hb31 | exact (hA.alloc _).drew.keep hb31 | exact (hA.drewN _).keep hb31 | exact (hA.drew.alloc _).keep hb31 | exact ((hA.alloc _).alloc _).keep hb31 | exact ((hA.alloc _).alloc _).drew.keep hb31 | exact (((hA.alloc _).alloc _).alloc _).keep hb31); replace hX := (by first | exact hX.keep hb31 | exact hX.drew.keep hb31 | exact (hX.alloc _).keep hb31 | exact (hX.alloc _).drew.keep hb31 | exact (hX.drewN _).keep hb31 | exact (hX.drew.alloc _).keep hb31 | exact ((hX.alloc _).alloc _).keep hb31 | exact ((hX.alloc _).alloc _).drew.keep hb31 | exact (((hX.alloc _).alloc _).alloc _).keep hb31); clear hA_l hA_0 hA_1 hA_2 hA_3 hX_l hX_0 hX_1 hX_2 hX_3; have hA_l := hA.lt; have hA_0 := hA.cell 0 _ rfl; have hA_1 := hA.cell 1 _ rfl; have hA_2 := hA.cell 2 _ rfl; have hA_3 := hA.cell 3 _ rfl; have hX_l := hX.lt; have hX_0 := hX.cell 0 _ rfl; have hX_1 := hX.cell 1 _ rfl; have hX_2 := hX.cell 2 _ rfl; have hX_3 := hX.cell 3 _ rfl; replace hC4 := (by first | exact hC4.keep hb31 | exact (hC4.keep (Bl.refl _).drew).keep hb31 | exact (hC4.keep ((Bl.refl _).drew)).keep hb31 | exact hC4.keep ((Bl.refl _).drew.call hb31)); replace hiP := (by first | exact hiP.keep hb31 | exact (hiP.keep (Bl.refl _).drew).keep hb31 | exact (hiP.keep ((Bl.refl _).drew)).keep hb31 | exact hiP.keep ((Bl.refl _).drew.call hb31))))
  go_wp2_with fail
  refine (laws_toIntS TP nP cP lP _ (hP.keep hW) (by omega)).mono ?_
  rintro e w9 ⟨XPe, dPe, rfl, heP, hb9⟩
  replace hA := hA.keep hb9
  replace hC4 := hC4.keep hb9
  replace hiP := hiP.keep hb9
  replace hX := hX.keep hb9
  replace hW := hW.call hb9
  (try clear hA_l hA_0 hA_1 hA_2 hA_3 hX_l hX_0 hX_1 hX_2 hX_3)
  have hA_l := hA.lt; have hA_0 := hA.cell 0 _ rfl; have hA_1 := hA.cell 1 _ rfl; have hA_2 := hA.cell 2 _ rfl; have hA_3 := hA.cell 3 _ rfl; have hX_l := hX.lt; have hX_0 := hX.cell 0 _ rfl; have hX_1 := hX.cell 1 _ rfl; have hX_2 := hX.cell 2 _ rfl; have hX_3 := hX.cell 3 _ rfl
  go_wp2_with fail
  refine (laws_eqIntS _ _ _ _ _ _ _ _ _ hiP.rd heP.rd).mono ?_
  rintro e w10 ⟨rfl, hb10⟩
  replace hA := hA.keep hb10
  replace hC4 := hC4.keep hb10
  replace hiP := hiP.keep hb10
  replace hX := hX.keep hb10
  replace heP := heP.keep hb10
  replace hW := hW.call hb10
  (try clear hA_l hA_0 hA_1 hA_2 hA_3 hX_l hX_0 hX_1 hX_2 hX_3)
  have hA_l := hA.lt; have hA_0 := hA.cell 0 _ rfl; have hA_1 := hA.cell 1 _ rfl; have hA_2 := hA.cell 2 _ rfl; have hA_3 := hA.cell 3 _ rfl; have hX_l := hX.lt; have hX_0 := hX.cell 0 _ rfl; have hX_1 := hX.cell 1 _ rfl; have hX_2 := hX.cell 2 _ rfl; have hX_3 := hX.cell 3 _ rfl
  go_wp2
  go_ret
  exact ⟨rfl, hW⟩
end Go.Proofs.Ytghoaheajgedoaa
