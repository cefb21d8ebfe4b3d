/- Contract of the reference's EvalInCells.
   Conditions: none. -/
import Derived.Test.YtlmlffiajgofeaaEvl
namespace Go.Proofs.Ytlmlffiajgofeaa
open Go.RowKit
set_option linter.unusedVariables false
theorem cell_farE {w : World} {g p : Nat} {v u : Value} {a : Addr} (hlt : a.block < w.heap.size) (hne : a.block ≠ g) (h : w.cell? a = some u) : (w.setCell ⟨g, p, none⟩ v).cell? a = some u := by
  rw [World.cell?_of_block (w := w) (w' := w.setCell ⟨g, p, none⟩ v) (a := a) ((grownBy_setCell w g p v).block _ hlt (by intro e; injection e with e; exact hne e))]
  exact h
theorem grown_drew {w w' : World} {row : Option Nat} (h : w.grownBy w' row) : w.grownBy w'.drew row :=
  have hb := Bl.drew (Bl.refl w')
  grownBy_trans h ⟨hb.os, hb.tape, hb.output, hb.size, fun k hk _ => hb.block k hk⟩
theorem at77i {w : World} {g : Nat} {cs : List Int} (h : Blk w g 3 (ints cs).toArray) {p : Nat} {u : Int} (hu : cs[p]? = some u) : w.cell? ⟨g, p, none⟩ = some (.int .i64 u) :=
  h.cell p _ (by rw [List.getElem?_toArray, ints_get, hu]; rfl)
theorem made1000 : madeCells #[.int .i64 0] 1000 = (ints C0).toArray := by
  apply Array.ext'
  rw [toList_madeCells_one]
  unfold C0
  rw [ints, List.map_replicate]
set_option maxRecDepth 20000 in
set_option maxHeartbeats 8000000 in
theorem spec_EvalInCells_t (a b : Int) (Ag Ao Ap Aa Ab : Option Addr) (n cg m co np cp na ca nb cb : Nat) (gl : List Gt) (ol P la lb : List Int) (w : World) (hg : RdG w Ag n cg gl) (ho : RdI w Ao m co ol) (hp : RdI w Ap np cp P) (ha : RdI w Aa na ca la) (hb : RdI w Ab nb cb lb) (hev : evB a b gl ol P la lb = true) :
    Calls Try.prog 37 #[.agg #[.int .i64 a, .int .i64 b, .slice Ag n cg, .slice Ao m co], .slice Ap np cp, .slice Aa na ca, .slice Ab nb cb] w fun e w' => ∃ A' n' c', e = .returned (.tuple #[.slice A' n' c', .bool true]) ∧ OwnI w.heap.size w' A' n' c' (evO a b gl ol P la lb) ∧ Bl w w' := by
  have hE := hev
  simp only [evB, Bool.and_eq_true] at hE
  obtain ⟨hask, hrt⟩ := hE
  obtain ⟨hgd, hla, hlb, hbit⟩ := ask_facts hask
  have hna0 := ha.length
  have hnb0 := hb.length
  rw [hna0] at hla
  rw [hnb0] at hlb
  subst hla
  subst hlb
  obtain ⟨a0, a1, b0, b1, hn, hm, hgs, hol⟩ := goodC_facts hgd
  have hgl := Lib.hid hg.2
  rw [hg.2] at hrt hn hol
  obtain ⟨hle1, hle2⟩ := hg.le
  obtain ⟨hle3, hle4⟩ := hp.le
  obtain ⟨hle5, hle6⟩ := ho.le
  have hmm := ho.length
  have hN : ((na : Int) + (nb : Int)).toNat = na + nb := by omega
  have hout : evO na nb gl ol P la lb = pickE (gaC P (na + nb) gl (inC P (luL ((na + nb) + n) gl ol) (la ++ lb) (na + nb)) n) (pickE P ol) := by unfold evO; rw [hN, hg.2]
  have HO := Lib.hid hout
  have HPF := Lib.hid (rightB_facts hrt)
  have hnp := hp.length
  have hnp2 : np = (na + nb) + n := by have := (rightB_facts hrt).1; omega
  subst hnp2
  have HK := Lib.hid hask
  have HR := Lib.hid hrt
  have HG := Lib.hid hgd
  have HGS := Lib.hid hgs
  have HOL := Lib.hid hol
  have HU := Lib.hid (fun x hx => luL_bd ((na + nb) + n) gl ol x hx)
  have HC1 := Lib.hid (fun k => inC_cells P (luL ((na + nb) + n) gl ol) (la ++ lb) hbit k)
  have HBT := Lib.hid hbit
  clear hout hask hgd hgs hol hbit hev hrt
  have hW := (Bl.refl w).alloc (.cells #[.int .i64 (na : Int), .int .i64 (nb : Int), .slice Ag n cg, .slice Ao m co] 26)
  have hB := Blk.new w 26 #[.int .i64 (na : Int), .int .i64 (nb : Int), .slice Ag n cg, .slice Ao m co]
  have hmk : ∀ w : World, (Instr.makeSlice 24 (.int .i64 1000) (.int .i64 1000)).run Try.prog w = .ok (.slice (some ⟨w.heap.size, 0, none⟩) 1000 1000) (w.alloc (.cells (madeCells #[.int .i64 0] 1000) 3)) := make_ints 1000 (by omega)
  have t1 := True.intro
  have HSL := fun (W : World) (hW : Bl w W) => Lib.hid (spec_svLast na nb Ag Ao n cg m co gl ol W (hg.keep hW) (ho.keep hW) HG.out)
  rw [hN] at HSL
  go_enter Try.func37, Try.ntmps37
  go_wp2_with (first | (go_at_call 88; refine (spec_ciAsked _ _ Ag Ao n cg m co gl ol Aa Ab na ca nb cb la lb _ (hg.keep hW) (ho.keep hW) (ha.keep hW) (hb.keep hW)).mono ?_; rintro e w1 ⟨rfl, hb1⟩; rw [HK.out]; replace hB := hB.keep hb1; replace hW := hW.call hb1; clear hb1; have hB_l := hB.lt; have hB_0 := hB.cell 0 _ rfl; have hB_1 := hB.cell 1 _ rfl; have hB_2 := hB.cell 2 _ rfl; have hB_3 := hB.cell 3 _ rfl) | (go_at_call 89; refine (spec_svRight _ _ Ag Ao Ap n cg m co _ cp gl ol P _ (hg.keep hW) (ho.keep hW) (hp.keep hW) HG.out).mono ?_; rintro e w3 ⟨rfl, hb1⟩; rw [HR.out]; replace hB := hB.keep hb1; replace hW := hW.call hb1; clear hb1; clear hB_l hB_0 hB_1 hB_2 hB_3; have hB_l := hB.lt; have hB_0 := hB.cell 0 _ rfl; have hB_1 := hB.cell 1 _ rfl; have hB_2 := hB.cell 2 _ rfl; have hB_3 := hB.cell 3 _ rfl) | (go_at_call 90; refine (spec_ciJoin Aa Ab na ca nb cb la lb _ (ha.keep ?_) (hb.keep ?_) (by omega) (by omega)).mono ?_; (· ((repeat (first | assumption | with_reducible exact Bl.refl _ | with_reducible refine Bl.drewN ?_ _ | with_reducible refine Bl.drew ?_ | with_reducible refine Bl.alloc ?_ _ | (with_reducible refine Bl.call ?_ (by assumption)))); done)); (· ((repeat (first | assumption | with_reducible exact Bl.refl _ | with_reducible refine Bl.drewN ?_ _ | with_reducible refine Bl.drew ?_ | with_reducible refine Bl.alloc ?_ _ | (with_reducible refine Bl.call ?_ (by assumption)))); done)); rintro e w4 ⟨AI, cI, rfl, hi, hb1⟩; have hC := (Blk.new w3 3 (madeCells #[.int .i64 0] 1000)).keep hb1; rw [made1000] at hC; have hl3 := hB.lt; replace hB := (hB.alloc _).keep hb1; replace hW := (hW.alloc (.cells (madeCells #[.int .i64 0] 1000) 3)).call hb1; clear hB_l hB_0 hB_1 hB_2 hB_3; have hB_l := hB.lt; have hB_0 := hB.cell 0 _ rfl; have hB_1 := hB.cell 1 _ rfl; have hB_2 := hB.cell 2 _ rfl; have hB_3 := hB.cell 3 _ rfl))
  clear hmk
  have hib := hi.blk
  have hri := hi.rd
  clear hi
  obtain ⟨gC, hgC⟩ : ∃ g, w3.heap.size = g := ⟨_, rfl⟩
  have hgB : w.heap.size < gC := by omega
  have hib2 : ∀ k, AI.map (·.block) = some k → gC < k := fun k hk => by have := (hib k hk).1; simp at this; omega
  rw [hgC] at hC ⊢
  clear hgC hib
  refine wp_region_held_drew (S := (fun w' => w'.cell? ⟨w.heap.size, 0, none⟩ = some (.int .i64 (na : Int)) ∧ w'.cell? ⟨w.heap.size, 1, none⟩ = some (.int .i64 (nb : Int)) ∧ w'.cell? ⟨w.heap.size, 2, none⟩ = some (.slice Ag n cg) ∧ w'.cell? ⟨w.heap.size, 3, none⟩ = some (.slice Ao m co))) (by kernel_rfl) ?_ (fun hHeld => ?_)
  · (try dsimp only); exact ⟨Bl.cells (by (repeat (first | assumption | with_reducible exact Bl.refl _ | with_reducible refine Bl.drewN ?_ _ | with_reducible refine Bl.drew ?_ | with_reducible refine Bl.alloc ?_ _ | (with_reducible refine Bl.call ?_ (by assumption))))) hB_0, Bl.cells (by (repeat (first | assumption | with_reducible exact Bl.refl _ | with_reducible refine Bl.drewN ?_ _ | with_reducible refine Bl.drew ?_ | with_reducible refine Bl.alloc ?_ _ | (with_reducible refine Bl.call ?_ (by assumption))))) hB_1, Bl.cells (by (repeat (first | assumption | with_reducible exact Bl.refl _ | with_reducible refine Bl.drewN ?_ _ | with_reducible refine Bl.drew ?_ | with_reducible refine Bl.alloc ?_ _ | (with_reducible refine Bl.call ?_ (by assumption))))) hB_2, Bl.cells (by (repeat (first | assumption | with_reducible exact Bl.refl _ | with_reducible refine Bl.drewN ?_ _ | with_reducible refine Bl.drew ?_ | with_reducible refine Bl.alloc ?_ _ | (with_reducible refine Bl.call ?_ (by assumption))))) hB_3⟩
  refine held_take (i := 0) (d := 32) (v := ?_) rfl rfl (by kernel_rfl) (by kernel_rfl) (by kernel_rfl) (fun _ _ _ h => h) (Or.inl ⟨by rfl, ?_⟩) (by assumption) ?_
  rotate_left
  · (intro w hSw; (try dsimp only at hSw); go_simp; (try with_reducible rfl))
  (try simp only [List.set_cons_zero, List.set_cons_succ])
  refine held_take (i := 1) (d := 33) (v := ?_) rfl rfl (by kernel_rfl) (by kernel_rfl) (by kernel_rfl) (fun _ _ _ h => h) (Or.inl ⟨by rfl, ?_⟩) (by assumption) ?_
  rotate_left
  · (intro w hSw; (try dsimp only at hSw); go_simp; (try with_reducible rfl))
  (try simp only [List.set_cons_zero, List.set_cons_succ])
  refine held_take (i := 5) (d := 37) (v := ?_) rfl rfl (by kernel_rfl) (by kernel_rfl) (by kernel_rfl) (fun _ _ _ h => h) (Or.inl ⟨by rfl, ?_⟩) (by assumption) ?_
  rotate_left
  · (intro w hSw; (try dsimp only at hSw); go_simp; (try with_reducible rfl))
  (try simp only [List.set_cons_zero, List.set_cons_succ])
  refine wpAnyH_ready (rs := [2]) (by kernel_rfl) (by simp) ?_
  refine AllReadyH.cons rfl (fun K hK => ?_) AllReadyH.nil
  go_simp
  (refine (HSL _ (by (repeat (first | assumption | with_reducible exact Bl.refl _ | with_reducible refine Bl.drewN ?_ _ | with_reducible refine Bl.drew ?_ | with_reducible refine Bl.alloc ?_ _ | (with_reducible refine Bl.call ?_ (by assumption)))))).out.mono ?_; rintro e w5 ⟨AU, cU, rfl, hu, hb5⟩; have hru := hu.rd)
  go_wp2_with fail
  refine hK.out _ _ ?_ (fun hHeld => ?_)
  · (try dsimp only); exact ⟨Bl.cells (by (repeat (first | assumption | with_reducible exact Bl.refl _ | with_reducible refine Bl.drewN ?_ _ | with_reducible refine Bl.drew ?_ | with_reducible refine Bl.alloc ?_ _ | (with_reducible refine Bl.call ?_ (by assumption))))) hB_0, Bl.cells (by (repeat (first | assumption | with_reducible exact Bl.refl _ | with_reducible refine Bl.drewN ?_ _ | with_reducible refine Bl.drew ?_ | with_reducible refine Bl.alloc ?_ _ | (with_reducible refine Bl.call ?_ (by assumption))))) hB_1, Bl.cells (by (repeat (first | assumption | with_reducible exact Bl.refl _ | with_reducible refine Bl.drewN ?_ _ | with_reducible refine Bl.drew ?_ | with_reducible refine Bl.alloc ?_ _ | (with_reducible refine Bl.call ?_ (by assumption))))) hB_2, Bl.cells (by (repeat (first | assumption | with_reducible exact Bl.refl _ | with_reducible refine Bl.drewN ?_ _ | with_reducible refine Bl.drew ?_ | with_reducible refine Bl.alloc ?_ _ | (with_reducible refine Bl.call ?_ (by assumption))))) hB_3⟩
  clear hK K
  (try simp only [Act.put]); (try simp only [List.setIfInBounds_toArray]); (try simp only [List.set_cons_succ]); (try simp only [List.set_cons_zero])
  refine wpAnyH_ready (rs := [3]) (by kernel_rfl) (by simp) ?_
  refine AllReadyH.cons rfl (fun K hK => ?_) AllReadyH.nil
  go_simp
  (refine (spec_svLive _ _ Ag Ao n cg m co (-1) (na + nb) (na + nb + n) AU cU _ _ (hru.keep (by (repeat (first | assumption | with_reducible exact Bl.refl _ | with_reducible refine Bl.drewN ?_ _ | with_reducible refine Bl.drew ?_ | with_reducible refine Bl.alloc ?_ _ | (with_reducible refine Bl.call ?_ (by assumption)))))) (by omega) (by omega) (by omega) (by omega) (by omega) (by omega) (by omega) (by omega) (by omega)).mono ?_; rintro e w6 ⟨AV, pV, cV, rfl, hv, hb6⟩)
  go_wp2_with fail
  refine hK.out _ _ ?_ (fun hHeld => ?_)
  · (try dsimp only); exact ⟨Bl.cells (by (repeat (first | assumption | with_reducible exact Bl.refl _ | with_reducible refine Bl.drewN ?_ _ | with_reducible refine Bl.drew ?_ | with_reducible refine Bl.alloc ?_ _ | (with_reducible refine Bl.call ?_ (by assumption))))) hB_0, Bl.cells (by (repeat (first | assumption | with_reducible exact Bl.refl _ | with_reducible refine Bl.drewN ?_ _ | with_reducible refine Bl.drew ?_ | with_reducible refine Bl.alloc ?_ _ | (with_reducible refine Bl.call ?_ (by assumption))))) hB_1, Bl.cells (by (repeat (first | assumption | with_reducible exact Bl.refl _ | with_reducible refine Bl.drewN ?_ _ | with_reducible refine Bl.drew ?_ | with_reducible refine Bl.alloc ?_ _ | (with_reducible refine Bl.call ?_ (by assumption))))) hB_2, Bl.cells (by (repeat (first | assumption | with_reducible exact Bl.refl _ | with_reducible refine Bl.drewN ?_ _ | with_reducible refine Bl.drew ?_ | with_reducible refine Bl.alloc ?_ _ | (with_reducible refine Bl.call ?_ (by assumption))))) hB_3⟩
  clear hK K
  (try simp only [Act.put]); (try simp only [List.setIfInBounds_toArray]); (try simp only [List.set_cons_succ]); (try simp only [List.set_cons_zero])
  refine held_take (i := 4) (d := 36) (v := ?_) rfl rfl (by kernel_rfl) (by kernel_rfl) (by kernel_rfl) (fun _ _ _ h => h) (Or.inl ⟨by rfl, ?_⟩) (by assumption) ?_
  rotate_left
  · (intro w hSw; (try dsimp only at hSw); go_simp; (try with_reducible rfl))
  (try simp only [List.set_cons_zero, List.set_cons_succ])
  refine wpAnyH_done (by kernel_rfl) ?_ _
  go_wp2
  have h56 : Bl w4 w6 := ((Bl.refl w4).drew.call hb5).call hb6
  have hC6 := hC.keep h56
  have hB6 := hB.keep h56
  have hW6 : Bl w w6 := hW.call h56
  have hri6 := hri.keep h56
  have hvb := hv.blk
  have hrv := hv.rd
  have hCl := hC.lt
  have hs45 : w4.heap.size ≤ w5.heap.size := hb5.sz
  have hvg : ∀ k, AV.map (·.block) = some k → gC < k := fun k hk => by have := (hvb k hk).1; omega
  obtain ⟨U, hU⟩ : ∃ U, luL (na + nb + n) gl ol = U := ⟨_, rfl⟩
  obtain ⟨I, hI⟩ : ∃ I, la ++ lb = I := ⟨_, rfl⟩
  rw [hU, hI, inC_fold] at HO
  rw [hU] at HU
  rw [hU] at hrv
  rw [hI] at hri6 HBT
  have hLv := Lib.hid (liveL_mem U (-1) (na + nb))
  obtain ⟨Lv, hLv0⟩ : ∃ Lv, liveL U (-1) (na + nb) = Lv := ⟨_, rfl⟩
  rw [hLv0] at HO hrv hLv
  clear hU hI HR HK hB_l hB_0 hB_1 hB_2 hB_3 hC hB hW hri h56 hru hu hv hvb hs45 hCl hLv0 HC1
  have HC1 := Lib.hid (fun k => fold_cells P I HBT.out (Lv.take k) C0 cells0)
  have hLl := Lib.hid hrv.length
  have hB := hB6
  have hW := hW6
  clear hB6 hW6
  obtain ⟨hlv1, hlv2⟩ := hrv.le
  go_loopw [37] (fun i wr => ∃ k, k ≤ pV ∧ i = .int .i64 (k : Nat) ∧ Blk wr gC 3 (ints ((Lv.take k).foldl (putE P I) C0)).toArray ∧ w6.grownBy wr (some gC)) (fun i _ => pV - (intOf i).toNat)
  case atStart => exact ⟨0, by omega, rfl, hC6, World.grownBy.refl _ _⟩
  case round =>
    clear hC6
    obtain ⟨k, hk, rfl, hC, hgr⟩ := hrel
    have hWr : Bl w _ := Bl.grown hW hgr (fun q hq => by injection hq with hq; omega)
    by_cases hlt : k < pV
    · have ik : (k : Int) < pV := by omega
      obtain ⟨adV, x, rfl, hadV, hxx, hcx⟩ := (hrv.grown hgr (fun a ha he => by subst ha; injection he with he; have := hvg a.block rfl; omega)).at_ hlt
      have hxb := hLv.out x (List.mem_of_getElem? hxx)
      obtain ⟨X, rfl⟩ : ∃ X : Nat, x = (X : Int) := ⟨x.toNat, by omega⟩
      obtain ⟨adI, v, rfl, hadI, hvv, hcv⟩ := (hri6.grown hgr (fun a ha he => by subst ha; injection he with he; have := hib2 a.block rfl; omega)).at_ (show X < na + nb by omega)
      obtain ⟨adP, z, rfl, hadP, hzz, hcz⟩ := (hp.keep hWr).at_ (show X < na + nb + n by omega)
      have hzb := HPF.out.2 z (List.mem_of_getElem? hzz)
      obtain ⟨p, rfl⟩ : ∃ p : Nat, z = (p : Int) := ⟨z.toNat, by omega⟩
      have hcs := HC1.out k
      obtain ⟨o, ho1, _⟩ := hcs.at_ (show p < 1000 by omega)
      have kc := at77i hC ho1
      have kf := hC.frozen
      have kl := hC.lt
      have hst := Lib.hid ((fold_take (P := P) (I := I) (cs := C0) hxx).trans (putE_eq hzz hvv))
      have ip : (p : Int) < 1000 := by omega
      have iX : (X : Int) < (na : Int) + (nb : Int) + (n : Int) := by omega
      have iX2 : (X : Int) < (na : Int) + (nb : Int) := by omega
      have hPb : adP.block < w.heap.size := by
        obtain ⟨ad9, z9, he9, hb9, _⟩ := hp.at_ (show X < na + nb + n by omega)
        injection he9 with he9
        rw [he9]; exact hb9
      have hIb : gC < adI.block := hib2 _ rfl
      clear hxx hzz hvv ho1 hcs
      go_wp2
      refine wp_region_held_drew (S := (fun w' => w'.cell? (adP.add X) = some (.int .i64 (p : Int)) ∧ w'.cell? (adI.add X) = some (.int .i64 v))) (by kernel_rfl) ?_ (fun hHeld => ?_)
      · (try dsimp only); exact ⟨Bl.cells (by (repeat (first | assumption | with_reducible exact Bl.refl _ | with_reducible refine Bl.drewN ?_ _ | with_reducible refine Bl.drew ?_ | with_reducible refine Bl.alloc ?_ _ | (with_reducible refine Bl.call ?_ (by assumption))))) hcz, Bl.cells (by (repeat (first | assumption | with_reducible exact Bl.refl _ | with_reducible refine Bl.drewN ?_ _ | with_reducible refine Bl.drew ?_ | with_reducible refine Bl.alloc ?_ _ | (with_reducible refine Bl.call ?_ (by assumption))))) hcv⟩
      refine held_take (i := 0) (d := 41) (v := ?_) rfl rfl (by kernel_rfl) (by kernel_rfl) (by kernel_rfl) (fun _ _ _ h => h) (Or.inl ⟨by rfl, ?_⟩) (by assumption) ?_
      rotate_left
      · (intro w hSw; (try dsimp only at hSw); go_simp; (try with_reducible rfl))
      (try simp only [List.set_cons_zero, List.set_cons_succ])
      refine held_take (i := 1) (d := 42) (v := ?_) rfl rfl (by kernel_rfl) (by kernel_rfl) (by kernel_rfl) (fun _ _ _ h => h) (Or.inl ⟨by rfl, ?_⟩) (by assumption) ?_
      rotate_left
      · (intro w hSw; (try dsimp only at hSw); go_simp; (try with_reducible rfl))
      (try simp only [List.set_cons_zero, List.set_cons_succ])
      refine held_take (i := 2) (d := 43) (v := ?_) rfl rfl (by kernel_rfl) (by kernel_rfl) (by kernel_rfl) (fun _ _ _ h => h) (Or.inl ⟨by rfl, ?_⟩) (by assumption) ?_
      rotate_left
      · (intro w hSw; (try dsimp only at hSw); go_simp; (try with_reducible rfl))
      (try simp only [List.set_cons_zero, List.set_cons_succ])
      refine held_take (i := 3) (d := 44) (v := ?_) rfl rfl (by kernel_rfl) (by kernel_rfl) (by kernel_rfl) (fun _ _ _ h => h) (Or.inl ⟨by rfl, ?_⟩) (by assumption) ?_
      rotate_left
      · (intro w hSw; (try dsimp only at hSw); go_simp; (try with_reducible rfl))
      (try simp only [List.set_cons_zero, List.set_cons_succ])
      refine held_take (i := 4) (d := 45) (v := ?_) rfl rfl (by kernel_rfl) (by kernel_rfl) (by kernel_rfl) (fun _ _ _ h => h) (Or.inl ⟨by rfl, ?_⟩) (by assumption) ?_
      rotate_left
      · (intro w hSw; (try dsimp only at hSw); go_simp; (try with_reducible rfl))
      (try simp only [List.set_cons_zero, List.set_cons_succ])
      refine held_take (i := 5) (d := 46) (v := ?_) rfl rfl (by kernel_rfl) (by kernel_rfl) (by kernel_rfl) (fun _ _ _ h => h) (Or.inl ⟨by rfl, ?_⟩) (by assumption) ?_
      rotate_left
      · (intro w hSw; (try dsimp only at hSw); go_simp; (try with_reducible rfl))
      (try simp only [List.set_cons_zero, List.set_cons_succ])
      refine held_take (i := 6) (d := 47) (v := ?_) rfl rfl (by kernel_rfl) (by kernel_rfl) (by kernel_rfl) (fun _ _ _ h => h) (Or.inl ⟨by rfl, ?_⟩) (by assumption) ?_
      rotate_left
      · (intro w hSw; (try dsimp only at hSw); go_simp; (try with_reducible rfl))
      (try simp only [List.set_cons_zero, List.set_cons_succ])
      refine held_take (i := 7) (d := 48) (v := ?_) rfl rfl (by kernel_rfl) (by kernel_rfl) (by kernel_rfl) (fun _ _ _ h => h) (Or.inl ⟨by rfl, ?_⟩) (by assumption) ?_
      rotate_left
      · (intro w hSw; (try dsimp only at hSw); go_simp; (try with_reducible rfl))
      (try simp only [List.set_cons_zero, List.set_cons_succ])
      refine held_take (i := 8) (d := 49) (v := ?_) rfl rfl (by kernel_rfl) (by kernel_rfl) (by kernel_rfl) (fun _ _ _ h => h) (Or.inl ⟨by rfl, ?_⟩) (by assumption) ?_
      rotate_left
      · (intro w hSw; (try dsimp only at hSw); go_simp; (try with_reducible rfl))
      (try simp only [List.set_cons_zero, List.set_cons_succ])
      refine held_take (i := 9) (d := 50) (v := ?_) rfl rfl (by kernel_rfl) (by kernel_rfl) (by kernel_rfl) (fun _ _ _ h => h) (Or.inl ⟨by rfl, ?_⟩) (by assumption) ?_
      rotate_left
      · (intro w hSw; (try dsimp only at hSw); go_simp; (try with_reducible rfl))
      (try simp only [List.set_cons_zero, List.set_cons_succ])
      refine wpAnyH_ready (rs := [10]) (by kernel_rfl) (by simp) ?_
      refine AllReadyH.cons rfl (fun K hK => ?_) AllReadyH.nil
      go_simp
      refine hK.out _ _ ?_ (fun hHeld => ?_)
      · (try dsimp only); exact ⟨cell_farE (by rw [block_of_add]; exact hadP) (by rw [block_of_add]; omega) hcz, cell_farE (by rw [block_of_add]; exact hadI) (by rw [block_of_add]; omega) hcv⟩
      clear hK K
      (try simp only [Act.put]); (try simp only [List.setIfInBounds_toArray]); (try simp only [List.set_cons_succ]); (try simp only [List.set_cons_zero])
      refine wpAnyH_done (by kernel_rfl) ?_ _
      go_wp2
      go_roundw
      case rel => exact ⟨k + 1, by omega, by go_num, by rw [hst.out, ← put77]; exact (hC.set_ p _).drew, grown_drew (grownBy_trans hgr (grownBy_setCell _ _ _ _))⟩
      case measure => simp [intOf]; omega
    · have he : k = pV := by omega
      subst he
      have hBr := hB.grown hgr (by intro e; injection e with e; omega)
      have hte : Lv.take k = Lv := by rw [← hLl.out, List.take_length]
      have hcs0 := Lib.hid (HC1.out k)
      rw [hte] at hC hcs0
      obtain ⟨CS, hCS⟩ : ∃ CS, Lv.foldl (putE P I) C0 = CS := ⟨_, rfl⟩
      rw [hCS] at HO hC hcs0
      clear hCS hrv hri6 hib2 HC1 HU HBT hgr hB hte hLv hLl hvg
      have hB := hBr
      clear hBr
      have hW0 := hWr
      clear hWr hW
      have hW := hW0
      clear hW0
      have kB2 := hB.cell 2 _ rfl
      have kBl := hB.lt
      go_wp2
      clear kB2 kBl
      go_loopw [55] (fun i wr => ∃ k, k ≤ n ∧ i = .int .i64 (k : Nat) ∧ Blk wr gC 3 (ints (gaC P (na + nb) gl CS k)).toArray ∧ Blk wr w.heap.size 26 #[.int .i64 (na : Int), .int .i64 (nb : Int), .slice Ag n cg, .slice Ao m co] ∧ Bl w wr) (fun i _ => n - (intOf i).toNat)
      case atStart => exact ⟨0, by omega, rfl, hC, hB, hW⟩
      case round =>
        clear hC hB hW
        obtain ⟨k, hk, rfl, hC, hB, hW⟩ := hrel
        by_cases hlt : k < n
        · obtain ⟨ad, K, x, y, rfl, hx, q0, q1, q2⟩ := (hg.keep hW).at_ hlt
          have HX := Lib.hid hx
          have hgd := goodG_facts (goodGs_at HGS.out hx)
          clear hx
          have ik : (k : Int) < n := by omega
          have hcs := gaC_cells (P := P) (N := na + nb) (gl := gl) hcs0.out k
          obtain ⟨adP, zq, rfl, hadQ, hzq, hcq⟩ := (hp.keep hW).at_ (show na + nb + k < na + nb + n by omega)
          obtain ⟨q, rfl⟩ : ∃ q : Nat, zq = (q : Int) := ⟨zq.toNat, by have := HPF.out.2 zq (List.mem_of_getElem? hzq); omega⟩
          have hqb : q < 1000 := by have := HPF.out.2 _ (List.mem_of_getElem? hzq); omega
          obtain ⟨o, ho1, _⟩ := hcs.at_ hqb
          have kq := at77i hC ho1
          have hst := Lib.hid (gaC_step (cs := CS) HX.out hzq)
          have iq : (q : Int) < 1000 := by omega
          have iQ : ((na + nb + k : Nat) : Int) < ((na + nb + n : Nat) : Int) := by omega
          have iQ2 : (na : Int) + (nb : Int) + (k : Int) < (na : Int) + (nb : Int) + (n : Int) := by omega
          have hwn : IntKind.i64.wrap ((na : Int) + (nb : Int) + (k : Int)) = ((na + nb + k : Nat) : Int) := by rw [IntWalk.i64_in _ (by omega)]; omega
          have hwn2 : IntKind.i64.wrap (((na + nb : Nat) : Int) + (k : Int)) = ((na + nb + k : Nat) : Int) := by rw [IntWalk.i64_in _ (by omega)]; omega
          clear hzq ho1
          obtain ⟨hK, hps⟩ := hgd
          have kf := hC.frozen
          have kl := hC.lt
          have kB := hB.lt
          have kB0 := hB.cell 0 _ rfl
          have kB1 := hB.cell 1 _ rfl
          have kB2 := hB.cell 2 _ rfl
          have kB3 := hB.cell 3 _ rfl
          generalize hGC : gaC P (na + nb) gl CS k = GC at *
          rcases hK with rfl | rfl | rfl | rfl
          · obtain ⟨X, rfl⟩ : ∃ X : Nat, x = (X : Int) := ⟨x.toNat, by have := hps x (by simp [partsL]); omega⟩
            have hXb : X < na + nb + n := by have := hps (X : Int) (by simp [partsL]); omega
            obtain ⟨adP1, z, hEq1, hadP, hzz, hcz⟩ := (hp.keep hW).at_ hXb
            obtain rfl := Option.some.inj hEq1
            clear hEq1
            obtain ⟨p, rfl⟩ : ∃ p : Nat, z = (p : Int) := ⟨z.toNat, by have := HPF.out.2 z (List.mem_of_getElem? hzz); omega⟩
            have hpb : p < 1000 := by have := HPF.out.2 _ (List.mem_of_getElem? hzz); omega
            obtain ⟨u, hu1, hub2⟩ := hcs.at_ hpb
            have kc := at77i hC hu1
            have hcu := Lib.hid (cellAt_eq hzz hu1)
            have iX : (X : Int) < (na : Int) + (nb : Int) + (n : Int) := by omega
            have ip : (p : Int) < 1000 := by omega
            clear hzz hu1
            obtain ⟨Y, rfl⟩ : ∃ Y : Nat, y = (Y : Int) := ⟨y.toNat, by have := hps y (by simp [partsL]); omega⟩
            have hYb : Y < na + nb + n := by have := hps (Y : Int) (by simp [partsL]); omega
            obtain ⟨adP2, z2, hEq, hadP2, hzz2, hcz2⟩ := (hp.keep hW).at_ hYb
            obtain rfl := Option.some.inj hEq
            clear hEq
            obtain ⟨p2, rfl⟩ : ∃ p2 : Nat, z2 = (p2 : Int) := ⟨z2.toNat, by have := HPF.out.2 z2 (List.mem_of_getElem? hzz2); omega⟩
            have hpb2 : p2 < 1000 := by have := HPF.out.2 _ (List.mem_of_getElem? hzz2); omega
            obtain ⟨v, hv1, hvb2⟩ := hcs.at_ hpb2
            have kc2 := at77i hC hv1
            have hcv := Lib.hid (cellAt_eq hzz2 hv1)
            have iY : (Y : Int) < (na : Int) + (nb : Int) + (n : Int) := by omega
            have ip2 : (p2 : Int) < 1000 := by omega
            clear hzz2 hv1
            have hczA : (wr.alloc (.cells #[.int .i64 0, .int .i64 (X : Int), .int .i64 (Y : Int)] 57)).cell? (adP.add X) = some (.int .i64 (p : Int)) := ((Bl.refl wr).alloc _).cells hcz
            have hczB : (wr.alloc (.cells #[.int .i64 0, .int .i64 (X : Int), .int .i64 (Y : Int)] 57)).cell? (adP.add Y) = some (.int .i64 (p2 : Int)) := ((Bl.refl wr).alloc _).cells hcz2
            have hgv0 : gop 0 (cellAt P GC (X : Int)) (cellAt P GC (Y : Int)) = gop 0 u v := by rw [hcu.out, hcv.out]
            rcases hub2 with rfl | rfl <;> rcases hvb2 with rfl | rfl
            · have hgv : gop 0 (cellAt P GC (X : Int)) (cellAt P GC (Y : Int)) = 0 := hgv0
              clear hgv0
              go_wp2_with fail
              go_quiet (fail)
              go_wp2_with (go_at_call 55; refine (spec_ciInputs _ _ _ _ _ _ _ _ _ (by omega) (by omega) (by omega) (by omega)).mono ?_; rintro e w6 ⟨rfl, hb1⟩; have hR6 : Bl wr w6 := (by (repeat (first | assumption | with_reducible exact Bl.refl _ | with_reducible refine Bl.drewN ?_ _ | with_reducible refine Bl.drew ?_ | with_reducible refine Bl.alloc ?_ _ | (with_reducible refine Bl.call ?_ (by assumption))))); have hC6 := hC.keep hR6; have hB6 := hB.keep hR6; have hW6 := hW.call hR6; have hcq6 := hR6.cells hcq; have kq6 := hR6.cells kq; have kf6 := hC6.frozen; have kl6 := hC6.lt; have hadQ6 := Nat.lt_of_lt_of_le hadQ hR6.sz)
              go_roundw
              case rel => first | exact ⟨k + 1, by omega, by go_num, by rw [hst.out, hgv, ← put77]; exact hC6.set_ q _, hB6.far (by dsimp only; omega) _, hW6.setCell (by dsimp only; omega) _⟩ | ((repeat apply Exists.intro); exact ⟨⟨k + 1, by omega, by go_num, by rw [hst.out, hgv, ← put77]; exact hC6.set_ q _, hB6.far (by dsimp only; omega) _, hW6.setCell (by dsimp only; omega) _⟩, rfl⟩)
              case measure => simp [intOf]; omega
            · have hgv : gop 0 (cellAt P GC (X : Int)) (cellAt P GC (Y : Int)) = 1 := hgv0
              clear hgv0
              go_wp2_with fail
              go_quiet (fail)
              go_wp2_with (go_at_call 55; refine (spec_ciInputs _ _ _ _ _ _ _ _ _ (by omega) (by omega) (by omega) (by omega)).mono ?_; rintro e w6 ⟨rfl, hb1⟩; have hR6 : Bl wr w6 := (by (repeat (first | assumption | with_reducible exact Bl.refl _ | with_reducible refine Bl.drewN ?_ _ | with_reducible refine Bl.drew ?_ | with_reducible refine Bl.alloc ?_ _ | (with_reducible refine Bl.call ?_ (by assumption))))); have hC6 := hC.keep hR6; have hB6 := hB.keep hR6; have hW6 := hW.call hR6; have hcq6 := hR6.cells hcq; have kq6 := hR6.cells kq; have kf6 := hC6.frozen; have kl6 := hC6.lt; have hadQ6 := Nat.lt_of_lt_of_le hadQ hR6.sz)
              go_roundw
              case rel => first | exact ⟨k + 1, by omega, by go_num, by rw [hst.out, hgv, ← put77]; exact hC6.set_ q _, hB6.far (by dsimp only; omega) _, hW6.setCell (by dsimp only; omega) _⟩ | ((repeat apply Exists.intro); exact ⟨⟨k + 1, by omega, by go_num, by rw [hst.out, hgv, ← put77]; exact hC6.set_ q _, hB6.far (by dsimp only; omega) _, hW6.setCell (by dsimp only; omega) _⟩, rfl⟩)
              case measure => simp [intOf]; omega
            · have hgv : gop 0 (cellAt P GC (X : Int)) (cellAt P GC (Y : Int)) = 1 := hgv0
              clear hgv0
              go_wp2_with fail
              go_quiet (fail)
              go_wp2_with (go_at_call 55; refine (spec_ciInputs _ _ _ _ _ _ _ _ _ (by omega) (by omega) (by omega) (by omega)).mono ?_; rintro e w6 ⟨rfl, hb1⟩; have hR6 : Bl wr w6 := (by (repeat (first | assumption | with_reducible exact Bl.refl _ | with_reducible refine Bl.drewN ?_ _ | with_reducible refine Bl.drew ?_ | with_reducible refine Bl.alloc ?_ _ | (with_reducible refine Bl.call ?_ (by assumption))))); have hC6 := hC.keep hR6; have hB6 := hB.keep hR6; have hW6 := hW.call hR6; have hcq6 := hR6.cells hcq; have kq6 := hR6.cells kq; have kf6 := hC6.frozen; have kl6 := hC6.lt; have hadQ6 := Nat.lt_of_lt_of_le hadQ hR6.sz)
              go_roundw
              case rel => first | exact ⟨k + 1, by omega, by go_num, by rw [hst.out, hgv, ← put77]; exact hC6.set_ q _, hB6.far (by dsimp only; omega) _, hW6.setCell (by dsimp only; omega) _⟩ | ((repeat apply Exists.intro); exact ⟨⟨k + 1, by omega, by go_num, by rw [hst.out, hgv, ← put77]; exact hC6.set_ q _, hB6.far (by dsimp only; omega) _, hW6.setCell (by dsimp only; omega) _⟩, rfl⟩)
              case measure => simp [intOf]; omega
            · have hgv : gop 0 (cellAt P GC (X : Int)) (cellAt P GC (Y : Int)) = 0 := hgv0
              clear hgv0
              go_wp2_with fail
              go_quiet (fail)
              go_wp2_with (go_at_call 55; refine (spec_ciInputs _ _ _ _ _ _ _ _ _ (by omega) (by omega) (by omega) (by omega)).mono ?_; rintro e w6 ⟨rfl, hb1⟩; have hR6 : Bl wr w6 := (by (repeat (first | assumption | with_reducible exact Bl.refl _ | with_reducible refine Bl.drewN ?_ _ | with_reducible refine Bl.drew ?_ | with_reducible refine Bl.alloc ?_ _ | (with_reducible refine Bl.call ?_ (by assumption))))); have hC6 := hC.keep hR6; have hB6 := hB.keep hR6; have hW6 := hW.call hR6; have hcq6 := hR6.cells hcq; have kq6 := hR6.cells kq; have kf6 := hC6.frozen; have kl6 := hC6.lt; have hadQ6 := Nat.lt_of_lt_of_le hadQ hR6.sz)
              go_roundw
              case rel => first | exact ⟨k + 1, by omega, by go_num, by rw [hst.out, hgv, ← put77]; exact hC6.set_ q _, hB6.far (by dsimp only; omega) _, hW6.setCell (by dsimp only; omega) _⟩ | ((repeat apply Exists.intro); exact ⟨⟨k + 1, by omega, by go_num, by rw [hst.out, hgv, ← put77]; exact hC6.set_ q _, hB6.far (by dsimp only; omega) _, hW6.setCell (by dsimp only; omega) _⟩, rfl⟩)
              case measure => simp [intOf]; omega
          · obtain ⟨X, rfl⟩ : ∃ X : Nat, x = (X : Int) := ⟨x.toNat, by have := hps x (by simp [partsL]); omega⟩
            have hXb : X < na + nb + n := by have := hps (X : Int) (by simp [partsL]); omega
            obtain ⟨adP1, z, hEq1, hadP, hzz, hcz⟩ := (hp.keep hW).at_ hXb
            obtain rfl := Option.some.inj hEq1
            clear hEq1
            obtain ⟨p, rfl⟩ : ∃ p : Nat, z = (p : Int) := ⟨z.toNat, by have := HPF.out.2 z (List.mem_of_getElem? hzz); omega⟩
            have hpb : p < 1000 := by have := HPF.out.2 _ (List.mem_of_getElem? hzz); omega
            obtain ⟨u, hu1, hub2⟩ := hcs.at_ hpb
            have kc := at77i hC hu1
            have hcu := Lib.hid (cellAt_eq hzz hu1)
            have iX : (X : Int) < (na : Int) + (nb : Int) + (n : Int) := by omega
            have ip : (p : Int) < 1000 := by omega
            clear hzz hu1
            obtain ⟨Y, rfl⟩ : ∃ Y : Nat, y = (Y : Int) := ⟨y.toNat, by have := hps y (by simp [partsL]); omega⟩
            have hYb : Y < na + nb + n := by have := hps (Y : Int) (by simp [partsL]); omega
            obtain ⟨adP2, z2, hEq, hadP2, hzz2, hcz2⟩ := (hp.keep hW).at_ hYb
            obtain rfl := Option.some.inj hEq
            clear hEq
            obtain ⟨p2, rfl⟩ : ∃ p2 : Nat, z2 = (p2 : Int) := ⟨z2.toNat, by have := HPF.out.2 z2 (List.mem_of_getElem? hzz2); omega⟩
            have hpb2 : p2 < 1000 := by have := HPF.out.2 _ (List.mem_of_getElem? hzz2); omega
            obtain ⟨v, hv1, hvb2⟩ := hcs.at_ hpb2
            have kc2 := at77i hC hv1
            have hcv := Lib.hid (cellAt_eq hzz2 hv1)
            have iY : (Y : Int) < (na : Int) + (nb : Int) + (n : Int) := by omega
            have ip2 : (p2 : Int) < 1000 := by omega
            clear hzz2 hv1
            have hczA : (wr.alloc (.cells #[.int .i64 1, .int .i64 (X : Int), .int .i64 (Y : Int)] 57)).cell? (adP.add X) = some (.int .i64 (p : Int)) := ((Bl.refl wr).alloc _).cells hcz
            have hczB : (wr.alloc (.cells #[.int .i64 1, .int .i64 (X : Int), .int .i64 (Y : Int)] 57)).cell? (adP.add Y) = some (.int .i64 (p2 : Int)) := ((Bl.refl wr).alloc _).cells hcz2
            have hgv0 : gop 1 (cellAt P GC (X : Int)) (cellAt P GC (Y : Int)) = gop 1 u v := by rw [hcu.out, hcv.out]
            rcases hub2 with rfl | rfl <;> rcases hvb2 with rfl | rfl
            · have hgv : gop 1 (cellAt P GC (X : Int)) (cellAt P GC (Y : Int)) = 0 := hgv0
              clear hgv0
              go_wp2_with fail
              go_quiet (fail)
              go_wp2_with (go_at_call 55; refine (spec_ciInputs _ _ _ _ _ _ _ _ _ (by omega) (by omega) (by omega) (by omega)).mono ?_; rintro e w6 ⟨rfl, hb1⟩; have hR6 : Bl wr w6 := (by (repeat (first | assumption | with_reducible exact Bl.refl _ | with_reducible refine Bl.drewN ?_ _ | with_reducible refine Bl.drew ?_ | with_reducible refine Bl.alloc ?_ _ | (with_reducible refine Bl.call ?_ (by assumption))))); have hC6 := hC.keep hR6; have hB6 := hB.keep hR6; have hW6 := hW.call hR6; have hcq6 := hR6.cells hcq; have kq6 := hR6.cells kq; have kf6 := hC6.frozen; have kl6 := hC6.lt; have hadQ6 := Nat.lt_of_lt_of_le hadQ hR6.sz)
              go_roundw
              case rel => first | exact ⟨k + 1, by omega, by go_num, by rw [hst.out, hgv, ← put77]; exact hC6.set_ q _, hB6.far (by dsimp only; omega) _, hW6.setCell (by dsimp only; omega) _⟩ | ((repeat apply Exists.intro); exact ⟨⟨k + 1, by omega, by go_num, by rw [hst.out, hgv, ← put77]; exact hC6.set_ q _, hB6.far (by dsimp only; omega) _, hW6.setCell (by dsimp only; omega) _⟩, rfl⟩)
              case measure => simp [intOf]; omega
            · have hgv : gop 1 (cellAt P GC (X : Int)) (cellAt P GC (Y : Int)) = 0 := hgv0
              clear hgv0
              go_wp2_with fail
              go_quiet (fail)
              go_wp2_with (go_at_call 55; refine (spec_ciInputs _ _ _ _ _ _ _ _ _ (by omega) (by omega) (by omega) (by omega)).mono ?_; rintro e w6 ⟨rfl, hb1⟩; have hR6 : Bl wr w6 := (by (repeat (first | assumption | with_reducible exact Bl.refl _ | with_reducible refine Bl.drewN ?_ _ | with_reducible refine Bl.drew ?_ | with_reducible refine Bl.alloc ?_ _ | (with_reducible refine Bl.call ?_ (by assumption))))); have hC6 := hC.keep hR6; have hB6 := hB.keep hR6; have hW6 := hW.call hR6; have hcq6 := hR6.cells hcq; have kq6 := hR6.cells kq; have kf6 := hC6.frozen; have kl6 := hC6.lt; have hadQ6 := Nat.lt_of_lt_of_le hadQ hR6.sz)
              go_roundw
              case rel => first | exact ⟨k + 1, by omega, by go_num, by rw [hst.out, hgv, ← put77]; exact hC6.set_ q _, hB6.far (by dsimp only; omega) _, hW6.setCell (by dsimp only; omega) _⟩ | ((repeat apply Exists.intro); exact ⟨⟨k + 1, by omega, by go_num, by rw [hst.out, hgv, ← put77]; exact hC6.set_ q _, hB6.far (by dsimp only; omega) _, hW6.setCell (by dsimp only; omega) _⟩, rfl⟩)
              case measure => simp [intOf]; omega
            · have hgv : gop 1 (cellAt P GC (X : Int)) (cellAt P GC (Y : Int)) = 0 := hgv0
              clear hgv0
              go_wp2_with fail
              go_quiet (fail)
              go_wp2_with (go_at_call 55; refine (spec_ciInputs _ _ _ _ _ _ _ _ _ (by omega) (by omega) (by omega) (by omega)).mono ?_; rintro e w6 ⟨rfl, hb1⟩; have hR6 : Bl wr w6 := (by (repeat (first | assumption | with_reducible exact Bl.refl _ | with_reducible refine Bl.drewN ?_ _ | with_reducible refine Bl.drew ?_ | with_reducible refine Bl.alloc ?_ _ | (with_reducible refine Bl.call ?_ (by assumption))))); have hC6 := hC.keep hR6; have hB6 := hB.keep hR6; have hW6 := hW.call hR6; have hcq6 := hR6.cells hcq; have kq6 := hR6.cells kq; have kf6 := hC6.frozen; have kl6 := hC6.lt; have hadQ6 := Nat.lt_of_lt_of_le hadQ hR6.sz)
              go_roundw
              case rel => first | exact ⟨k + 1, by omega, by go_num, by rw [hst.out, hgv, ← put77]; exact hC6.set_ q _, hB6.far (by dsimp only; omega) _, hW6.setCell (by dsimp only; omega) _⟩ | ((repeat apply Exists.intro); exact ⟨⟨k + 1, by omega, by go_num, by rw [hst.out, hgv, ← put77]; exact hC6.set_ q _, hB6.far (by dsimp only; omega) _, hW6.setCell (by dsimp only; omega) _⟩, rfl⟩)
              case measure => simp [intOf]; omega
            · have hgv : gop 1 (cellAt P GC (X : Int)) (cellAt P GC (Y : Int)) = 1 := hgv0
              clear hgv0
              go_wp2_with fail
              go_quiet (fail)
              go_wp2_with (go_at_call 55; refine (spec_ciInputs _ _ _ _ _ _ _ _ _ (by omega) (by omega) (by omega) (by omega)).mono ?_; rintro e w6 ⟨rfl, hb1⟩; have hR6 : Bl wr w6 := (by (repeat (first | assumption | with_reducible exact Bl.refl _ | with_reducible refine Bl.drewN ?_ _ | with_reducible refine Bl.drew ?_ | with_reducible refine Bl.alloc ?_ _ | (with_reducible refine Bl.call ?_ (by assumption))))); have hC6 := hC.keep hR6; have hB6 := hB.keep hR6; have hW6 := hW.call hR6; have hcq6 := hR6.cells hcq; have kq6 := hR6.cells kq; have kf6 := hC6.frozen; have kl6 := hC6.lt; have hadQ6 := Nat.lt_of_lt_of_le hadQ hR6.sz)
              go_roundw
              case rel => first | exact ⟨k + 1, by omega, by go_num, by rw [hst.out, hgv, ← put77]; exact hC6.set_ q _, hB6.far (by dsimp only; omega) _, hW6.setCell (by dsimp only; omega) _⟩ | ((repeat apply Exists.intro); exact ⟨⟨k + 1, by omega, by go_num, by rw [hst.out, hgv, ← put77]; exact hC6.set_ q _, hB6.far (by dsimp only; omega) _, hW6.setCell (by dsimp only; omega) _⟩, rfl⟩)
              case measure => simp [intOf]; omega
          · obtain ⟨X, rfl⟩ : ∃ X : Nat, x = (X : Int) := ⟨x.toNat, by have := hps x (by simp [partsL]); omega⟩
            have hXb : X < na + nb + n := by have := hps (X : Int) (by simp [partsL]); omega
            obtain ⟨adP1, z, hEq1, hadP, hzz, hcz⟩ := (hp.keep hW).at_ hXb
            obtain rfl := Option.some.inj hEq1
            clear hEq1
            obtain ⟨p, rfl⟩ : ∃ p : Nat, z = (p : Int) := ⟨z.toNat, by have := HPF.out.2 z (List.mem_of_getElem? hzz); omega⟩
            have hpb : p < 1000 := by have := HPF.out.2 _ (List.mem_of_getElem? hzz); omega
            obtain ⟨u, hu1, hub2⟩ := hcs.at_ hpb
            have kc := at77i hC hu1
            have hcu := Lib.hid (cellAt_eq hzz hu1)
            have iX : (X : Int) < (na : Int) + (nb : Int) + (n : Int) := by omega
            have ip : (p : Int) < 1000 := by omega
            clear hzz hu1
            have hczA : (wr.alloc (.cells #[.int .i64 2, .int .i64 (X : Int), .int .i64 y] 57)).cell? (adP.add X) = some (.int .i64 (p : Int)) := ((Bl.refl wr).alloc _).cells hcz
            have hgv0 : gop 2 (cellAt P GC (X : Int)) (cellAt P GC y) = 1 - u := by rw [hcu.out]; simp [gop]
            rcases hub2 with rfl | rfl
            · have hgv : gop 2 (cellAt P GC (X : Int)) (cellAt P GC y) = 1 := hgv0
              clear hgv0
              go_wp2_with (go_at_call 55; refine (spec_ciInputs _ _ _ _ _ _ _ _ _ (by omega) (by omega) (by omega) (by omega)).mono ?_; rintro e w6 ⟨rfl, hb1⟩; have hR6 : Bl wr w6 := (by (repeat (first | assumption | with_reducible exact Bl.refl _ | with_reducible refine Bl.drewN ?_ _ | with_reducible refine Bl.drew ?_ | with_reducible refine Bl.alloc ?_ _ | (with_reducible refine Bl.call ?_ (by assumption))))); have hC6 := hC.keep hR6; have hB6 := hB.keep hR6; have hW6 := hW.call hR6; have hcq6 := hR6.cells hcq; have kq6 := hR6.cells kq; have kf6 := hC6.frozen; have kl6 := hC6.lt; have hadQ6 := Nat.lt_of_lt_of_le hadQ hR6.sz)
              go_roundw
              case rel => first | exact ⟨k + 1, by omega, by go_num, by rw [hst.out, hgv, ← put77]; exact hC6.set_ q _, hB6.far (by dsimp only; omega) _, hW6.setCell (by dsimp only; omega) _⟩ | ((repeat apply Exists.intro); exact ⟨⟨k + 1, by omega, by go_num, by rw [hst.out, hgv, ← put77]; exact hC6.set_ q _, hB6.far (by dsimp only; omega) _, hW6.setCell (by dsimp only; omega) _⟩, rfl⟩)
              case measure => simp [intOf]; omega
            · have hgv : gop 2 (cellAt P GC (X : Int)) (cellAt P GC y) = 0 := hgv0
              clear hgv0
              go_wp2_with (go_at_call 55; refine (spec_ciInputs _ _ _ _ _ _ _ _ _ (by omega) (by omega) (by omega) (by omega)).mono ?_; rintro e w6 ⟨rfl, hb1⟩; have hR6 : Bl wr w6 := (by (repeat (first | assumption | with_reducible exact Bl.refl _ | with_reducible refine Bl.drewN ?_ _ | with_reducible refine Bl.drew ?_ | with_reducible refine Bl.alloc ?_ _ | (with_reducible refine Bl.call ?_ (by assumption))))); have hC6 := hC.keep hR6; have hB6 := hB.keep hR6; have hW6 := hW.call hR6; have hcq6 := hR6.cells hcq; have kq6 := hR6.cells kq; have kf6 := hC6.frozen; have kl6 := hC6.lt; have hadQ6 := Nat.lt_of_lt_of_le hadQ hR6.sz)
              go_roundw
              case rel => first | exact ⟨k + 1, by omega, by go_num, by rw [hst.out, hgv, ← put77]; exact hC6.set_ q _, hB6.far (by dsimp only; omega) _, hW6.setCell (by dsimp only; omega) _⟩ | ((repeat apply Exists.intro); exact ⟨⟨k + 1, by omega, by go_num, by rw [hst.out, hgv, ← put77]; exact hC6.set_ q _, hB6.far (by dsimp only; omega) _, hW6.setCell (by dsimp only; omega) _⟩, rfl⟩)
              case measure => simp [intOf]; omega
          · have hgv : gop 3 (cellAt P GC x) (cellAt P GC y) = 1 := by simp [gop]
            go_wp2_with (go_at_call 55; refine (spec_ciInputs _ _ _ _ _ _ _ _ _ (by omega) (by omega) (by omega) (by omega)).mono ?_; rintro e w6 ⟨rfl, hb1⟩; have hR6 : Bl wr w6 := (by (repeat (first | assumption | with_reducible exact Bl.refl _ | with_reducible refine Bl.drewN ?_ _ | with_reducible refine Bl.drew ?_ | with_reducible refine Bl.alloc ?_ _ | (with_reducible refine Bl.call ?_ (by assumption))))); have hC6 := hC.keep hR6; have hB6 := hB.keep hR6; have hW6 := hW.call hR6; have hcq6 := hR6.cells hcq; have kq6 := hR6.cells kq; have kf6 := hC6.frozen; have kl6 := hC6.lt; have hadQ6 := Nat.lt_of_lt_of_le hadQ hR6.sz)
            go_roundw
            case rel => first | exact ⟨k + 1, by omega, by go_num, by rw [hst.out, hgv, ← put77]; exact hC6.set_ q _, hB6.far (by dsimp only; omega) _, hW6.setCell (by dsimp only; omega) _⟩ | ((repeat apply Exists.intro); exact ⟨⟨k + 1, by omega, by go_num, by rw [hst.out, hgv, ← put77]; exact hC6.set_ q _, hB6.far (by dsimp only; omega) _, hW6.setCell (by dsimp only; omega) _⟩, rfl⟩)
            case measure => simp [intOf]; omega
        · have he : k = n := by omega
          subst he
          have hcs := Lib.hid (gaC_cells (P := P) (N := na + nb) (gl := gl) hcs0.out k)
          obtain ⟨GC, hGC⟩ : ∃ GC, gaC P (na + nb) gl CS k = GC := ⟨_, rfl⟩
          rw [hGC] at HO hC hcs
          clear hGC hcs0
          have kB3 := hB.cell 3 _ rfl
          have kBl := hB.lt
          have hcl : Hid ((ints GC).length = 1000) := Lib.hid (by rw [ints, List.length_map, hcs.out.1])
          have hCr : RdI wr (some ⟨gC, 0, none⟩) 1000 1000 GC := by
            refine ⟨by rw [hcl.out], Nat.le_refl _, by simp [maxLen], fun _ => ⟨_, rfl, hC.lt, fun jj uu huu => ?_⟩⟩
            have hadd : (⟨gC, 0, none⟩ : Addr).add jj = ⟨gC, jj, none⟩ := by unfold Addr.add; split <;> simp_all
            rw [hadd]
            exact hC.cell jj uu (by rw [List.getElem?_toArray]; exact huu)
          have hpk : ∀ x ∈ pickE P ol, 0 ≤ x ∧ x < ((1000 : Nat) : Int) := fun x hx => by
            unfold pickE at hx
            obtain ⟨o, ho1, rfl⟩ := List.mem_map.1 hx
            have h1 := HOL.out o ho1
            have h2 := List.getElem?_eq_getElem (show o.toNat < P.length by omega)
            rw [h2, Option.getD_some]
            have := HPF.out.2 _ (List.getElem_mem (show o.toNat < P.length by omega))
            omega
          have HPK := Lib.hid hpk
          clear hpk
          go_wp2_with (first | (have tk := t1; clear tk t1; go_at_call 92; refine (spec_ciPick _ _ _ _ _ _ P ol _ (hp.keep hW) (ho.keep hW) (by omega) (fun x hx => by have := HOL.out x hx; omega)).mono ?_; rintro e w7 ⟨A7, c7, rfl, h7, hb7⟩) | (go_at_call 92; refine (spec_ciPick _ _ _ _ _ _ GC (pickE P ol) _ (hCr.keep hb7) h7.rd (by omega) HPK.out).mono ?_; rintro e w8 ⟨A8, c8, rfl, h8, hb8⟩))
          go_ret2
          exact ⟨A8, _, c8, rfl, by rw [HO.out]; exact OwnI.mono h8 (Nat.le_trans hW.sz hb7.sz), (hW.call hb7).call hb8⟩
end Go.Proofs.Ytlmlffiajgofeaa
