/- Contract of the program's EvalInCells.
   Conditions: none. -/
import Derived.Test.YtlmlffiajgofeaaEvp
import Derived.Deep.WholeRow
namespace Go.Proofs.Ytlmlffiajgofeaa
open Go.RowKit
set_option linter.unusedVariables false
theorem wp_worldE {P : Program} {c : Code} {K : Exit → Act → World → Prop} {a : Act} {w : World} (S : World → Prop) (hS : S w) (h : ∀ w2, S w2 → Code.wp P c K a w2) : Code.wp P c K a w := h w hS
theorem zero77 : Try.zeroCells86 = (ints C0).toArray := by kernel_rfl
theorem size77 : Try.zeroCells86.size = 1000 := by rw [zero77, List.size_toArray, ints, List.length_map]; unfold C0; exact List.length_replicate
theorem store77 (w : World) : (storeCells ⟨w.heap.size, 0, none⟩ Try.zeroCells86.toList 0).run Try.prog (w.alloc (.cells Try.zeroCells86 86)) = .ok () (w.alloc (.cells Try.zeroCells86 86)) :=
  run_storeCells_new w 86 Try.zeroCells86 Try.zeroCells86 (by rw [size77]; kernel_rfl) rfl (by rw [zero77]; exact Array.all_eq_true_iff_forall_mem.2 fun v hv => ints_one C0 v (by simpa using hv))
theorem put77 (cs : List Int) (i : Nat) (v : Int) : (ints cs).toArray.setIfInBounds i (.int .i64 v) = (ints (cs.set i v)).toArray := by
  rw [List.setIfInBounds_toArray, ints, ints, List.map_set]
theorem at77 {w : World} {g : Nat} {cs : List Int} (h : Blk w g 86 (ints cs).toArray) {p : Nat} {u : Int} (hu : cs[p]? = some u) : w.cell? ⟨g, p, none⟩ = some (.int .i64 u) :=
  h.cell p _ (by rw [List.getElem?_toArray, ints_get, hu]; rfl)
set_option maxRecDepth 20000 in
set_option maxHeartbeats 8000000 in
theorem impl_EvalInCells_t (a b : Int) (Ag Ao Ap Aa Ab : Option Addr) (n cg m co np cp na ca nb cb : Nat) (gl : List Gt) (ol P la lb : List Int) (w : World) (hg : RdG w Ag n cg gl) (ho : RdI w Ao m co ol) (hp : RdI w Ap np cp P) (ha : RdI w Aa na ca la) (hb : RdI w Ab nb cb lb) (hev : evB a b gl ol P la lb = true) :
    Calls Try.prog 36 #[.agg #[.int .i64 a, .int .i64 b, .slice Ag n cg, .slice Ao m co], .slice Ap np cp, .slice Aa na ca, .slice Ab nb cb] w fun e w' => ∃ A' n' c', e = .returned (.tuple #[.slice A' n' c', .bool true]) ∧ OwnI w.heap.size w' A' n' c' (evO a b gl ol P la lb) ∧ Bl w w' := by
  have hE := hev
  simp only [evB, Bool.and_eq_true] at hE
  obtain ⟨hask, hrt⟩ := hE
  obtain ⟨hgd, hla, hlb, hbit⟩ := ask_facts hask
  have hna0 := ha.length
  have hnb0 := hb.length
  rw [hna0] at hla
  rw [hnb0] at hlb
  subst hla
  subst hlb
  obtain ⟨a0, a1, b0, b1, hn, hm, hgs, hol⟩ := goodC_facts hgd
  have hgl := Lib.hid hg.2
  rw [hg.2] at hrt hn hol
  obtain ⟨hle1, hle2⟩ := hg.le
  obtain ⟨hle3, hle4⟩ := hp.le
  obtain ⟨hle5, hle6⟩ := ho.le
  have hmm := ho.length
  have hN : ((na : Int) + (nb : Int)).toNat = na + nb := by omega
  have hout : evO na nb gl ol P la lb = pickE (gaC P (na + nb) gl (inC P (luL ((na + nb) + n) gl ol) (la ++ lb) (na + nb)) n) (pickE P ol) := by unfold evO; rw [hN, hg.2]
  have HO := Lib.hid hout
  have HPF := Lib.hid (rightB_facts hrt)
  have hnp := hp.length
  have hnp2 : np = (na + nb) + n := by have := (rightB_facts hrt).1; omega
  subst hnp2
  have HK := Lib.hid hask
  have HR := Lib.hid hrt
  have HG := Lib.hid hgd
  have HGS := Lib.hid hgs
  have HOL := Lib.hid hol
  have HU := Lib.hid (fun x hx => luL_bd ((na + nb) + n) gl ol x hx)
  have HC1 := Lib.hid (fun k => inC_cells P (luL ((na + nb) + n) gl ol) (la ++ lb) hbit k)
  have HBT := Lib.hid hbit
  clear hout hask hgd hgs hol hbit hev hrt
  have hW := (Bl.refl w).alloc (.cells #[.int .i64 (na : Int), .int .i64 (nb : Int), .slice Ag n cg, .slice Ao m co] 26)
  have hB := Blk.new w 26 #[.int .i64 (na : Int), .int .i64 (nb : Int), .slice Ag n cg, .slice Ao m co]
  have hST := store77
  go_enter Try.func36, Try.ntmps36
  go_wp2_with (first | (go_at_call 61; refine (impl_areInputs _ _ Ag Ao n cg m co gl ol Aa Ab na ca nb cb la lb _ (hg.keep hW) (ho.keep hW) (ha.keep hW) (hb.keep hW)).mono ?_; rintro e w1 ⟨rfl, hb1⟩; rw [HK.out]; replace hB := hB.keep hb1; replace hW := hW.call hb1; clear hb1; have hB_l := hB.lt; have hB_0 := hB.cell 0 _ rfl; have hB_1 := hB.cell 1 _ rfl; have hB_2 := hB.cell 2 _ rfl; have hB_3 := hB.cell 3 _ rfl) | (go_at_call 86; refine (impl_isPlan _ _ Ag Ao Ap n cg m co _ cp gl ol P _ (hg.keep hW) (ho.keep hW) (hp.keep hW) HG.out).mono ?_; rintro e w2 ⟨rfl, hb1⟩; rw [HR.out]; replace hB := hB.keep hb1; replace hW := hW.call hb1; clear hb1; clear hB_l hB_0 hB_1 hB_2 hB_3; have hB_l := hB.lt; have hB_0 := hB.cell 0 _ rfl; have hB_1 := hB.cell 1 _ rfl; have hB_2 := hB.cell 2 _ rfl; have hB_3 := hB.cell 3 _ rfl) | (go_at_call 67; refine (impl_lastUses _ _ Ag Ao n cg m co gl ol _ (hg.keep hW) (ho.keep hW) HG.out).mono ?_; rintro e w3 ⟨AU, cU, rfl, hu, hb1⟩; have hub := hu.blk; replace hB := hB.keep hb1; have hl3 := hB.lt; replace hW := hW.call hb1; clear hb1; clear hB_l hB_0 hB_1 hB_2 hB_3; have hB_l := hB.lt; have hB_0 := hB.cell 0 _ rfl; have hB_1 := hB.cell 1 _ rfl; have hB_2 := hB.cell 2 _ rfl; have hB_3 := hB.cell 3 _ rfl) | (go_at_call 87; refine (impl_with Aa Ab na ca nb cb la lb _ (ha.keep ?_) (hb.keep ?_) (by omega) (by omega)).mono ?_; (· ((repeat (first | assumption | with_reducible exact Bl.refl _ | with_reducible refine Bl.drewN ?_ _ | with_reducible refine Bl.drew ?_ | with_reducible refine Bl.alloc ?_ _ | (with_reducible refine Bl.call ?_ (by assumption)))); done)); (· ((repeat (first | assumption | with_reducible exact Bl.refl _ | with_reducible refine Bl.drewN ?_ _ | with_reducible refine Bl.drew ?_ | with_reducible refine Bl.alloc ?_ _ | (with_reducible refine Bl.call ?_ (by assumption)))); done)); rintro e w4 ⟨AI, cI, rfl, hi, hb1⟩; have hC := (Blk.new w3 86 Try.zeroCells86).keep hb1; rw [zero77] at hC; replace hu := (hu.alloc _).keep hb1; replace hB := (hB.alloc _).keep hb1; replace hW := (hW.alloc (.cells Try.zeroCells86 86)).call hb1; clear hB_l hB_0 hB_1 hB_2 hB_3; have hB_l := hB.lt; have hB_0 := hB.cell 0 _ rfl; have hB_1 := hB.cell 1 _ rfl; have hB_2 := hB.cell 2 _ rfl; have hB_3 := hB.cell 3 _ rfl))
  clear hST
  have hib := hi.blk
  have hru := hu.rd
  have hri := hi.rd
  rw [hN] at hru
  clear hu hi
  obtain ⟨gC, hgC⟩ : ∃ g, w3.heap.size = g := ⟨_, rfl⟩
  have hgB : w.heap.size < gC := by omega
  have hib2 : ∀ k, AI.map (·.block) = some k → gC < k := fun k hk => by have := (hib k hk).1; simp at this; omega
  rw [hgC] at hC hub ⊢
  clear hgC hib
  obtain ⟨U, hU⟩ : ∃ U, luL (na + nb + n) gl ol = U := ⟨_, rfl⟩
  obtain ⟨I, hI⟩ : ∃ I, la ++ lb = I := ⟨_, rfl⟩
  rw [hU, hI] at HO
  rw [hU] at HC1 hru HU
  rw [hI] at hri HBT HC1
  clear hU hI HR HK hB_l hB_0 hB_1 hB_2 hB_3
  go_loopw [38] (fun i wr => ∃ k, k ≤ na + nb ∧ i = .int .i64 (k : Nat) ∧ Blk wr gC 86 (ints (inC P U I k)).toArray ∧ w4.grownBy wr (some gC)) (fun i _ => na + nb - (intOf i).toNat)
  case atStart => exact ⟨0, by omega, rfl, hC, World.grownBy.refl _ _⟩
  case round =>
    clear hC
    obtain ⟨k, hk, rfl, hC, hgr⟩ := hrel
    have hWr : Bl w _ := Bl.grown hW hgr (fun q hq => by injection hq with hq; omega)
    by_cases hlt : k < na + nb
    · have ik : (k : Int) < ((na + nb : Nat) : Int) := by omega
      obtain ⟨adU, u, rfl, hadU, huu, hcu⟩ := (hru.grown hgr (fun a ha he => by subst ha; injection he with he; have := (hub a.block rfl).2; omega)).at_ (show k < na + nb + n by omega)
      obtain ⟨adI, v, rfl, hadI, hvv, hcv⟩ := (hri.grown hgr (fun a ha he => by subst ha; injection he with he; have := hib2 a.block rfl; omega)).at_ hlt
      obtain ⟨adP, z, rfl, hadP, hzz, hcz⟩ := (hp.keep hWr).at_ (show k < na + nb + n by omega)
      have hzb := HPF.out.2 z (List.mem_of_getElem? hzz)
      obtain ⟨p, rfl⟩ : ∃ p : Nat, z = (p : Int) := ⟨z.toNat, by omega⟩
      have hcs := HC1.out k
      obtain ⟨o, ho1, _⟩ := hcs.at_ (show p < 1000 by omega)
      have kc := at77 hC ho1
      have kf := hC.frozen
      have kl := hC.lt
      by_cases hu0 : 0 ≤ u
      · have hst := Lib.hid (inC_y huu hu0 hzz hvv)
        have ip : (p : Int) < 1000 := by omega
        have iu : (k : Int) < ((na + nb + n : Nat) : Int) := by omega
        clear huu hzz hvv ho1 hcs
        go_wp2
        go_roundw
        case rel => exact ⟨k + 1, by omega, by go_num, by rw [hst.out, ← put77]; exact hC.set_ p _, grownBy_trans hgr (grownBy_setCell _ _ _ _)⟩
        case measure => simp [intOf]; omega
      · have hst := Lib.hid (inC_n (P := P) (I := I) huu hu0)
        have iu : (k : Int) < ((na + nb + n : Nat) : Int) := by omega
        clear huu hzz hvv ho1 hcs
        go_wp2
        go_roundw
        case rel => exact ⟨k + 1, by omega, by go_num, by rw [hst.out]; exact hC, hgr⟩
        case measure => simp [intOf]; omega
    · have he : k = na + nb := by omega
      subst he
      have hBr := hB.grown hgr (by intro e; injection e with e; omega)
      have hcs0 := Lib.hid (HC1.out (na + nb))
      obtain ⟨CS, hCS⟩ : ∃ CS, inC P U I (na + nb) = CS := ⟨_, rfl⟩
      rw [hCS] at HO hC hcs0
      clear hCS hru hri hub hib2 HC1 HU HBT hgr hB
      have hB := hBr
      clear hBr
      have hW0 := hWr
      clear hWr hW
      have hW := hW0
      clear hW0
      have kB2 := hB.cell 2 _ rfl
      have kBl := hB.lt
      go_wp2
      clear kB2 kBl
      go_loopw [58] (fun i wr => ∃ k, k ≤ n ∧ i = .int .i64 (k : Nat) ∧ Blk wr gC 86 (ints (gaC P (na + nb) gl CS k)).toArray ∧ Blk wr w.heap.size 26 #[.int .i64 (na : Int), .int .i64 (nb : Int), .slice Ag n cg, .slice Ao m co] ∧ Bl w wr) (fun i _ => n - (intOf i).toNat)
      case atStart => exact ⟨0, by omega, rfl, hC, hB, hW⟩
      case round =>
        clear hC hB hW
        obtain ⟨k, hk, rfl, hC, hB, hW⟩ := hrel
        by_cases hlt : k < n
        · obtain ⟨ad, K, x, y, rfl, hx, q0, q1, q2⟩ := (hg.keep hW).at_ hlt
          have HX := Lib.hid hx
          have hgd := goodG_facts (goodGs_at HGS.out hx)
          clear hx
          have ik : (k : Int) < n := by omega
          have hcs := gaC_cells (P := P) (N := na + nb) (gl := gl) hcs0.out k
          obtain ⟨adP, zq, rfl, hadQ, hzq, hcq⟩ := (hp.keep hW).at_ (show na + nb + k < na + nb + n by omega)
          obtain ⟨q, rfl⟩ : ∃ q : Nat, zq = (q : Int) := ⟨zq.toNat, by have := HPF.out.2 zq (List.mem_of_getElem? hzq); omega⟩
          have hqb : q < 1000 := by have := HPF.out.2 _ (List.mem_of_getElem? hzq); omega
          obtain ⟨o, ho1, _⟩ := hcs.at_ hqb
          have kq := at77 hC ho1
          have hst := Lib.hid (gaC_step (cs := CS) HX.out hzq)
          have iq : (q : Int) < 1000 := by omega
          have iQ : ((na + nb + k : Nat) : Int) < ((na + nb + n : Nat) : Int) := by omega
          have iQ2 : (na : Int) + (nb : Int) + (k : Int) < (na : Int) + (nb : Int) + (n : Int) := by omega
          have hwn : IntKind.i64.wrap ((na : Int) + (nb : Int) + (k : Int)) = ((na + nb + k : Nat) : Int) := by rw [IntWalk.i64_in _ (by omega)]; omega
          have hwn2 : IntKind.i64.wrap (((na + nb : Nat) : Int) + (k : Int)) = ((na + nb + k : Nat) : Int) := by rw [IntWalk.i64_in _ (by omega)]; omega
          clear hzq ho1
          obtain ⟨hK, hps⟩ := hgd
          have kf := hC.frozen
          have kl := hC.lt
          have kB := hB.lt
          have kB0 := hB.cell 0 _ rfl
          have kB1 := hB.cell 1 _ rfl
          have kB2 := hB.cell 2 _ rfl
          have kB3 := hB.cell 3 _ rfl
          generalize hGC : gaC P (na + nb) gl CS k = GC at *
          rcases hK with rfl | rfl | rfl | rfl
          · obtain ⟨X, rfl⟩ : ∃ X : Nat, x = (X : Int) := ⟨x.toNat, by have := hps x (by simp [partsL]); omega⟩
            have hXb : X < na + nb + n := by have := hps (X : Int) (by simp [partsL]); omega
            obtain ⟨adP1, z, hEq1, hadP, hzz, hcz⟩ := (hp.keep hW).at_ hXb
            obtain rfl := Option.some.inj hEq1
            clear hEq1
            obtain ⟨p, rfl⟩ : ∃ p : Nat, z = (p : Int) := ⟨z.toNat, by have := HPF.out.2 z (List.mem_of_getElem? hzz); omega⟩
            have hpb : p < 1000 := by have := HPF.out.2 _ (List.mem_of_getElem? hzz); omega
            obtain ⟨u, hu1, hub2⟩ := hcs.at_ hpb
            have kc := at77 hC hu1
            have hcu := Lib.hid (cellAt_eq hzz hu1)
            have iX : (X : Int) < (na : Int) + (nb : Int) + (n : Int) := by omega
            have ip : (p : Int) < 1000 := by omega
            clear hzz hu1
            obtain ⟨Y, rfl⟩ : ∃ Y : Nat, y = (Y : Int) := ⟨y.toNat, by have := hps y (by simp [partsL]); omega⟩
            have hYb : Y < na + nb + n := by have := hps (Y : Int) (by simp [partsL]); omega
            obtain ⟨adP2, z2, hEq, hadP2, hzz2, hcz2⟩ := (hp.keep hW).at_ hYb
            obtain rfl := Option.some.inj hEq
            clear hEq
            obtain ⟨p2, rfl⟩ : ∃ p2 : Nat, z2 = (p2 : Int) := ⟨z2.toNat, by have := HPF.out.2 z2 (List.mem_of_getElem? hzz2); omega⟩
            have hpb2 : p2 < 1000 := by have := HPF.out.2 _ (List.mem_of_getElem? hzz2); omega
            obtain ⟨v, hv1, hvb2⟩ := hcs.at_ hpb2
            have kc2 := at77 hC hv1
            have hcv := Lib.hid (cellAt_eq hzz2 hv1)
            have iY : (Y : Int) < (na : Int) + (nb : Int) + (n : Int) := by omega
            have ip2 : (p2 : Int) < 1000 := by omega
            clear hzz2 hv1
            have hczA : (wr.alloc (.cells #[.int .i64 0, .int .i64 (X : Int), .int .i64 (Y : Int)] 57)).cell? (adP.add X) = some (.int .i64 (p : Int)) := ((Bl.refl wr).alloc _).cells hcz
            have hczB : (wr.alloc (.cells #[.int .i64 0, .int .i64 (X : Int), .int .i64 (Y : Int)] 57)).cell? (adP.add Y) = some (.int .i64 (p2 : Int)) := ((Bl.refl wr).alloc _).cells hcz2
            have hgv0 : gop 0 (cellAt P GC (X : Int)) (cellAt P GC (Y : Int)) = gop 0 u v := by rw [hcu.out, hcv.out]
            rcases hub2 with rfl | rfl <;> rcases hvb2 with rfl | rfl
            · have hgv : gop 0 (cellAt P GC (X : Int)) (cellAt P GC (Y : Int)) = 0 := hgv0
              clear hgv0
              go_wp2_with fail
              go_quiet (fail)
              go_wp2_with (go_at_call 52; refine (impl_inputs _ _ _ _ _ _ _ _ _ (by omega) (by omega) (by omega) (by omega)).mono ?_; rintro e w6 ⟨rfl, hb1⟩; have hR6 : Bl wr w6 := (by (repeat (first | assumption | with_reducible exact Bl.refl _ | with_reducible refine Bl.drewN ?_ _ | with_reducible refine Bl.drew ?_ | with_reducible refine Bl.alloc ?_ _ | (with_reducible refine Bl.call ?_ (by assumption))))); have hC6 := hC.keep hR6; have hB6 := hB.keep hR6; have hW6 := hW.call hR6; have hcq6 := hR6.cells hcq; have kq6 := hR6.cells kq; have kf6 := hC6.frozen; have kl6 := hC6.lt; have hadQ6 := Nat.lt_of_lt_of_le hadQ hR6.sz)
              go_roundw
              case rel => first | exact ⟨k + 1, by omega, by go_num, by rw [hst.out, hgv, ← put77]; exact hC6.set_ q _, hB6.far (by dsimp only; omega) _, hW6.setCell (by dsimp only; omega) _⟩ | ((repeat apply Exists.intro); exact ⟨⟨k + 1, by omega, by go_num, by rw [hst.out, hgv, ← put77]; exact hC6.set_ q _, hB6.far (by dsimp only; omega) _, hW6.setCell (by dsimp only; omega) _⟩, rfl⟩)
              case measure => simp [intOf]; omega
            · have hgv : gop 0 (cellAt P GC (X : Int)) (cellAt P GC (Y : Int)) = 1 := hgv0
              clear hgv0
              go_wp2_with fail
              go_quiet (fail)
              go_wp2_with (go_at_call 52; refine (impl_inputs _ _ _ _ _ _ _ _ _ (by omega) (by omega) (by omega) (by omega)).mono ?_; rintro e w6 ⟨rfl, hb1⟩; have hR6 : Bl wr w6 := (by (repeat (first | assumption | with_reducible exact Bl.refl _ | with_reducible refine Bl.drewN ?_ _ | with_reducible refine Bl.drew ?_ | with_reducible refine Bl.alloc ?_ _ | (with_reducible refine Bl.call ?_ (by assumption))))); have hC6 := hC.keep hR6; have hB6 := hB.keep hR6; have hW6 := hW.call hR6; have hcq6 := hR6.cells hcq; have kq6 := hR6.cells kq; have kf6 := hC6.frozen; have kl6 := hC6.lt; have hadQ6 := Nat.lt_of_lt_of_le hadQ hR6.sz)
              go_roundw
              case rel => first | exact ⟨k + 1, by omega, by go_num, by rw [hst.out, hgv, ← put77]; exact hC6.set_ q _, hB6.far (by dsimp only; omega) _, hW6.setCell (by dsimp only; omega) _⟩ | ((repeat apply Exists.intro); exact ⟨⟨k + 1, by omega, by go_num, by rw [hst.out, hgv, ← put77]; exact hC6.set_ q _, hB6.far (by dsimp only; omega) _, hW6.setCell (by dsimp only; omega) _⟩, rfl⟩)
              case measure => simp [intOf]; omega
            · have hgv : gop 0 (cellAt P GC (X : Int)) (cellAt P GC (Y : Int)) = 1 := hgv0
              clear hgv0
              go_wp2_with fail
              go_quiet (fail)
              go_wp2_with (go_at_call 52; refine (impl_inputs _ _ _ _ _ _ _ _ _ (by omega) (by omega) (by omega) (by omega)).mono ?_; rintro e w6 ⟨rfl, hb1⟩; have hR6 : Bl wr w6 := (by (repeat (first | assumption | with_reducible exact Bl.refl _ | with_reducible refine Bl.drewN ?_ _ | with_reducible refine Bl.drew ?_ | with_reducible refine Bl.alloc ?_ _ | (with_reducible refine Bl.call ?_ (by assumption))))); have hC6 := hC.keep hR6; have hB6 := hB.keep hR6; have hW6 := hW.call hR6; have hcq6 := hR6.cells hcq; have kq6 := hR6.cells kq; have kf6 := hC6.frozen; have kl6 := hC6.lt; have hadQ6 := Nat.lt_of_lt_of_le hadQ hR6.sz)
              go_roundw
              case rel => first | exact ⟨k + 1, by omega, by go_num, by rw [hst.out, hgv, ← put77]; exact hC6.set_ q _, hB6.far (by dsimp only; omega) _, hW6.setCell (by dsimp only; omega) _⟩ | ((repeat apply Exists.intro); exact ⟨⟨k + 1, by omega, by go_num, by rw [hst.out, hgv, ← put77]; exact hC6.set_ q _, hB6.far (by dsimp only; omega) _, hW6.setCell (by dsimp only; omega) _⟩, rfl⟩)
              case measure => simp [intOf]; omega
            · have hgv : gop 0 (cellAt P GC (X : Int)) (cellAt P GC (Y : Int)) = 0 := hgv0
              clear hgv0
              go_wp2_with fail
              go_quiet (fail)
              go_wp2_with (go_at_call 52; refine (impl_inputs _ _ _ _ _ _ _ _ _ (by omega) (by omega) (by omega) (by omega)).mono ?_; rintro e w6 ⟨rfl, hb1⟩; have hR6 : Bl wr w6 := (by (repeat (first | assumption | with_reducible exact Bl.refl _ | with_reducible refine Bl.drewN ?_ _ | with_reducible refine Bl.drew ?_ | with_reducible refine Bl.alloc ?_ _ | (with_reducible refine Bl.call ?_ (by assumption))))); have hC6 := hC.keep hR6; have hB6 := hB.keep hR6; have hW6 := hW.call hR6; have hcq6 := hR6.cells hcq; have kq6 := hR6.cells kq; have kf6 := hC6.frozen; have kl6 := hC6.lt; have hadQ6 := Nat.lt_of_lt_of_le hadQ hR6.sz)
              go_roundw
              case rel => first | exact ⟨k + 1, by omega, by go_num, by rw [hst.out, hgv, ← put77]; exact hC6.set_ q _, hB6.far (by dsimp only; omega) _, hW6.setCell (by dsimp only; omega) _⟩ | ((repeat apply Exists.intro); exact ⟨⟨k + 1, by omega, by go_num, by rw [hst.out, hgv, ← put77]; exact hC6.set_ q _, hB6.far (by dsimp only; omega) _, hW6.setCell (by dsimp only; omega) _⟩, rfl⟩)
              case measure => simp [intOf]; omega
          · obtain ⟨X, rfl⟩ : ∃ X : Nat, x = (X : Int) := ⟨x.toNat, by have := hps x (by simp [partsL]); omega⟩
            have hXb : X < na + nb + n := by have := hps (X : Int) (by simp [partsL]); omega
            obtain ⟨adP1, z, hEq1, hadP, hzz, hcz⟩ := (hp.keep hW).at_ hXb
            obtain rfl := Option.some.inj hEq1
            clear hEq1
            obtain ⟨p, rfl⟩ : ∃ p : Nat, z = (p : Int) := ⟨z.toNat, by have := HPF.out.2 z (List.mem_of_getElem? hzz); omega⟩
            have hpb : p < 1000 := by have := HPF.out.2 _ (List.mem_of_getElem? hzz); omega
            obtain ⟨u, hu1, hub2⟩ := hcs.at_ hpb
            have kc := at77 hC hu1
            have hcu := Lib.hid (cellAt_eq hzz hu1)
            have iX : (X : Int) < (na : Int) + (nb : Int) + (n : Int) := by omega
            have ip : (p : Int) < 1000 := by omega
            clear hzz hu1
            obtain ⟨Y, rfl⟩ : ∃ Y : Nat, y = (Y : Int) := ⟨y.toNat, by have := hps y (by simp [partsL]); omega⟩
            have hYb : Y < na + nb + n := by have := hps (Y : Int) (by simp [partsL]); omega
            obtain ⟨adP2, z2, hEq, hadP2, hzz2, hcz2⟩ := (hp.keep hW).at_ hYb
            obtain rfl := Option.some.inj hEq
            clear hEq
            obtain ⟨p2, rfl⟩ : ∃ p2 : Nat, z2 = (p2 : Int) := ⟨z2.toNat, by have := HPF.out.2 z2 (List.mem_of_getElem? hzz2); omega⟩
            have hpb2 : p2 < 1000 := by have := HPF.out.2 _ (List.mem_of_getElem? hzz2); omega
            obtain ⟨v, hv1, hvb2⟩ := hcs.at_ hpb2
            have kc2 := at77 hC hv1
            have hcv := Lib.hid (cellAt_eq hzz2 hv1)
            have iY : (Y : Int) < (na : Int) + (nb : Int) + (n : Int) := by omega
            have ip2 : (p2 : Int) < 1000 := by omega
            clear hzz2 hv1
            have hczA : (wr.alloc (.cells #[.int .i64 1, .int .i64 (X : Int), .int .i64 (Y : Int)] 57)).cell? (adP.add X) = some (.int .i64 (p : Int)) := ((Bl.refl wr).alloc _).cells hcz
            have hczB : (wr.alloc (.cells #[.int .i64 1, .int .i64 (X : Int), .int .i64 (Y : Int)] 57)).cell? (adP.add Y) = some (.int .i64 (p2 : Int)) := ((Bl.refl wr).alloc _).cells hcz2
            have hgv0 : gop 1 (cellAt P GC (X : Int)) (cellAt P GC (Y : Int)) = gop 1 u v := by rw [hcu.out, hcv.out]
            rcases hub2 with rfl | rfl <;> rcases hvb2 with rfl | rfl
            · have hgv : gop 1 (cellAt P GC (X : Int)) (cellAt P GC (Y : Int)) = 0 := hgv0
              clear hgv0
              go_wp2_with fail
              go_quiet (fail)
              go_wp2_with (go_at_call 52; refine (impl_inputs _ _ _ _ _ _ _ _ _ (by omega) (by omega) (by omega) (by omega)).mono ?_; rintro e w6 ⟨rfl, hb1⟩; have hR6 : Bl wr w6 := (by (repeat (first | assumption | with_reducible exact Bl.refl _ | with_reducible refine Bl.drewN ?_ _ | with_reducible refine Bl.drew ?_ | with_reducible refine Bl.alloc ?_ _ | (with_reducible refine Bl.call ?_ (by assumption))))); have hC6 := hC.keep hR6; have hB6 := hB.keep hR6; have hW6 := hW.call hR6; have hcq6 := hR6.cells hcq; have kq6 := hR6.cells kq; have kf6 := hC6.frozen; have kl6 := hC6.lt; have hadQ6 := Nat.lt_of_lt_of_le hadQ hR6.sz)
              go_roundw
              case rel => first | exact ⟨k + 1, by omega, by go_num, by rw [hst.out, hgv, ← put77]; exact hC6.set_ q _, hB6.far (by dsimp only; omega) _, hW6.setCell (by dsimp only; omega) _⟩ | ((repeat apply Exists.intro); exact ⟨⟨k + 1, by omega, by go_num, by rw [hst.out, hgv, ← put77]; exact hC6.set_ q _, hB6.far (by dsimp only; omega) _, hW6.setCell (by dsimp only; omega) _⟩, rfl⟩)
              case measure => simp [intOf]; omega
            · have hgv : gop 1 (cellAt P GC (X : Int)) (cellAt P GC (Y : Int)) = 0 := hgv0
              clear hgv0
              go_wp2_with fail
              go_quiet (fail)
              go_wp2_with (go_at_call 52; refine (impl_inputs _ _ _ _ _ _ _ _ _ (by omega) (by omega) (by omega) (by omega)).mono ?_; rintro e w6 ⟨rfl, hb1⟩; have hR6 : Bl wr w6 := (by (repeat (first | assumption | with_reducible exact Bl.refl _ | with_reducible refine Bl.drewN ?_ _ | with_reducible refine Bl.drew ?_ | with_reducible refine Bl.alloc ?_ _ | (with_reducible refine Bl.call ?_ (by assumption))))); have hC6 := hC.keep hR6; have hB6 := hB.keep hR6; have hW6 := hW.call hR6; have hcq6 := hR6.cells hcq; have kq6 := hR6.cells kq; have kf6 := hC6.frozen; have kl6 := hC6.lt; have hadQ6 := Nat.lt_of_lt_of_le hadQ hR6.sz)
              go_roundw
              case rel => first | exact ⟨k + 1, by omega, by go_num, by rw [hst.out, hgv, ← put77]; exact hC6.set_ q _, hB6.far (by dsimp only; omega) _, hW6.setCell (by dsimp only; omega) _⟩ | ((repeat apply Exists.intro); exact ⟨⟨k + 1, by omega, by go_num, by rw [hst.out, hgv, ← put77]; exact hC6.set_ q _, hB6.far (by dsimp only; omega) _, hW6.setCell (by dsimp only; omega) _⟩, rfl⟩)
              case measure => simp [intOf]; omega
            · have hgv : gop 1 (cellAt P GC (X : Int)) (cellAt P GC (Y : Int)) = 0 := hgv0
              clear hgv0
              go_wp2_with fail
              go_quiet (fail)
              go_wp2_with (go_at_call 52; refine (impl_inputs _ _ _ _ _ _ _ _ _ (by omega) (by omega) (by omega) (by omega)).mono ?_; rintro e w6 ⟨rfl, hb1⟩; have hR6 : Bl wr w6 := (by (repeat (first | assumption | with_reducible exact Bl.refl _ | with_reducible refine Bl.drewN ?_ _ | with_reducible refine Bl.drew ?_ | with_reducible refine Bl.alloc ?_ _ | (with_reducible refine Bl.call ?_ (by assumption))))); have hC6 := hC.keep hR6; have hB6 := hB.keep hR6; have hW6 := hW.call hR6; have hcq6 := hR6.cells hcq; have kq6 := hR6.cells kq; have kf6 := hC6.frozen; have kl6 := hC6.lt; have hadQ6 := Nat.lt_of_lt_of_le hadQ hR6.sz)
              go_roundw
              case rel => first | exact ⟨k + 1, by omega, by go_num, by rw [hst.out, hgv, ← put77]; exact hC6.set_ q _, hB6.far (by dsimp only; omega) _, hW6.setCell (by dsimp only; omega) _⟩ | ((repeat apply Exists.intro); exact ⟨⟨k + 1, by omega, by go_num, by rw [hst.out, hgv, ← put77]; exact hC6.set_ q _, hB6.far (by dsimp only; omega) _, hW6.setCell (by dsimp only; omega) _⟩, rfl⟩)
              case measure => simp [intOf]; omega
            · have hgv : gop 1 (cellAt P GC (X : Int)) (cellAt P GC (Y : Int)) = 1 := hgv0
              clear hgv0
              go_wp2_with fail
              go_quiet (fail)
              go_wp2_with (go_at_call 52; refine (impl_inputs _ _ _ _ _ _ _ _ _ (by omega) (by omega) (by omega) (by omega)).mono ?_; rintro e w6 ⟨rfl, hb1⟩; have hR6 : Bl wr w6 := (by (repeat (first | assumption | with_reducible exact Bl.refl _ | with_reducible refine Bl.drewN ?_ _ | with_reducible refine Bl.drew ?_ | with_reducible refine Bl.alloc ?_ _ | (with_reducible refine Bl.call ?_ (by assumption))))); have hC6 := hC.keep hR6; have hB6 := hB.keep hR6; have hW6 := hW.call hR6; have hcq6 := hR6.cells hcq; have kq6 := hR6.cells kq; have kf6 := hC6.frozen; have kl6 := hC6.lt; have hadQ6 := Nat.lt_of_lt_of_le hadQ hR6.sz)
              go_roundw
              case rel => first | exact ⟨k + 1, by omega, by go_num, by rw [hst.out, hgv, ← put77]; exact hC6.set_ q _, hB6.far (by dsimp only; omega) _, hW6.setCell (by dsimp only; omega) _⟩ | ((repeat apply Exists.intro); exact ⟨⟨k + 1, by omega, by go_num, by rw [hst.out, hgv, ← put77]; exact hC6.set_ q _, hB6.far (by dsimp only; omega) _, hW6.setCell (by dsimp only; omega) _⟩, rfl⟩)
              case measure => simp [intOf]; omega
          · obtain ⟨X, rfl⟩ : ∃ X : Nat, x = (X : Int) := ⟨x.toNat, by have := hps x (by simp [partsL]); omega⟩
            have hXb : X < na + nb + n := by have := hps (X : Int) (by simp [partsL]); omega
            obtain ⟨adP1, z, hEq1, hadP, hzz, hcz⟩ := (hp.keep hW).at_ hXb
            obtain rfl := Option.some.inj hEq1
            clear hEq1
            obtain ⟨p, rfl⟩ : ∃ p : Nat, z = (p : Int) := ⟨z.toNat, by have := HPF.out.2 z (List.mem_of_getElem? hzz); omega⟩
            have hpb : p < 1000 := by have := HPF.out.2 _ (List.mem_of_getElem? hzz); omega
            obtain ⟨u, hu1, hub2⟩ := hcs.at_ hpb
            have kc := at77 hC hu1
            have hcu := Lib.hid (cellAt_eq hzz hu1)
            have iX : (X : Int) < (na : Int) + (nb : Int) + (n : Int) := by omega
            have ip : (p : Int) < 1000 := by omega
            clear hzz hu1
            have hczA : (wr.alloc (.cells #[.int .i64 2, .int .i64 (X : Int), .int .i64 y] 57)).cell? (adP.add X) = some (.int .i64 (p : Int)) := ((Bl.refl wr).alloc _).cells hcz
            have hgv0 : gop 2 (cellAt P GC (X : Int)) (cellAt P GC y) = 1 - u := by rw [hcu.out]; simp [gop]
            rcases hub2 with rfl | rfl
            · have hgv : gop 2 (cellAt P GC (X : Int)) (cellAt P GC y) = 1 := hgv0
              clear hgv0
              go_wp2_with (go_at_call 52; refine (impl_inputs _ _ _ _ _ _ _ _ _ (by omega) (by omega) (by omega) (by omega)).mono ?_; rintro e w6 ⟨rfl, hb1⟩; have hR6 : Bl wr w6 := (by (repeat (first | assumption | with_reducible exact Bl.refl _ | with_reducible refine Bl.drewN ?_ _ | with_reducible refine Bl.drew ?_ | with_reducible refine Bl.alloc ?_ _ | (with_reducible refine Bl.call ?_ (by assumption))))); have hC6 := hC.keep hR6; have hB6 := hB.keep hR6; have hW6 := hW.call hR6; have hcq6 := hR6.cells hcq; have kq6 := hR6.cells kq; have kf6 := hC6.frozen; have kl6 := hC6.lt; have hadQ6 := Nat.lt_of_lt_of_le hadQ hR6.sz)
              go_roundw
              case rel => first | exact ⟨k + 1, by omega, by go_num, by rw [hst.out, hgv, ← put77]; exact hC6.set_ q _, hB6.far (by dsimp only; omega) _, hW6.setCell (by dsimp only; omega) _⟩ | ((repeat apply Exists.intro); exact ⟨⟨k + 1, by omega, by go_num, by rw [hst.out, hgv, ← put77]; exact hC6.set_ q _, hB6.far (by dsimp only; omega) _, hW6.setCell (by dsimp only; omega) _⟩, rfl⟩)
              case measure => simp [intOf]; omega
            · have hgv : gop 2 (cellAt P GC (X : Int)) (cellAt P GC y) = 0 := hgv0
              clear hgv0
              go_wp2_with (go_at_call 52; refine (impl_inputs _ _ _ _ _ _ _ _ _ (by omega) (by omega) (by omega) (by omega)).mono ?_; rintro e w6 ⟨rfl, hb1⟩; have hR6 : Bl wr w6 := (by (repeat (first | assumption | with_reducible exact Bl.refl _ | with_reducible refine Bl.drewN ?_ _ | with_reducible refine Bl.drew ?_ | with_reducible refine Bl.alloc ?_ _ | (with_reducible refine Bl.call ?_ (by assumption))))); have hC6 := hC.keep hR6; have hB6 := hB.keep hR6; have hW6 := hW.call hR6; have hcq6 := hR6.cells hcq; have kq6 := hR6.cells kq; have kf6 := hC6.frozen; have kl6 := hC6.lt; have hadQ6 := Nat.lt_of_lt_of_le hadQ hR6.sz)
              go_roundw
              case rel => first | exact ⟨k + 1, by omega, by go_num, by rw [hst.out, hgv, ← put77]; exact hC6.set_ q _, hB6.far (by dsimp only; omega) _, hW6.setCell (by dsimp only; omega) _⟩ | ((repeat apply Exists.intro); exact ⟨⟨k + 1, by omega, by go_num, by rw [hst.out, hgv, ← put77]; exact hC6.set_ q _, hB6.far (by dsimp only; omega) _, hW6.setCell (by dsimp only; omega) _⟩, rfl⟩)
              case measure => simp [intOf]; omega
          · have hgv : gop 3 (cellAt P GC x) (cellAt P GC y) = 1 := by simp [gop]
            go_wp2_with (go_at_call 52; refine (impl_inputs _ _ _ _ _ _ _ _ _ (by omega) (by omega) (by omega) (by omega)).mono ?_; rintro e w6 ⟨rfl, hb1⟩; have hR6 : Bl wr w6 := (by (repeat (first | assumption | with_reducible exact Bl.refl _ | with_reducible refine Bl.drewN ?_ _ | with_reducible refine Bl.drew ?_ | with_reducible refine Bl.alloc ?_ _ | (with_reducible refine Bl.call ?_ (by assumption))))); have hC6 := hC.keep hR6; have hB6 := hB.keep hR6; have hW6 := hW.call hR6; have hcq6 := hR6.cells hcq; have kq6 := hR6.cells kq; have kf6 := hC6.frozen; have kl6 := hC6.lt; have hadQ6 := Nat.lt_of_lt_of_le hadQ hR6.sz)
            go_roundw
            case rel => first | exact ⟨k + 1, by omega, by go_num, by rw [hst.out, hgv, ← put77]; exact hC6.set_ q _, hB6.far (by dsimp only; omega) _, hW6.setCell (by dsimp only; omega) _⟩ | ((repeat apply Exists.intro); exact ⟨⟨k + 1, by omega, by go_num, by rw [hst.out, hgv, ← put77]; exact hC6.set_ q _, hB6.far (by dsimp only; omega) _, hW6.setCell (by dsimp only; omega) _⟩, rfl⟩)
            case measure => simp [intOf]; omega
        · have he : k = n := by omega
          subst he
          have hcs := Lib.hid (gaC_cells (P := P) (N := na + nb) (gl := gl) hcs0.out k)
          obtain ⟨GC, hGC⟩ : ∃ GC, gaC P (na + nb) gl CS k = GC := ⟨_, rfl⟩
          rw [hGC] at HO hC hcs
          clear hGC hcs0
          have kB3 := hB.cell 3 _ rfl
          have kBl := hB.lt
          go_wp2
          clear kB3 kBl
          have hown0 := own_made wr
          have h00 := (Bl.refl wr).alloc (.cells #[] 3)
          go_loopw [17, 123] (fun s i wr2 => ∃ k2 A2 c2, k2 ≤ m ∧ i = .int .i64 (k2 : Nat) ∧ s = .slice A2 k2 c2 ∧ OwnI wr.heap.size wr2 A2 k2 c2 (pickE GC (pickE P (ol.take k2))) ∧ Bl wr wr2) (fun _ i _ => m - (intOf i).toNat)
          case atStart => exact ⟨0, _, _, by omega, rfl, rfl, hown0, h00⟩
          case round =>
            clear hown0 h00
            obtain ⟨k2, A2, c2, hk2, rfl, rfl, hown, hW2⟩ := hrel
            by_cases hlt2 : k2 < m
            · obtain ⟨adO, x, rfl, hadO, hxo, hco⟩ := (ho.keep (hW.call hW2)).at_ hlt2
              have hxb := HOL.out x (List.mem_of_getElem? hxo)
              obtain ⟨X, rfl⟩ : ∃ X : Nat, x = (X : Int) := ⟨x.toNat, by omega⟩
              obtain ⟨adP, z, rfl, hadP, hzz, hcz⟩ := (hp.keep (hW.call hW2)).at_ (show X < na + nb + k by omega)
              obtain ⟨p, rfl⟩ : ∃ p : Nat, z = (p : Int) := ⟨z.toNat, by have := HPF.out.2 z (List.mem_of_getElem? hzz); omega⟩
              have hpb : p < 1000 := by have := HPF.out.2 _ (List.mem_of_getElem? hzz); omega
              obtain ⟨u, hu1, _⟩ := hcs.out.at_ hpb
              have hC2 := hC.keep hW2
              have kc := at77 hC2 hu1
              have kl := hC2.lt
              have hst := Lib.hid (pickE_two hxo hzz hu1)
              have ik2 : (k2 : Int) < m := by omega
              have iX : (X : Int) < (na : Int) + (nb : Int) + (k : Int) := by omega
              have ip : (p : Int) < 1000 := by omega
              clear hxo hzz hu1
              go_wp2_with (at_builtin; refine ap_int rfl rfl rfl (hown.alloc _) rfl (rd_new1 _ _ _) (by omega) (by have := hW2.sz; simp; omega) ?_; intro A3 c3 w8 hown3 hg3 hat3)
              go_roundw
              case rel => exact ⟨_, _, _, ⟨k2 + 1, by omega, by go_num, A3, c3, rfl, by rw [hst.out]; exact hown3, Bl.grown (hW2.alloc _) hg3 (fun q hq => (hown.blk q hq).1)⟩, rfl, rfl, rfl⟩
              case measure => simp [intOf]; omega
            · have he : k2 = m := by omega
              subst he
              have hEt := Lib.hid (show ol.take k2 = ol by rw [← hmm, List.take_length])
              go_wp2
              go_ret2
              exact ⟨A2, _, c2, rfl, by rw [HO.out]; rw [hEt.out] at hown; exact OwnI.mono hown hW.sz, hW.call hW2⟩
end Go.Proofs.Ytlmlffiajgofeaa
