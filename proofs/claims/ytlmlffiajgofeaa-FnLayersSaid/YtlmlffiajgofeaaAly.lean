/- Contracts of AndLayers, and the walk of its law.
   Conditions: none. -/
import Derived.Test.YtlmlffiajgofeaaAlp
import Derived.Test.YtlmlffiajgofeaaSsl
import Derived.Test.YtlmlffiajgofeaaRof
import Derived.Test.YtlmlffiajgofeaaCdt
namespace Go.Proofs.Ytlmlffiajgofeaa
open Go.RowKit
set_option linter.unusedVariables false
def alR (a b : Int) (gl : List Gt) (ol : List Int) (M : Nat) : List (List Int) := if goodC a b gl ol then LLk (a + b).toNat (adL (a + b).toNat gl gl.length) gl gl.length M else []
def slN : Value → Nat
  | .slice _ n _ => n
  | _ => 0
theorem own_madeSS (w : World) {g : Nat} (hg : w.heap.size = g := by first | with_reducible rfl | simp) : OwnSS w.heap.size (w.alloc (.cells #[] 24)) (some ⟨g, 0, none⟩) 0 0 [] [] := by
  subst hg
  exact ⟨World.ownsRow_made (size := 1) w #[] 0 (Nat.le_refl _) (by simp) (by simp), rfl, by simp, by simp, by simp⟩
set_option maxHeartbeats 8000000 in
theorem impl_AndLayers (a b : Int) (Ag Ao : Option Addr) (n cg m co : Nat) (gl : List Gt) (ol : List Int) (w : World) (hg : RdG w Ag n cg gl) (ho : RdI w Ao m co ol) (M : Nat) (hM : IsTop (a + b).toNat (adL (a + b).toNat gl n) gl n M) (hMn : M ≤ n) :
    Calls Try.prog 28 #[.agg #[.int .i64 a, .int .i64 b, .slice Ag n cg, .slice Ao m co]] w fun e w' => ∃ A' n' c' hs, e = .returned (.tuple #[.slice A' n' c', .bool (goodC a b gl ol)]) ∧ OwnSS w.heap.size w' A' n' c' hs (alR a b gl ol M) ∧ Bl w w' := by
  have hW := (Bl.refl w).alloc (.cells #[.int .i64 a, .int .i64 b, .slice Ag n cg, .slice Ao m co] 26)
  have hB := Blk.new w 26 #[.int .i64 a, .int .i64 b, .slice Ag n cg, .slice Ao m co]
  have hG := Lib.hid (impl_IsCircuit a b Ag Ao n cg m co gl ol (w.alloc (.cells #[.int .i64 a, .int .i64 b, .slice Ag n cg, .slice Ao m co] 26)) (hg.keep hW) (ho.keep hW))
  rcases hgd : goodC a b gl ol
  · rw [hgd] at hG
    have hR := Lib.hid (show alR a b gl ol M = [] by simp [alR, hgd])
    go_enter Try.func28, Try.ntmps28
    go_wp2_with (go_at_call 50; refine hG.out.mono ?_; rintro e w1 ⟨rfl, hb1⟩)
    go_ret2
    exact ⟨none, 0, 0, [], rfl, by rw [hR.out]; exact OwnSS.nil _ _, (by (repeat (first | assumption | with_reducible exact Bl.refl _ | with_reducible refine Bl.drewN ?_ _ | with_reducible refine Bl.drew ?_ | with_reducible refine Bl.alloc ?_ _ | (with_reducible refine Bl.call ?_ (by assumption)))))⟩
  · rw [hgd] at hG
    have hgl := Lib.hid hg.2
    obtain ⟨hle1, hle2⟩ := hg.le
    obtain ⟨a0, a1, b0, b1, hn, _, _, _⟩ := goodC_facts hgd
    rw [hg.2] at hn
    have HGD := Lib.hid hgd
    have hR := Lib.hid (show alR a b gl ol M = LLk (a + b).toNat (adL (a + b).toNat gl n) gl n M by rw [alR, hgd, hg.2]; rfl)
    clear hgd
    obtain ⟨N0, hN0⟩ : ∃ N0 : Nat, a + b = N0 := ⟨(a + b).toNat, by omega⟩
    have HN := Lib.hid hN0
    have hT : (a + b).toNat = N0 := by omega
    have HAD := fun W (hW : Bl w W) => Lib.hid (impl_andDepths a b Ag Ao n cg m co gl ol W (hg.keep hW) HGD.out)
    rw [hT] at hR HAD hM
    clear hT
    have hlA := Lib.hid (adL_length N0 gl n)
    have hAnd := Lib.hid (fun k x y v (h1 : gl[k]? = some ⟨1, x, y⟩) (h2 : k < n) h3 => adL_and (N := N0) (v := v) h1 h2 h3)
    have HM := Lib.hid hM
    clear hM
    generalize adL N0 gl n = L at *
    go_enter Try.func28, Try.ntmps28
    go_wp2_with (first | (go_at_call 50; refine hG.out.mono ?_; rintro e w1 ⟨rfl, hb1⟩; replace hB := hB.keep hb1; replace hW := hW.call hb1; have hB_l := hB.lt; have hB_0 := hB.cell 0 _ rfl; have hB_1 := hB.cell 1 _ rfl; have hB_2 := hB.cell 2 _ rfl; have hB_3 := hB.cell 3 _ rfl))
    refine (HAD _ (by (repeat (first | assumption | with_reducible exact Bl.refl _ | with_reducible refine Bl.drewN ?_ _ | with_reducible refine Bl.drew ?_ | with_reducible refine Bl.alloc ?_ _ | (with_reducible refine Bl.call ?_ (by assumption)))))).out.mono ?_
    rintro e w2 ⟨A2, c2, rfl, ho2, hb2⟩
    have hs1 := hW.sz
    have hown0 : OwnSS (w.heap.size + 1) w2 (some ⟨w1.heap.size, 0, none⟩) 0 0 [] (LLk N0 L gl 0 0) := (OwnSS.mono (own_madeSS w1) (by have := hB.lt; omega)).keep hb2
    have hap0 : ApSS (A2.map (·.block)) (some (⟨w1.heap.size, 0, none⟩ : Addr)) [] := fun k hk => ⟨fun e => by have := (ho2.blk k hk).1; simp at this e; omega, by simp⟩
    replace hB := (hB.alloc _).keep hb2
    replace hW := (hW.alloc _).call hb2
    clear hB_l hB_0 hB_1 hB_2 hB_3
    have hB_l := hB.lt; have hB_2 := hB.cell 2 _ rfl
    go_wp2
    have h2b := ho2.blk
    have hr2 := ho2.rd
    clear ho2 HAD hG
    go_loopw [4, 18] (fun s i wr => ∃ k A p c hs, k ≤ n ∧ p ≤ M ∧ i = .int .i64 (k : Nat) ∧ s = .slice A p c ∧ OwnSS (w.heap.size + 1) wr A p c hs (LLk N0 L gl k p) ∧ Hid (∀ j, p < j → lay N0 L gl j k = []) ∧ RdI wr A2 (N0 + n) c2 L ∧ ApSS (A2.map (·.block)) A hs ∧ w2.heap.size ≤ wr.heap.size ∧ Blk wr w.heap.size 26 #[.int .i64 a, .int .i64 b, .slice Ag n cg, .slice Ao m co] ∧ Bl w wr) (fun s i _ => n - (intOf i).toNat)
    case atStart => exact ⟨0, _, 0, _, [], by omega, by omega, rfl, rfl, hown0, Lib.hid fun j _ => rfl, hr2, hap0, Nat.le_refl _, hB, hW⟩
    case round =>
      clear hW hr2 hB hap0 hown0 hB_2 hB_l
      obtain ⟨k, A, p, c, hs, hk, hp, rfl, rfl, hown, hE, hr2, hap, hsz, hB, hW⟩ := hrel
      by_cases hlt : k < n
      · obtain ⟨ad, K, x, y, rfl, hx, q0, q1, q2⟩ := (hg.keep hW).at_ hlt
        have HX := Lib.hid hx
        clear hx
        have ik : (k : Int) < n := by omega
        obtain ⟨ad3, v, rfl, hadb3, hv, hcv⟩ := hr2.at_ (show N0 + k < N0 + n by omega)
        have HV := Lib.hid hv
        clear hv
        have hwn : IntKind.i64.wrap ((N0 : Int) + (k : Int)) = ((N0 + k : Nat) : Int) := by rw [IntWalk.i64_in _ (by omega)]; omega
        have iz : ((N0 + k : Nat) : Int) < ((N0 + n : Nat) : Int) := by omega
        have kB := hB.lt
        have kB0 := hB.cell 0 _ rfl
        have kB1 := hB.cell 1 _ rfl
        have kB2 := hB.cell 2 _ rfl
        have kB3 := hB.cell 3 _ rfl
        rcases hk1 : (K == 1)
        · have hK : ¬ K = 1 := by simpa using hk1
          have hst := Lib.hid (LLk_kind (N := N0) (L := L) (m := p) HX.out hK)
          have hE2 : Hid (∀ j, p < j → lay N0 L gl j (k + 1) = []) := Lib.hid fun j hj => by rw [lay_kind HX.out hK]; exact hE.out j hj
          clear hK
          go_wp2
          go_roundw
          case rel => exact ⟨k + 1, A, p, c, hs, by omega, hp, by go_num, rfl, by rw [hst.out]; exact hown.alloc _, hE2, hr2.keep (by (repeat (first | assumption | with_reducible exact Bl.refl _ | with_reducible refine Bl.drewN ?_ _ | with_reducible refine Bl.drew ?_ | with_reducible refine Bl.alloc ?_ _ | (with_reducible refine Bl.call ?_ (by assumption))))), hap, Nat.le_trans hsz (Bl.sz (by (repeat (first | assumption | with_reducible exact Bl.refl _ | with_reducible refine Bl.drewN ?_ _ | with_reducible refine Bl.drew ?_ | with_reducible refine Bl.alloc ?_ _ | (with_reducible refine Bl.call ?_ (by assumption)))))), hB.alloc _, hW.alloc _⟩
          case measure => simp [intOf]; omega
        · obtain rfl : K = 1 := by simpa using hk1
          have hvb := hAnd.out k x y v HX.out hlt HV.out
          obtain ⟨e, rfl⟩ : ∃ e : Nat, v = ((e + 1 : Nat) : Int) := ⟨(v - 1).toNat, by omega⟩
          have hdM := top_le HM.out HX.out hlt HV.out
          go_wp2_with (first | (go_at_call 52; refine (impl_inputs _ _ _ _ _ _ _ _ _ (by omega) (by omega) (by omega) (by omega)).mono ?_; rintro e w3 ⟨rfl, hb3⟩; rw [HN.out]; replace hB := (hB.alloc _).keep hb3; replace hW := (hW.alloc _).call hb3; replace hown := (hown.alloc _).keep hb3; have hcv3 := hb3.cells (((Bl.refl wr).alloc (.cells #[.int .i64 1, .int .i64 x, .int .i64 y] 57)).cells hcv); have hadb4 : ad3.block < w3.heap.size := Nat.lt_of_lt_of_le hadb3 ((Bl.refl wr).alloc (.cells #[.int .i64 1, .int .i64 x, .int .i64 y] 57) |>.call hb3 |>.sz); replace hr2 := (hr2.keep ((Bl.refl wr).alloc _)).keep hb3; replace hsz := Nat.le_trans hsz ((Bl.refl wr).alloc (.cells #[.int .i64 1, .int .i64 x, .int .i64 y] 57) |>.call hb3 |>.sz)))
          clear hcv hcv3 hadb3 hadb4 q0 q1 q2
          go_loopw [4] (fun s wr2 => ∃ A p c hs, p ≤ M ∧ s = .slice A p c ∧ OwnSS (w.heap.size + 1) wr2 A p c hs (LLk N0 L gl k p) ∧ Hid (∀ j, p < j → lay N0 L gl j k = []) ∧ RdI wr2 (some ad3) (N0 + n) c2 L ∧ ApSS ((some ad3).map (·.block)) A hs ∧ w2.heap.size ≤ wr2.heap.size ∧ Blk wr2 w.heap.size 26 #[.int .i64 a, .int .i64 b, .slice (some ad) n cg, .slice Ao m co] ∧ Bl w wr2) (fun s _ => M + 1 - slN s)
          case atStart => exact ⟨A, p, c, hs, hp, rfl, hown, hE, hr2, hap, hsz, hB, hW⟩
          case round =>
            clear hown hE hr2 hap hsz hB hW kB kB0 kB1 kB2 kB3
            obtain ⟨A, p, c, hs, hp, rfl, hown, hE, hr2, hap, hsz, hB, hW⟩ := hrel
            obtain ⟨hle5, hle6⟩ := hown.le
            have kB := hB.lt
            have hA2 : ∀ q, (some ad3).map (·.block) = some q → q < w2.heap.size := fun q hq => (h2b q hq).2
            have hab := hown.above
            by_cases hpe : p < e + 1
            · have ie : (p : Int) < ((e + 1 : Nat) : Int) := by omega
              have hst := Lib.hid (LLk_pad (hE.out (p + 1) (by omega)))
              have hne0 : A.map (·.block) ≠ some w.heap.size := by intro he; have := hab.1 _ he; omega
              go_wp2_with (at_builtin; refine ap_ss (y := ⟨none, 0, 0⟩) (l := []) rfl rfl rfl (hown.alloc _) rfl (rd_hd1 _ ⟨none, 0, 0⟩) (OwnI.nil _ _) (by intro k hk; cases hk) (by intro i z hz k hk e; cases e) (by omega) (by simp; omega) ?_; intro A3 c3 w4 hown3 hg3 hat3)
              go_roundw
              case rel => exact ⟨A3, p + 1, c3, _, by omega, rfl, by rw [hst.out]; exact hown3, Lib.hid fun j hj => hE.out j (by omega), (hr2.keep ((Bl.refl _).alloc _)).grown hg3 (fun a ha he => (hap a.block (by rw [ha]; rfl)).1 he.symm), hap.snoc (fun q hq => by have := hA2 q hq; simp; omega) hat3 (fun q _ e => by cases e), Nat.le_trans hsz (Nat.le_trans (Bl.sz (Bl.alloc (Bl.refl _) _)) hg3.size), Blk.grown (hB.alloc _) hg3 (fun he => hne0 he.symm), Bl.grown (hW.alloc _) hg3 (fun q hq => Nat.le_of_succ_le (hab.1 q hq))⟩
              case measure => simp [slN]; omega
            · have ie : ¬ (p : Int) < ((e + 1 : Nat) : Int) := by omega
              have ie2 : (e : Int) < p := by omega
              have hwe : IntKind.i64.wrap (((e + 1 : Nat) : Int) - 1) = (e : Int) := by rw [IntWalk.i64_in _ (by omega)]; omega
              obtain ⟨g, x0, l0, rfl, hx0, hl0, hbg, hgl2, kc, hfr, hro⟩ := hown.cell (show e < p by omega)
              rw [LLk_get _ _ _ _ _ _ (by omega)] at hl0
              obtain rfl := Option.some.inj hl0
              clear hl0
              have hln := hro.length
              have hll := lay_len N0 L gl (e + 1) k
              have hst := Lib.hid (LLk_set (m := p) HX.out HV.out (by omega))
              have hE2 : Hid (∀ j, p < j → lay N0 L gl j (k + 1) = []) := Lib.hid fun j hj => by rw [lay_n HX.out HV.out (by omega)]; exact hE.out j hj
              have hX0 := Lib.hid hx0
              have hxb : ∀ q, x0.blk = some q → w.heap.size + 1 ≤ q := hab.2 e x0 hx0
              clear hx0
              go_wp2_with (at_builtin; refine ap_int rfl rfl rfl (hro.alloc _) rfl (rd_new1 _ _ _) (by omega) (by simp; omega) ?_; intro A3 c3 w4 hown3 hg3 hat3; obtain ⟨g', hg', _, hgl4, hc4, hfr4⟩ := OwnV.form (OwnV.grownR (OwnV.alloc hown.hd _) hg3 (fun q hq e2 => hown.apA e x0 hX0.out q e2 hq)) (by omega); obtain rfl : g = g' := (by simpa using hg'); have kc4 := hc4 e (.slice x0.A x0.n x0.c) (by rw [List.getElem?_map, hX0.out]; rfl); clear hc4)
              go_roundw
              case rel =>
                have hput := (hown.alloc (.cells #[.int .i64 (k : Int)] 3)).putRow (by omega) (x' := ⟨A3, x0.n + 1, c3⟩) hX0.out hown3 hg3 hat3
                have hgg : g ≠ w.heap.size := by omega
                have hr4 : RdI w4 (some ad3) (N0 + n) c2 L := (hr2.keep ((Bl.refl _).alloc _)).grown hg3 (fun a ha he => (hap a.block (by rw [ha]; rfl)).2 e x0 hX0.out he.symm)
                have hB4 := Blk.grown (hB.alloc (.cells #[.int .i64 (k : Int)] 3)) hg3 (fun he => by have := hxb _ he.symm; omega)
                have hW4 := Bl.grown (hW.alloc (.cells #[.int .i64 (k : Int)] 3)) hg3 (fun q hq => Nat.le_of_succ_le (hxb q hq))
                exact ⟨k + 1, some ⟨g, 0, none⟩, p, c, hs.set e ⟨A3, x0.n + 1, c3⟩, by omega, hp, by go_num, rfl, by rw [hst.out]; exact hput, hE2, hr4.grown (grownBy_setCell w4 g e _) (fun a ha he => (hap a.block (by rw [ha]; rfl)).1 he.symm),
                  hap.set (fun q hq => by have := hA2 q hq; simp; omega) hX0.out hat3, by have := hg3.size; simp at this ⊢; omega, hB4.far (by dsimp only; omega) _, hW4.setCell (by dsimp only; omega) _⟩
              case measure => simp [intOf]; omega
      · have he : k = n := by omega
        subst he
        have hpM : p = M := by
          rcases Nat.lt_or_ge p M with h1 | h1
          · exact absurd (hE.out M h1) (HM.out.2 M (by omega) (Nat.le_refl _))
          · omega
        subst hpM
        go_wp2
        go_ret2
        exact ⟨A, p, c, hs, rfl, by rw [hR.out]; exact OwnSS.mono hown (by omega), hW⟩
set_option maxHeartbeats 8000000 in
theorem spec_AndLayers (a b : Int) (Ag Ao : Option Addr) (n cg m co : Nat) (gl : List Gt) (ol : List Int) (w : World) (hg : RdG w Ag n cg gl) (ho : RdI w Ao m co ol) (M : Nat) (hM : IsTop (a + b).toNat (adL (a + b).toNat gl n) gl n M) (hMn : M ≤ n) :
    Calls Try.prog 29 #[.agg #[.int .i64 a, .int .i64 b, .slice Ag n cg, .slice Ao m co]] w fun e w' => ∃ A' n' c' hs, e = .returned (.tuple #[.slice A' n' c', .bool (goodC a b gl ol)]) ∧ OwnSS w.heap.size w' A' n' c' hs (alR a b gl ol M) ∧ Bl w w' := by
  have hW := (Bl.refl w).alloc (.cells #[.int .i64 a, .int .i64 b, .slice Ag n cg, .slice Ao m co] 26)
  have hB := Blk.new w 26 #[.int .i64 a, .int .i64 b, .slice Ag n cg, .slice Ao m co]
  have hG := Lib.hid (spec_ciGood a b Ag Ao n cg m co gl ol (w.alloc (.cells #[.int .i64 a, .int .i64 b, .slice Ag n cg, .slice Ao m co] 26)) (hg.keep hW) (ho.keep hW))
  rcases hgd : goodC a b gl ol
  · rw [hgd] at hG
    have hR := Lib.hid (show alR a b gl ol M = [] by simp [alR, hgd])
    go_enter Try.func29, Try.ntmps29
    go_wp2_with (go_at_call 53; refine hG.out.mono ?_; rintro e w1 ⟨rfl, hb1⟩)
    go_ret2
    exact ⟨none, 0, 0, [], rfl, by rw [hR.out]; exact OwnSS.nil _ _, (by (repeat (first | assumption | with_reducible exact Bl.refl _ | with_reducible refine Bl.drewN ?_ _ | with_reducible refine Bl.drew ?_ | with_reducible refine Bl.alloc ?_ _ | (with_reducible refine Bl.call ?_ (by assumption)))))⟩
  · rw [hgd] at hG
    have hgl := Lib.hid hg.2
    obtain ⟨hle1, hle2⟩ := hg.le
    obtain ⟨a0, a1, b0, b1, hn, _, _, _⟩ := goodC_facts hgd
    rw [hg.2] at hn
    have HGD := Lib.hid hgd
    have hR := Lib.hid (show alR a b gl ol M = LLk (a + b).toNat (adL (a + b).toNat gl n) gl n M by rw [alR, hgd, hg.2]; rfl)
    clear hgd
    obtain ⟨N0, hN0⟩ : ∃ N0 : Nat, a + b = N0 := ⟨(a + b).toNat, by omega⟩
    have HN := Lib.hid hN0
    have hT : (a + b).toNat = N0 := by omega
    have HAD := fun W (hW : Bl w W) => Lib.hid (spec_ciDepthsT a b Ag Ao n cg m co gl ol W (hg.keep hW) HGD.out)
    rw [hT] at hR HAD hM
    clear hT
    have hlA := Lib.hid (adL_length N0 gl n)
    have hAnd := Lib.hid (fun k x y v (h1 : gl[k]? = some ⟨1, x, y⟩) (h2 : k < n) h3 => adL_and (N := N0) (v := v) h1 h2 h3)
    have HM := Lib.hid hM
    clear hM
    generalize adL N0 gl n = L at *
    go_enter Try.func29, Try.ntmps29
    go_wp2_with (first | (go_at_call 53; refine hG.out.mono ?_; rintro e w1 ⟨rfl, hb1⟩; replace hB := hB.keep hb1; replace hW := hW.call hb1; have hB_l := hB.lt; have hB_0 := hB.cell 0 _ rfl; have hB_1 := hB.cell 1 _ rfl; have hB_2 := hB.cell 2 _ rfl; have hB_3 := hB.cell 3 _ rfl))
    refine (HAD _ (by (repeat (first | assumption | with_reducible exact Bl.refl _ | with_reducible refine Bl.drewN ?_ _ | with_reducible refine Bl.drew ?_ | with_reducible refine Bl.alloc ?_ _ | (with_reducible refine Bl.call ?_ (by assumption)))))).out.mono ?_
    rintro e w2 ⟨A2, c2, rfl, ho2, hb2⟩
    replace hB := hB.keep hb2
    replace hW := hW.call hb2
    clear hB_l hB_0 hB_1 hB_2 hB_3
    have hB_l := hB.lt; have hB_2 := hB.cell 2 _ rfl
    go_wp2
    have hr2 := ho2.rd
    have hs2 := hW.sz
    clear ho2 HAD hG
    have h22 := Bl.refl w2
    go_loopw [5, 6] (fun s i wr => ∃ m A c hs, m ≤ M ∧ i = .int .i64 (((m + 1 : Nat) : Int)) ∧ s = .slice A m c ∧ OwnSS w2.heap.size wr A m c hs (LLk N0 L gl n m) ∧ Bl w2 wr) (fun _ i _ => M + 2 - (intOf i).toNat)
    case atStart => exact ⟨0, _, 0, [], by omega, rfl, rfl, OwnSS.nil _ _, h22⟩
    case round =>
      clear h22
      obtain ⟨mm, A, c, hs, hmm, rfl, rfl, hown, hWW⟩ := hrel
      have hBr := hB.keep hWW
      have hBr_2 := hBr.cell 2 _ rfl
      have hBr_l := hBr.lt
      clear hB_2 hB_l
      go_wp2
      have h33 := Bl.refl wr
      go_loopw [7, 20] (fun s i wr2 => ∃ k A p c, k ≤ n ∧ p ≤ k ∧ i = .int .i64 (k : Nat) ∧ s = .slice A p c ∧ OwnI wr.heap.size wr2 A p c (lay N0 L gl (mm + 1) k) ∧ Bl wr wr2) (fun _ i _ => n - (intOf i).toNat)
      case atStart => exact ⟨0, none, 0, 0, by omega, by omega, rfl, rfl, OwnI.nil _ _, h33⟩
      case round =>
        clear h33
        obtain ⟨k, Al, p, cl, hk, hp, rfl, rfl, hlay, hW3⟩ := hrel
        have hWA : Bl w w2 := hW
        have hWB : Bl w2 _ := hWW.call hW3
        by_cases hlt : k < n
        · obtain ⟨ad, K, x, y, rfl, hx, q0, q1, q2⟩ := (hg.keep (hWA.call hWB)).at_ hlt
          have HX := Lib.hid hx
          clear hx
          have ik : (k : Int) < n := by omega
          obtain ⟨ad3, v, rfl, hadb3, hv, hcv⟩ := (hr2.keep hWB).at_ (show N0 + k < N0 + n by omega)
          have HV := Lib.hid hv
          clear hv
          have hwn : IntKind.i64.wrap ((N0 : Int) + (k : Int)) = ((N0 + k : Nat) : Int) := by rw [IntWalk.i64_in _ (by omega)]; omega
          have iz : ((N0 + k : Nat) : Int) < ((N0 + n : Nat) : Int) := by omega
          have hB3 := hB.keep hWB
          have kB := hB3.lt
          have kB0 := hB3.cell 0 _ rfl
          have kB1 := hB3.cell 1 _ rfl
          have kB2 := hB3.cell 2 _ rfl
          have kB3 := hB3.cell 3 _ rfl
          clear hBr_l hBr_2
          rcases hk1 : (K == 1)
          · have hst := Lib.hid (lay_kind (N := N0) (L := L) (j := mm + 1) HX.out (show ¬ K = 1 by simpa using hk1))
            go_wp2
            go_roundw
            case rel => exact ⟨k + 1, Al, p, cl, by omega, by omega, by go_num, rfl, by rw [hst.out]; exact hlay.alloc _, hW3.alloc _⟩
            case measure => simp [intOf]; omega
          · obtain rfl : K = 1 := by simpa using hk1
            rcases hvm : (v == ((mm + 1 : Nat) : Int))
            · have hst := Lib.hid (lay_n (j := mm + 1) HX.out HV.out (show ¬ ((1 : Int) = 1 ∧ v = ((mm + 1 : Nat) : Int)) by have : ¬ v = ((mm + 1 : Nat) : Int) := (by simpa using hvm); omega))
              go_wp2_with (first | (go_at_call 55; refine (spec_ciInputs _ _ _ _ _ _ _ _ _ (by omega) (by omega) (by omega) (by omega)).mono ?_; rintro e w3 ⟨rfl, hb3⟩; rw [HN.out]; replace hlay := (hlay.alloc _).keep hb3; have hcv3 := hb3.cells ((Bl.alloc (Bl.refl _) (.cells #[.int .i64 1, .int .i64 x, .int .i64 y] 57)).cells hcv); replace hW3 := (hW3.alloc _).call hb3))
              go_roundw
              case rel => (repeat apply Exists.intro); exact ⟨⟨k + 1, Al, p, cl, by omega, by omega, by go_num, rfl, by rw [hst.out]; exact hlay, hW3⟩, rfl⟩
              case measure => simp [intOf]; omega
            · obtain rfl : v = ((mm + 1 : Nat) : Int) := by simpa using hvm
              have hst := Lib.hid (lay_y (j := mm + 1) HX.out HV.out)
              have hsz3 := hW3.sz
              go_wp2_with (first | (go_at_call 55; refine (spec_ciInputs _ _ _ _ _ _ _ _ _ (by omega) (by omega) (by omega) (by omega)).mono ?_; rintro e w3 ⟨rfl, hb3⟩; rw [HN.out]; replace hlay := (hlay.alloc _).keep hb3; have hcv3 := hb3.cells ((Bl.alloc (Bl.refl _) (.cells #[.int .i64 1, .int .i64 x, .int .i64 y] 57)).cells hcv); replace hW3 := (hW3.alloc _).call hb3) | (at_builtin; refine ap_int rfl rfl rfl (hlay.alloc _) rfl (rd_new1 _ _ _) (by omega) (by have := hW3.sz; simp; omega) ?_; intro A3 c3 w4 hown3 hg3 hat3))
              go_roundw
              case rel => exact ⟨_, _, _, _, ⟨k + 1, by omega, A3, p + 1, by omega, by go_num, c3, rfl, by rw [hst.out]; exact hown3, Bl.grown (hW3.alloc _) hg3 (fun q hq => (hlay.blk q hq).1)⟩, rfl, rfl, rfl, rfl⟩
              case measure => simp [intOf]; omega
        · have he : k = n := by omega
          subst he
          have hll := hlay.length
          by_cases hp0 : p = 0
          · subst hp0
            have hnil := List.eq_nil_of_length_eq_zero hll
            have hmM : mm = M := by
              rcases Nat.lt_or_ge mm M with h1 | h1
              · exact absurd hnil (HM.out.2 (mm + 1) (by omega) h1)
              · omega
            subst hmM
            go_wp2
            go_ret2
            exact ⟨A, mm, c, hs, rfl, by rw [hR.out]; exact OwnSS.mono (hown.keep hW3) hs2, hWA.call hWB⟩
          · have hmM : mm + 1 ≤ M := by
              rcases Nat.lt_or_ge M (mm + 1) with h1 | h1
              · exact absurd (by rw [← hll, HM.out.1 (mm + 1) h1]; rfl) hp0
              · exact h1
            have hsn := Lib.hid (LLk_snoc N0 L gl k mm)
            have hun := hown.under
            have hz := hWW.sz
            have hp1 : ¬ (p : Int) = 0 := by omega
            go_wp2_with (at_builtin; refine ap_ss (y := ⟨Al, p, cl⟩) (l := lay N0 L gl (mm + 1) k) rfl rfl rfl ((hown.keep hW3).alloc _) rfl (rd_hd1 _ ⟨Al, p, cl⟩) ((OwnI.mono hlay hz).alloc _) (fun q hq e2 => by have := hun.1 q e2; have := (hlay.blk q hq).1; omega) (fun i z hz2 q hq e2 => by have := hun.2 i z hz2 q hq; have := (hlay.blk q e2).1; omega) (by omega) (by have := hW3.sz; simp; omega) ?_; intro A3 c3 w4 hown3 hg3 hat3)
            go_roundw
            case rel => exact ⟨mm + 1, A3, c3, _, hmM, by go_num, rfl, by rw [hsn.out]; exact hown3, Bl.grown (hWB.alloc _) hg3 (fun q hq => (hown.above.1 q hq))⟩
            case measure => simp [intOf]; omega
theorem Bl.keep {W w w' : World} (h : Bl W w) (hb : Bl w w') : Bl W w' := h.call hb
theorem total_LLk (N : Nat) (L : List Int) (gl : List Gt) (k m : Nat) : total (LLk N L gl k m) ≤ m * k := by
  induction m with
  | zero => simp [LLk, total]
  | succ m ih =>
    rw [LLk_snoc, total_snoc, Nat.add_mul]
    have := lay_len N L gl (m + 1) k
    omega
theorem alR_total (a b : Int) (gl : List Gt) (ol : List Int) (M n : Nat) (hn : gl.length = n) (hM : M ≤ n) : total (alR a b gl ol M) ≤ 1000000 := by
  unfold alR
  split
  · rename_i h
    have h1 := (goodC_facts h).2.2.2.2.1
    have h2 := total_LLk (a + b).toNat (adL (a + b).toNat gl gl.length) gl gl.length M
    have h3 : M * gl.length ≤ 300 * 300 := Nat.mul_le_mul (by omega) (by omega)
    omega
  · simp [total]
end Go.Proofs.Ytlmlffiajgofeaa
