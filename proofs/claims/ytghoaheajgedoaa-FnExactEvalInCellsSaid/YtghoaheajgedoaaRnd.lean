/- Contracts of RoundsNeeded, and the walk of its law.
   Conditions: none. -/
import Derived.Test.YtghoaheajgedoaaCid
import Derived.Test.YtghoaheajgedoaaCil
namespace Go.Proofs.Ytghoaheajgedoaa
open Go.RowKit
set_option linter.unusedVariables false
/-- The greatest number of a list, at least m. -/
def mxL (m : Int) (l : List Int) : Int := l.foldl max m
theorem mxL_snoc (m : Int) (l : List Int) (x : Int) : mxL m (l ++ [x]) = max (mxL m l) x := by simp [mxL, List.foldl_append]
theorem mxL_step {m : Int} {l : List Int} {j : Nat} {x : Int} (hx : l[j]? = some x) : mxL m (l.take (j + 1)) = max (mxL m (l.take j)) x := by rw [take_snoc hx, mxL_snoc]
theorem mxL_max (l : List Int) : ∀ m k : Int, mxL (max m k) l = max (mxL m l) k := by
  induction l with
  | nil => intro m k; rfl
  | cons x l ih =>
    intro m k
    show mxL (max (max m k) x) l = max (mxL (max m x) l) k
    rw [show max (max m k) x = max (max m x) k by omega, ih]
theorem slices_Max (A : Option Addr) (n c : Nat) (x : Int) (l : List Int) (w : World) (h : RdI w A n c (x :: l)) :
    Calls Try.prog 54 #[.slice A n c] w fun e w' => e = .returned (.int .i64 (mxL x l)) ∧ w = w' := by
  obtain ⟨hle1, hle2⟩ := h.le
  have hlen := h.length
  simp only [List.length_cons] at hlen
  have hl := Lib.hid (show l.length = n - 1 by omega)
  obtain ⟨ad, v, rfl, hadb, hv, hcell⟩ := h.at_ (k := 0) (by omega)
  simp only [List.getElem?_cons_zero, Option.some.injEq] at hv
  subst hv
  have ha0 : ad.add 0 = ad := by simp [Addr.add]
  rw [ha0] at hcell
  have i1 : ¬ ((n : Int) < 1) := by omega
  go_enter Try.func54, Try.ntmps54
  go_wp2
  go_loop [3, 4] (fun q i => ∃ j : Nat, j + 1 ≤ n ∧ i = .int .i64 ((j + 1 : Nat) : Int) ∧ q = .int .i64 (mxL x (l.take j))) (fun _ i => n - (intOf i).toNat)
  case atStart => exact ⟨0, by omega, rfl, rfl⟩
  case round =>
    obtain ⟨j, hj, rfl, rfl⟩ := hrel
    by_cases hlt : j + 1 < n
    · obtain ⟨ad2, y, he2, hadb2, hy, hcy⟩ := h.at_ hlt
      injection he2 with he2
      subst he2
      rw [List.getElem?_cons_succ] at hy
      rw [add_succ_] at hcy
      have hst := Lib.hid (mxL_step (m := x) hy)
      have ij : ((j + 1 : Nat) : Int) < n := by omega
      clear hy
      go_wp2
      go_round
      case rel => exact ⟨j + 1, by omega, by go_num, by rw [hst.out]; go_num⟩
      case measure => simp [intOf]; omega
    · have he : j + 1 = n := by omega
      have hE := Lib.hid (show l.take j = l from List.take_of_length_le (by rw [hl.out]; omega))
      have ij : ¬ (((j + 1 : Nat) : Int) < n) := by omega
      rw [hE.out]
      go_wp2
      go_ret
      exact ⟨rfl, rfl⟩
def rnR (a b : Int) (gl : List Gt) (ol : List Int) : Int := if goodC a b gl ol then mxL 0 (adL (a + b).toNat gl gl.length) else 0
set_option maxHeartbeats 2000000 in
theorem impl_RoundsNeeded (a b : Int) (Ag Ao : Option Addr) (n cg m co : Nat) (gl : List Gt) (ol : List Int) (w : World) (hg : RdG w Ag n cg gl) (ho : RdI w Ao m co ol) :
    Calls Try.prog 17 #[.agg #[.int .i64 a, .int .i64 b, .slice Ag n cg, .slice Ao m co]] w fun e w' => e = .returned (.tuple #[.int .i64 (rnR a b gl ol), .bool (goodC a b gl ol)]) ∧ Bl w w' := by
  have hW := (Bl.refl w).alloc (.cells #[.int .i64 a, .int .i64 b, .slice Ag n cg, .slice Ao m co] 31)
  have hB := Blk.new w 31 #[.int .i64 a, .int .i64 b, .slice Ag n cg, .slice Ao m co]
  have hG := Lib.hid (impl_IsCircuit a b Ag Ao n cg m co gl ol (w.alloc (.cells #[.int .i64 a, .int .i64 b, .slice Ag n cg, .slice Ao m co] 31)) (hg.keep hW) (ho.keep hW))
  rcases hgd : goodC a b gl ol
  · rw [hgd] at hG
    have hR := Lib.hid (show rnR a b gl ol = 0 by simp [rnR, hgd])
    go_enter Try.func17, Try.ntmps17
    go_wp2_with (go_at_call 53; refine hG.out.mono ?_; rintro e w1 ⟨rfl, hb1⟩)
    go_ret2
    exact ⟨by rw [hR.out]; rfl, (by (repeat (first | assumption | with_reducible exact Bl.refl _ | with_reducible refine Bl.drewN ?_ _ | with_reducible refine Bl.drew ?_ | with_reducible refine Bl.alloc ?_ _ | (with_reducible refine Bl.call ?_ (by assumption)))))⟩
  · rw [hgd] at hG
    have hgl := Lib.hid hg.2
    obtain ⟨hle1, hle2⟩ := hg.le
    obtain ⟨a0, a1, b0, b1, hn, _, _, _⟩ := goodC_facts hgd
    rw [hg.2] at hn
    have HGD := Lib.hid hgd
    have hR := Lib.hid (show rnR a b gl ol = mxL 0 (adL (a + b).toNat gl n) by rw [rnR, hgd, hg.2]; rfl)
    clear hgd
    go_enter Try.func17, Try.ntmps17
    go_wp2_with (go_at_call 53; refine hG.out.mono ?_; rintro e w1 ⟨rfl, hb1⟩; replace hB := hB.keep hb1; replace hW := hW.call hb1; have hB_l := hB.lt; have hB_0 := hB.cell 0 _ rfl; have hB_1 := hB.cell 1 _ rfl; have hB_2 := hB.cell 2 _ rfl; have hB_3 := hB.cell 3 _ rfl)
    refine (impl_andDepths a b Ag Ao n cg m co gl ol _ (hg.keep hW) HGD.out).mono ?_
    rintro e w2 ⟨A2, c2, rfl, ho2, hb2⟩
    have hlA := Lib.hid (adL_length (a + b).toNat gl n)
    have hbA := Lib.hid (adL_bd (a + b).toNat gl n)
    replace hW := hW.call hb2
    replace ho2 := OwnI.mono ho2 (Bl.sz (w := w1) (W := w1) (Bl.refl _))
    generalize adL (a + b).toNat gl n = L at *
    have hmx : ∃ y l, L ++ [0] = y :: l ∧ mxL y l = mxL 0 L := by
      rcases L with _ | ⟨y, l⟩
      · exact ⟨0, [], rfl, rfl⟩
      · have hy := hbA.out y (by simp)
        refine ⟨y, l ++ [0], rfl, ?_⟩
        rw [mxL_snoc]
        show max (mxL y l) 0 = mxL (max 0 y) l
        rw [show max 0 y = max y 0 by omega, mxL_max]
    obtain ⟨y, l, hyl, hmy⟩ := hmx
    have HM := Lib.hid hmy
    go_wp2_with (first | (at_builtin; refine ap_int rfl rfl rfl (ho2.alloc _) rfl (rd_new1 _ _ _) (by omega) (by have := hb2.sz; simp; omega) ?_; intro A3 c3 w3 hown3 hg3 hat3; rw [hyl] at hown3; replace hW := Bl.grown (hW.alloc _) hg3 (fun q hq => Nat.le_trans (Bl.sz (by (repeat (first | assumption | with_reducible exact Bl.refl _ | with_reducible refine Bl.drewN ?_ _ | with_reducible refine Bl.drew ?_ | with_reducible refine Bl.alloc ?_ _ | (with_reducible refine Bl.call ?_ (by assumption)))))) (ho2.blk q hq).1)) | (go_at_call 54; refine (slices_Max _ _ _ y l _ hown3.rd).mono ?_; rintro e w' ⟨rfl, rfl⟩; rw [HM.out]))
    go_ret2
    exact ⟨by rw [hR.out]; rfl, hW⟩
set_option maxHeartbeats 2000000 in
theorem spec_RoundsNeeded (a b : Int) (Ag Ao : Option Addr) (n cg m co : Nat) (gl : List Gt) (ol : List Int) (w : World) (hg : RdG w Ag n cg gl) (ho : RdI w Ao m co ol) :
    Calls Try.prog 15 #[.agg #[.int .i64 a, .int .i64 b, .slice Ag n cg, .slice Ao m co]] w fun e w' => e = .returned (.tuple #[.int .i64 (rnR a b gl ol), .bool (goodC a b gl ol)]) ∧ Bl w w' := by
  have hW := (Bl.refl w).alloc (.cells #[.int .i64 a, .int .i64 b, .slice Ag n cg, .slice Ao m co] 31)
  have hB := Blk.new w 31 #[.int .i64 a, .int .i64 b, .slice Ag n cg, .slice Ao m co]
  have hG := Lib.hid (spec_ciGood a b Ag Ao n cg m co gl ol (w.alloc (.cells #[.int .i64 a, .int .i64 b, .slice Ag n cg, .slice Ao m co] 31)) (hg.keep hW) (ho.keep hW))
  rcases hgd : goodC a b gl ol
  · rw [hgd] at hG
    have hR := Lib.hid (show rnR a b gl ol = 0 by simp [rnR, hgd])
    go_enter Try.func15, Try.ntmps15
    go_wp2_with (go_at_call 49; refine hG.out.mono ?_; rintro e w1 ⟨rfl, hb1⟩)
    go_ret2
    exact ⟨by rw [hR.out]; rfl, (by (repeat (first | assumption | with_reducible exact Bl.refl _ | with_reducible refine Bl.drewN ?_ _ | with_reducible refine Bl.drew ?_ | with_reducible refine Bl.alloc ?_ _ | (with_reducible refine Bl.call ?_ (by assumption)))))⟩
  · rw [hgd] at hG
    have hgl := Lib.hid hg.2
    obtain ⟨hle1, hle2⟩ := hg.le
    obtain ⟨a0, a1, b0, b1, hn, _, _, _⟩ := goodC_facts hgd
    rw [hg.2] at hn
    have HGD := Lib.hid hgd
    have hR := Lib.hid (show rnR a b gl ol = mxL 0 (adL (a + b).toNat gl n) by rw [rnR, hgd, hg.2]; rfl)
    clear hgd
    go_enter Try.func15, Try.ntmps15
    go_wp2_with (go_at_call 49; refine hG.out.mono ?_; rintro e w1 ⟨rfl, hb1⟩; replace hB := hB.keep hb1; replace hW := hW.call hb1; have hB_l := hB.lt; have hB_0 := hB.cell 0 _ rfl; have hB_1 := hB.cell 1 _ rfl; have hB_2 := hB.cell 2 _ rfl; have hB_3 := hB.cell 3 _ rfl)
    refine (spec_sbRounds a b Ag Ao n cg m co gl ol _ (hg.keep hW) HGD.out).mono ?_
    rintro e w2 ⟨A2, c2, rfl, ho2, hb2⟩
    have hlA := Lib.hid (adL_length (a + b).toNat gl n)
    replace hW := hW.call hb2
    generalize adL (a + b).toNat gl n = L at *
    obtain ⟨N, hN⟩ : ∃ N, (a + b).toNat + n = N := ⟨_, rfl⟩
    rw [hN] at ho2 hlA ⊢
    have hr2 := ho2.rd
    obtain ⟨hle3, hle4⟩ := hr2.le
    clear hN ho2
    go_wp2
    go_loop [4, 13] (fun q i => ∃ j : Nat, j ≤ N ∧ i = .int .i64 (j : Nat) ∧ q = .int .i64 (mxL 0 (L.take j))) (fun _ i => N - (intOf i).toNat)
    case atStart => exact ⟨0, by omega, rfl, rfl⟩
    case round =>
      obtain ⟨j, hj, rfl, rfl⟩ := hrel
      by_cases hlt : j < N
      · obtain ⟨ad2, y, rfl, hadb2, hy, hcy⟩ := hr2.at_ hlt
        have hst := Lib.hid (mxL_step (m := 0) hy)
        have ij : (j : Int) < N := by omega
        clear hy
        go_wp2_with (go_at_call 51; refine (spec_l1Most _ _ _).mono ?_; rintro e w' ⟨rfl, rfl⟩)
        go_round
        case rel => exact ⟨j + 1, by omega, by go_num, by rw [hst.out]⟩
        case measure => simp [intOf]; omega
      · have he : j = N := by omega
        have hE := Lib.hid (show L.take j = L from List.take_of_length_le (by rw [hlA.out]; omega))
        subst he
        rw [hE.out]
        go_wp2
        go_ret2
        exact ⟨by rw [hR.out]; rfl, hW⟩
set_option maxHeartbeats 4000000 in
theorem law_RoundsNeeded (a b : Int) (A B : Option Addr) (n c m d : Nat) (gl : List Gt) (ol : List Int) (w : World) (h : RdC w A n c gl B m d ol) :
    Calls Try.prog 3 #[.agg #[.int .i64 a, .int .i64 b, .slice A n c, .slice B m d]] w fun e w' => e = .returned (.bool true) ∧ Bl w w' := by
  obtain ⟨hle1, hle2⟩ := h.g.le
  obtain ⟨hle3, hle4⟩ := h.o.le
  have hW := (Bl.refl w).alloc (.cells #[.int .i64 a, .int .i64 b, .slice A n c, .slice B m d] 25)
  have hA := Blk.new w 25 #[.int .i64 a, .int .i64 b, .slice A n c, .slice B m d]
  (try clear hA_l hA_0 hA_1 hA_2 hA_3)
  have hA_l := hA.lt; have hA_0 := hA.cell 0 _ rfl; have hA_1 := hA.cell 1 _ rfl; have hA_2 := hA.cell 2 _ rfl; have hA_3 := hA.cell 3 _ rfl
  go_enter Try.func3, Try.ntmps3
  go_wp2_with fail
  refine (laws_szCircuit a b A B n c m d _ hle1 hle2 hle3 hle4).mono ?_
  rintro e w2 ⟨r, rfl, hr, hb2⟩
  replace hA := hA.keep hb2
  replace hW := hW.call hb2
  (try clear hA_l hA_0 hA_1 hA_2 hA_3)
  have hA_l := hA.lt; have hA_0 := hA.cell 0 _ rfl; have hA_1 := hA.cell 1 _ rfl; have hA_2 := hA.cell 2 _ rfl; have hA_3 := hA.cell 3 _ rfl
  rcases hr with rfl | ⟨hr0, hn, hm⟩
  · go_wp2
    go_ret
    exact ⟨rfl, hW⟩
  go_wp2_with fail
  refine (laws_toCircuit a b A B n c m d gl ol _ (h.keep hW) (by omega) (by omega)).mono ?_
  rintro e w3 ⟨A3, c3, B3, d3, rfl, hC2, hb3⟩
  replace hA := hA.keep hb3
  replace hW := hW.call hb3
  (try clear hA_l hA_0 hA_1 hA_2 hA_3)
  have hA_l := hA.lt; have hA_0 := hA.cell 0 _ rfl; have hA_1 := hA.cell 1 _ rfl; have hA_2 := hA.cell 2 _ rfl; have hA_3 := hA.cell 3 _ rfl
  go_wp2_with fail
  refine (spec_RoundsNeeded a b A3 B3 n c3 m d3 gl ol _ hC2.1.rd hC2.2.1.rd).mono ?_
  rintro e w4 ⟨rfl, hb4⟩
  replace hA := hA.keep hb4
  replace hC2 := hC2.keep hb4
  replace hW := hW.call hb4
  (try clear hA_l hA_0 hA_1 hA_2 hA_3)
  have hA_l := hA.lt; have hA_0 := hA.cell 0 _ rfl; have hA_1 := hA.cell 1 _ rfl; have hA_2 := hA.cell 2 _ rfl; have hA_3 := hA.cell 3 _ rfl
  go_wp2_with fail
  refine (laws_toCircuit a b A B n c m d gl ol _ (h.keep hW) (by omega) (by omega)).mono ?_
  rintro e w5 ⟨A5, c5, B5, d5, rfl, hC4, hb5⟩
  replace hA := hA.keep hb5
  replace hW := hW.call hb5
  (try clear hA_l hA_0 hA_1 hA_2 hA_3)
  have hA_l := hA.lt; have hA_0 := hA.cell 0 _ rfl; have hA_1 := hA.cell 1 _ rfl; have hA_2 := hA.cell 2 _ rfl; have hA_3 := hA.cell 3 _ rfl
  have hX := Blk.new w5 31 #[.int .i64 a, .int .i64 b, .slice A5 n c5, .slice B5 m d5]
  obtain ⟨gx, hgx⟩ : ∃ g, w5.heap.size = g := ⟨_, rfl⟩
  replace hA := hA.alloc (.cells #[.int .i64 a, .int .i64 b, .slice A5 n c5, .slice B5 m d5] 31)
  replace hW := hW.alloc (.cells #[.int .i64 a, .int .i64 b, .slice A5 n c5, .slice B5 m d5] 31)
  replace hC4 := hC4.keep ((Bl.refl w5).alloc (.cells #[.int .i64 a, .int .i64 b, .slice A5 n c5, .slice B5 m d5] 31))
  go_wp2_with fail
  rw [hgx] at hX
  refine (impl_RoundsNeeded a b A5 B5 n c5 m d5 gl ol _ hC4.1.rd hC4.2.1.rd).mono ?_
  rintro e w6 ⟨rfl, hb6⟩
  replace hA := hA.keep hb6
  replace hC4 := hC4.keep hb6
  replace hX := hX.keep hb6
  replace hW := hW.call hb6
  (try clear hA_l hA_0 hA_1 hA_2 hA_3 hX_l hX_0 hX_1 hX_2 hX_3)
  have hA_l := hA.lt; have hA_0 := hA.cell 0 _ rfl; have hA_1 := hA.cell 1 _ rfl; have hA_2 := hA.cell 2 _ rfl; have hA_3 := hA.cell 3 _ rfl; have hX_l := hX.lt; have hX_0 := hX.cell 0 _ rfl; have hX_1 := hX.cell 1 _ rfl; have hX_2 := hX.cell 2 _ rfl; have hX_3 := hX.cell 3 _ rfl
  go_wp2_with fail
  go_region_held3 (fun w' => w'.cell? ⟨w.heap.size, 0, none⟩ = some (.int .i64 a) ∧ w'.cell? ⟨w.heap.size, 1, none⟩ = some (.int .i64 b) ∧ w'.cell? ⟨w.heap.size, 2, none⟩ = some (.slice A n c) ∧ w'.cell? ⟨w.heap.size, 3, none⟩ = some (.slice B m d) ∧ w'.cell? ⟨gx, 0, none⟩ = some (.int .i64 a) ∧ w'.cell? ⟨gx, 1, none⟩ = some (.int .i64 b) ∧ w'.cell? ⟨gx, 2, none⟩ = some (.slice A5 n c5) ∧ w'.cell? ⟨gx, 3, none⟩ = some (.slice B5 m d5)) (first | exact ⟨hA_0, hA_1, hA_2, hA_3, hX_0, hX_1, hX_2, hX_3⟩ | go_keep) (first | (go_at_call 16; refine (laws_toCircuit a b A B n c m d gl ol _ (h.keep (by first | exact hW | exact hW.drew)) (by omega) (by omega)).mono ?_; rintro e w1 ⟨A30, c30, B30, d30, rfl, hC30, hb30⟩; replace hW := (by first | exact hW.call hb30 | exact hW.drew.call hb30 | exact (hW.alloc _).call hb30 | exact (hW.alloc _).drew.call hb30 | exact (hW.drewN _).call hb30 | exact (hW.drew.alloc _).call hb30 | exact ((hW.alloc _).alloc _).call hb30 | exact ((hW.alloc _).alloc _).drew.call hb30 | exact (((hW.alloc _).alloc _).alloc _).call hb30); replace hA := (by first | exact hA.keep hb30 | exact hA.drew.keep hb30 | exact (hA.alloc _).keep hb30 | exact (hA.alloc _).drew.keep hb30 | exact (hA.drewN _).keep hb30 | exact (hA.drew.alloc _).keep hb30 | exact ((hA.alloc _).alloc _).keep hb30 | exact ((hA.alloc _).alloc _).drew.keep hb30 | exact (((hA.alloc _).alloc _).alloc _).keep hb30); replace hX := (by first | exact hX.keep hb30 | exact hX.drew.keep hb30 | exact (hX.alloc _).keep hb30 | exact (hX.alloc _).drew.keep hb30 | exact (hX.drewN _).keep hb30 | exact (hX.drew.alloc _).keep hb30 | exact ((hX.alloc _).alloc _).keep hb30 | exact ((hX.alloc _).alloc _).drew.keep hb30 | exact (((hX.alloc _).alloc _).alloc _).keep hb30); clear hA_l hA_0 hA_1 hA_2 hA_3 hX_l hX_0 hX_1 hX_2 hX_3; have hA_l := hA.lt; have hA_0 := hA.cell 0 _ rfl; have hA_1 := hA.cell 1 _ rfl; have hA_2 := hA.cell 2 _ rfl; have hA_3 := hA.cell 3 _ rfl; have hX_l := hX.lt; have hX_0 := hX.cell 0 _ rfl; have hX_1 := hX.cell 1 _ rfl; have hX_2 := hX.cell 2 _ rfl; have hX_3 := hX.cell 3 _ rfl; replace hC4 := (by first | exact hC4.keep hb30 | exact (hC4.keep (Bl.refl _).drew).keep hb30 | exact (hC4.keep ((Bl.refl _).drew)).keep hb30 | exact hC4.keep ((Bl.refl _).drew.call hb30))) | (go_at_call 18; refine (laws_eqCircuit a b A5 B5 A30 B30 n c5 m d5 c30 d30 gl ol _ (OwnC.rd hC4) hC30.rd).mono ?_; rintro e w1 ⟨rfl, hb31⟩; replace hW := (by first | exact hW.call hb31 | exact hW.drew.call hb31 | exact (hW.alloc _).call hb31 | exact (hW.alloc _).drew.call hb31 | exact (hW.drewN _).call hb31 | exact (hW.drew.alloc _).call hb31 | exact ((hW.alloc _).alloc _).call hb31 | exact ((hW.alloc _).alloc _).drew.call hb31 | exact (((hW.alloc _).alloc _).alloc _).call hb31); replace hA := (by first | exact hA.keep hb31 | exact hA.drew.keep hb31 | exact (hA.alloc _).keep hb31 | exact (hA.alloc _).drew.keep hb31 | exact (hA.drewN _).keep hb31 | exact (hA.drew.alloc _).keep hb31 | exact ((hA.alloc _).alloc _).keep hb31 | exact ((hA.alloc _).alloc _).drew.keep hb31 | exact (((hA.alloc _).alloc _).alloc _).keep hb31); replace hX := (by first | exact hX.keep hb31 | exact hX.drew.keep hb31 | exact (hX.alloc _).keep hb31 | exact (hX.alloc _).drew.keep hb31 | exact (hX.drewN _).keep hb31 | exact (hX.drew.alloc _).keep hb31 | exact ((hX.alloc _).alloc _).keep hb31 | exact ((hX.alloc _).alloc _).drew.keep hb31 | exact (((hX.alloc _).alloc _).alloc _).keep hb31); clear hA_l hA_0 hA_1 hA_2 hA_3 hX_l hX_0 hX_1 hX_2 hX_3; have hA_l := hA.lt; have hA_0 := hA.cell 0 _ rfl; have hA_1 := hA.cell 1 _ rfl; have hA_2 := hA.cell 2 _ rfl; have hA_3 := hA.cell 3 _ rfl; have hX_l := hX.lt; have hX_0 := hX.cell 0 _ rfl; have hX_1 := hX.cell 1 _ rfl; have hX_2 := hX.cell 2 _ rfl; have hX_3 := hX.cell 3 _ rfl; replace hC4 := (by first | exact hC4.keep hb31 | exact (hC4.keep (Bl.refl _).drew).keep hb31 | exact (hC4.keep ((Bl.refl _).drew)).keep hb31 | exact hC4.keep ((Bl.refl _).drew.call hb31))))
  go_wp2
  go_ret
  exact ⟨rfl, hW⟩
end Go.Proofs.Ytghoaheajgedoaa
