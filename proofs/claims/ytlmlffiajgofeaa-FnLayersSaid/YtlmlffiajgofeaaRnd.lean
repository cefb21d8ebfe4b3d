/- Contracts of RoundsNeeded, and the walk of its law.
   Conditions: none. -/
import Derived.Test.YtlmlffiajgofeaaCid
import Derived.Test.YtlmlffiajgofeaaCil
namespace Go.Proofs.Ytlmlffiajgofeaa
open Go.RowKit
set_option linter.unusedVariables false
/-- The greatest number of a list, at least m. -/
def mxL (m : Int) (l : List Int) : Int := l.foldl max m
theorem mxL_snoc (m : Int) (l : List Int) (x : Int) : mxL m (l ++ [x]) = max (mxL m l) x := by simp [mxL, List.foldl_append]
theorem mxL_step {m : Int} {l : List Int} {j : Nat} {x : Int} (hx : l[j]? = some x) : mxL m (l.take (j + 1)) = max (mxL m (l.take j)) x := by rw [take_snoc hx, mxL_snoc]
theorem mxL_max (l : List Int) : ∀ m k : Int, mxL (max m k) l = max (mxL m l) k := by
  induction l with
  | nil => intro m k; rfl
  | cons x l ih =>
    intro m k
    show mxL (max (max m k) x) l = max (mxL (max m x) l) k
    rw [show max (max m k) x = max (max m x) k by omega, ih]
theorem slices_Max (A : Option Addr) (n c : Nat) (x : Int) (l : List Int) (w : World) (h : RdI w A n c (x :: l)) :
    Calls Try.prog 58 #[.slice A n c] w fun e w' => e = .returned (.int .i64 (mxL x l)) ∧ w = w' := by
  obtain ⟨hle1, hle2⟩ := h.le
  have hlen := h.length
  simp only [List.length_cons] at hlen
  have hl := Lib.hid (show l.length = n - 1 by omega)
  obtain ⟨ad, v, rfl, hadb, hv, hcell⟩ := h.at_ (k := 0) (by omega)
  simp only [List.getElem?_cons_zero, Option.some.injEq] at hv
  subst hv
  have ha0 : ad.add 0 = ad := by simp [Addr.add]
  rw [ha0] at hcell
  have i1 : ¬ ((n : Int) < 1) := by omega
  go_enter Try.func58, Try.ntmps58
  go_wp2
  go_loop [3, 4] (fun q i => ∃ j : Nat, j + 1 ≤ n ∧ i = .int .i64 ((j + 1 : Nat) : Int) ∧ q = .int .i64 (mxL x (l.take j))) (fun _ i => n - (intOf i).toNat)
  case atStart => exact ⟨0, by omega, rfl, rfl⟩
  case round =>
    obtain ⟨j, hj, rfl, rfl⟩ := hrel
    by_cases hlt : j + 1 < n
    · obtain ⟨ad2, y, he2, hadb2, hy, hcy⟩ := h.at_ hlt
      injection he2 with he2
      subst he2
      rw [List.getElem?_cons_succ] at hy
      rw [add_succ_] at hcy
      have hst := Lib.hid (mxL_step (m := x) hy)
      have ij : ((j + 1 : Nat) : Int) < n := by omega
      clear hy
      go_wp2
      go_round
      case rel => exact ⟨j + 1, by omega, by go_num, by rw [hst.out]; go_num⟩
      case measure => simp [intOf]; omega
    · have he : j + 1 = n := by omega
      have hE := Lib.hid (show l.take j = l from List.take_of_length_le (by rw [hl.out]; omega))
      have ij : ¬ (((j + 1 : Nat) : Int) < n) := by omega
      rw [hE.out]
      go_wp2
      go_ret
      exact ⟨rfl, rfl⟩
def rnR (a b : Int) (gl : List Gt) (ol : List Int) : Int := if goodC a b gl ol then mxL 0 (adL (a + b).toNat gl gl.length) else 0
set_option maxHeartbeats 2000000 in
theorem impl_RoundsNeeded (a b : Int) (Ag Ao : Option Addr) (n cg m co : Nat) (gl : List Gt) (ol : List Int) (w : World) (hg : RdG w Ag n cg gl) (ho : RdI w Ao m co ol) :
    Calls Try.prog 11 #[.agg #[.int .i64 a, .int .i64 b, .slice Ag n cg, .slice Ao m co]] w fun e w' => e = .returned (.tuple #[.int .i64 (rnR a b gl ol), .bool (goodC a b gl ol)]) ∧ Bl w w' := by
  have hW := (Bl.refl w).alloc (.cells #[.int .i64 a, .int .i64 b, .slice Ag n cg, .slice Ao m co] 26)
  have hB := Blk.new w 26 #[.int .i64 a, .int .i64 b, .slice Ag n cg, .slice Ao m co]
  have hG := Lib.hid (impl_IsCircuit a b Ag Ao n cg m co gl ol (w.alloc (.cells #[.int .i64 a, .int .i64 b, .slice Ag n cg, .slice Ao m co] 26)) (hg.keep hW) (ho.keep hW))
  rcases hgd : goodC a b gl ol
  · rw [hgd] at hG
    have hR := Lib.hid (show rnR a b gl ol = 0 by simp [rnR, hgd])
    go_enter Try.func11, Try.ntmps11
    go_wp2_with (go_at_call 50; refine hG.out.mono ?_; rintro e w1 ⟨rfl, hb1⟩)
    go_ret2
    exact ⟨by rw [hR.out]; rfl, (by (repeat (first | assumption | with_reducible exact Bl.refl _ | with_reducible refine Bl.drewN ?_ _ | with_reducible refine Bl.drew ?_ | with_reducible refine Bl.alloc ?_ _ | (with_reducible refine Bl.call ?_ (by assumption)))))⟩
  · rw [hgd] at hG
    have hgl := Lib.hid hg.2
    obtain ⟨hle1, hle2⟩ := hg.le
    obtain ⟨a0, a1, b0, b1, hn, _, _, _⟩ := goodC_facts hgd
    rw [hg.2] at hn
    have HGD := Lib.hid hgd
    have hR := Lib.hid (show rnR a b gl ol = mxL 0 (adL (a + b).toNat gl n) by rw [rnR, hgd, hg.2]; rfl)
    clear hgd
    go_enter Try.func11, Try.ntmps11
    go_wp2_with (go_at_call 50; refine hG.out.mono ?_; rintro e w1 ⟨rfl, hb1⟩; replace hB := hB.keep hb1; replace hW := hW.call hb1; have hB_l := hB.lt; have hB_0 := hB.cell 0 _ rfl; have hB_1 := hB.cell 1 _ rfl; have hB_2 := hB.cell 2 _ rfl; have hB_3 := hB.cell 3 _ rfl)
    refine (impl_andDepths a b Ag Ao n cg m co gl ol _ (hg.keep hW) HGD.out).mono ?_
    rintro e w2 ⟨A2, c2, rfl, ho2, hb2⟩
    have hlA := Lib.hid (adL_length (a + b).toNat gl n)
    have hbA := Lib.hid (adL_bd (a + b).toNat gl n)
    replace hW := hW.call hb2
    replace ho2 := OwnI.mono ho2 (Bl.sz (w := w1) (W := w1) (Bl.refl _))
    generalize adL (a + b).toNat gl n = L at *
    have hmx : ∃ y l, L ++ [0] = y :: l ∧ mxL y l = mxL 0 L := by
      rcases L with _ | ⟨y, l⟩
      · exact ⟨0, [], rfl, rfl⟩
      · have hy := hbA.out y (by simp)
        refine ⟨y, l ++ [0], rfl, ?_⟩
        rw [mxL_snoc]
        show max (mxL y l) 0 = mxL (max 0 y) l
        rw [show max 0 y = max y 0 by omega, mxL_max]
    obtain ⟨y, l, hyl, hmy⟩ := hmx
    have HM := Lib.hid hmy
    go_wp2_with (first | (at_builtin; refine ap_int rfl rfl rfl (ho2.alloc _) rfl (rd_new1 _ _ _) (by omega) (by have := hb2.sz; simp; omega) ?_; intro A3 c3 w3 hown3 hg3 hat3; rw [hyl] at hown3; replace hW := Bl.grown (hW.alloc _) hg3 (fun q hq => Nat.le_trans (Bl.sz (by (repeat (first | assumption | with_reducible exact Bl.refl _ | with_reducible refine Bl.drewN ?_ _ | with_reducible refine Bl.drew ?_ | with_reducible refine Bl.alloc ?_ _ | (with_reducible refine Bl.call ?_ (by assumption)))))) (ho2.blk q hq).1)) | (go_at_call 58; refine (slices_Max _ _ _ y l _ hown3.rd).mono ?_; rintro e w' ⟨rfl, rfl⟩; rw [HM.out]))
    go_ret2
    exact ⟨by rw [hR.out]; rfl, hW⟩
set_option maxHeartbeats 2000000 in
theorem spec_RoundsNeeded (a b : Int) (Ag Ao : Option Addr) (n cg m co : Nat) (gl : List Gt) (ol : List Int) (w : World) (hg : RdG w Ag n cg gl) (ho : RdI w Ao m co ol) :
    Calls Try.prog 12 #[.agg #[.int .i64 a, .int .i64 b, .slice Ag n cg, .slice Ao m co]] w fun e w' => e = .returned (.tuple #[.int .i64 (rnR a b gl ol), .bool (goodC a b gl ol)]) ∧ Bl w w' := by
  have hW := (Bl.refl w).alloc (.cells #[.int .i64 a, .int .i64 b, .slice Ag n cg, .slice Ao m co] 26)
  have hB := Blk.new w 26 #[.int .i64 a, .int .i64 b, .slice Ag n cg, .slice Ao m co]
  have hG := Lib.hid (spec_ciGood a b Ag Ao n cg m co gl ol (w.alloc (.cells #[.int .i64 a, .int .i64 b, .slice Ag n cg, .slice Ao m co] 26)) (hg.keep hW) (ho.keep hW))
  rcases hgd : goodC a b gl ol
  · rw [hgd] at hG
    have hR := Lib.hid (show rnR a b gl ol = 0 by simp [rnR, hgd])
    go_enter Try.func12, Try.ntmps12
    go_wp2_with (go_at_call 53; refine hG.out.mono ?_; rintro e w1 ⟨rfl, hb1⟩)
    go_ret2
    exact ⟨by rw [hR.out]; rfl, (by (repeat (first | assumption | with_reducible exact Bl.refl _ | with_reducible refine Bl.drewN ?_ _ | with_reducible refine Bl.drew ?_ | with_reducible refine Bl.alloc ?_ _ | (with_reducible refine Bl.call ?_ (by assumption)))))⟩
  · rw [hgd] at hG
    have hgl := Lib.hid hg.2
    obtain ⟨hle1, hle2⟩ := hg.le
    obtain ⟨a0, a1, b0, b1, hn, _, _, _⟩ := goodC_facts hgd
    rw [hg.2] at hn
    have HGD := Lib.hid hgd
    have hR := Lib.hid (show rnR a b gl ol = mxL 0 (adL (a + b).toNat gl n) by rw [rnR, hgd, hg.2]; rfl)
    clear hgd
    go_enter Try.func12, Try.ntmps12
    go_wp2_with (go_at_call 53; refine hG.out.mono ?_; rintro e w1 ⟨rfl, hb1⟩; replace hB := hB.keep hb1; replace hW := hW.call hb1; have hB_l := hB.lt; have hB_0 := hB.cell 0 _ rfl; have hB_1 := hB.cell 1 _ rfl; have hB_2 := hB.cell 2 _ rfl; have hB_3 := hB.cell 3 _ rfl)
    refine (spec_sbRounds a b Ag Ao n cg m co gl ol _ (hg.keep hW) HGD.out).mono ?_
    rintro e w2 ⟨A2, c2, rfl, ho2, hb2⟩
    have hlA := Lib.hid (adL_length (a + b).toNat gl n)
    replace hW := hW.call hb2
    generalize adL (a + b).toNat gl n = L at *
    obtain ⟨N, hN⟩ : ∃ N, (a + b).toNat + n = N := ⟨_, rfl⟩
    rw [hN] at ho2 hlA ⊢
    have hr2 := ho2.rd
    obtain ⟨hle3, hle4⟩ := hr2.le
    clear hN ho2
    go_wp2
    go_loop [4, 13] (fun q i => ∃ j : Nat, j ≤ N ∧ i = .int .i64 (j : Nat) ∧ q = .int .i64 (mxL 0 (L.take j))) (fun _ i => N - (intOf i).toNat)
    case atStart => exact ⟨0, by omega, rfl, rfl⟩
    case round =>
      obtain ⟨j, hj, rfl, rfl⟩ := hrel
      by_cases hlt : j < N
      · obtain ⟨ad2, y, rfl, hadb2, hy, hcy⟩ := hr2.at_ hlt
        have hst := Lib.hid (mxL_step (m := 0) hy)
        have ij : (j : Int) < N := by omega
        clear hy
        go_wp2_with (go_at_call 59; refine (spec_l1Most _ _ _).mono ?_; rintro e w' ⟨rfl, rfl⟩)
        go_round
        case rel => exact ⟨j + 1, by omega, by go_num, by rw [hst.out]⟩
        case measure => simp [intOf]; omega
      · have he : j = N := by omega
        have hE := Lib.hid (show L.take j = L from List.take_of_length_le (by rw [hlA.out]; omega))
        subst he
        rw [hE.out]
        go_wp2
        go_ret2
        exact ⟨by rw [hR.out]; rfl, hW⟩
end Go.Proofs.Ytlmlffiajgofeaa
