/- Contracts of the draw of CommonCoin.
   Conditions: the text is bytes. -/
import Derived.Test.YtglgaicbcackbaaDrx
import Derived.Laws.CopyOwn
namespace Go.Proofs.Ytglgaicbcackbaa
open Go.RowKit
set_option linter.unusedVariables false
theorem cur_among_new1 (w : World) (g k : Nat) (h : Cur w g k) (hk : k < 900000000) (cs : Array Value) (t : TypeId) (hcs : cs.toList.all isI = true) (n : Nat) (hn : n = cs.size) (h1 : 1 ≤ cs.size ∧ cs.size ≤ 60000) {b : Nat} (hb : w.heap.size = b) :
    Calls Try.prog 71 #[.pointer (some ⟨g, 0, none⟩), .slice (some ⟨b, 0, none⟩) n n] (w.alloc (.cells cs t)).drew fun e w' => ∃ x, e = .returned (.int .i64 x) ∧ Cur w' g (k + 2) ∧ w.grownBy w' (some g) := by
  subst hn
  obtain ⟨l, hl⟩ := ints_of_isI _ hcs
  have hr : RdI (w.alloc (.cells cs t)) (some ⟨b, 0, none⟩) cs.size cs.size l := by
    have := rd_new w cs t (by simp [maxLen]; omega) hb
    rw [hl] at this
    exact this
  have hlt := h.lt
  refine (cur_among _ g k (h.keep ((Bl.refl w).alloc _).drew) hk _ _ _ l (hr.keep (Bl.refl _).drew) (by omega) (fun _ a ha => by injection ha with ha; subst ha; dsimp only; omega)).mono ?_
  rintro e w' ⟨x, rfl, hx, hC, hG⟩
  exact ⟨x, rfl, hC, Lib.grownBy_trans (Lib.grownBy_below (World.grownBy_alloc w _ _) (Bl.refl _).drew) hG⟩
theorem Blk.row {w : World} {g : Nat} {t : TypeId} {cs cs' : Array Value} (h : Blk w g t cs) : Blk (w.setRow g cs') g t cs' := setRow_heap w g _ _ t _ h
theorem Blk.farRow {w : World} {g k : Nat} {t : TypeId} {cs cs' : Array Value} (h : Blk w g t cs) (hk : g ≠ k) : Blk (w.setRow k cs') g t cs := (setRow_other w k g cs' hk).trans h
theorem Bl.row {W w : World} {g : Nat} {cs : Array Value} (h : Bl W w) (hg : W.heap.size ≤ g) : Bl W (w.setRow g cs) := below_setRow h hg cs
/-- The blocks of CommonCoin's draw. -/
structure DccS (w : World) (g6 g2 : Nat) (a b c d : Int) (o : Bool) (a' b' c' d' : Int) (o' : Bool) (k : Nat) : Prop where
  x6 : Blk w g6 38 #[.int .i64 a, .int .i64 b, .int .i64 c, .int .i64 d, .bool o]
  x7 : Blk w (g6 + 1) 38 #[.int .i64 a', .int .i64 b', .int .i64 c', .int .i64 d', .bool o']
  z2 : Blk w g2 38 #[.int .i64 0, .int .i64 0, .int .i64 0, .int .i64 0, .bool false]
  z3 : Blk w (g2 + 1) 38 #[.int .i64 0, .int .i64 0, .int .i64 0, .int .i64 0, .bool false]
  cu : Cur w (g2 + 1 + 1) k
set_option maxRecDepth 20000 in
set_option maxHeartbeats 4000000 in
theorem spec_DrawCommonCoin (w : World) (A : Option Addr) (n c : Nat) (l : List Int) (h : RdB w A n c l) :
    Calls Try.prog 26 #[.slice A n c] w fun e w' => ∃ a b c d o a' b' c' d' o' m, e = .returned (.tuple #[.agg #[.int .i64 a, .int .i64 b, .int .i64 c, .int .i64 d, .bool o], .agg #[.int .i64 a', .int .i64 b', .int .i64 c', .int .i64 d', .bool o'], .int .i64 m]) ∧ Bl w w' := by
  have hC := Cur.new ((w.alloc (.cells #[.int .i64 0, .int .i64 0, .int .i64 0, .int .i64 0, .bool false] 38)).alloc (.cells #[.int .i64 0, .int .i64 0, .int .i64 0, .int .i64 0, .bool false] 38)) (h.keep (((Bl.refl w).alloc _).alloc _)) (g := w.heap.size + 1 + 1)
  have hG := World.grownBy.refl (((w.alloc (.cells #[.int .i64 0, .int .i64 0, .int .i64 0, .int .i64 0, .bool false] 38)).alloc (.cells #[.int .i64 0, .int .i64 0, .int .i64 0, .int .i64 0, .bool false] 38)).alloc (.cells #[.slice A n c, .int .i64 0, .int .u64 0] 67)) (some (w.heap.size + 1 + 1))
  have hz2 := ((Blk.new w 38 #[.int .i64 0, .int .i64 0, .int .i64 0, .int .i64 0, .bool false]).alloc (.cells #[.int .i64 0, .int .i64 0, .int .i64 0, .int .i64 0, .bool false] 38)).alloc (.cells #[.slice A n c, .int .i64 0, .int .u64 0] 67)
  have hz3 := (Blk.new (w.alloc (.cells #[.int .i64 0, .int .i64 0, .int .i64 0, .int .i64 0, .bool false] 38)) 38 #[.int .i64 0, .int .i64 0, .int .i64 0, .int .i64 0, .bool false] (g := w.heap.size + 1)).alloc (.cells #[.slice A n c, .int .i64 0, .int .u64 0] 67)
  have t1 := True.intro
  have t2 := True.intro
  have hW0 := (((Bl.refl w).alloc (.cells #[.int .i64 0, .int .i64 0, .int .i64 0, .int .i64 0, .bool false] 38)).alloc (.cells #[.int .i64 0, .int .i64 0, .int .i64 0, .int .i64 0, .bool false] 38)).alloc (.cells #[.slice A n c, .int .i64 0, .int .u64 0] 67)
  have hs0 : (((w.alloc (.cells #[.int .i64 0, .int .i64 0, .int .i64 0, .int .i64 0, .bool false] 38)).alloc (.cells #[.int .i64 0, .int .i64 0, .int .i64 0, .int .i64 0, .bool false] 38)).alloc (.cells #[.slice A n c, .int .i64 0, .int .u64 0] 67)).heap.size = w.heap.size + 1 + 1 + 1 := by simp
  go_enter Try.func26, Try.ntmps26
  go_wp2_with (first | (have tk := t1; clear tk t1; go_at_call 91; refine (cur_sealedOf _ _ _ hC (by omega) _ (by omega)).mono ?_; rintro e w1 ⟨a1, b1, c1, d1, o1, rfl, hC1, hG1⟩; replace hz2 := hz2.grown hG1 (by intro e; injection e with e; omega); replace hz3 := hz3.grown hG1 (by intro e; injection e with e; omega); replace hG := Lib.grownBy_trans hG hG1; replace hC := hC1; clear hC1 hG1) | (have tk := t2; clear tk t2; go_at_call 91; refine (cur_sealedOf _ _ _ hC (by omega) _ (by omega)).mono ?_; rintro e w1 ⟨a2, b2, c2, d2, o2, rfl, hC1, hG1⟩; replace hz2 := hz2.grown hG1 (by intro e; injection e with e; omega); replace hz3 := hz3.grown hG1 (by intro e; injection e with e; omega); replace hG := Lib.grownBy_trans hG hG1; replace hC := hC1; clear hC1 hG1))
  have hs1 := hC.lt
  have hx6 := (Blk.new w1 38 #[.int .i64 a1, .int .i64 b1, .int .i64 c1, .int .i64 d1, .bool o1]).alloc (.cells #[.int .i64 a2, .int .i64 b2, .int .i64 c2, .int .i64 d2, .bool o2] 38)
  have hx7 := Blk.new (w1.alloc (.cells #[.int .i64 a1, .int .i64 b1, .int .i64 c1, .int .i64 d1, .bool o1] 38)) 38 #[.int .i64 a2, .int .i64 b2, .int .i64 c2, .int .i64 d2, .bool o2] (g := w1.heap.size + 1)
  replace hz2 := (hz2.alloc (.cells #[.int .i64 a1, .int .i64 b1, .int .i64 c1, .int .i64 d1, .bool o1] 38)).alloc (.cells #[.int .i64 a2, .int .i64 b2, .int .i64 c2, .int .i64 d2, .bool o2] 38)
  replace hz3 := (hz3.alloc (.cells #[.int .i64 a1, .int .i64 b1, .int .i64 c1, .int .i64 d1, .bool o1] 38)).alloc (.cells #[.int .i64 a2, .int .i64 b2, .int .i64 c2, .int .i64 d2, .bool o2] 38)
  replace hC := hC.keep (((Bl.refl w1).alloc (.cells #[.int .i64 a1, .int .i64 b1, .int .i64 c1, .int .i64 d1, .bool o1] 38)).alloc (.cells #[.int .i64 a2, .int .i64 b2, .int .i64 c2, .int .i64 d2, .bool o2] 38))
  replace hG := Lib.grownBy_allocR (Lib.grownBy_allocR hG (.cells #[.int .i64 a1, .int .i64 b1, .int .i64 c1, .int .i64 d1, .bool o1] 38)) (.cells #[.int .i64 a2, .int .i64 b2, .int .i64 c2, .int .i64 d2, .bool o2] 38)
  refine (cur_one _ _ _ hC (by omega) _ (by omega)).mono ?_
  rintro e w3 ⟨b, rfl, hC1, hG1⟩
  replace hx6 := hx6.grown hG1 (by intro e; injection e with e; omega)
  replace hx7 := hx7.grown hG1 (by intro e; injection e with e; omega)
  replace hz2 := hz2.grown hG1 (by intro e; injection e with e; omega)
  replace hz3 := hz3.grown hG1 (by intro e; injection e with e; omega)
  replace hG := Lib.grownBy_trans hG hG1
  replace hC := hC1
  clear hC1 hG1
  obtain ⟨w0, hw0⟩ : ∃ w0, ((w.alloc (.cells #[.int .i64 0, .int .i64 0, .int .i64 0, .int .i64 0, .bool false] 38)).alloc (.cells #[.int .i64 0, .int .i64 0, .int .i64 0, .int .i64 0, .bool false] 38)).alloc (.cells #[.slice A n c, .int .i64 0, .int .u64 0] 67) = w0 := ⟨_, rfl⟩
  rw [hw0] at hG hW0 hs0
  clear hw0
  obtain ⟨g6, hg6⟩ : ∃ g6, w1.heap.size = g6 := ⟨_, rfl⟩
  rw [hg6] at hx6 hx7 hs1 ⊢
  clear hg6
  obtain ⟨g2, hg2⟩ : ∃ g2, w.heap.size = g2 := ⟨_, rfl⟩
  have hw2 : w.heap.size ≤ g2 := by omega
  rw [hg2] at hz2 hz3 hs1 hs0 hC hG ⊢
  clear hg2
  have n1 : g2 ≠ g6 := by omega
  have n2 : g2 + 1 ≠ g6 := by omega
  have n3 : g2 ≠ g6 + 1 := by omega
  have n4 : g2 + 1 ≠ g6 + 1 := by omega
  have n5 : g2 ≠ g2 + 1 := by omega
  have k0 := hx6.cell 0 (.int .i64 a1) rfl
  have kf := hx6.frozen
  cases b
  · go_wp2_with fail
    refine wp_world (fun w5 => DccS w5 g6 g2 a1 b1 c1 d1 o1 a2 b2 c2 d2 o2 70 ∧ w0.grownBy w5 (some (g2 + 1 + 1))) ⟨⟨hx6, hx7, hz2, hz3, hC.mono (by omega)⟩, hG⟩ ?_
    clear hx6 hx7 hz2 hz3 hC hG k0 kf
    rintro w5 ⟨hD, hG⟩
    obtain ⟨hx6, hx7, hz2, hz3, hC⟩ := hD
    refine wp_region_held_drew (S := (fun w' => Blk w' g6 38 #[.int .i64 a1, .int .i64 b1, .int .i64 c1, .int .i64 d1, .bool o1] ∧ Blk w' (g6 + 1) 38 #[.int .i64 a2, .int .i64 b2, .int .i64 c2, .int .i64 d2, .bool o2])) (by kernel_rfl) ?_ (fun hHeld => ?_)
    · (try dsimp only); exact ⟨hx6.keep (by (repeat (first | assumption | with_reducible exact Bl.refl _ | with_reducible refine Bl.drewN ?_ _ | with_reducible refine Bl.drew ?_ | with_reducible refine Bl.alloc ?_ _ | (with_reducible refine Bl.call ?_ (by assumption))))), hx7.keep (by (repeat (first | assumption | with_reducible exact Bl.refl _ | with_reducible refine Bl.drewN ?_ _ | with_reducible refine Bl.drew ?_ | with_reducible refine Bl.alloc ?_ _ | (with_reducible refine Bl.call ?_ (by assumption)))))⟩
    refine held_take (i := 0) (d := 18) (v := ?_) rfl rfl (by kernel_rfl) (by kernel_rfl) (by kernel_rfl) (fun _ _ _ h => h) (Or.inl ⟨by rfl, ?_⟩) (by assumption) ?_
    rotate_left
    · (intro w hSw; (try dsimp only at hSw); have hq := hSw.1; clear hSw; have q0 := hq.cell 0 (.int .i64 a1) rfl; have q1 := hq.cell 1 (.int .i64 b1) rfl; have q2 := hq.cell 2 (.int .i64 c1) rfl; have q3 := hq.cell 3 (.int .i64 d1) rfl; have q4 := hq.cell 4 (.bool o1) rfl; go_simp; (try with_reducible rfl))
    (try simp only [List.set_cons_zero, List.set_cons_succ])
    refine held_take (i := 1) (d := 19) (v := ?_) rfl rfl (by kernel_rfl) (by kernel_rfl) (by kernel_rfl) (fun _ _ _ h => h) (Or.inl ⟨by rfl, ?_⟩) (by assumption) ?_
    rotate_left
    · (intro w hSw; (try dsimp only at hSw); have hq := hSw.2; clear hSw; have q0 := hq.cell 0 (.int .i64 a2) rfl; have q1 := hq.cell 1 (.int .i64 b2) rfl; have q2 := hq.cell 2 (.int .i64 c2) rfl; have q3 := hq.cell 3 (.int .i64 d2) rfl; have q4 := hq.cell 4 (.bool o2) rfl; go_simp; (try with_reducible rfl))
    (try simp only [List.set_cons_zero, List.set_cons_succ])
    refine held_take (i := 2) (d := 20) (v := ?_) rfl rfl (by kernel_rfl) (by kernel_rfl) (by kernel_rfl) (fun _ _ _ h => h) (Or.inl ⟨by rfl, ?_⟩) (by assumption) ?_
    rotate_left
    · (intro w hSw; (try dsimp only at hSw); go_simp; (try with_reducible rfl))
    (try simp only [List.set_cons_zero, List.set_cons_succ])
    refine wpAnyH_ready (rs := [3]) (by kernel_rfl) (by simp) ?_
    refine AllReadyH.cons rfl (fun K hK => ?_) AllReadyH.nil
    go_simp
    refine hK.out _ _ ?_ (fun hHeld => ?_)
    · (try dsimp only); exact ⟨hx6.keep (by (repeat (first | assumption | with_reducible exact Bl.refl _ | with_reducible refine Bl.drewN ?_ _ | with_reducible refine Bl.drew ?_ | with_reducible refine Bl.alloc ?_ _ | (with_reducible refine Bl.call ?_ (by assumption))))), hx7.keep (by (repeat (first | assumption | with_reducible exact Bl.refl _ | with_reducible refine Bl.drewN ?_ _ | with_reducible refine Bl.drew ?_ | with_reducible refine Bl.alloc ?_ _ | (with_reducible refine Bl.call ?_ (by assumption)))))⟩
    clear hK K
    (try simp only [Act.put]); (try simp only [List.setIfInBounds_toArray]); (try simp only [List.set_cons_succ]); (try simp only [List.set_cons_zero])
    refine wpAnyH_ready (rs := [4]) (by kernel_rfl) (by simp) ?_
    refine AllReadyH.cons rfl (fun K hK => ?_) AllReadyH.nil
    go_simp
    (refine (cur_among_new1 _ _ _ hC (by omega) _ _ (by rfl) _ (by rfl) (by simp) (by first | with_reducible rfl | simp)).mono ?_; rintro e w7 ⟨x, rfl, hC1, hG1⟩; replace hx6 := hx6.grown hG1 (by intro e; injection e with e; omega); replace hx7 := hx7.grown hG1 (by intro e; injection e with e; omega); replace hz2 := hz2.grown hG1 (by intro e; injection e with e; omega); replace hz3 := hz3.grown hG1 (by intro e; injection e with e; omega); replace hG := Lib.grownBy_trans hG hG1; replace hC := hC1; clear hC1 hG1; have zl2 := hz2.lt; have zf2 := hz2.frozen; have zl3 := hz3.lt; have zf3 := hz3.frozen)
    go_wp2_with fail
    refine hK.out _ _ ?_ (fun hHeld => ?_)
    · (try dsimp only); exact ⟨hx6.keep (by (repeat (first | assumption | with_reducible exact Bl.refl _ | with_reducible refine Bl.drewN ?_ _ | with_reducible refine Bl.drew ?_ | with_reducible refine Bl.alloc ?_ _ | (with_reducible refine Bl.call ?_ (by assumption))))), hx7.keep (by (repeat (first | assumption | with_reducible exact Bl.refl _ | with_reducible refine Bl.drewN ?_ _ | with_reducible refine Bl.drew ?_ | with_reducible refine Bl.alloc ?_ _ | (with_reducible refine Bl.call ?_ (by assumption)))))⟩
    clear hK K
    (try simp only [Act.put]); (try simp only [List.setIfInBounds_toArray]); (try simp only [List.set_cons_succ]); (try simp only [List.set_cons_zero])
    refine wpAnyH_ready (rs := [5]) (by kernel_rfl) (by simp) ?_
    refine AllReadyH.cons rfl (fun K hK => ?_) AllReadyH.nil
    refine wp_store_row 38 _ _ rfl (g2) _ rfl rfl 38 #[.int .i64 0, .int .i64 0, .int .i64 0, .int .i64 0, .bool false] hz2 (by kernel_rfl) rfl (by first | rfl | simp [Value.oneCell'] | kernel_rfl) ?_
    refine hK.out _ _ ?_ (fun hHeld => ?_)
    · (try dsimp only); exact ⟨by (repeat (first | with_reducible exact hx6 | with_reducible refine Blk.drew ?_ | with_reducible refine Blk.farRow ?_ (by omega))), by (repeat (first | with_reducible exact hx7 | with_reducible refine Blk.drew ?_ | with_reducible refine Blk.farRow ?_ (by omega)))⟩
    clear hK K
    (try simp only [Act.put]); (try simp only [List.setIfInBounds_toArray]); (try simp only [List.set_cons_succ]); (try simp only [List.set_cons_zero])
    refine wpAnyH_ready (rs := [6]) (by kernel_rfl) (by simp) ?_
    refine AllReadyH.cons rfl (fun K hK => ?_) AllReadyH.nil
    refine wp_store_row 38 _ _ rfl (g2 + 1) _ rfl rfl 38 #[.int .i64 0, .int .i64 0, .int .i64 0, .int .i64 0, .bool false] (hz3.farRow (by omega)) (by kernel_rfl) rfl (by first | rfl | simp [Value.oneCell'] | kernel_rfl) ?_
    refine hK.out _ _ ?_ (fun hHeld => ?_)
    · (try dsimp only); exact ⟨by (repeat (first | with_reducible exact hx6 | with_reducible refine Blk.drew ?_ | with_reducible refine Blk.farRow ?_ (by omega))), by (repeat (first | with_reducible exact hx7 | with_reducible refine Blk.drew ?_ | with_reducible refine Blk.farRow ?_ (by omega)))⟩
    clear hK K
    (try simp only [Act.put]); (try simp only [List.setIfInBounds_toArray]); (try simp only [List.set_cons_succ]); (try simp only [List.set_cons_zero])
    refine held_take (i := 7) (d := 4) (v := ?_) rfl rfl (by kernel_rfl) (by kernel_rfl) (by kernel_rfl) (fun _ _ _ h => h) (Or.inl ⟨by rfl, ?_⟩) (by assumption) ?_
    rotate_left
    · (intro w hSw; (try dsimp only at hSw); go_simp; (try with_reducible rfl))
    (try simp only [List.set_cons_zero, List.set_cons_succ])
    refine wpAnyH_done (by kernel_rfl) ?_ _
    have y2 := (Blk.row (cs' := #[.int .i64 a1, .int .i64 b1, .int .i64 c1, .int .i64 d1, .bool o1]) hz2).farRow (k := g2 + 1) (cs' := #[.int .i64 a2, .int .i64 b2, .int .i64 c2, .int .i64 d2, .bool o2]) (by omega)
    have y3 := Blk.row (cs' := #[.int .i64 a2, .int .i64 b2, .int .i64 c2, .int .i64 d2, .bool o2]) (hz3.farRow (k := g2) (cs' := #[.int .i64 a1, .int .i64 b1, .int .i64 c1, .int .i64 d1, .bool o1]) (by omega))
    have p0 := y2.cell 0 (.int .i64 a1) rfl; have p1 := y2.cell 1 (.int .i64 b1) rfl; have p2 := y2.cell 2 (.int .i64 c1) rfl; have p3 := y2.cell 3 (.int .i64 d1) rfl; have p4 := y2.cell 4 (.bool o1) rfl
    have q0 := y3.cell 0 (.int .i64 a2) rfl; have q1 := y3.cell 1 (.int .i64 b2) rfl; have q2 := y3.cell 2 (.int .i64 c2) rfl; have q3 := y3.cell 3 (.int .i64 d2) rfl; have q4 := y3.cell 4 (.bool o2) rfl
    have pf := y2.frozen
    have qf := y3.frozen
    have pl := y2.lt
    have ql := y3.lt
    have hF := Bl.row (cs := #[.int .i64 a2, .int .i64 b2, .int .i64 c2, .int .i64 d2, .bool o2]) (Bl.row (cs := #[.int .i64 a1, .int .i64 b1, .int .i64 c1, .int .i64 d1, .bool o1]) (Bl.grown hW0 hG (fun k hk => by cases hk; omega)) hw2) (g := g2 + 1) (by omega)
    go_wp2
    refine bodyPost_ret (v := .tuple #[.agg #[.int .i64 a1, .int .i64 b1, .int .i64 c1, .int .i64 d1, .bool o1], .agg #[.int .i64 a2, .int .i64 b2, .int .i64 c2, .int .i64 d2, .bool o2], .int .i64 x]) (by simp only [results, Try.results26]; go_simp) rfl ⟨_, _, _, _, _, _, _, _, _, _, _, rfl, hF⟩
  · go_wp2_with fail
    refine wp_world (fun w5 => DccS w5 g6 g2 1 b1 c1 d1 o1 a2 b2 c2 d2 o2 70 ∧ w0.grownBy w5 (some (g2 + 1 + 1))) ⟨⟨hx6.set_ 0 _, hx7.far (by dsimp only; omega) _, hz2.far n1 _, hz3.far n2 _, (hC.mono (by omega)).farSet _ _ _ (by omega)⟩, grown_far hG _ _ _ (by omega)⟩ ?_
    clear hx6 hx7 hz2 hz3 hC hG k0 kf
    rintro w5 ⟨hD, hG⟩
    obtain ⟨hx6, hx7, hz2, hz3, hC⟩ := hD
    refine wp_region_held_drew (S := (fun w' => Blk w' g6 38 #[.int .i64 1, .int .i64 b1, .int .i64 c1, .int .i64 d1, .bool o1] ∧ Blk w' (g6 + 1) 38 #[.int .i64 a2, .int .i64 b2, .int .i64 c2, .int .i64 d2, .bool o2])) (by kernel_rfl) ?_ (fun hHeld => ?_)
    · (try dsimp only); exact ⟨hx6.keep (by (repeat (first | assumption | with_reducible exact Bl.refl _ | with_reducible refine Bl.drewN ?_ _ | with_reducible refine Bl.drew ?_ | with_reducible refine Bl.alloc ?_ _ | (with_reducible refine Bl.call ?_ (by assumption))))), hx7.keep (by (repeat (first | assumption | with_reducible exact Bl.refl _ | with_reducible refine Bl.drewN ?_ _ | with_reducible refine Bl.drew ?_ | with_reducible refine Bl.alloc ?_ _ | (with_reducible refine Bl.call ?_ (by assumption)))))⟩
    refine held_take (i := 0) (d := 18) (v := ?_) rfl rfl (by kernel_rfl) (by kernel_rfl) (by kernel_rfl) (fun _ _ _ h => h) (Or.inl ⟨by rfl, ?_⟩) (by assumption) ?_
    rotate_left
    · (intro w hSw; (try dsimp only at hSw); have hq := hSw.1; clear hSw; have q0 := hq.cell 0 (.int .i64 1) rfl; have q1 := hq.cell 1 (.int .i64 b1) rfl; have q2 := hq.cell 2 (.int .i64 c1) rfl; have q3 := hq.cell 3 (.int .i64 d1) rfl; have q4 := hq.cell 4 (.bool o1) rfl; go_simp; (try with_reducible rfl))
    (try simp only [List.set_cons_zero, List.set_cons_succ])
    refine held_take (i := 1) (d := 19) (v := ?_) rfl rfl (by kernel_rfl) (by kernel_rfl) (by kernel_rfl) (fun _ _ _ h => h) (Or.inl ⟨by rfl, ?_⟩) (by assumption) ?_
    rotate_left
    · (intro w hSw; (try dsimp only at hSw); have hq := hSw.2; clear hSw; have q0 := hq.cell 0 (.int .i64 a2) rfl; have q1 := hq.cell 1 (.int .i64 b2) rfl; have q2 := hq.cell 2 (.int .i64 c2) rfl; have q3 := hq.cell 3 (.int .i64 d2) rfl; have q4 := hq.cell 4 (.bool o2) rfl; go_simp; (try with_reducible rfl))
    (try simp only [List.set_cons_zero, List.set_cons_succ])
    refine held_take (i := 2) (d := 20) (v := ?_) rfl rfl (by kernel_rfl) (by kernel_rfl) (by kernel_rfl) (fun _ _ _ h => h) (Or.inl ⟨by rfl, ?_⟩) (by assumption) ?_
    rotate_left
    · (intro w hSw; (try dsimp only at hSw); go_simp; (try with_reducible rfl))
    (try simp only [List.set_cons_zero, List.set_cons_succ])
    refine wpAnyH_ready (rs := [3]) (by kernel_rfl) (by simp) ?_
    refine AllReadyH.cons rfl (fun K hK => ?_) AllReadyH.nil
    go_simp
    refine hK.out _ _ ?_ (fun hHeld => ?_)
    · (try dsimp only); exact ⟨hx6.keep (by (repeat (first | assumption | with_reducible exact Bl.refl _ | with_reducible refine Bl.drewN ?_ _ | with_reducible refine Bl.drew ?_ | with_reducible refine Bl.alloc ?_ _ | (with_reducible refine Bl.call ?_ (by assumption))))), hx7.keep (by (repeat (first | assumption | with_reducible exact Bl.refl _ | with_reducible refine Bl.drewN ?_ _ | with_reducible refine Bl.drew ?_ | with_reducible refine Bl.alloc ?_ _ | (with_reducible refine Bl.call ?_ (by assumption)))))⟩
    clear hK K
    (try simp only [Act.put]); (try simp only [List.setIfInBounds_toArray]); (try simp only [List.set_cons_succ]); (try simp only [List.set_cons_zero])
    refine wpAnyH_ready (rs := [4]) (by kernel_rfl) (by simp) ?_
    refine AllReadyH.cons rfl (fun K hK => ?_) AllReadyH.nil
    go_simp
    (refine (cur_among_new1 _ _ _ hC (by omega) _ _ (by rfl) _ (by rfl) (by simp) (by first | with_reducible rfl | simp)).mono ?_; rintro e w7 ⟨x, rfl, hC1, hG1⟩; replace hx6 := hx6.grown hG1 (by intro e; injection e with e; omega); replace hx7 := hx7.grown hG1 (by intro e; injection e with e; omega); replace hz2 := hz2.grown hG1 (by intro e; injection e with e; omega); replace hz3 := hz3.grown hG1 (by intro e; injection e with e; omega); replace hG := Lib.grownBy_trans hG hG1; replace hC := hC1; clear hC1 hG1; have zl2 := hz2.lt; have zf2 := hz2.frozen; have zl3 := hz3.lt; have zf3 := hz3.frozen)
    go_wp2_with fail
    refine hK.out _ _ ?_ (fun hHeld => ?_)
    · (try dsimp only); exact ⟨hx6.keep (by (repeat (first | assumption | with_reducible exact Bl.refl _ | with_reducible refine Bl.drewN ?_ _ | with_reducible refine Bl.drew ?_ | with_reducible refine Bl.alloc ?_ _ | (with_reducible refine Bl.call ?_ (by assumption))))), hx7.keep (by (repeat (first | assumption | with_reducible exact Bl.refl _ | with_reducible refine Bl.drewN ?_ _ | with_reducible refine Bl.drew ?_ | with_reducible refine Bl.alloc ?_ _ | (with_reducible refine Bl.call ?_ (by assumption)))))⟩
    clear hK K
    (try simp only [Act.put]); (try simp only [List.setIfInBounds_toArray]); (try simp only [List.set_cons_succ]); (try simp only [List.set_cons_zero])
    refine wpAnyH_ready (rs := [5]) (by kernel_rfl) (by simp) ?_
    refine AllReadyH.cons rfl (fun K hK => ?_) AllReadyH.nil
    refine wp_store_row 38 _ _ rfl (g2) _ rfl rfl 38 #[.int .i64 0, .int .i64 0, .int .i64 0, .int .i64 0, .bool false] hz2 (by kernel_rfl) rfl (by first | rfl | simp [Value.oneCell'] | kernel_rfl) ?_
    refine hK.out _ _ ?_ (fun hHeld => ?_)
    · (try dsimp only); exact ⟨by (repeat (first | with_reducible exact hx6 | with_reducible refine Blk.drew ?_ | with_reducible refine Blk.farRow ?_ (by omega))), by (repeat (first | with_reducible exact hx7 | with_reducible refine Blk.drew ?_ | with_reducible refine Blk.farRow ?_ (by omega)))⟩
    clear hK K
    (try simp only [Act.put]); (try simp only [List.setIfInBounds_toArray]); (try simp only [List.set_cons_succ]); (try simp only [List.set_cons_zero])
    refine wpAnyH_ready (rs := [6]) (by kernel_rfl) (by simp) ?_
    refine AllReadyH.cons rfl (fun K hK => ?_) AllReadyH.nil
    refine wp_store_row 38 _ _ rfl (g2 + 1) _ rfl rfl 38 #[.int .i64 0, .int .i64 0, .int .i64 0, .int .i64 0, .bool false] (hz3.farRow (by omega)) (by kernel_rfl) rfl (by first | rfl | simp [Value.oneCell'] | kernel_rfl) ?_
    refine hK.out _ _ ?_ (fun hHeld => ?_)
    · (try dsimp only); exact ⟨by (repeat (first | with_reducible exact hx6 | with_reducible refine Blk.drew ?_ | with_reducible refine Blk.farRow ?_ (by omega))), by (repeat (first | with_reducible exact hx7 | with_reducible refine Blk.drew ?_ | with_reducible refine Blk.farRow ?_ (by omega)))⟩
    clear hK K
    (try simp only [Act.put]); (try simp only [List.setIfInBounds_toArray]); (try simp only [List.set_cons_succ]); (try simp only [List.set_cons_zero])
    refine held_take (i := 7) (d := 4) (v := ?_) rfl rfl (by kernel_rfl) (by kernel_rfl) (by kernel_rfl) (fun _ _ _ h => h) (Or.inl ⟨by rfl, ?_⟩) (by assumption) ?_
    rotate_left
    · (intro w hSw; (try dsimp only at hSw); go_simp; (try with_reducible rfl))
    (try simp only [List.set_cons_zero, List.set_cons_succ])
    refine wpAnyH_done (by kernel_rfl) ?_ _
    have y2 := (Blk.row (cs' := #[.int .i64 1, .int .i64 b1, .int .i64 c1, .int .i64 d1, .bool o1]) hz2).farRow (k := g2 + 1) (cs' := #[.int .i64 a2, .int .i64 b2, .int .i64 c2, .int .i64 d2, .bool o2]) (by omega)
    have y3 := Blk.row (cs' := #[.int .i64 a2, .int .i64 b2, .int .i64 c2, .int .i64 d2, .bool o2]) (hz3.farRow (k := g2) (cs' := #[.int .i64 1, .int .i64 b1, .int .i64 c1, .int .i64 d1, .bool o1]) (by omega))
    have p0 := y2.cell 0 (.int .i64 1) rfl; have p1 := y2.cell 1 (.int .i64 b1) rfl; have p2 := y2.cell 2 (.int .i64 c1) rfl; have p3 := y2.cell 3 (.int .i64 d1) rfl; have p4 := y2.cell 4 (.bool o1) rfl
    have q0 := y3.cell 0 (.int .i64 a2) rfl; have q1 := y3.cell 1 (.int .i64 b2) rfl; have q2 := y3.cell 2 (.int .i64 c2) rfl; have q3 := y3.cell 3 (.int .i64 d2) rfl; have q4 := y3.cell 4 (.bool o2) rfl
    have pf := y2.frozen
    have qf := y3.frozen
    have pl := y2.lt
    have ql := y3.lt
    have hF := Bl.row (cs := #[.int .i64 a2, .int .i64 b2, .int .i64 c2, .int .i64 d2, .bool o2]) (Bl.row (cs := #[.int .i64 1, .int .i64 b1, .int .i64 c1, .int .i64 d1, .bool o1]) (Bl.grown hW0 hG (fun k hk => by cases hk; omega)) hw2) (g := g2 + 1) (by omega)
    go_wp2
    refine bodyPost_ret (v := .tuple #[.agg #[.int .i64 1, .int .i64 b1, .int .i64 c1, .int .i64 d1, .bool o1], .agg #[.int .i64 a2, .int .i64 b2, .int .i64 c2, .int .i64 d2, .bool o2], .int .i64 x]) (by simp only [results, Try.results26]; go_simp) rfl ⟨_, _, _, _, _, _, _, _, _, _, _, rfl, hF⟩
end Go.Proofs.Ytglgaicbcackbaa
