/- Contracts of drawn bits and inputs, and of the draws of the law on rounds.
   Conditions: the cursor's; the text is one of bytes. -/
import Derived.Test.YtlmlffiajgofeaaFrc
namespace Go.Proofs.Ytlmlffiajgofeaa
open Go.RowKit
set_option linter.unusedVariables false
theorem OwnI.overV {w w' : World} {base n c g : Nat} {A : Option Addr} {l : List Int} {row : Option Nat} (h : OwnI base w A n c l) (hg : w.grownBy w' row) (hr : ∀ b, row = some b → b < base ∨ w.heap.size ≤ b) : OwnI base w' A n c l :=
  h.grown hg (by intro q hq e; have h1 := h.blk q.block (by rw [hq]; rfl); rcases hr q.block e.symm with h2 | h2 <;> omega)
def BitsP (w : World) (g k : Nat) (e : Ending) (w' : World) : Prop := ∃ A m c l, e = .returned (.slice A m c) ∧ m ≤ 30 ∧ OwnI w.heap.size w' A m c l ∧ Cur w' g (k + 60) ∧ w.grownBy w' (some g)
theorem bitsP {w w' : World} {g k m c : Nat} {A : Option Addr} {l : List Int} (h1 : m ≤ 30) (h2 : OwnI w.heap.size w' A m c l) (h3 : Cur w' g (k + 60)) (h4 : w.grownBy w' (some g)) : BitsP w g k (.returned (.slice A m c)) w' := ⟨A, m, c, l, rfl, h1, h2, h3, h4⟩
def InpP (w : World) (g k : Nat) (e : Ending) (w' : World) : Prop := ∃ A1 n1 c1 l1 A2 n2 c2 l2, e = .returned (.tuple #[.slice A1 n1 c1, .slice A2 n2 c2]) ∧ n1 ≤ 31 ∧ n2 ≤ 31 ∧ OwnI w.heap.size w' A1 n1 c1 l1 ∧ OwnI w.heap.size w' A2 n2 c2 l2 ∧ Cur w' g (k + 200) ∧ w.grownBy w' (some g)
theorem inpP {w w' : World} {g k n1 c1 n2 c2 : Nat} {A1 A2 : Option Addr} {l1 l2 : List Int} (h1 : n1 ≤ 31) (h2 : n2 ≤ 31) (h3 : OwnI w.heap.size w' A1 n1 c1 l1) (h4 : OwnI w.heap.size w' A2 n2 c2 l2) (h5 : Cur w' g (k + 200)) (h6 : w.grownBy w' (some g)) :
    InpP w g k (.returned (.tuple #[.slice A1 n1 c1, .slice A2 n2 c2])) w' := ⟨A1, n1, c1, l1, A2, n2, c2, l2, rfl, h1, h2, h3, h4, h5, h6⟩
theorem least_30 (N : Int) (w : World) : Calls Try.prog 80 #[.int .i64 N, .int .i64 30] w fun e w' => ∃ q, e = .returned (.int .i64 q) ∧ q ≤ 30 ∧ w = w' := by
  go_enter Try.func80, Try.ntmps80
  go_wp2
  all_goals go_ret
  all_goals exact ⟨_, rfl, by omega, rfl⟩
set_option maxHeartbeats 2000000 in
theorem cur_bits (w : World) (g k : Nat) (h : Cur w g k) (hk : k < 800000000) (N : Int) (hN : N ≤ 30) :
    Calls Try.prog 117 #[.pointer (some ⟨g, 0, none⟩), .int .i64 N] w (BitsP w g k) := by
  have hgw := h.lt
  have hown0 := OwnI.nil w.heap.size w
  have hG0 := World.grownBy.refl w (some g)
  go_enter Try.func117, Try.ntmps117
  go_wp2_with fail
  go_loopw [1, 5] (fun i o wr => ∃ (j : Int) (m c kk : Nat) (A : Option Addr) (l : List Int), i = .int .i64 j ∧ o = .slice A m c ∧ OwnI w.heap.size wr A m c l ∧ (m : Int) + max j 0 ≤ 30 ∧ Cur wr g kk ∧ (kk : Int) + 2 * max j 0 ≤ k + 60 ∧ w.grownBy wr (some g)) (fun i _ _ => (intOf i).toNat)
  case atStart => exact ⟨N, 0, 0, k, none, [], rfl, rfl, hown0, by omega, h, by omega, hG0⟩
  case round =>
    clear hown0 hG0 h
    obtain ⟨j, m, c, kk, A, l, rfl, rfl, hown, hm, hC, hkk, hG⟩ := hrel
    by_cases hj : 0 < j
    · go_wp2_with fail
      refine (cur_pick _ g _ hC (by omega) 2 (by omega)).mono ?_
      rintro e w5 ⟨q, rfl, q0, q1, hC5, hG5⟩
      have hown5 := hown.grownC hG5 hgw
      have hs5 : w.heap.size ≤ w5.heap.size := by have := hG.size; have := hG5.size; omega
      go_wp2_with (at_builtin; refine ap_int rfl rfl rfl (hown5.alloc _) rfl (rd_new1 _ _ _) (by omega) (by simp; omega) ?_; intro A7 c7 v7 ho7 hg7 hat7)
      go_roundw
      case rel => exact ⟨j - 1, m + 1, c7, _, A7, _, rfl, rfl, ho7, by omega, (hC5.keep ((Bl.refl _).alloc _)).grownV hg7 (by intro b hb; have := (hown5.blk b hb).1; omega), by omega, grown_overV (Lib.grownBy_below (Lib.grownBy_trans hG hG5) ((Bl.refl _).alloc _)) hg7 (by intro b hb; have := (hown5.blk b hb).1; omega)⟩
      case measure => simp [intOf]; omega
    · go_wp2_with fail
      go_ret
      exact bitsP (by omega) hown (hC.mono (by omega)) hG
set_option maxRecDepth 20000 in
set_option maxHeartbeats 4000000 in
theorem cur_inputs (w : World) (g k : Nat) (h : Cur w g k) (hk : k < 700000000) (a b : Int) (Ag Ao : Option Addr) (n c m d : Nat) :
    Calls Try.prog 85 #[.pointer (some ⟨g, 0, none⟩), .agg #[.int .i64 a, .int .i64 b, .slice Ag n c, .slice Ao m d]] w (InpP w g k) := by
  have hgw := h.lt
  have hC0 : Cur (w.alloc (.cells #[.int .i64 a, .int .i64 b, .slice Ag n c, .slice Ao m d] 26)).drew g k := h.keep ((Bl.refl w).alloc _).drew
  have hX0 : Blk (w.alloc (.cells #[.int .i64 a, .int .i64 b, .slice Ag n c, .slice Ao m d] 26)).drew w.heap.size 26 #[.int .i64 a, .int .i64 b, .slice Ag n c, .slice Ao m d] := (Blk.new w _ _).drew
  have hX_l := hX0.lt; have hX_0 := hX0.cell 0 _ rfl; have hX_1 := hX0.cell 1 _ rfl
  go_enter Try.func85, Try.ntmps85
  go_wp2_with fail
  refine wp_region_held_drew (S := (fun w' => w'.cell? ⟨w.heap.size, 0, none⟩ = some (.int .i64 a) ∧ w'.cell? ⟨w.heap.size, 1, none⟩ = some (.int .i64 b))) (by kernel_rfl) ?_ (fun hHeld => ?_)
  · (try dsimp only); have q := hX0; exact ⟨q.cell 0 _ rfl, q.cell 1 _ rfl⟩
  refine held_take (i := 0) (d := 8) (v := ?_) rfl rfl (by kernel_rfl) (by kernel_rfl) (by kernel_rfl) (fun _ _ _ h => h) (Or.inl ⟨by rfl, ?_⟩) (by assumption) ?_
  rotate_left
  · (intro w hSw; (try dsimp only at hSw); go_simp; (try with_reducible rfl))
  (try simp only [List.set_cons_zero, List.set_cons_succ])
  refine held_take (i := 1) (d := 9) (v := ?_) rfl rfl (by kernel_rfl) (by kernel_rfl) (by kernel_rfl) (fun _ _ _ h => h) (Or.inl ⟨by rfl, ?_⟩) (by assumption) ?_
  rotate_left
  · (intro w hSw; (try dsimp only at hSw); go_simp; (try with_reducible rfl))
  (try simp only [List.set_cons_zero, List.set_cons_succ])
  refine held_take (i := 2) (d := 10) (v := ?_) rfl rfl (by kernel_rfl) (by kernel_rfl) (by kernel_rfl) (fun _ _ _ h => h) (Or.inl ⟨by rfl, ?_⟩) (by assumption) ?_
  rotate_left
  · (intro w hSw; (try dsimp only at hSw); go_simp; (try with_reducible rfl))
  (try simp only [List.set_cons_zero, List.set_cons_succ])
  refine held_take (i := 5) (d := 13) (v := ?_) rfl rfl (by kernel_rfl) (by kernel_rfl) (by kernel_rfl) (fun _ _ _ h => h) (Or.inl ⟨by rfl, ?_⟩) (by assumption) ?_
  rotate_left
  · (intro w hSw; (try dsimp only at hSw); go_simp; (try with_reducible rfl))
  (try simp only [List.set_cons_zero, List.set_cons_succ])
  refine held_take (i := 6) (d := 14) (v := ?_) rfl rfl (by kernel_rfl) (by kernel_rfl) (by kernel_rfl) (fun _ _ _ h => h) (Or.inl ⟨by rfl, ?_⟩) (by assumption) ?_
  rotate_left
  · (intro w hSw; (try dsimp only at hSw); go_simp; (try with_reducible rfl))
  (try simp only [List.set_cons_zero, List.set_cons_succ])
  refine held_take (i := 7) (d := 15) (v := ?_) rfl rfl (by kernel_rfl) (by kernel_rfl) (by kernel_rfl) (fun _ _ _ h => h) (Or.inl ⟨by rfl, ?_⟩) (by assumption) ?_
  rotate_left
  · (intro w hSw; (try dsimp only at hSw); go_simp; (try with_reducible rfl))
  (try simp only [List.set_cons_zero, List.set_cons_succ])
  refine wpAnyH_ready (rs := [3]) (by kernel_rfl) (by simp) ?_
  refine AllReadyH.cons rfl (fun K hK => ?_) AllReadyH.nil
  go_simp
  go_at_call 80; refine (least_30 _ _).mono ?_; rintro e v1 ⟨q3, rfl, hq3, rfl⟩
  go_wp2_with fail
  refine hK.out _ _ ?_ (fun hHeld => ?_)
  · (try dsimp only); have q := hX0; exact ⟨q.cell 0 _ rfl, q.cell 1 _ rfl⟩
  clear hK K
  (try simp only [Act.put]); (try simp only [List.setIfInBounds_toArray]); (try simp only [List.set_cons_succ]); (try simp only [List.set_cons_zero])
  refine wpAnyH_ready (rs := [4]) (by kernel_rfl) (by simp) ?_
  refine AllReadyH.cons rfl (fun K hK => ?_) AllReadyH.nil
  go_simp
  go_at_call 117; refine (cur_bits _ g _ hC0 (by omega) q3 hq3).mono ?_; rintro e x1 ⟨A1, n1, c1, l1, rfl, hn1, ho1, hC1, hG1⟩; have hX1 := hX0.grown hG1 (by intro e; injection e with e; omega); have hs1 : w.heap.size ≤ x1.heap.size := (by have := hG1.size; have := hX0.lt; omega)
  go_wp2_with fail
  refine hK.out _ _ ?_ (fun hHeld => ?_)
  · (try dsimp only); have q := hX1; exact ⟨q.cell 0 _ rfl, q.cell 1 _ rfl⟩
  clear hK K
  (try simp only [Act.put]); (try simp only [List.setIfInBounds_toArray]); (try simp only [List.set_cons_succ]); (try simp only [List.set_cons_zero])
  refine wpAnyH_ready (rs := [8]) (by kernel_rfl) (by simp) ?_
  refine AllReadyH.cons rfl (fun K hK => ?_) AllReadyH.nil
  go_simp
  go_at_call 80; refine (least_30 _ _).mono ?_; rintro e v3 ⟨q8, rfl, hq8, rfl⟩
  go_wp2_with fail
  refine hK.out _ _ ?_ (fun hHeld => ?_)
  · (try dsimp only); have q := hX1; exact ⟨q.cell 0 _ rfl, q.cell 1 _ rfl⟩
  clear hK K
  (try simp only [Act.put]); (try simp only [List.setIfInBounds_toArray]); (try simp only [List.set_cons_succ]); (try simp only [List.set_cons_zero])
  refine wpAnyH_ready (rs := [9]) (by kernel_rfl) (by simp) ?_
  refine AllReadyH.cons rfl (fun K hK => ?_) AllReadyH.nil
  go_simp
  go_at_call 117; refine (cur_bits _ g _ hC1 (by omega) q8 hq8).mono ?_; rintro e x2 ⟨A2, n2, c2, l2, rfl, hn2, ho2, hC2, hG2⟩; have hX2 := hX1.grown hG2 (by intro e; injection e with e; omega); have ho1b := ho1.grownC hG2 (by simp; omega)
  go_wp2_with fail
  refine hK.out _ _ ?_ (fun hHeld => ?_)
  · (try dsimp only); have q := hX2; exact ⟨q.cell 0 _ rfl, q.cell 1 _ rfl⟩
  clear hK K
  (try simp only [Act.put]); (try simp only [List.setIfInBounds_toArray]); (try simp only [List.set_cons_succ]); (try simp only [List.set_cons_zero])
  refine held_take (i := 10) (d := 6) (v := ?_) rfl rfl (by kernel_rfl) (by kernel_rfl) (by kernel_rfl) (fun _ _ _ h => h) (Or.inl ⟨by rfl, ?_⟩) (by assumption) ?_
  rotate_left
  · (intro w hSw; (try dsimp only at hSw); go_simp; (try with_reducible rfl))
  (try simp only [List.set_cons_zero, List.set_cons_succ])
  refine held_take (i := 11) (d := 7) (v := ?_) rfl rfl (by kernel_rfl) (by kernel_rfl) (by kernel_rfl) (fun _ _ _ h => h) (Or.inl ⟨by rfl, ?_⟩) (by assumption) ?_
  rotate_left
  · (intro w hSw; (try dsimp only at hSw); go_simp; (try with_reducible rfl))
  (try simp only [List.set_cons_zero, List.set_cons_succ])
  refine wpAnyH_done (by kernel_rfl) ?_ _
  go_wp2_with fail
  refine (cur_pick _ g _ hC2 (by omega) 30 (by omega)).mono ?_
  rintro e x3 ⟨s, rfl, s0, s1, hC3, hG3⟩
  have hW0 : w.grownBy (w.alloc (.cells #[.int .i64 a, .int .i64 b, .slice Ag n c, .slice Ao m d] 26)).drew (some g) := Lib.grownBy_below (World.grownBy_alloc w _ _) (Bl.refl _).drew
  have hW3 := Lib.grownBy_trans (Lib.grownBy_trans (Lib.grownBy_trans hW0 hG1) hG2) hG3
  have hgs : g < w.heap.size := hgw
  have ho1c := (ho1b.mono (base' := w.heap.size) (by simp)).grownC hG3 hgs
  have ho2c := (ho2.mono (base' := x1.heap.size) (Nat.le_refl _)).grownC hG3 (by omega)
  have hs3 : x2.heap.size ≤ x3.heap.size := hG3.size
  have hs2 : x1.heap.size ≤ x2.heap.size := hG2.size
  have h1lt := fun k hk => (ho1.blk k hk).2
  rcases (by omega : s = 0 ∨ s = 1 ∨ (s ≠ 0 ∧ s ≠ 1)) with rfl | rfl | ⟨hn0, hn1x⟩
  · go_wp2_with (at_builtin; refine ap_int rfl rfl rfl (ho1c.alloc _) rfl (rd_new1 _ _ _) (by omega) (by simp; omega) ?_; intro A7 c7 v7 hoA hg7 hat7)
    have hoB := (ho2c.mono (by omega : w.heap.size ≤ x1.heap.size)).alloc (.cells #[.int .i64 0] 3) |>.grown hg7 (by intro q hq e; have := (ho2c.blk q.block (by rw [hq]; rfl)).1; have := h1lt q.block e.symm; omega)
    have hCf := (hC3.keep ((Bl.refl _).alloc (.cells #[.int .i64 0] 3))).grownV hg7 (by intro q hq; have := (ho1c.blk q hq).1; omega)
    have hGf := grown_overV (Lib.grownBy_below hW3 ((Bl.refl _).alloc (.cells #[.int .i64 0] 3))) hg7 (by intro q hq; exact (ho1c.blk q hq).1)
    go_ret2
    exact inpP (by omega) (by omega) hoA hoB (hCf.mono (by omega)) hGf
  · go_wp2_with (at_builtin; refine ap_int rfl rfl rfl (ho2c.alloc _) rfl (rd_new1 _ _ _) (by omega) (by simp; omega) ?_; intro A7 c7 v7 hoB0 hg7 hat7)
    have hoB := hoB0.mono (base' := w.heap.size) (by omega)
    have hoA := (ho1c.alloc (.cells #[.int .i64 2] 3)).grown hg7 (by intro q hq e; have := (ho2c.blk q.block e.symm).1; have := h1lt q.block (by rw [hq]; rfl); omega)
    have hCf := (hC3.keep ((Bl.refl _).alloc (.cells #[.int .i64 2] 3))).grownV hg7 (by intro q hq; have := (ho2c.blk q hq).1; omega)
    have hGf := grown_overV (Lib.grownBy_below hW3 ((Bl.refl _).alloc (.cells #[.int .i64 2] 3))) hg7 (by intro q hq; have := (ho2c.blk q hq).1; omega)
    go_ret2
    exact inpP (by omega) (by omega) hoA hoB (hCf.mono (by omega)) hGf
  · have e0 : (s == 0) = false := by simpa using hn0
    have e1 : (s == 1) = false := by simpa using hn1x
    have hoA := ho1c; have hoB := ho2c.mono (base' := w.heap.size) (by omega); have hCf := hC3; have hGf := hW3
    go_wp2_with fail
    go_ret2
    exact inpP (by omega) (by omega) hoA hoB (hCf.mono (by omega)) hGf
end Go.Proofs.Ytlmlffiajgofeaa
