/- Contracts of the draws of sealed values.
   Conditions: the cursor lies in a block of its own; the bytes are bytes. -/
import Derived.Test.YtglgaicbcackbaaDrw
import Derived.Test.YtglgaicbcackbaaSeb
namespace Go.Proofs.Ytglgaicbcackbaa
open Go.RowKit
set_option linter.unusedVariables false
set_option maxRecDepth 20000 in
set_option maxHeartbeats 4000000 in
theorem spec_DrawCommitTo (w : World) (A : Option Addr) (n c : Nat) (l : List Int) (h : RdB w A n c l) :
    Calls Try.prog 34 #[.slice A n c] w fun e w' => ∃ p q r, e = .returned (.tuple #[.int .i64 p, .int .i64 q, .int .i64 r]) ∧ Bl w w' := by
  have hC := Cur.new w h
  have hG := World.grownBy.refl (w.alloc (.cells #[.slice A n c, .int .i64 0, .int .u64 0] 67)) (some w.heap.size)
  go_enter Try.func34, Try.ntmps34
  go_wp2_with (first | (go_at_call 67; refine (cur_pick _ _ _ hC (by omega) _ (by omega)).mono ?_; rintro e w1 ⟨x, rfl, hb0, hb1, hC1, hG1⟩; replace hG := Lib.grownBy_trans hG hG1; replace hC := hC1; clear hC1 hG1) | (go_at_call 83; refine (cur_small _ _ _ hC (by omega)).mono ?_; rintro e w1 ⟨x, rfl, hC1, hG1⟩; replace hG := Lib.grownBy_trans hG hG1; replace hC := hC1; clear hC1 hG1) | (go_at_call 84; refine (cur_secret _ _ _ hC (by omega)).mono ?_; rintro e w1 ⟨x, rfl, hC1, hG1⟩; replace hG := Lib.grownBy_trans hG hG1; replace hC := hC1; clear hC1 hG1))
  go_ret3
  exact ⟨_, _, _, rfl, Bl.grown ((Bl.refl w).alloc _) hG (fun k hk => by cases hk; exact Nat.le_refl _)⟩
set_option maxRecDepth 20000 in
set_option maxHeartbeats 4000000 in
theorem spec_DrawSealValue (w : World) (A : Option Addr) (n c : Nat) (l : List Int) (h : RdB w A n c l) :
    Calls Try.prog 20 #[.slice A n c] w fun e w' => ∃ p q r, e = .returned (.tuple #[.int .i64 p, .int .i64 q, .int .i64 r]) ∧ Bl w w' := by
  go_enter Try.func20, Try.ntmps20
  go_wp2_with (go_at_call 34; refine (spec_DrawCommitTo w A n c l h).mono ?_; rintro e w1 ⟨p, q, r, rfl, hb⟩)
  go_ret3
  exact ⟨_, _, _, rfl, hb⟩
set_option maxRecDepth 20000 in
set_option maxHeartbeats 4000000 in
theorem cur_sealedOf (w : World) (g k : Nat) (h : Cur w g k) (hk : k < 700000000) (p : Int) (hp : 0 ≤ p ∧ p ≤ 3) :
    Calls Try.prog 91 #[.pointer (some ⟨g, 0, none⟩), .int .i64 p] w fun e w' => ∃ a b c d o, e = .returned (.agg #[.int .i64 a, .int .i64 b, .int .i64 c, .int .i64 d, .bool o]) ∧ Cur w' g (k + 30) ∧ w.grownBy w' (some g) := by
  have hlt := h.lt
  have hC := h.keep ((Bl.refl w).alloc (.cells #[.int .i64 0, .int .i64 0, .int .i64 0, .int .i64 0, .bool false] 38))
  have hG := World.grownBy_alloc w (.cells #[.int .i64 0, .int .i64 0, .int .i64 0, .int .i64 0, .bool false] 38) (some g)
  have hz := Blk.new w 38 #[.int .i64 0, .int .i64 0, .int .i64 0, .int .i64 0, .bool false]
  clear h
  have t1 := True.intro
  have t2 := True.intro
  go_enter Try.func91, Try.ntmps91
  go_wp2_with (first | (have tk := t1; clear tk t1; go_at_call 67; refine (cur_pick _ _ _ hC (by omega) _ (by omega)).mono ?_; rintro e w1 ⟨v, rfl, hv0, hv1, hC1, hG1⟩; replace hG := Lib.grownBy_trans hG hG1; replace hC := hC1; replace hz := hz.grown hG1 (by intro e; injection e with e; omega); clear hC1 hG1) | (have tk := t2; clear tk t2; go_at_call 67; refine (cur_pick _ _ _ hC (by omega) _ (by omega)).mono ?_; rintro e w1 ⟨y, rfl, hy0, hy1, hC1, hG1⟩; replace hG := Lib.grownBy_trans hG hG1; replace hC := hC1; replace hz := hz.grown hG1 (by intro e; injection e with e; omega); clear hC1 hG1) | (go_at_call 87; refine (spec_cmSeal _ _ _ _ (by omega) (by omega) (by omega)).mono ?_; rintro e w2 ⟨rfl, hb2⟩; have hbd := blindF_bd p v y; replace hG := Lib.grownBy_below hG hb2; replace hC := hC.keep hb2; replace hz := hz.keep hb2; generalize markF p v (blindF p v y) = M; generalize blindF p v y = K at *; clear hb2))
  have hs1 := hz.lt
  have hx0 := Blk.new w2 38 #[.int .i64 p, .int .i64 M, .int .i64 v, .int .i64 K, .bool true]
  replace hz := hz.alloc (.cells #[.int .i64 p, .int .i64 M, .int .i64 v, .int .i64 K, .bool true] 38)
  replace hC := hC.keep ((Bl.refl w2).alloc (.cells #[.int .i64 p, .int .i64 M, .int .i64 v, .int .i64 K, .bool true] 38))
  replace hG := Lib.grownBy_allocR hG (.cells #[.int .i64 p, .int .i64 M, .int .i64 v, .int .i64 K, .bool true] 38)
  refine (cur_pick _ _ _ hC (by omega) _ (by omega)).mono ?_
  rintro e w3 ⟨z, rfl, hz0, hz1, hC1, hG1⟩
  have hx := hx0.grown hG1 (by intro e; injection e with e; omega)
  replace hz := hz.grown hG1 (by intro e; injection e with e; omega)
  replace hG := Lib.grownBy_trans hG hG1
  replace hC := hC1
  clear hC1 hG1 hx0
  have k0 := hx.cell 0 (.int .i64 p) rfl; have k1 := hx.cell 1 (.int .i64 M) rfl; have k2 := hx.cell 2 (.int .i64 v) rfl; have k3 := hx.cell 3 (.int .i64 K) rfl; have k4 := hx.cell 4 (.bool true) rfl; have kf := hx.frozen; have kl := hx.lt; have z0 := hz.cell 0 (.int .i64 0) rfl; have z1 := hz.cell 1 (.int .i64 0) rfl; have z2 := hz.cell 2 (.int .i64 0) rfl; have z3 := hz.cell 3 (.int .i64 0) rfl; have z4 := hz.cell 4 (.bool false) rfl; have zf := hz.frozen; have zl := hz.lt
  obtain ⟨g5, hg5⟩ : ∃ g5, w2.heap.size = g5 := ⟨_, rfl⟩
  rw [hg5] at hx k0 k1 k2 k3 k4 kf kl hs1 ⊢
  clear hg5
  obtain ⟨g4, hg4⟩ : ∃ g4, w.heap.size = g4 := ⟨_, rfl⟩
  have hw4 : w.heap.size ≤ g4 := by omega
  rw [hg4] at hz z0 z1 z2 z3 z4 zf zl hs1 hlt ⊢
  clear hg4
  have hne : g5 ≠ g4 := by omega
  have hne2 : g ≠ g4 := by omega
  have hne3 : g ≠ g5 := by omega
  have hz5 : z = 0 ∨ z = 1 ∨ z = 2 ∨ z = 3 ∨ z = 4 ∨ 5 ≤ z := by omega
  clear hz0 hz1
  rcases hz5 with rfl | rfl | rfl | rfl | rfl | hz5
  · go_wp2_with fail
    refine bodyPost_ret (v := .agg #[.int .i64 p, .int .i64 M, .int .i64 (v + 1), .int .i64 K, .bool true]) (by simp only [results, Try.results91]; go_simp) rfl ⟨_, _, _, _, _, rfl, ?_, ?_⟩
    · repeat (first | (with_reducible refine Cur.farSet ?_ _ _ _ (by omega)) | exact hC.mono (by omega))
    · repeat (first | (with_reducible refine grown_far ?_ _ _ _ (by omega)) | exact hG)
  · go_wp2_with fail
    refine bodyPost_ret (v := .agg #[.int .i64 p, .int .i64 M, .int .i64 v, .int .i64 (K + 1), .bool true]) (by simp only [results, Try.results91]; go_simp) rfl ⟨_, _, _, _, _, rfl, ?_, ?_⟩
    · repeat (first | (with_reducible refine Cur.farSet ?_ _ _ _ (by omega)) | exact hC.mono (by omega))
    · repeat (first | (with_reducible refine grown_far ?_ _ _ _ (by omega)) | exact hG)
  · rename_i K2 a2 K1 a1 K0 a0
    have A2 := Lib.hid a2
    clear a2
    go_wp2_with fail
    refine A2.out _ _ ?_
    clear A2
    refine wp_world (fun w5 => Blk w5 g5 38 #[.int .i64 p, .int .i64 M, .int .i64 0, .int .i64 0, .bool false] ∧ Blk w5 g4 38 #[.int .i64 0, .int .i64 0, .int .i64 0, .int .i64 0, .bool false] ∧ Cur w5 g (k + 6) ∧ w.grownBy w5 (some g)) ⟨((((hx.set_ 0 _).set_ 1 _).set_ 2 _).set_ 3 _).set_ 4 _, ((((hz.far (Ne.symm hne) _).far (Ne.symm hne) _).far (Ne.symm hne) _).far (Ne.symm hne) _).far (Ne.symm hne) _, ?_, ?_⟩ ?_
    · repeat (first | (with_reducible refine Cur.farSet ?_ _ _ _ (by omega)) | exact hC.mono (by omega))
    · repeat (first | (with_reducible refine grown_far ?_ _ _ _ (by omega)) | exact hG)
    clear k0 k1 k2 k3 k4 kf kl z0 z1 z2 z3 z4 zf zl hx hz hC hG
    rintro w5 ⟨hx, hz, hC, hG⟩
    have k0 := hx.cell 0 (.int .i64 p) rfl
    have k1 := hx.cell 1 (.int .i64 M) rfl
    have k2 := hx.cell 2 (.int .i64 0) rfl
    have k3 := hx.cell 3 (.int .i64 0) rfl
    have k4 := hx.cell 4 (.bool false) rfl
    have kf := hx.frozen
    have kl := hx.lt
    have z0 := hz.cell 0 (.int .i64 0) rfl
    have z1 := hz.cell 1 (.int .i64 0) rfl
    have z2 := hz.cell 2 (.int .i64 0) rfl
    have z3 := hz.cell 3 (.int .i64 0) rfl
    have z4 := hz.cell 4 (.bool false) rfl
    have zf := hz.frozen
    have zl := hz.lt
    go_wp2_with fail
    refine bodyPost_ret (v := .agg #[.int .i64 p, .int .i64 M, .int .i64 0, .int .i64 0, .bool false]) (by simp only [results, Try.results91]; go_simp) rfl ⟨_, _, _, _, _, rfl, ?_, ?_⟩
    · repeat (first | (with_reducible refine Cur.farSet ?_ _ _ _ (by omega)) | exact hC.mono (by omega))
    · repeat (first | (with_reducible refine grown_far ?_ _ _ _ (by omega)) | exact hG)
  · go_wp2_with (go_at_call 69; refine (cur_one _ _ _ hC (by omega) _ (by omega)).mono ?_; rintro e w1 ⟨b, rfl, hC1, hG1⟩; replace hx := hx.grown hG1 (by intro e; injection e with e; omega); replace hz := hz.grown hG1 (by intro e; injection e with e; omega); replace hG := Lib.grownBy_trans hG hG1; replace hC := hC1; clear hC1 hG1 k0 k1 k2 k3 k4 kf kl z0 z1 z2 z3 z4 zf zl; have k0 := hx.cell 0 (.int .i64 p) rfl; have k1 := hx.cell 1 (.int .i64 M) rfl; have k2 := hx.cell 2 (.int .i64 v) rfl; have k3 := hx.cell 3 (.int .i64 K) rfl; have k4 := hx.cell 4 (.bool true) rfl; have kf := hx.frozen; have kl := hx.lt; have z0 := hz.cell 0 (.int .i64 0) rfl; have z1 := hz.cell 1 (.int .i64 0) rfl; have z2 := hz.cell 2 (.int .i64 0) rfl; have z3 := hz.cell 3 (.int .i64 0) rfl; have z4 := hz.cell 4 (.bool false) rfl; have zf := hz.frozen; have zl := hz.lt; cases b)
    · refine bodyPost_ret (v := .agg #[.int .i64 p, .int .i64 M, .int .i64 v, .int .i64 K, .bool true]) (by simp only [results, Try.results91]; go_simp) rfl ⟨_, _, _, _, _, rfl, ?_, ?_⟩
      · repeat (first | (with_reducible refine Cur.farSet ?_ _ _ _ (by omega)) | exact hC.mono (by omega))
      · repeat (first | (with_reducible refine grown_far ?_ _ _ _ (by omega)) | exact hG)
    · refine bodyPost_ret (v := .agg #[.int .i64 p, .int .i64 M, .int .i64 v, .int .i64 K, .bool false]) (by simp only [results, Try.results91]; go_simp) rfl ⟨_, _, _, _, _, rfl, ?_, ?_⟩
      · repeat (first | (with_reducible refine Cur.farSet ?_ _ _ _ (by omega)) | exact hC.mono (by omega))
      · repeat (first | (with_reducible refine grown_far ?_ _ _ _ (by omega)) | exact hG)
  · go_wp2_with (go_at_call 70; refine (cur_label _ _ _ hC (by omega)).mono ?_; rintro e w1 ⟨x, rfl, hC1, hG1⟩; replace hx := hx.grown hG1 (by intro e; injection e with e; omega); replace hz := hz.grown hG1 (by intro e; injection e with e; omega); replace hG := Lib.grownBy_trans hG hG1; replace hC := hC1; clear hC1 hG1 k0 k1 k2 k3 k4 kf kl z0 z1 z2 z3 z4 zf zl; have k0 := hx.cell 0 (.int .i64 p) rfl; have k1 := hx.cell 1 (.int .i64 M) rfl; have k2 := hx.cell 2 (.int .i64 v) rfl; have k3 := hx.cell 3 (.int .i64 K) rfl; have k4 := hx.cell 4 (.bool true) rfl; have kf := hx.frozen; have kl := hx.lt; have z0 := hz.cell 0 (.int .i64 0) rfl; have z1 := hz.cell 1 (.int .i64 0) rfl; have z2 := hz.cell 2 (.int .i64 0) rfl; have z3 := hz.cell 3 (.int .i64 0) rfl; have z4 := hz.cell 4 (.bool false) rfl; have zf := hz.frozen; have zl := hz.lt)
    refine bodyPost_ret (v := .agg #[.int .i64 p, .int .i64 x, .int .i64 v, .int .i64 K, .bool true]) (by simp only [results, Try.results91]; go_simp) rfl ⟨_, _, _, _, _, rfl, ?_, ?_⟩
    · repeat (first | (with_reducible refine Cur.farSet ?_ _ _ _ (by omega)) | exact hC.mono (by omega))
    · repeat (first | (with_reducible refine grown_far ?_ _ _ _ (by omega)) | exact hG)
  · have n0 : ¬ z = 0 := by omega
    have n1 : ¬ z = 1 := by omega
    have n2 : ¬ z = 2 := by omega
    have n3 : ¬ z = 3 := by omega
    have n4 : ¬ z = 4 := by omega
    go_wp2_with fail
    refine bodyPost_ret (v := .agg #[.int .i64 p, .int .i64 M, .int .i64 v, .int .i64 K, .bool true]) (by simp only [results, Try.results91]; go_simp) rfl ⟨_, _, _, _, _, rfl, ?_, ?_⟩
    · repeat (first | (with_reducible refine Cur.farSet ?_ _ _ _ (by omega)) | exact hC.mono (by omega))
    · repeat (first | (with_reducible refine grown_far ?_ _ _ _ (by omega)) | exact hG)
end Go.Proofs.Ytglgaicbcackbaa
