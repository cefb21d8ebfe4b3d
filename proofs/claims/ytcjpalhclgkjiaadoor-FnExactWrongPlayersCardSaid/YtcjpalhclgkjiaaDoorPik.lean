/- Contracts: weighted sums of shares and keys.
   Conditions: none. -/
import Derived.Test.YtcjpalhclgkjiaaDoorPgo
import Derived.Test.YtcjpalhclgkjiaaDoorBaseG
namespace Go.Proofs.YtcjpalhclgkjiaaDoor
open Go.RowKit
set_option linter.unusedVariables false
theorem run_idx5 (w : World) (cs : Array Value) (k : Int) (v : Value) (h0 : 0 ≤ k) (h5 : k < 5) (hv : cs[k.toNat]? = some v) :
  (Instr.index 139 (.agg cs) (.int .i64 k)).run Tryd.prog w = .ok v w := by
 have hi : 0 ≤ k ∧ k < ((5 : Nat) : Int) := by omega
 simp [Instr.index, run_underlying Tryd.underlying139, asIntOf, hi, hv, go_sem]
 intro; omega
/-- A weighted sum of the first numbers. -/
def dotv (ws xs : List Int) : Nat → Int
 | 0 => 0
 | k + 1 => dotv ws xs k + num ws k * num xs k
theorem dotv_bd {ws xs : List Int} (h1 : ∀ i, -252 ≤ num ws i ∧ num ws i ≤ 252) (h2 : ∀ i, -252 ≤ num xs i ∧ num xs i ≤ 252) : ∀ k : Nat, -(63504 * (k : Int)) ≤ dotv ws xs k ∧ dotv ws xs k ≤ 63504 * (k : Int)
 | 0 => by simp [dotv]
 | k + 1 => by
  have := dotv_bd h1 h2 k
  have := prod252 (num ws k) (num xs k) (h1 k).1 (h1 k).2 (h2 k).1 (h2 k).2
  simp only [dotv]
  omega
theorem num5 {P : Int → Prop} (a b c d e : Int) (h : P a ∧ P b ∧ P c ∧ P d ∧ P e) (h0 : P 0) (i : Nat) : P (num [a, b, c, d, e] i) := by
 obtain ⟨h1, h2, h3, h4, h5⟩ := h
 match i with
 | 0 => exact h1
 | 1 => exact h2
 | 2 => exact h3
 | 3 => exact h4
 | 4 => exact h5
 | n + 5 => exact h0
set_option maxHeartbeats 4000000 in
set_option maxRecDepth 20000 in
theorem impl_combine (p more w0 w1 w2 w3 w4 : Int) (As : Option Addr) (ns cs : Nat) (l : List Tg) (w : World) (h : RdTg w As ns cs l) (hn : ns = 5) (hp : 2 ≤ p ∧ p ≤ 251) (hm : -1000000 ≤ more ∧ more ≤ 1000000)
  (hw : ∀ i, -252 ≤ num [w0, w1, w2, w3, w4] i ∧ num [w0, w1, w2, w3, w4] i ≤ 252) (hv : ∀ i, -252 ≤ num (l.map Tg.v) i ∧ num (l.map Tg.v) i ≤ 252) (ht : ∀ i, -252 ≤ num (l.map Tg.t) i ∧ num (l.map Tg.t) i ≤ 252) :
  Calls Tryd.prog 124 #[.int .i64 p, .slice As ns cs, .agg #[.int .i64 w0, .int .i64 w1, .int .i64 w2, .int .i64 w3, .int .i64 w4], .int .i64 more] w
   fun e w' => e = .returned (.agg #[.int .i64 ((more + dotv [w0, w1, w2, w3, w4] (l.map Tg.v) 5) % p), .int .i64 (dotv [w0, w1, w2, w3, w4] (l.map Tg.t) 5 % p)]) ∧ Bl w w' := by
 subst hn
 have HV := Lib.hid (dotv_bd hw hv)
 have HT := Lib.hid (dotv_bd hw ht)
 obtain ⟨hle1, hle2⟩ := h.le
 have hW : Bl w (((w.alloc (.cells #[.int .i64 w0, .int .i64 w1, .int .i64 w2, .int .i64 w3, .int .i64 w4] 139)).alloc (.cells #[.int .i64 0, .int .i64 0] 93)).alloc (.cells #[.int .i64 more, .int .i64 0] 93)) := Bl.a1
 have hB : Blk (((w.alloc (.cells #[.int .i64 w0, .int .i64 w1, .int .i64 w2, .int .i64 w3, .int .i64 w4] 139)).alloc (.cells #[.int .i64 0, .int .i64 0] 93)).alloc (.cells #[.int .i64 more, .int .i64 0] 93)) (w.heap.size + 1 + 1) 93 #[.int .i64 more, .int .i64 0] := Blk.new _ _ _
 have hR := (Blk.new (w.alloc (.cells #[.int .i64 w0, .int .i64 w1, .int .i64 w2, .int .i64 w3, .int .i64 w4] 139)) 93 #[.int .i64 0, .int .i64 0] (g := w.heap.size + 1)).alloc (.cells #[.int .i64 more, .int .i64 0] 93)
 go_enter Tryd.func124, Tryd.ntmps124
 go_wp2
 go_loopw [15] (fun i wr => ∃ k : Int, 0 ≤ k ∧ k ≤ 5 ∧ i = .int .i64 k ∧ Bl w wr ∧ Blk wr (w.heap.size + 1 + 1) 93 #[.int .i64 (more + dotv [w0, w1, w2, w3, w4] (l.map Tg.v) k.toNat), .int .i64 (dotv [w0, w1, w2, w3, w4] (l.map Tg.t) k.toNat)] ∧ Blk wr (w.heap.size + 1) 93 #[.int .i64 0, .int .i64 0]) (fun i _ => 5 - (intOf i).toNat)
 case atStart => exact ⟨0, by omega, by omega, rfl, hW, by simpa [dotv] using hB, hR⟩
 case round =>
  clear hW hB hR
  obtain ⟨k, hk0, hk, rfl, hW, hB, hR⟩ := hrel
  obtain rfl | rfl | rfl | rfl | rfl | rfl : k = 0 ∨ k = 1 ∨ k = 2 ∨ k = 3 ∨ k = 4 ∨ k = 5 := by omega
  ·have hix := fun w => run_idx5 w #[.int .i64 w0, .int .i64 w1, .int .i64 w2, .int .i64 w3, .int .i64 w4] 0 _ (by omega) (by omega) rfl
   obtain ⟨ad, x, y, rfl, hx, q0, q1⟩ := h.at_ (k := 0) (by omega)
   rw [show ad.add (0 * 2) = ad from rfl] at q0 q1
   have hx1 : num (l.map Tg.v) 0 = x := by unfold num; rw [List.getElem?_map, hx]; rfl
   have hx2 : num (l.map Tg.t) 0 = y := by unfold num; rw [List.getElem?_map, hx]; rfl
   have b1 := hv 0
   have b2 := ht 0
   have b3 : -252 ≤ w0 ∧ w0 ≤ 252 := hw 0
   rw [hx1] at b1
   rw [hx2] at b2
   have p1 := prod252 w0 x b3.1 b3.2 b1.1 b1.2
   have p2 := prod252 w0 y b3.1 b3.2 b2.1 b2.2
   have d1 := HV.out 0
   have d2 := HT.out 0
   have s1 : dotv [w0, w1, w2, w3, w4] (l.map Tg.v) 1 = dotv [w0, w1, w2, w3, w4] (l.map Tg.v) 0 + w0 * x := by rw [← hx1]; rfl
   have s2 : dotv [w0, w1, w2, w3, w4] (l.map Tg.t) 1 = dotv [w0, w1, w2, w3, w4] (l.map Tg.t) 0 + w0 * y := by rw [← hx2]; rfl
   rw [show (0 : Int).toNat = 0 from rfl] at hB
   have S1 := Lib.hid s1
   have S2 := Lib.hid s2
   clear hx hx1 hx2 b1 b2 b3 s1 s2 hk0 hk
   generalize hq : more + dotv [w0, w1, w2, w3, w4] (l.map Tg.v) 0 = q at hB
   generalize hr : dotv [w0, w1, w2, w3, w4] (l.map Tg.t) 0 = r at hB
   have z1 : IntKind.i64.wrap (w0 * x) = w0 * x := IntWalk.i64_in _ (by omega)
   have z2 : IntKind.i64.wrap (w0 * y) = w0 * y := IntWalk.i64_in _ (by omega)
   have z3 : IntKind.i64.wrap (q + w0 * x) = q + w0 * x := IntWalk.i64_in _ (by omega)
   have z4 : IntKind.i64.wrap (r + w0 * y) = r + w0 * y := IntWalk.i64_in _ (by omega)
   have hQ := Lib.hid hq
   have hRr := Lib.hid hr
   clear hq hr d1 d2 p1 p2
   have B_l := hB.lt
   have B_0 := hB.cell 0 _ rfl
   have B_1 := hB.cell 1 _ rfl
   have B_f := hB.frozen
   go_wp2_with fail
   refine region_F (fun w' => Bl w w') (fun w' => Bl w w' ∧ w'.cell? ⟨w.heap.size + 1 + 1, 0, none⟩ = some (.int .i64 q) ∧ w'.cell? ⟨w.heap.size + 1 + 1, 1, none⟩ = some (.int .i64 r)) 21 (by kernel_rfl) ?_ (fun hHeld => ?_)
   ·(try dsimp only); exact ⟨Bl.a2, Bl.a2, B_0, B_1⟩
   refine tC 0 19 [0] ?_ hHeld
   refine tC 1 20 [1] ?_ hHeld
   refine tC 2 21 [2] ?_ hHeld
   refine tC 3 22 [3] ?_ hHeld
   refine tC 4 23 [4] ?_ hHeld
   refine f_takeC (i := 5) (d := 24) (v := ?_) [5] rfl rfl (by kernel_rfl) (by kernel_rfl) (by kernel_rfl) (by kernel_rfl) (by kernel_rfl) (by kernel_rfl) (fun _ _ _ h => h) (by decide) (Or.inl ⟨by rfl, ?_⟩) hHeld ?_
   rotate_left
   ·(intro w' hSw; (try dsimp only at hSw); have q0w := (by first | exact Bl.cells hSw q0 | exact Bl.cells hSw.1 q0); have q1w := (by first | exact Bl.cells hSw q1 | exact Bl.cells hSw.1 q1); go_simp; (try with_reducible rfl))
   simp only [List.set_cons_zero, List.set_cons_succ]
   refine f_takeC (i := 6) (d := 25) (v := ?_) [6] rfl rfl (by kernel_rfl) (by kernel_rfl) (by kernel_rfl) (by kernel_rfl) (by kernel_rfl) (by kernel_rfl) (fun _ _ _ h => h) (by decide) (Or.inl ⟨by rfl, ?_⟩) hHeld ?_
   rotate_left
   ·(intro w' hSw; (try dsimp only at hSw); have q0w := (by first | exact Bl.cells hSw q0 | exact Bl.cells hSw.1 q0); have q1w := (by first | exact Bl.cells hSw q1 | exact Bl.cells hSw.1 q1); go_simp; (try with_reducible rfl))
   simp only [List.set_cons_zero, List.set_cons_succ]
   refine f_takeC (i := 7) (d := 26) (v := ?_) [7] rfl rfl (by kernel_rfl) (by kernel_rfl) (by kernel_rfl) (by kernel_rfl) (by kernel_rfl) (by kernel_rfl) (fun _ _ _ h => h) (by decide) (Or.inl ⟨by rfl, ?_⟩) hHeld ?_
   rotate_left
   ·(intro w' hSw; (try dsimp only at hSw); have q0w := (by first | exact Bl.cells hSw q0 | exact Bl.cells hSw.1 q0); have q1w := (by first | exact Bl.cells hSw q1 | exact Bl.cells hSw.1 q1); go_simp; (try with_reducible rfl))
   simp only [List.set_cons_zero, List.set_cons_succ]
   refine tC 8 27 [8] ?_ hHeld
   refine tC 9 28 [9] ?_ hHeld
   refine tC 10 29 [10] ?_ hHeld
   refine tC 11 30 [11] ?_ hHeld
   refine tS 12 31 ?_ hHeld.1 (fun _ => hHeld.2)
   refine tS 13 32 ?_ hHeld.1 (fun _ => hHeld.2)
   refine tS 14 33 ?_ hHeld.1 (fun _ => hHeld.2)
   refine f_takeS (i := 15) (d := 34) (v := ?_) rfl rfl (by kernel_rfl) (by kernel_rfl) (by kernel_rfl) (by kernel_rfl) (fun _ _ _ h => h) (by decide) (Or.inl ⟨by rfl, ?_⟩) hHeld.1 (fun _ => hHeld.2) ?_
   rotate_left
   ·(intro w' hSw; (try dsimp only at hSw); have q0w := (by first | exact Bl.cells hSw q0 | exact Bl.cells hSw.1 q0); have q1w := (by first | exact Bl.cells hSw q1 | exact Bl.cells hSw.1 q1); go_simp; (try with_reducible rfl))
   simp only [List.set_cons_zero, List.set_cons_succ]
   refine f_takeS (i := 16) (d := 35) (v := ?_) rfl rfl (by kernel_rfl) (by kernel_rfl) (by kernel_rfl) (by kernel_rfl) (fun _ _ _ h => h) (by decide) (Or.inl ⟨by rfl, ?_⟩) hHeld.1 (fun _ => hHeld.2) ?_
   rotate_left
   ·(intro w' hSw; (try dsimp only at hSw); have q0w := (by first | exact Bl.cells hSw q0 | exact Bl.cells hSw.1 q0); have q1w := (by first | exact Bl.cells hSw q1 | exact Bl.cells hSw.1 q1); go_simp; (try with_reducible rfl))
   simp only [List.set_cons_zero, List.set_cons_succ]
   refine f_takeS (i := 17) (d := 36) (v := ?_) rfl rfl (by kernel_rfl) (by kernel_rfl) (by kernel_rfl) (by kernel_rfl) (fun _ _ _ h => h) (by decide) (Or.inl ⟨by rfl, ?_⟩) hHeld.1 (fun _ => hHeld.2) ?_
   rotate_left
   ·(intro w' hSw; (try dsimp only at hSw); have q0w := (by first | exact Bl.cells hSw q0 | exact Bl.cells hSw.1 q0); have q1w := (by first | exact Bl.cells hSw q1 | exact Bl.cells hSw.1 q1); go_simp; (try with_reducible rfl))
   simp only [List.set_cons_zero, List.set_cons_succ]
   refine tS 18 37 ?_ hHeld.1 (fun _ => hHeld.2)
   refine tS 19 38 ?_ hHeld.1 (fun _ => hHeld.2)
   refine tC 20 39 [20] ?_ hHeld
   refine f_last (i := 21) (by kernel_rfl) rfl (by simp) (fun K hK => ?_)
   go_simp
   refine ko hK ?_ fun hHeld => ?_
   ·(try dsimp only); exact Bl.a2
   clear hK K
   refine tS 22 40 ?_ hHeld (fun h => by simp at h)
   refine f_last (i := 23) (by kernel_rfl) rfl (by simp) (fun K hK => ?_)
   go_simp
   refine ko hK ?_ fun hHeld => ?_
   ·(try dsimp only); exact Bl.a2
   clear hK K
   refine f_done (by kernel_rfl) ?_ _
   go_wp2_with fail
   go_roundw
   case rel => exact ⟨1, by omega, by omega, rfl, Bl.a2, by
    have e := (hB.drew.set_ 0 (.int .i64 (q + w0 * x))).set_ 1 (.int .i64 (r + w0 * y))
    rw [show (1 : Int).toNat = 1 from rfl, S1.out, S2.out, ← Int.add_assoc, hQ.out, hRr.out]
    exact e, (hR.drew.far (by dsimp only; omega) _).far (by dsimp only; omega) _⟩
   case measure => simp [intOf]
  ·have hix := fun w => run_idx5 w #[.int .i64 w0, .int .i64 w1, .int .i64 w2, .int .i64 w3, .int .i64 w4] 1 _ (by omega) (by omega) rfl
   obtain ⟨ad, x, y, rfl, hx, q0, q1⟩ := h.at_ (k := 1) (by omega)
   rw [show ad.add (1 * 2) = ⟨ad.block, ad.off + 2, none⟩ by unfold Addr.add; rw [if_neg (by omega)]] at q0 q1; dsimp only at q1
   have hx1 : num (l.map Tg.v) 1 = x := by unfold num; rw [List.getElem?_map, hx]; rfl
   have hx2 : num (l.map Tg.t) 1 = y := by unfold num; rw [List.getElem?_map, hx]; rfl
   have b1 := hv 1
   have b2 := ht 1
   have b3 : -252 ≤ w1 ∧ w1 ≤ 252 := hw 1
   rw [hx1] at b1
   rw [hx2] at b2
   have p1 := prod252 w1 x b3.1 b3.2 b1.1 b1.2
   have p2 := prod252 w1 y b3.1 b3.2 b2.1 b2.2
   have d1 := HV.out 1
   have d2 := HT.out 1
   have s1 : dotv [w0, w1, w2, w3, w4] (l.map Tg.v) 2 = dotv [w0, w1, w2, w3, w4] (l.map Tg.v) 1 + w1 * x := by rw [← hx1]; rfl
   have s2 : dotv [w0, w1, w2, w3, w4] (l.map Tg.t) 2 = dotv [w0, w1, w2, w3, w4] (l.map Tg.t) 1 + w1 * y := by rw [← hx2]; rfl
   rw [show (1 : Int).toNat = 1 from rfl] at hB
   have S1 := Lib.hid s1
   have S2 := Lib.hid s2
   clear hx hx1 hx2 b1 b2 b3 s1 s2 hk0 hk
   generalize hq : more + dotv [w0, w1, w2, w3, w4] (l.map Tg.v) 1 = q at hB
   generalize hr : dotv [w0, w1, w2, w3, w4] (l.map Tg.t) 1 = r at hB
   have z1 : IntKind.i64.wrap (w1 * x) = w1 * x := IntWalk.i64_in _ (by omega)
   have z2 : IntKind.i64.wrap (w1 * y) = w1 * y := IntWalk.i64_in _ (by omega)
   have z3 : IntKind.i64.wrap (q + w1 * x) = q + w1 * x := IntWalk.i64_in _ (by omega)
   have z4 : IntKind.i64.wrap (r + w1 * y) = r + w1 * y := IntWalk.i64_in _ (by omega)
   have hQ := Lib.hid hq
   have hRr := Lib.hid hr
   clear hq hr d1 d2 p1 p2
   have B_l := hB.lt
   have B_0 := hB.cell 0 _ rfl
   have B_1 := hB.cell 1 _ rfl
   have B_f := hB.frozen
   go_wp2_with fail
   refine region_F (fun w' => Bl w w') (fun w' => Bl w w' ∧ w'.cell? ⟨w.heap.size + 1 + 1, 0, none⟩ = some (.int .i64 q) ∧ w'.cell? ⟨w.heap.size + 1 + 1, 1, none⟩ = some (.int .i64 r)) 21 (by kernel_rfl) ?_ (fun hHeld => ?_)
   ·(try dsimp only); exact ⟨Bl.a2, Bl.a2, B_0, B_1⟩
   refine tC 0 19 [0] ?_ hHeld
   refine tC 1 20 [1] ?_ hHeld
   refine tC 2 21 [2] ?_ hHeld
   refine tC 3 22 [3] ?_ hHeld
   refine tC 4 23 [4] ?_ hHeld
   refine f_takeC (i := 5) (d := 24) (v := ?_) [5] rfl rfl (by kernel_rfl) (by kernel_rfl) (by kernel_rfl) (by kernel_rfl) (by kernel_rfl) (by kernel_rfl) (fun _ _ _ h => h) (by decide) (Or.inl ⟨by rfl, ?_⟩) hHeld ?_
   rotate_left
   ·(intro w' hSw; (try dsimp only at hSw); have q0w := (by first | exact Bl.cells hSw q0 | exact Bl.cells hSw.1 q0); have q1w := (by first | exact Bl.cells hSw q1 | exact Bl.cells hSw.1 q1); go_simp; (try with_reducible rfl))
   simp only [List.set_cons_zero, List.set_cons_succ]
   refine f_takeC (i := 6) (d := 25) (v := ?_) [6] rfl rfl (by kernel_rfl) (by kernel_rfl) (by kernel_rfl) (by kernel_rfl) (by kernel_rfl) (by kernel_rfl) (fun _ _ _ h => h) (by decide) (Or.inl ⟨by rfl, ?_⟩) hHeld ?_
   rotate_left
   ·(intro w' hSw; (try dsimp only at hSw); have q0w := (by first | exact Bl.cells hSw q0 | exact Bl.cells hSw.1 q0); have q1w := (by first | exact Bl.cells hSw q1 | exact Bl.cells hSw.1 q1); go_simp; (try with_reducible rfl))
   simp only [List.set_cons_zero, List.set_cons_succ]
   refine f_takeC (i := 7) (d := 26) (v := ?_) [7] rfl rfl (by kernel_rfl) (by kernel_rfl) (by kernel_rfl) (by kernel_rfl) (by kernel_rfl) (by kernel_rfl) (fun _ _ _ h => h) (by decide) (Or.inl ⟨by rfl, ?_⟩) hHeld ?_
   rotate_left
   ·(intro w' hSw; (try dsimp only at hSw); have q0w := (by first | exact Bl.cells hSw q0 | exact Bl.cells hSw.1 q0); have q1w := (by first | exact Bl.cells hSw q1 | exact Bl.cells hSw.1 q1); go_simp; (try with_reducible rfl))
   simp only [List.set_cons_zero, List.set_cons_succ]
   refine tC 8 27 [8] ?_ hHeld
   refine tC 9 28 [9] ?_ hHeld
   refine tC 10 29 [10] ?_ hHeld
   refine tC 11 30 [11] ?_ hHeld
   refine tS 12 31 ?_ hHeld.1 (fun _ => hHeld.2)
   refine tS 13 32 ?_ hHeld.1 (fun _ => hHeld.2)
   refine tS 14 33 ?_ hHeld.1 (fun _ => hHeld.2)
   refine f_takeS (i := 15) (d := 34) (v := ?_) rfl rfl (by kernel_rfl) (by kernel_rfl) (by kernel_rfl) (by kernel_rfl) (fun _ _ _ h => h) (by decide) (Or.inl ⟨by rfl, ?_⟩) hHeld.1 (fun _ => hHeld.2) ?_
   rotate_left
   ·(intro w' hSw; (try dsimp only at hSw); have q0w := (by first | exact Bl.cells hSw q0 | exact Bl.cells hSw.1 q0); have q1w := (by first | exact Bl.cells hSw q1 | exact Bl.cells hSw.1 q1); go_simp; (try with_reducible rfl))
   simp only [List.set_cons_zero, List.set_cons_succ]
   refine f_takeS (i := 16) (d := 35) (v := ?_) rfl rfl (by kernel_rfl) (by kernel_rfl) (by kernel_rfl) (by kernel_rfl) (fun _ _ _ h => h) (by decide) (Or.inl ⟨by rfl, ?_⟩) hHeld.1 (fun _ => hHeld.2) ?_
   rotate_left
   ·(intro w' hSw; (try dsimp only at hSw); have q0w := (by first | exact Bl.cells hSw q0 | exact Bl.cells hSw.1 q0); have q1w := (by first | exact Bl.cells hSw q1 | exact Bl.cells hSw.1 q1); go_simp; (try with_reducible rfl))
   simp only [List.set_cons_zero, List.set_cons_succ]
   refine f_takeS (i := 17) (d := 36) (v := ?_) rfl rfl (by kernel_rfl) (by kernel_rfl) (by kernel_rfl) (by kernel_rfl) (fun _ _ _ h => h) (by decide) (Or.inl ⟨by rfl, ?_⟩) hHeld.1 (fun _ => hHeld.2) ?_
   rotate_left
   ·(intro w' hSw; (try dsimp only at hSw); have q0w := (by first | exact Bl.cells hSw q0 | exact Bl.cells hSw.1 q0); have q1w := (by first | exact Bl.cells hSw q1 | exact Bl.cells hSw.1 q1); go_simp; (try with_reducible rfl))
   simp only [List.set_cons_zero, List.set_cons_succ]
   refine tS 18 37 ?_ hHeld.1 (fun _ => hHeld.2)
   refine tS 19 38 ?_ hHeld.1 (fun _ => hHeld.2)
   refine tC 20 39 [20] ?_ hHeld
   refine f_last (i := 21) (by kernel_rfl) rfl (by simp) (fun K hK => ?_)
   go_simp
   refine ko hK ?_ fun hHeld => ?_
   ·(try dsimp only); exact Bl.a2
   clear hK K
   refine tS 22 40 ?_ hHeld (fun h => by simp at h)
   refine f_last (i := 23) (by kernel_rfl) rfl (by simp) (fun K hK => ?_)
   go_simp
   refine ko hK ?_ fun hHeld => ?_
   ·(try dsimp only); exact Bl.a2
   clear hK K
   refine f_done (by kernel_rfl) ?_ _
   go_wp2_with fail
   go_roundw
   case rel => exact ⟨2, by omega, by omega, rfl, Bl.a2, by
    have e := (hB.drew.set_ 0 (.int .i64 (q + w1 * x))).set_ 1 (.int .i64 (r + w1 * y))
    rw [show (2 : Int).toNat = 2 from rfl, S1.out, S2.out, ← Int.add_assoc, hQ.out, hRr.out]
    exact e, (hR.drew.far (by dsimp only; omega) _).far (by dsimp only; omega) _⟩
   case measure => simp [intOf]
  ·have hix := fun w => run_idx5 w #[.int .i64 w0, .int .i64 w1, .int .i64 w2, .int .i64 w3, .int .i64 w4] 2 _ (by omega) (by omega) rfl
   obtain ⟨ad, x, y, rfl, hx, q0, q1⟩ := h.at_ (k := 2) (by omega)
   rw [show ad.add (2 * 2) = ⟨ad.block, ad.off + 4, none⟩ by unfold Addr.add; rw [if_neg (by omega)]] at q0 q1; dsimp only at q1
   have hx1 : num (l.map Tg.v) 2 = x := by unfold num; rw [List.getElem?_map, hx]; rfl
   have hx2 : num (l.map Tg.t) 2 = y := by unfold num; rw [List.getElem?_map, hx]; rfl
   have b1 := hv 2
   have b2 := ht 2
   have b3 : -252 ≤ w2 ∧ w2 ≤ 252 := hw 2
   rw [hx1] at b1
   rw [hx2] at b2
   have p1 := prod252 w2 x b3.1 b3.2 b1.1 b1.2
   have p2 := prod252 w2 y b3.1 b3.2 b2.1 b2.2
   have d1 := HV.out 2
   have d2 := HT.out 2
   have s1 : dotv [w0, w1, w2, w3, w4] (l.map Tg.v) 3 = dotv [w0, w1, w2, w3, w4] (l.map Tg.v) 2 + w2 * x := by rw [← hx1]; rfl
   have s2 : dotv [w0, w1, w2, w3, w4] (l.map Tg.t) 3 = dotv [w0, w1, w2, w3, w4] (l.map Tg.t) 2 + w2 * y := by rw [← hx2]; rfl
   rw [show (2 : Int).toNat = 2 from rfl] at hB
   have S1 := Lib.hid s1
   have S2 := Lib.hid s2
   clear hx hx1 hx2 b1 b2 b3 s1 s2 hk0 hk
   generalize hq : more + dotv [w0, w1, w2, w3, w4] (l.map Tg.v) 2 = q at hB
   generalize hr : dotv [w0, w1, w2, w3, w4] (l.map Tg.t) 2 = r at hB
   have z1 : IntKind.i64.wrap (w2 * x) = w2 * x := IntWalk.i64_in _ (by omega)
   have z2 : IntKind.i64.wrap (w2 * y) = w2 * y := IntWalk.i64_in _ (by omega)
   have z3 : IntKind.i64.wrap (q + w2 * x) = q + w2 * x := IntWalk.i64_in _ (by omega)
   have z4 : IntKind.i64.wrap (r + w2 * y) = r + w2 * y := IntWalk.i64_in _ (by omega)
   have hQ := Lib.hid hq
   have hRr := Lib.hid hr
   clear hq hr d1 d2 p1 p2
   have B_l := hB.lt
   have B_0 := hB.cell 0 _ rfl
   have B_1 := hB.cell 1 _ rfl
   have B_f := hB.frozen
   go_wp2_with fail
   refine region_F (fun w' => Bl w w') (fun w' => Bl w w' ∧ w'.cell? ⟨w.heap.size + 1 + 1, 0, none⟩ = some (.int .i64 q) ∧ w'.cell? ⟨w.heap.size + 1 + 1, 1, none⟩ = some (.int .i64 r)) 21 (by kernel_rfl) ?_ (fun hHeld => ?_)
   ·(try dsimp only); exact ⟨Bl.a2, Bl.a2, B_0, B_1⟩
   refine tC 0 19 [0] ?_ hHeld
   refine tC 1 20 [1] ?_ hHeld
   refine tC 2 21 [2] ?_ hHeld
   refine tC 3 22 [3] ?_ hHeld
   refine tC 4 23 [4] ?_ hHeld
   refine f_takeC (i := 5) (d := 24) (v := ?_) [5] rfl rfl (by kernel_rfl) (by kernel_rfl) (by kernel_rfl) (by kernel_rfl) (by kernel_rfl) (by kernel_rfl) (fun _ _ _ h => h) (by decide) (Or.inl ⟨by rfl, ?_⟩) hHeld ?_
   rotate_left
   ·(intro w' hSw; (try dsimp only at hSw); have q0w := (by first | exact Bl.cells hSw q0 | exact Bl.cells hSw.1 q0); have q1w := (by first | exact Bl.cells hSw q1 | exact Bl.cells hSw.1 q1); go_simp; (try with_reducible rfl))
   simp only [List.set_cons_zero, List.set_cons_succ]
   refine f_takeC (i := 6) (d := 25) (v := ?_) [6] rfl rfl (by kernel_rfl) (by kernel_rfl) (by kernel_rfl) (by kernel_rfl) (by kernel_rfl) (by kernel_rfl) (fun _ _ _ h => h) (by decide) (Or.inl ⟨by rfl, ?_⟩) hHeld ?_
   rotate_left
   ·(intro w' hSw; (try dsimp only at hSw); have q0w := (by first | exact Bl.cells hSw q0 | exact Bl.cells hSw.1 q0); have q1w := (by first | exact Bl.cells hSw q1 | exact Bl.cells hSw.1 q1); go_simp; (try with_reducible rfl))
   simp only [List.set_cons_zero, List.set_cons_succ]
   refine f_takeC (i := 7) (d := 26) (v := ?_) [7] rfl rfl (by kernel_rfl) (by kernel_rfl) (by kernel_rfl) (by kernel_rfl) (by kernel_rfl) (by kernel_rfl) (fun _ _ _ h => h) (by decide) (Or.inl ⟨by rfl, ?_⟩) hHeld ?_
   rotate_left
   ·(intro w' hSw; (try dsimp only at hSw); have q0w := (by first | exact Bl.cells hSw q0 | exact Bl.cells hSw.1 q0); have q1w := (by first | exact Bl.cells hSw q1 | exact Bl.cells hSw.1 q1); go_simp; (try with_reducible rfl))
   simp only [List.set_cons_zero, List.set_cons_succ]
   refine tC 8 27 [8] ?_ hHeld
   refine tC 9 28 [9] ?_ hHeld
   refine tC 10 29 [10] ?_ hHeld
   refine tC 11 30 [11] ?_ hHeld
   refine tS 12 31 ?_ hHeld.1 (fun _ => hHeld.2)
   refine tS 13 32 ?_ hHeld.1 (fun _ => hHeld.2)
   refine tS 14 33 ?_ hHeld.1 (fun _ => hHeld.2)
   refine f_takeS (i := 15) (d := 34) (v := ?_) rfl rfl (by kernel_rfl) (by kernel_rfl) (by kernel_rfl) (by kernel_rfl) (fun _ _ _ h => h) (by decide) (Or.inl ⟨by rfl, ?_⟩) hHeld.1 (fun _ => hHeld.2) ?_
   rotate_left
   ·(intro w' hSw; (try dsimp only at hSw); have q0w := (by first | exact Bl.cells hSw q0 | exact Bl.cells hSw.1 q0); have q1w := (by first | exact Bl.cells hSw q1 | exact Bl.cells hSw.1 q1); go_simp; (try with_reducible rfl))
   simp only [List.set_cons_zero, List.set_cons_succ]
   refine f_takeS (i := 16) (d := 35) (v := ?_) rfl rfl (by kernel_rfl) (by kernel_rfl) (by kernel_rfl) (by kernel_rfl) (fun _ _ _ h => h) (by decide) (Or.inl ⟨by rfl, ?_⟩) hHeld.1 (fun _ => hHeld.2) ?_
   rotate_left
   ·(intro w' hSw; (try dsimp only at hSw); have q0w := (by first | exact Bl.cells hSw q0 | exact Bl.cells hSw.1 q0); have q1w := (by first | exact Bl.cells hSw q1 | exact Bl.cells hSw.1 q1); go_simp; (try with_reducible rfl))
   simp only [List.set_cons_zero, List.set_cons_succ]
   refine f_takeS (i := 17) (d := 36) (v := ?_) rfl rfl (by kernel_rfl) (by kernel_rfl) (by kernel_rfl) (by kernel_rfl) (fun _ _ _ h => h) (by decide) (Or.inl ⟨by rfl, ?_⟩) hHeld.1 (fun _ => hHeld.2) ?_
   rotate_left
   ·(intro w' hSw; (try dsimp only at hSw); have q0w := (by first | exact Bl.cells hSw q0 | exact Bl.cells hSw.1 q0); have q1w := (by first | exact Bl.cells hSw q1 | exact Bl.cells hSw.1 q1); go_simp; (try with_reducible rfl))
   simp only [List.set_cons_zero, List.set_cons_succ]
   refine tS 18 37 ?_ hHeld.1 (fun _ => hHeld.2)
   refine tS 19 38 ?_ hHeld.1 (fun _ => hHeld.2)
   refine tC 20 39 [20] ?_ hHeld
   refine f_last (i := 21) (by kernel_rfl) rfl (by simp) (fun K hK => ?_)
   go_simp
   refine ko hK ?_ fun hHeld => ?_
   ·(try dsimp only); exact Bl.a2
   clear hK K
   refine tS 22 40 ?_ hHeld (fun h => by simp at h)
   refine f_last (i := 23) (by kernel_rfl) rfl (by simp) (fun K hK => ?_)
   go_simp
   refine ko hK ?_ fun hHeld => ?_
   ·(try dsimp only); exact Bl.a2
   clear hK K
   refine f_done (by kernel_rfl) ?_ _
   go_wp2_with fail
   go_roundw
   case rel => exact ⟨3, by omega, by omega, rfl, Bl.a2, by
    have e := (hB.drew.set_ 0 (.int .i64 (q + w2 * x))).set_ 1 (.int .i64 (r + w2 * y))
    rw [show (3 : Int).toNat = 3 from rfl, S1.out, S2.out, ← Int.add_assoc, hQ.out, hRr.out]
    exact e, (hR.drew.far (by dsimp only; omega) _).far (by dsimp only; omega) _⟩
   case measure => simp [intOf]
  ·have hix := fun w => run_idx5 w #[.int .i64 w0, .int .i64 w1, .int .i64 w2, .int .i64 w3, .int .i64 w4] 3 _ (by omega) (by omega) rfl
   obtain ⟨ad, x, y, rfl, hx, q0, q1⟩ := h.at_ (k := 3) (by omega)
   rw [show ad.add (3 * 2) = ⟨ad.block, ad.off + 6, none⟩ by unfold Addr.add; rw [if_neg (by omega)]] at q0 q1; dsimp only at q1
   have hx1 : num (l.map Tg.v) 3 = x := by unfold num; rw [List.getElem?_map, hx]; rfl
   have hx2 : num (l.map Tg.t) 3 = y := by unfold num; rw [List.getElem?_map, hx]; rfl
   have b1 := hv 3
   have b2 := ht 3
   have b3 : -252 ≤ w3 ∧ w3 ≤ 252 := hw 3
   rw [hx1] at b1
   rw [hx2] at b2
   have p1 := prod252 w3 x b3.1 b3.2 b1.1 b1.2
   have p2 := prod252 w3 y b3.1 b3.2 b2.1 b2.2
   have d1 := HV.out 3
   have d2 := HT.out 3
   have s1 : dotv [w0, w1, w2, w3, w4] (l.map Tg.v) 4 = dotv [w0, w1, w2, w3, w4] (l.map Tg.v) 3 + w3 * x := by rw [← hx1]; rfl
   have s2 : dotv [w0, w1, w2, w3, w4] (l.map Tg.t) 4 = dotv [w0, w1, w2, w3, w4] (l.map Tg.t) 3 + w3 * y := by rw [← hx2]; rfl
   rw [show (3 : Int).toNat = 3 from rfl] at hB
   have S1 := Lib.hid s1
   have S2 := Lib.hid s2
   clear hx hx1 hx2 b1 b2 b3 s1 s2 hk0 hk
   generalize hq : more + dotv [w0, w1, w2, w3, w4] (l.map Tg.v) 3 = q at hB
   generalize hr : dotv [w0, w1, w2, w3, w4] (l.map Tg.t) 3 = r at hB
   have z1 : IntKind.i64.wrap (w3 * x) = w3 * x := IntWalk.i64_in _ (by omega)
   have z2 : IntKind.i64.wrap (w3 * y) = w3 * y := IntWalk.i64_in _ (by omega)
   have z3 : IntKind.i64.wrap (q + w3 * x) = q + w3 * x := IntWalk.i64_in _ (by omega)
   have z4 : IntKind.i64.wrap (r + w3 * y) = r + w3 * y := IntWalk.i64_in _ (by omega)
   have hQ := Lib.hid hq
   have hRr := Lib.hid hr
   clear hq hr d1 d2 p1 p2
   have B_l := hB.lt
   have B_0 := hB.cell 0 _ rfl
   have B_1 := hB.cell 1 _ rfl
   have B_f := hB.frozen
   go_wp2_with fail
   refine region_F (fun w' => Bl w w') (fun w' => Bl w w' ∧ w'.cell? ⟨w.heap.size + 1 + 1, 0, none⟩ = some (.int .i64 q) ∧ w'.cell? ⟨w.heap.size + 1 + 1, 1, none⟩ = some (.int .i64 r)) 21 (by kernel_rfl) ?_ (fun hHeld => ?_)
   ·(try dsimp only); exact ⟨Bl.a2, Bl.a2, B_0, B_1⟩
   refine tC 0 19 [0] ?_ hHeld
   refine tC 1 20 [1] ?_ hHeld
   refine tC 2 21 [2] ?_ hHeld
   refine tC 3 22 [3] ?_ hHeld
   refine tC 4 23 [4] ?_ hHeld
   refine f_takeC (i := 5) (d := 24) (v := ?_) [5] rfl rfl (by kernel_rfl) (by kernel_rfl) (by kernel_rfl) (by kernel_rfl) (by kernel_rfl) (by kernel_rfl) (fun _ _ _ h => h) (by decide) (Or.inl ⟨by rfl, ?_⟩) hHeld ?_
   rotate_left
   ·(intro w' hSw; (try dsimp only at hSw); have q0w := (by first | exact Bl.cells hSw q0 | exact Bl.cells hSw.1 q0); have q1w := (by first | exact Bl.cells hSw q1 | exact Bl.cells hSw.1 q1); go_simp; (try with_reducible rfl))
   simp only [List.set_cons_zero, List.set_cons_succ]
   refine f_takeC (i := 6) (d := 25) (v := ?_) [6] rfl rfl (by kernel_rfl) (by kernel_rfl) (by kernel_rfl) (by kernel_rfl) (by kernel_rfl) (by kernel_rfl) (fun _ _ _ h => h) (by decide) (Or.inl ⟨by rfl, ?_⟩) hHeld ?_
   rotate_left
   ·(intro w' hSw; (try dsimp only at hSw); have q0w := (by first | exact Bl.cells hSw q0 | exact Bl.cells hSw.1 q0); have q1w := (by first | exact Bl.cells hSw q1 | exact Bl.cells hSw.1 q1); go_simp; (try with_reducible rfl))
   simp only [List.set_cons_zero, List.set_cons_succ]
   refine f_takeC (i := 7) (d := 26) (v := ?_) [7] rfl rfl (by kernel_rfl) (by kernel_rfl) (by kernel_rfl) (by kernel_rfl) (by kernel_rfl) (by kernel_rfl) (fun _ _ _ h => h) (by decide) (Or.inl ⟨by rfl, ?_⟩) hHeld ?_
   rotate_left
   ·(intro w' hSw; (try dsimp only at hSw); have q0w := (by first | exact Bl.cells hSw q0 | exact Bl.cells hSw.1 q0); have q1w := (by first | exact Bl.cells hSw q1 | exact Bl.cells hSw.1 q1); go_simp; (try with_reducible rfl))
   simp only [List.set_cons_zero, List.set_cons_succ]
   refine tC 8 27 [8] ?_ hHeld
   refine tC 9 28 [9] ?_ hHeld
   refine tC 10 29 [10] ?_ hHeld
   refine tC 11 30 [11] ?_ hHeld
   refine tS 12 31 ?_ hHeld.1 (fun _ => hHeld.2)
   refine tS 13 32 ?_ hHeld.1 (fun _ => hHeld.2)
   refine tS 14 33 ?_ hHeld.1 (fun _ => hHeld.2)
   refine f_takeS (i := 15) (d := 34) (v := ?_) rfl rfl (by kernel_rfl) (by kernel_rfl) (by kernel_rfl) (by kernel_rfl) (fun _ _ _ h => h) (by decide) (Or.inl ⟨by rfl, ?_⟩) hHeld.1 (fun _ => hHeld.2) ?_
   rotate_left
   ·(intro w' hSw; (try dsimp only at hSw); have q0w := (by first | exact Bl.cells hSw q0 | exact Bl.cells hSw.1 q0); have q1w := (by first | exact Bl.cells hSw q1 | exact Bl.cells hSw.1 q1); go_simp; (try with_reducible rfl))
   simp only [List.set_cons_zero, List.set_cons_succ]
   refine f_takeS (i := 16) (d := 35) (v := ?_) rfl rfl (by kernel_rfl) (by kernel_rfl) (by kernel_rfl) (by kernel_rfl) (fun _ _ _ h => h) (by decide) (Or.inl ⟨by rfl, ?_⟩) hHeld.1 (fun _ => hHeld.2) ?_
   rotate_left
   ·(intro w' hSw; (try dsimp only at hSw); have q0w := (by first | exact Bl.cells hSw q0 | exact Bl.cells hSw.1 q0); have q1w := (by first | exact Bl.cells hSw q1 | exact Bl.cells hSw.1 q1); go_simp; (try with_reducible rfl))
   simp only [List.set_cons_zero, List.set_cons_succ]
   refine f_takeS (i := 17) (d := 36) (v := ?_) rfl rfl (by kernel_rfl) (by kernel_rfl) (by kernel_rfl) (by kernel_rfl) (fun _ _ _ h => h) (by decide) (Or.inl ⟨by rfl, ?_⟩) hHeld.1 (fun _ => hHeld.2) ?_
   rotate_left
   ·(intro w' hSw; (try dsimp only at hSw); have q0w := (by first | exact Bl.cells hSw q0 | exact Bl.cells hSw.1 q0); have q1w := (by first | exact Bl.cells hSw q1 | exact Bl.cells hSw.1 q1); go_simp; (try with_reducible rfl))
   simp only [List.set_cons_zero, List.set_cons_succ]
   refine tS 18 37 ?_ hHeld.1 (fun _ => hHeld.2)
   refine tS 19 38 ?_ hHeld.1 (fun _ => hHeld.2)
   refine tC 20 39 [20] ?_ hHeld
   refine f_last (i := 21) (by kernel_rfl) rfl (by simp) (fun K hK => ?_)
   go_simp
   refine ko hK ?_ fun hHeld => ?_
   ·(try dsimp only); exact Bl.a2
   clear hK K
   refine tS 22 40 ?_ hHeld (fun h => by simp at h)
   refine f_last (i := 23) (by kernel_rfl) rfl (by simp) (fun K hK => ?_)
   go_simp
   refine ko hK ?_ fun hHeld => ?_
   ·(try dsimp only); exact Bl.a2
   clear hK K
   refine f_done (by kernel_rfl) ?_ _
   go_wp2_with fail
   go_roundw
   case rel => exact ⟨4, by omega, by omega, rfl, Bl.a2, by
    have e := (hB.drew.set_ 0 (.int .i64 (q + w3 * x))).set_ 1 (.int .i64 (r + w3 * y))
    rw [show (4 : Int).toNat = 4 from rfl, S1.out, S2.out, ← Int.add_assoc, hQ.out, hRr.out]
    exact e, (hR.drew.far (by dsimp only; omega) _).far (by dsimp only; omega) _⟩
   case measure => simp [intOf]
  ·have hix := fun w => run_idx5 w #[.int .i64 w0, .int .i64 w1, .int .i64 w2, .int .i64 w3, .int .i64 w4] 4 _ (by omega) (by omega) rfl
   obtain ⟨ad, x, y, rfl, hx, q0, q1⟩ := h.at_ (k := 4) (by omega)
   rw [show ad.add (4 * 2) = ⟨ad.block, ad.off + 8, none⟩ by unfold Addr.add; rw [if_neg (by omega)]] at q0 q1; dsimp only at q1
   have hx1 : num (l.map Tg.v) 4 = x := by unfold num; rw [List.getElem?_map, hx]; rfl
   have hx2 : num (l.map Tg.t) 4 = y := by unfold num; rw [List.getElem?_map, hx]; rfl
   have b1 := hv 4
   have b2 := ht 4
   have b3 : -252 ≤ w4 ∧ w4 ≤ 252 := hw 4
   rw [hx1] at b1
   rw [hx2] at b2
   have p1 := prod252 w4 x b3.1 b3.2 b1.1 b1.2
   have p2 := prod252 w4 y b3.1 b3.2 b2.1 b2.2
   have d1 := HV.out 4
   have d2 := HT.out 4
   have s1 : dotv [w0, w1, w2, w3, w4] (l.map Tg.v) 5 = dotv [w0, w1, w2, w3, w4] (l.map Tg.v) 4 + w4 * x := by rw [← hx1]; rfl
   have s2 : dotv [w0, w1, w2, w3, w4] (l.map Tg.t) 5 = dotv [w0, w1, w2, w3, w4] (l.map Tg.t) 4 + w4 * y := by rw [← hx2]; rfl
   rw [show (4 : Int).toNat = 4 from rfl] at hB
   have S1 := Lib.hid s1
   have S2 := Lib.hid s2
   clear hx hx1 hx2 b1 b2 b3 s1 s2 hk0 hk
   generalize hq : more + dotv [w0, w1, w2, w3, w4] (l.map Tg.v) 4 = q at hB
   generalize hr : dotv [w0, w1, w2, w3, w4] (l.map Tg.t) 4 = r at hB
   have z1 : IntKind.i64.wrap (w4 * x) = w4 * x := IntWalk.i64_in _ (by omega)
   have z2 : IntKind.i64.wrap (w4 * y) = w4 * y := IntWalk.i64_in _ (by omega)
   have z3 : IntKind.i64.wrap (q + w4 * x) = q + w4 * x := IntWalk.i64_in _ (by omega)
   have z4 : IntKind.i64.wrap (r + w4 * y) = r + w4 * y := IntWalk.i64_in _ (by omega)
   have hQ := Lib.hid hq
   have hRr := Lib.hid hr
   clear hq hr d1 d2 p1 p2
   have B_l := hB.lt
   have B_0 := hB.cell 0 _ rfl
   have B_1 := hB.cell 1 _ rfl
   have B_f := hB.frozen
   go_wp2_with fail
   refine region_F (fun w' => Bl w w') (fun w' => Bl w w' ∧ w'.cell? ⟨w.heap.size + 1 + 1, 0, none⟩ = some (.int .i64 q) ∧ w'.cell? ⟨w.heap.size + 1 + 1, 1, none⟩ = some (.int .i64 r)) 21 (by kernel_rfl) ?_ (fun hHeld => ?_)
   ·(try dsimp only); exact ⟨Bl.a2, Bl.a2, B_0, B_1⟩
   refine tC 0 19 [0] ?_ hHeld
   refine tC 1 20 [1] ?_ hHeld
   refine tC 2 21 [2] ?_ hHeld
   refine tC 3 22 [3] ?_ hHeld
   refine tC 4 23 [4] ?_ hHeld
   refine f_takeC (i := 5) (d := 24) (v := ?_) [5] rfl rfl (by kernel_rfl) (by kernel_rfl) (by kernel_rfl) (by kernel_rfl) (by kernel_rfl) (by kernel_rfl) (fun _ _ _ h => h) (by decide) (Or.inl ⟨by rfl, ?_⟩) hHeld ?_
   rotate_left
   ·(intro w' hSw; (try dsimp only at hSw); have q0w := (by first | exact Bl.cells hSw q0 | exact Bl.cells hSw.1 q0); have q1w := (by first | exact Bl.cells hSw q1 | exact Bl.cells hSw.1 q1); go_simp; (try with_reducible rfl))
   simp only [List.set_cons_zero, List.set_cons_succ]
   refine f_takeC (i := 6) (d := 25) (v := ?_) [6] rfl rfl (by kernel_rfl) (by kernel_rfl) (by kernel_rfl) (by kernel_rfl) (by kernel_rfl) (by kernel_rfl) (fun _ _ _ h => h) (by decide) (Or.inl ⟨by rfl, ?_⟩) hHeld ?_
   rotate_left
   ·(intro w' hSw; (try dsimp only at hSw); have q0w := (by first | exact Bl.cells hSw q0 | exact Bl.cells hSw.1 q0); have q1w := (by first | exact Bl.cells hSw q1 | exact Bl.cells hSw.1 q1); go_simp; (try with_reducible rfl))
   simp only [List.set_cons_zero, List.set_cons_succ]
   refine f_takeC (i := 7) (d := 26) (v := ?_) [7] rfl rfl (by kernel_rfl) (by kernel_rfl) (by kernel_rfl) (by kernel_rfl) (by kernel_rfl) (by kernel_rfl) (fun _ _ _ h => h) (by decide) (Or.inl ⟨by rfl, ?_⟩) hHeld ?_
   rotate_left
   ·(intro w' hSw; (try dsimp only at hSw); have q0w := (by first | exact Bl.cells hSw q0 | exact Bl.cells hSw.1 q0); have q1w := (by first | exact Bl.cells hSw q1 | exact Bl.cells hSw.1 q1); go_simp; (try with_reducible rfl))
   simp only [List.set_cons_zero, List.set_cons_succ]
   refine tC 8 27 [8] ?_ hHeld
   refine tC 9 28 [9] ?_ hHeld
   refine tC 10 29 [10] ?_ hHeld
   refine tC 11 30 [11] ?_ hHeld
   refine tS 12 31 ?_ hHeld.1 (fun _ => hHeld.2)
   refine tS 13 32 ?_ hHeld.1 (fun _ => hHeld.2)
   refine tS 14 33 ?_ hHeld.1 (fun _ => hHeld.2)
   refine f_takeS (i := 15) (d := 34) (v := ?_) rfl rfl (by kernel_rfl) (by kernel_rfl) (by kernel_rfl) (by kernel_rfl) (fun _ _ _ h => h) (by decide) (Or.inl ⟨by rfl, ?_⟩) hHeld.1 (fun _ => hHeld.2) ?_
   rotate_left
   ·(intro w' hSw; (try dsimp only at hSw); have q0w := (by first | exact Bl.cells hSw q0 | exact Bl.cells hSw.1 q0); have q1w := (by first | exact Bl.cells hSw q1 | exact Bl.cells hSw.1 q1); go_simp; (try with_reducible rfl))
   simp only [List.set_cons_zero, List.set_cons_succ]
   refine f_takeS (i := 16) (d := 35) (v := ?_) rfl rfl (by kernel_rfl) (by kernel_rfl) (by kernel_rfl) (by kernel_rfl) (fun _ _ _ h => h) (by decide) (Or.inl ⟨by rfl, ?_⟩) hHeld.1 (fun _ => hHeld.2) ?_
   rotate_left
   ·(intro w' hSw; (try dsimp only at hSw); have q0w := (by first | exact Bl.cells hSw q0 | exact Bl.cells hSw.1 q0); have q1w := (by first | exact Bl.cells hSw q1 | exact Bl.cells hSw.1 q1); go_simp; (try with_reducible rfl))
   simp only [List.set_cons_zero, List.set_cons_succ]
   refine f_takeS (i := 17) (d := 36) (v := ?_) rfl rfl (by kernel_rfl) (by kernel_rfl) (by kernel_rfl) (by kernel_rfl) (fun _ _ _ h => h) (by decide) (Or.inl ⟨by rfl, ?_⟩) hHeld.1 (fun _ => hHeld.2) ?_
   rotate_left
   ·(intro w' hSw; (try dsimp only at hSw); have q0w := (by first | exact Bl.cells hSw q0 | exact Bl.cells hSw.1 q0); have q1w := (by first | exact Bl.cells hSw q1 | exact Bl.cells hSw.1 q1); go_simp; (try with_reducible rfl))
   simp only [List.set_cons_zero, List.set_cons_succ]
   refine tS 18 37 ?_ hHeld.1 (fun _ => hHeld.2)
   refine tS 19 38 ?_ hHeld.1 (fun _ => hHeld.2)
   refine tC 20 39 [20] ?_ hHeld
   refine f_last (i := 21) (by kernel_rfl) rfl (by simp) (fun K hK => ?_)
   go_simp
   refine ko hK ?_ fun hHeld => ?_
   ·(try dsimp only); exact Bl.a2
   clear hK K
   refine tS 22 40 ?_ hHeld (fun h => by simp at h)
   refine f_last (i := 23) (by kernel_rfl) rfl (by simp) (fun K hK => ?_)
   go_simp
   refine ko hK ?_ fun hHeld => ?_
   ·(try dsimp only); exact Bl.a2
   clear hK K
   refine f_done (by kernel_rfl) ?_ _
   go_wp2_with fail
   go_roundw
   case rel => exact ⟨5, by omega, by omega, rfl, Bl.a2, by
    have e := (hB.drew.set_ 0 (.int .i64 (q + w4 * x))).set_ 1 (.int .i64 (r + w4 * y))
    rw [show (5 : Int).toNat = 5 from rfl, S1.out, S2.out, ← Int.add_assoc, hQ.out, hRr.out]
    exact e, (hR.drew.far (by dsimp only; omega) _).far (by dsimp only; omega) _⟩
   case measure => simp [intOf]
  ·rw [show (5 : Int).toNat = 5 from rfl] at hB
   have d1 := HV.out 5
   have d2 := HT.out 5
   generalize hq : more + dotv [w0, w1, w2, w3, w4] (l.map Tg.v) 5 = q at hB ⊢
   generalize hr : dotv [w0, w1, w2, w3, w4] (l.map Tg.t) 5 = r at hB ⊢
   have bq : -10000000 ≤ q ∧ q ≤ 10000000 := by omega
   have br : -10000000 ≤ r ∧ r ≤ 10000000 := by omega
   have hQ := Lib.hid hq
   have hRr := Lib.hid hr
   clear hq hr d1 d2
   have B_l := hB.lt
   have B_0 := hB.cell 0 _ rfl
   have B_1 := hB.cell 1 _ rfl
   have B_f := hB.frozen
   have R_l := hR.lt
   have R_0 := hR.cell 0 _ rfl
   have R_1 := hR.cell 1 _ rfl
   have R_f := hR.frozen
   go_wp2_with fail
   refine region_F (fun _ => True) (fun w' => Bl w w' ∧ w'.cell? ⟨w.heap.size + 1 + 1, 0, none⟩ = some (.int .i64 q) ∧ w'.cell? ⟨w.heap.size + 1 + 1, 1, none⟩ = some (.int .i64 r)) 9 (by kernel_rfl) ?_ (fun hHeld => ?_)
   ·(try dsimp only); exact ⟨trivial, Bl.a2, B_0, B_1⟩
   refine tC 0 42 [0] ?_ hHeld
   refine tC 1 43 [1] ?_ hHeld
   refine tC 2 44 [2] ?_ hHeld
   refine tC 4 46 [4] ?_ hHeld
   refine tC 5 47 [5] ?_ hHeld
   refine tC 6 48 [6] ?_ hHeld
   refine f_step (i := 3) (by kernel_rfl) rfl (fun K hK => ?_)
   go_simp
   go_at_call 45; refine (impl_mod _ _ _ (by omega) (by omega) (by omega) (by omega)).mono ?_; rintro e w2 ⟨rfl, rfl⟩
   go_wp2_with fail
   refine ko hK ?_ fun hHeld => ?_
   ·(try dsimp only); exact ⟨trivial, Bl.a2, B_0, B_1⟩
   clear hK K
   refine f_step (i := 7) (by kernel_rfl) rfl (fun K hK => ?_)
   go_simp
   go_at_call 45; refine (impl_mod _ _ _ (by omega) (by omega) (by omega) (by omega)).mono ?_; rintro e w2 ⟨rfl, rfl⟩
   go_wp2_with fail
   refine ko hK ?_ fun hHeld => ?_
   ·(try dsimp only); exact ⟨trivial, Bl.a2, B_0, B_1⟩
   clear hK K
   refine tC 8 50 [8] ?_ hHeld
   refine f_last (i := 9) (by kernel_rfl) rfl (by simp) (fun K hK => ?_)
   go_simp
   refine ko hK ?_ fun hHeld => ?_
   ·exact trivial
   clear hK K
   refine f_done (by kernel_rfl) ?_ _
   go_wp2_with fail
   have hR2 := ((hR.set_ 0 (.int .i64 (q % p))).set_ 1 (.int .i64 (r % p))).drew
   have hbz : Bl w (((wr.setCell ⟨w.heap.size + 1, 0, none⟩ (.int .i64 (q % p))).setCell ⟨w.heap.size + 1, 1, none⟩ (.int .i64 (r % p))).drew) := Bl.a2
   generalize (((wr.setCell ⟨w.heap.size + 1, 0, none⟩ (.int .i64 (q % p))).setCell ⟨w.heap.size + 1, 1, none⟩ (.int .i64 (r % p))).drew) = wz at hbz hR2 ⊢
   have R2_0 := hR2.cell 0 (.int .i64 (q % p)) rfl
   have R2_1 := hR2.cell 1 (.int .i64 (r % p)) rfl
   refine bodyPost_ret (v := .agg #[.int .i64 (q % p), .int .i64 (r % p)]) (by simp [results, Tryd.results124, go_sem, R2_0, R2_1]) rfl ⟨by rw [hQ.out, hRr.out], hbz⟩
end Go.Proofs.YtcjpalhclgkjiaaDoor
