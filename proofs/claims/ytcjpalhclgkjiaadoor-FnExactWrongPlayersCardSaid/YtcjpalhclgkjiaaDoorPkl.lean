/- Contracts: what a run with meddles makes of a message.
   Conditions: the meddles are valid. -/
import Derived.Test.YtcjpalhclgkjiaaDoorPkaG
namespace Go.Proofs.YtcjpalhclgkjiaaDoor
open Go.RowKit
set_option linter.unusedVariables false
section
variable {w : World} {g : Nat} {M : List Hm} {k : Nat} {x : Hm}
theorem six_cells (h : Blk w g 101 (six M)) (hx : M[k]? = some x) : w.cell? ⟨g, k * 3, none⟩ = some (.int .i64 x.f) ∧ w.cell? ⟨g, k * 3 + 1, none⟩ = some (.int .i64 x.s) ∧ w.cell? ⟨g, k * 3 + 2, none⟩ = some (.slice x.A x.n x.c) := by
 have hc : ∀ j u, j < 3 → (Hm.enc x)[j]? = some u → w.cell? ⟨g, k * 3 + j, none⟩ = some u := fun j u hj hu => h.cell _ _ (by
  unfold six
  rw [List.getElem?_toArray, encs_get Hm.enc_len M k j _ hx hj]
  exact hu)
 exact ⟨hc 0 _ (by omega) rfl, hc 1 _ (by omega) rfl, hc 2 _ (by omega) rfl⟩
theorem six_put (h : Blk w g 101 (six M)) (hk : k < M.length) (x : Hm) : Blk (((w.setCell ⟨g, k * 3, none⟩ (.int .i64 x.f)).setCell ⟨g, k * 3 + 1, none⟩ (.int .i64 x.s)).setCell ⟨g, k * 3 + 2, none⟩ (.slice x.A x.n x.c)) g 101 (six (M.set k x)) := by
 have h3 := ((h.set_ (k * 3) (.int .i64 x.f)).set_ (k * 3 + 1) (.int .i64 x.s)).set_ (k * 3 + 2) (.slice x.A x.n x.c)
 have he := putAt_encs Hm.enc_len M k x hk
 have e : six (M.set k x) = (((six M).setIfInBounds (k * 3) (.int .i64 x.f)).setIfInBounds (k * 3 + 1) (.int .i64 x.s)).setIfInBounds (k * 3 + 2) (.slice x.A x.n x.c) := by
  unfold six
  rw [← he]
  simp [putAt, Hm.enc, List.setIfInBounds_toArray]
 rw [e]
 exact h3
end
set_option maxRecDepth 20000 in
set_option maxHeartbeats 4000000 in
theorem change_n (j : Nat) (hj : j < 6) (p : Int) (h xj yj : Hm) (L M : List Hm) (hL : L.length = 6) (hM6 : M.length = 6) (hLj : L[j]? = some xj) (hMj : M[j]? = some yj) (m mo : Ms) (gs gt gl ga : Nat) (Al : Option Addr) (nl cl : Nat) (l : List Md) (W0 w : World) (hb0 : Bl W0 w) (hgs : W0.heap.size ≤ gs) (hgt : W0.heap.size ≤ gt) (hne : gs ≠ gt) (hp : 2 ≤ p ∧ p ≤ 251)
  (kl : W0.cell? ⟨gl, 0, none⟩ = some (.slice Al nl cl)) (ka : W0.cell? ⟨ga, 0, none⟩ = some (.int .i64 p)) (hl : RdMd W0 Al nl cl l) (hml : mdsB p l = true) (hS : Blk w gs 101 (six L)) (hT : Blk w gt 101 (six M))
  (hm : RdM w h m) (hmb : m.b.length = bodyN (j / 2) ∧ ∀ y ∈ m.b, 0 ≤ y ∧ y < p) (hmf : m.f = 0 ∨ m.f = 1) (Q : Nat → Prop) (hQT : ∀ k, Q k → ¬ Two gs gt k) (hQn : ∀ k, w.heap.size ≤ k → Q k) (hna : ∀ k, h.blk = some k → Q k) (hmi : meddleI l (j : Int) = none) :
  Calls Tryd.prog 67 (#[.int .i64 (j : Int), .agg #[.int .i64 h.f, .int .i64 h.s, .slice h.A h.n h.c]] ++ #[.pointer (some ⟨gs, 0, none⟩), .pointer (some ⟨gl, 0, none⟩), .pointer (some ⟨ga, 0, none⟩), .pointer (some ⟨gt, 0, none⟩)]) w
   fun e w' => ∃ h' : Hm, e = .returned h'.val ∧ RdM w' h' (takenP p l j m mo) ∧ (∀ k, h'.blk = some k → Q k) ∧ Blk w' gs 101 (six (L.set j h)) ∧ Blk w' gt 101 (six (M.set j h')) ∧ Gp (Two gs gt) w w' := by
 have hsl := hS.lt
 have htl := hT.lt
 have hw0 := hb0.sz
 have hsf := hS.frozen
 have htf := hT.frozen
 have hne2 : ¬ gt = gs := fun e => hne e.symm
 have hmn : h.n = bodyN (j / 2) := by have := hm.b.length; have := hmb.1; omega
 have hgl1 : gl < W0.heap.size := World.block_lt_of_cell? W0 _ kl
 have hga1 : ga < W0.heap.size := World.block_lt_of_cell? W0 _ ka
 have hgl2 : ¬ gl = gs := by omega
 have hgl3 : ¬ gl = gt := by omega
 have hga2 : ¬ ga = gs := by omega
 have hga3 : ¬ ga = gt := by omega
 have hmN := bodyN_le (j / 2)
 have hn4 : h.n ≤ 4 := by omega
 have hhf := hm.f
 have zf : IntKind.i64.wrap (1 - h.f) = 1 - h.f := IntWalk.i64_in _ (by omega)
 have hfr : h.f = 0 ∨ h.f = 1 := by omega
 have ij0 : (0 : Int) ≤ j := by omega
 have ij6 : (j : Int) < 6 := by omega
 have hjL : j < L.length := by omega
 have hjM : j < M.length := by omega
 have hLj2 : (L.set j h)[j]? = some h := List.getElem?_set_self hjL
 have HL6 := Lib.hid hL
 have HM6 := Lib.hid hM6
 have HF := Lib.hid hhf
 have HN := Lib.hid hmn
 have HMF := Lib.hid hmf
 clear hmn hhf hmf hL hM6
 ·have HV := Lib.hid (show meddleV l (j : Int) = -1 by unfold meddleV; rw [hmi])
  have HT := Lib.hid (show ∀ mo, takenP p l j m mo = m from fun _ => taken_none hmi)
  clear hmi
  have hW : Bl W0 (((w.alloc (.cells #[.int .i64 (j : Int)] 3)).alloc (.cells #[.int .i64 h.f, .int .i64 h.s, .slice h.A h.n h.c] 87)).alloc (.cells #[.int .i64 0, .int .i64 0, .slice none 0 0] 87)) := Bl.a3
  have hQ : Blk (((w.alloc (.cells #[.int .i64 (j : Int)] 3)).alloc (.cells #[.int .i64 h.f, .int .i64 h.s, .slice h.A h.n h.c] 87)).alloc (.cells #[.int .i64 0, .int .i64 0, .slice none 0 0] 87)) (w.heap.size) 3 #[.int .i64 (j : Int)] := (((Blk.new w 3 #[.int .i64 (j : Int)] (g := w.heap.size)).alloc (.cells #[.int .i64 h.f, .int .i64 h.s, .slice h.A h.n h.c] 87)).alloc (.cells #[.int .i64 0, .int .i64 0, .slice none 0 0] 87))
  have hM : Blk (((w.alloc (.cells #[.int .i64 (j : Int)] 3)).alloc (.cells #[.int .i64 h.f, .int .i64 h.s, .slice h.A h.n h.c] 87)).alloc (.cells #[.int .i64 0, .int .i64 0, .slice none 0 0] 87)) (w.heap.size + 1) 87 #[.int .i64 h.f, .int .i64 h.s, .slice h.A h.n h.c] := ((Blk.new (w.alloc (.cells #[.int .i64 (j : Int)] 3)) 87 #[.int .i64 h.f, .int .i64 h.s, .slice h.A h.n h.c] (g := w.heap.size + 1)).alloc (.cells #[.int .i64 0, .int .i64 0, .slice none 0 0] 87))
  have hR : Blk (((w.alloc (.cells #[.int .i64 (j : Int)] 3)).alloc (.cells #[.int .i64 h.f, .int .i64 h.s, .slice h.A h.n h.c] 87)).alloc (.cells #[.int .i64 0, .int .i64 0, .slice none 0 0] 87)) (w.heap.size + 1 + 1) 87 #[.int .i64 0, .int .i64 0, .slice none 0 0] := (Blk.new ((w.alloc (.cells #[.int .i64 (j : Int)] 3)).alloc (.cells #[.int .i64 h.f, .int .i64 h.s, .slice h.A h.n h.c] 87)) 87 #[.int .i64 0, .int .i64 0, .slice none 0 0] (g := w.heap.size + 1 + 1))
  replace hS : Blk (((w.alloc (.cells #[.int .i64 (j : Int)] 3)).alloc (.cells #[.int .i64 h.f, .int .i64 h.s, .slice h.A h.n h.c] 87)).alloc (.cells #[.int .i64 0, .int .i64 0, .slice none 0 0] 87)) gs 101 (six L) := ((hS.alloc _).alloc _).alloc _
  replace hT : Blk (((w.alloc (.cells #[.int .i64 (j : Int)] 3)).alloc (.cells #[.int .i64 h.f, .int .i64 h.s, .slice h.A h.n h.c] 87)).alloc (.cells #[.int .i64 0, .int .i64 0, .slice none 0 0] 87)) gt 101 (six M) := ((hT.alloc _).alloc _).alloc _
  have Q_l := hQ.lt; have Q_f := hQ.frozen; have Q_0 := hQ.cell 0 _ rfl; obtain ⟨M_l, M_f, M_0, M_1, M_2⟩ := hM.l3; obtain ⟨R_l, R_f, R_0, R_1, R_2⟩ := hR.l3; have S_l := hS.lt; have S_f := hS.frozen; have T_l := hT.lt; have T_f := hT.frozen; have HS_ := six_cells hS hLj; have S_0 := HS_.1; have S_1 := HS_.2.1; have S_2 := HS_.2.2; have HT_ := six_cells hT hMj; have T_0 := HT_.1; have T_1 := HT_.2.1; have T_2 := HT_.2.2; clear HS_ HT_
  have kl1 := hW.cells kl
  have ka1 := hW.cells ka
  go_enter Tryd.func67, Tryd.ntmps67
  go_wp2_with fail
  (try clear Q_l Q_f Q_0 M_l M_f M_0 M_1 M_2 R_l R_f R_0 R_1 R_2); (try clear S_l S_f T_l T_f S_0 S_1 S_2 T_0 T_1 T_2)
  replace hS : Blk ((((((w.alloc (.cells #[.int .i64 (j : Int)] 3)).alloc (.cells #[.int .i64 h.f, .int .i64 h.s, .slice h.A h.n h.c] 87)).alloc (.cells #[.int .i64 0, .int .i64 0, .slice none 0 0] 87)).setCell ⟨gs, j * 3, none⟩ (.int .i64 h.f)).setCell ⟨gs, j * 3 + 1, none⟩ (.int .i64 h.s)).setCell ⟨gs, j * 3 + 2, none⟩ (.slice h.A h.n h.c)) gs 101 (six (L.set j h)) := six_put hS hjL h
  replace hQ : Blk ((((((w.alloc (.cells #[.int .i64 (j : Int)] 3)).alloc (.cells #[.int .i64 h.f, .int .i64 h.s, .slice h.A h.n h.c] 87)).alloc (.cells #[.int .i64 0, .int .i64 0, .slice none 0 0] 87)).setCell ⟨gs, j * 3, none⟩ (.int .i64 h.f)).setCell ⟨gs, j * 3 + 1, none⟩ (.int .i64 h.s)).setCell ⟨gs, j * 3 + 2, none⟩ (.slice h.A h.n h.c)) (w.heap.size) 3 #[.int .i64 (j : Int)] := ((hQ.far (by dsimp only; omega) _).far (by dsimp only; omega) _).far (by dsimp only; omega) _
  replace hM : Blk ((((((w.alloc (.cells #[.int .i64 (j : Int)] 3)).alloc (.cells #[.int .i64 h.f, .int .i64 h.s, .slice h.A h.n h.c] 87)).alloc (.cells #[.int .i64 0, .int .i64 0, .slice none 0 0] 87)).setCell ⟨gs, j * 3, none⟩ (.int .i64 h.f)).setCell ⟨gs, j * 3 + 1, none⟩ (.int .i64 h.s)).setCell ⟨gs, j * 3 + 2, none⟩ (.slice h.A h.n h.c)) (w.heap.size + 1) 87 #[.int .i64 h.f, .int .i64 h.s, .slice h.A h.n h.c] := ((hM.far (by dsimp only; omega) _).far (by dsimp only; omega) _).far (by dsimp only; omega) _
  replace hR : Blk ((((((w.alloc (.cells #[.int .i64 (j : Int)] 3)).alloc (.cells #[.int .i64 h.f, .int .i64 h.s, .slice h.A h.n h.c] 87)).alloc (.cells #[.int .i64 0, .int .i64 0, .slice none 0 0] 87)).setCell ⟨gs, j * 3, none⟩ (.int .i64 h.f)).setCell ⟨gs, j * 3 + 1, none⟩ (.int .i64 h.s)).setCell ⟨gs, j * 3 + 2, none⟩ (.slice h.A h.n h.c)) (w.heap.size + 1 + 1) 87 #[.int .i64 0, .int .i64 0, .slice none 0 0] := ((hR.far (by dsimp only; omega) _).far (by dsimp only; omega) _).far (by dsimp only; omega) _
  replace hT : Blk ((((((w.alloc (.cells #[.int .i64 (j : Int)] 3)).alloc (.cells #[.int .i64 h.f, .int .i64 h.s, .slice h.A h.n h.c] 87)).alloc (.cells #[.int .i64 0, .int .i64 0, .slice none 0 0] 87)).setCell ⟨gs, j * 3, none⟩ (.int .i64 h.f)).setCell ⟨gs, j * 3 + 1, none⟩ (.int .i64 h.s)).setCell ⟨gs, j * 3 + 2, none⟩ (.slice h.A h.n h.c)) gt 101 (six M) := ((hT.far (by dsimp only; omega) _).far (by dsimp only; omega) _).far (by dsimp only; omega) _
  have hG : Gp (Two gs gt) w ((((((w.alloc (.cells #[.int .i64 (j : Int)] 3)).alloc (.cells #[.int .i64 h.f, .int .i64 h.s, .slice h.A h.n h.c] 87)).alloc (.cells #[.int .i64 0, .int .i64 0, .slice none 0 0] 87)).setCell ⟨gs, j * 3, none⟩ (.int .i64 h.f)).setCell ⟨gs, j * 3 + 1, none⟩ (.int .i64 h.s)).setCell ⟨gs, j * 3 + 2, none⟩ (.slice h.A h.n h.c)) := (by repeat (first | with_reducible assumption | with_reducible refine Gp.drew ?_ | with_reducible refine Gp.alloc ?_ _ | with_reducible refine Gp.setCell ?_ (by first | exact Or.inl (two_l _ _) | exact Or.inl (two_r _ _) | (right; dsimp only; omega)) _ | with_reducible exact Gp.refl _ _))
  replace hW : Bl W0 ((((((w.alloc (.cells #[.int .i64 (j : Int)] 3)).alloc (.cells #[.int .i64 h.f, .int .i64 h.s, .slice h.A h.n h.c] 87)).alloc (.cells #[.int .i64 0, .int .i64 0, .slice none 0 0] 87)).setCell ⟨gs, j * 3, none⟩ (.int .i64 h.f)).setCell ⟨gs, j * 3 + 1, none⟩ (.int .i64 h.s)).setCell ⟨gs, j * 3 + 2, none⟩ (.slice h.A h.n h.c)) := Bl.a3
  have hsz : w.heap.size + 2 < (((((((w.alloc (.cells #[.int .i64 (j : Int)] 3)).alloc (.cells #[.int .i64 h.f, .int .i64 h.s, .slice h.A h.n h.c] 87)).alloc (.cells #[.int .i64 0, .int .i64 0, .slice none 0 0] 87)).setCell ⟨gs, j * 3, none⟩ (.int .i64 h.f)).setCell ⟨gs, j * 3 + 1, none⟩ (.int .i64 h.s)).setCell ⟨gs, j * 3 + 2, none⟩ (.slice h.A h.n h.c))).heap.size := hR.lt
  clear kl1 ka1
  generalize ((((((w.alloc (.cells #[.int .i64 (j : Int)] 3)).alloc (.cells #[.int .i64 h.f, .int .i64 h.s, .slice h.A h.n h.c] 87)).alloc (.cells #[.int .i64 0, .int .i64 0, .slice none 0 0] 87)).setCell ⟨gs, j * 3, none⟩ (.int .i64 h.f)).setCell ⟨gs, j * 3 + 1, none⟩ (.int .i64 h.s)).setCell ⟨gs, j * 3 + 2, none⟩ (.slice h.A h.n h.c)) = wb at hQ hM hR hS hT hG hW hsz ⊢
  have kl1 := hW.cells kl
  have ka1 := hW.cells ka
  have Q_l := hQ.lt; have Q_f := hQ.frozen; have Q_0 := hQ.cell 0 _ rfl; obtain ⟨M_l, M_f, M_0, M_1, M_2⟩ := hM.l3; obtain ⟨R_l, R_f, R_0, R_1, R_2⟩ := hR.l3; have S_l := hS.lt; have S_f := hS.frozen; have T_l := hT.lt; have T_f := hT.frozen; have HS_ := six_cells hS hLj2; have S_0 := HS_.1; have S_1 := HS_.2.1; have S_2 := HS_.2.2; have HT_ := six_cells hT hMj; have T_0 := HT_.1; have T_1 := HT_.2.1; have T_2 := HT_.2.2; clear HS_ HT_
  refine (slices_IndexFunc_md (j : Int) (w.heap.size) _ nl cl l _ Q_0 (hl.keep hW)).mono ?_
  rintro e wc ⟨rfl, hb1⟩
  rw [HV.out]
  replace hG := hG.call hb1
  replace hW : Bl W0 wc := Bl.a3; replace hQ := hQ.kp hb1; replace hM := hM.kp hb1; replace hR := hR.kp hb1; (try clear Q_l Q_f Q_0 M_l M_f M_0 M_1 M_2 R_l R_f R_0 R_1 R_2); have Q_l := hQ.lt; have Q_f := hQ.frozen; have Q_0 := hQ.cell 0 _ rfl; obtain ⟨M_l, M_f, M_0, M_1, M_2⟩ := hM.l3; obtain ⟨R_l, R_f, R_0, R_1, R_2⟩ := hR.l3; (try clear S_l S_f T_l T_f S_0 S_1 S_2 T_0 T_1 T_2); replace hS := hS.keep hb1; replace hT := hT.keep hb1; have S_l := hS.lt; have S_f := hS.frozen; have T_l := hT.lt; have T_f := hT.frozen; have HS_ := six_cells hS hLj2; have S_0 := HS_.1; have S_1 := HS_.2.1; have S_2 := HS_.2.2; have HT_ := six_cells hT hMj; have T_0 := HT_.1; have T_1 := HT_.2.1; have T_2 := HT_.2.2; clear HS_ HT_
  replace kl1 := hW.cells kl
  replace ka1 := hW.cells ka
  clear hb1
  go_wp2
  have hTm : Blk wc gt 101 (six M) := (by repeat (first | with_reducible exact hT | with_reducible refine Blk.far ?_ (by dsimp only; omega) _))
  have hRm : Blk (((wc.setCell ⟨gt, j * 3, none⟩ (.int .i64 h.f)).setCell ⟨gt, j * 3 + 1, none⟩ (.int .i64 h.s)).setCell ⟨gt, j * 3 + 2, none⟩ (.slice h.A h.n h.c)) (w.heap.size + 1 + 1) 87 #[.int .i64 0, .int .i64 0, .slice none 0 0] := (by repeat (first | with_reducible exact hR | with_reducible refine Blk.far ?_ (by dsimp only; omega) _))
  have hTt : Blk (((wc.setCell ⟨gt, j * 3, none⟩ (.int .i64 h.f)).setCell ⟨gt, j * 3 + 1, none⟩ (.int .i64 h.s)).setCell ⟨gt, j * 3 + 2, none⟩ (.slice h.A h.n h.c)) gt 101 (six (M.set j h)) := six_put hTm hjM h
  have hR3 : Blk ((((((wc.setCell ⟨gt, j * 3, none⟩ (.int .i64 h.f)).setCell ⟨gt, j * 3 + 1, none⟩ (.int .i64 h.s)).setCell ⟨gt, j * 3 + 2, none⟩ (.slice h.A h.n h.c)).setCell ⟨w.heap.size + 1 + 1, 0, none⟩ (.int .i64 h.f)).setCell ⟨w.heap.size + 1 + 1, 1, none⟩ (.int .i64 h.s)).setCell ⟨w.heap.size + 1 + 1, 2, none⟩ (.slice h.A h.n h.c)) (w.heap.size + 1 + 1) 87 #[.int .i64 h.f, .int .i64 h.s, .slice h.A h.n h.c] := put3_blk hRm (.int .i64 h.f) (.int .i64 h.s) (.slice h.A h.n h.c)
  have hTr : Blk ((((((wc.setCell ⟨gt, j * 3, none⟩ (.int .i64 h.f)).setCell ⟨gt, j * 3 + 1, none⟩ (.int .i64 h.s)).setCell ⟨gt, j * 3 + 2, none⟩ (.slice h.A h.n h.c)).setCell ⟨w.heap.size + 1 + 1, 0, none⟩ (.int .i64 h.f)).setCell ⟨w.heap.size + 1 + 1, 1, none⟩ (.int .i64 h.s)).setCell ⟨w.heap.size + 1 + 1, 2, none⟩ (.slice h.A h.n h.c)) gt 101 (six (M.set j h)) := hTt.grown (put3_grown _ _ (.int .i64 h.f) (.int .i64 h.s) (.slice h.A h.n h.c)) (by simp; omega)
  have hSr : Blk ((((((wc.setCell ⟨gt, j * 3, none⟩ (.int .i64 h.f)).setCell ⟨gt, j * 3 + 1, none⟩ (.int .i64 h.s)).setCell ⟨gt, j * 3 + 2, none⟩ (.slice h.A h.n h.c)).setCell ⟨w.heap.size + 1 + 1, 0, none⟩ (.int .i64 h.f)).setCell ⟨w.heap.size + 1 + 1, 1, none⟩ (.int .i64 h.s)).setCell ⟨w.heap.size + 1 + 1, 2, none⟩ (.slice h.A h.n h.c)) gs 101 (six (L.set j h)) := (by repeat (first | with_reducible exact hS | with_reducible refine Blk.far ?_ (by dsimp only; omega) _))
  have hGr : Gp (Two gs gt) w ((((((wc.setCell ⟨gt, j * 3, none⟩ (.int .i64 h.f)).setCell ⟨gt, j * 3 + 1, none⟩ (.int .i64 h.s)).setCell ⟨gt, j * 3 + 2, none⟩ (.slice h.A h.n h.c)).setCell ⟨w.heap.size + 1 + 1, 0, none⟩ (.int .i64 h.f)).setCell ⟨w.heap.size + 1 + 1, 1, none⟩ (.int .i64 h.s)).setCell ⟨w.heap.size + 1 + 1, 2, none⟩ (.slice h.A h.n h.c)) := (by repeat (first | with_reducible assumption | with_reducible refine Gp.drew ?_ | with_reducible refine Gp.alloc ?_ _ | with_reducible refine Gp.setCell ?_ (by first | exact Or.inl (two_l _ _) | exact Or.inl (two_r _ _) | (right; dsimp only; omega)) _ | with_reducible exact Gp.refl _ _))
  have hRd : RdM ((((((wc.setCell ⟨gt, j * 3, none⟩ (.int .i64 h.f)).setCell ⟨gt, j * 3 + 1, none⟩ (.int .i64 h.s)).setCell ⟨gt, j * 3 + 2, none⟩ (.slice h.A h.n h.c)).setCell ⟨w.heap.size + 1 + 1, 0, none⟩ (.int .i64 h.f)).setCell ⟨w.heap.size + 1 + 1, 1, none⟩ (.int .i64 h.s)).setCell ⟨w.heap.size + 1 + 1, 2, none⟩ (.slice h.A h.n h.c)) h (takenP p l j m mo) := by rw [HT.out]; exact hm.gp hGr (fun k hk => hQT k (hna k hk))
  generalize ((((((wc.setCell ⟨gt, j * 3, none⟩ (.int .i64 h.f)).setCell ⟨gt, j * 3 + 1, none⟩ (.int .i64 h.s)).setCell ⟨gt, j * 3 + 2, none⟩ (.slice h.A h.n h.c)).setCell ⟨w.heap.size + 1 + 1, 0, none⟩ (.int .i64 h.f)).setCell ⟨w.heap.size + 1 + 1, 1, none⟩ (.int .i64 h.s)).setCell ⟨w.heap.size + 1 + 1, 2, none⟩ (.slice h.A h.n h.c)) = wz at hR3 hTr hSr hGr hRd ⊢
  have R3_0 := hR3.cell 0 _ rfl
  have R3_1 := hR3.cell 1 _ rfl
  have R3_2 := hR3.cell 2 _ rfl
  refine bodyPost_ret (v := .agg #[.int .i64 h.f, .int .i64 h.s, .slice h.A h.n h.c]) (by simp [results, Tryd.results67, go_sem, R3_0, R3_1, R3_2]) rfl ?_
  exact ⟨h, rfl, hRd, hna, hSr, hTr, hGr⟩
set_option maxRecDepth 20000 in
set_option maxHeartbeats 4000000 in
theorem change_b (j : Nat) (hj : j < 6) (p : Int) (h xj yj : Hm) (L M : List Hm) (hL : L.length = 6) (hM6 : M.length = 6) (hLj : L[j]? = some xj) (hMj : M[j]? = some yj) (m mo : Ms) (gs gt gl ga : Nat) (Al : Option Addr) (nl cl : Nat) (l : List Md) (W0 w : World) (hb0 : Bl W0 w) (hgs : W0.heap.size ≤ gs) (hgt : W0.heap.size ≤ gt) (hne : gs ≠ gt) (hp : 2 ≤ p ∧ p ≤ 251)
  (kl : W0.cell? ⟨gl, 0, none⟩ = some (.slice Al nl cl)) (ka : W0.cell? ⟨ga, 0, none⟩ = some (.int .i64 p)) (hl : RdMd W0 Al nl cl l) (hml : mdsB p l = true) (hS : Blk w gs 101 (six L)) (hT : Blk w gt 101 (six M))
  (hm : RdM w h m) (hmb : m.b.length = bodyN (j / 2) ∧ ∀ y ∈ m.b, 0 ≤ y ∧ y < p) (hmf : m.f = 0 ∨ m.f = 1) (Q : Nat → Prop) (hQT : ∀ k, Q k → ¬ Two gs gt k) (hQn : ∀ k, w.heap.size ≤ k → Q k) (hna : ∀ k, h.blk = some k → Q k) (K A N V : Int) (k : Nat) (hlk : l[k]? = some ⟨K, A, N, V⟩) (hat : meddleAt l (j : Int) = some ⟨K, A, N, V⟩) (hv : meddleV l (j : Int) = (k : Int)) (hK : K = 1) (hA2 : A = j) (hI : 0 ≤ N ∧ N ≤ (bodyN (A / 2).toNat : Int) - 1) (hV1 : 0 ≤ V ∧ V ≤ p - 1) :
  Calls Tryd.prog 67 (#[.int .i64 (j : Int), .agg #[.int .i64 h.f, .int .i64 h.s, .slice h.A h.n h.c]] ++ #[.pointer (some ⟨gs, 0, none⟩), .pointer (some ⟨gl, 0, none⟩), .pointer (some ⟨ga, 0, none⟩), .pointer (some ⟨gt, 0, none⟩)]) w
   fun e w' => ∃ h' : Hm, e = .returned h'.val ∧ RdM w' h' (takenP p l j m mo) ∧ (∀ k, h'.blk = some k → Q k) ∧ Blk w' gs 101 (six (L.set j h)) ∧ Blk w' gt 101 (six (M.set j h')) ∧ Gp (Two gs gt) w w' := by
 have hsl := hS.lt
 have htl := hT.lt
 have hw0 := hb0.sz
 have hsf := hS.frozen
 have htf := hT.frozen
 have hne2 : ¬ gt = gs := fun e => hne e.symm
 have hmn : h.n = bodyN (j / 2) := by have := hm.b.length; have := hmb.1; omega
 have hgl1 : gl < W0.heap.size := World.block_lt_of_cell? W0 _ kl
 have hga1 : ga < W0.heap.size := World.block_lt_of_cell? W0 _ ka
 have hgl2 : ¬ gl = gs := by omega
 have hgl3 : ¬ gl = gt := by omega
 have hga2 : ¬ ga = gs := by omega
 have hga3 : ¬ ga = gt := by omega
 have hmN := bodyN_le (j / 2)
 have hn4 : h.n ≤ 4 := by omega
 have hhf := hm.f
 have zf : IntKind.i64.wrap (1 - h.f) = 1 - h.f := IntWalk.i64_in _ (by omega)
 have hfr : h.f = 0 ∨ h.f = 1 := by omega
 have ij0 : (0 : Int) ≤ j := by omega
 have ij6 : (j : Int) < 6 := by omega
 have hjL : j < L.length := by omega
 have hjM : j < M.length := by omega
 have hLj2 : (L.set j h)[j]? = some h := List.getElem?_set_self hjL
 have HL6 := Lib.hid hL
 have HM6 := Lib.hid hM6
 have HF := Lib.hid hhf
 have HN := Lib.hid hmn
 have HMF := Lib.hid hmf
 clear hmn hhf hmf hL hM6
 have HV := Lib.hid hv
 have hkn : k < nl := by have := (List.getElem?_eq_some_iff.1 hlk).1; have := hl.2; omega
 have i1 : (k : Int) < nl := by omega
 obtain ⟨ad, K', A', N', V', hAl, hx, q0, q1, q2, q3⟩ := hl.at_ hkn
 rw [hlk] at hx
 injection hx with hx
 injection hx with e1 e2 e3 e4
 subst e1 e2 e3 e4
 subst hAl
 have Q0 := Lib.hid q0
 have Q2 := Lib.hid q2
 have Q3 := Lib.hid q3
 have HT := Lib.hid hat
 clear q0 q1 q2 q3 hlk hat hv
 · subst hK
   obtain ⟨q, rfl⟩ : ∃ q : Nat, N = q := ⟨N.toNat, by omega⟩
   have hqn : q < h.n := by
    have := HN.out
    have e : (A / 2).toNat = j / 2 := by omega
    rw [e] at hI
    omega
   have hqn2 : (q : Int) < h.n := by omega
   clear hI hA2
   have hW : Bl W0 (((w.alloc (.cells #[.int .i64 (j : Int)] 3)).alloc (.cells #[.int .i64 h.f, .int .i64 h.s, .slice h.A h.n h.c] 87)).alloc (.cells #[.int .i64 0, .int .i64 0, .slice none 0 0] 87)) := Bl.a3
   have hQ : Blk (((w.alloc (.cells #[.int .i64 (j : Int)] 3)).alloc (.cells #[.int .i64 h.f, .int .i64 h.s, .slice h.A h.n h.c] 87)).alloc (.cells #[.int .i64 0, .int .i64 0, .slice none 0 0] 87)) (w.heap.size) 3 #[.int .i64 (j : Int)] := (((Blk.new w 3 #[.int .i64 (j : Int)] (g := w.heap.size)).alloc (.cells #[.int .i64 h.f, .int .i64 h.s, .slice h.A h.n h.c] 87)).alloc (.cells #[.int .i64 0, .int .i64 0, .slice none 0 0] 87))
   have hM : Blk (((w.alloc (.cells #[.int .i64 (j : Int)] 3)).alloc (.cells #[.int .i64 h.f, .int .i64 h.s, .slice h.A h.n h.c] 87)).alloc (.cells #[.int .i64 0, .int .i64 0, .slice none 0 0] 87)) (w.heap.size + 1) 87 #[.int .i64 h.f, .int .i64 h.s, .slice h.A h.n h.c] := ((Blk.new (w.alloc (.cells #[.int .i64 (j : Int)] 3)) 87 #[.int .i64 h.f, .int .i64 h.s, .slice h.A h.n h.c] (g := w.heap.size + 1)).alloc (.cells #[.int .i64 0, .int .i64 0, .slice none 0 0] 87))
   have hR : Blk (((w.alloc (.cells #[.int .i64 (j : Int)] 3)).alloc (.cells #[.int .i64 h.f, .int .i64 h.s, .slice h.A h.n h.c] 87)).alloc (.cells #[.int .i64 0, .int .i64 0, .slice none 0 0] 87)) (w.heap.size + 1 + 1) 87 #[.int .i64 0, .int .i64 0, .slice none 0 0] := (Blk.new ((w.alloc (.cells #[.int .i64 (j : Int)] 3)).alloc (.cells #[.int .i64 h.f, .int .i64 h.s, .slice h.A h.n h.c] 87)) 87 #[.int .i64 0, .int .i64 0, .slice none 0 0] (g := w.heap.size + 1 + 1))
   replace hS : Blk (((w.alloc (.cells #[.int .i64 (j : Int)] 3)).alloc (.cells #[.int .i64 h.f, .int .i64 h.s, .slice h.A h.n h.c] 87)).alloc (.cells #[.int .i64 0, .int .i64 0, .slice none 0 0] 87)) gs 101 (six L) := ((hS.alloc _).alloc _).alloc _
   replace hT : Blk (((w.alloc (.cells #[.int .i64 (j : Int)] 3)).alloc (.cells #[.int .i64 h.f, .int .i64 h.s, .slice h.A h.n h.c] 87)).alloc (.cells #[.int .i64 0, .int .i64 0, .slice none 0 0] 87)) gt 101 (six M) := ((hT.alloc _).alloc _).alloc _
   have Q_l := hQ.lt; have Q_f := hQ.frozen; have Q_0 := hQ.cell 0 _ rfl; obtain ⟨M_l, M_f, M_0, M_1, M_2⟩ := hM.l3; obtain ⟨R_l, R_f, R_0, R_1, R_2⟩ := hR.l3; have S_l := hS.lt; have S_f := hS.frozen; have T_l := hT.lt; have T_f := hT.frozen; have HS_ := six_cells hS hLj; have S_0 := HS_.1; have S_1 := HS_.2.1; have S_2 := HS_.2.2; have HT_ := six_cells hT hMj; have T_0 := HT_.1; have T_1 := HT_.2.1; have T_2 := HT_.2.2; clear HS_ HT_
   have kl1 := hW.cells kl
   have ka1 := hW.cells ka
   go_enter Tryd.func67, Tryd.ntmps67
   go_wp2_with fail
   (try clear Q_l Q_f Q_0 M_l M_f M_0 M_1 M_2 R_l R_f R_0 R_1 R_2); (try clear S_l S_f T_l T_f S_0 S_1 S_2 T_0 T_1 T_2)
   replace hS : Blk ((((((w.alloc (.cells #[.int .i64 (j : Int)] 3)).alloc (.cells #[.int .i64 h.f, .int .i64 h.s, .slice h.A h.n h.c] 87)).alloc (.cells #[.int .i64 0, .int .i64 0, .slice none 0 0] 87)).setCell ⟨gs, j * 3, none⟩ (.int .i64 h.f)).setCell ⟨gs, j * 3 + 1, none⟩ (.int .i64 h.s)).setCell ⟨gs, j * 3 + 2, none⟩ (.slice h.A h.n h.c)) gs 101 (six (L.set j h)) := six_put hS hjL h
   replace hQ : Blk ((((((w.alloc (.cells #[.int .i64 (j : Int)] 3)).alloc (.cells #[.int .i64 h.f, .int .i64 h.s, .slice h.A h.n h.c] 87)).alloc (.cells #[.int .i64 0, .int .i64 0, .slice none 0 0] 87)).setCell ⟨gs, j * 3, none⟩ (.int .i64 h.f)).setCell ⟨gs, j * 3 + 1, none⟩ (.int .i64 h.s)).setCell ⟨gs, j * 3 + 2, none⟩ (.slice h.A h.n h.c)) (w.heap.size) 3 #[.int .i64 (j : Int)] := ((hQ.far (by dsimp only; omega) _).far (by dsimp only; omega) _).far (by dsimp only; omega) _
   replace hM : Blk ((((((w.alloc (.cells #[.int .i64 (j : Int)] 3)).alloc (.cells #[.int .i64 h.f, .int .i64 h.s, .slice h.A h.n h.c] 87)).alloc (.cells #[.int .i64 0, .int .i64 0, .slice none 0 0] 87)).setCell ⟨gs, j * 3, none⟩ (.int .i64 h.f)).setCell ⟨gs, j * 3 + 1, none⟩ (.int .i64 h.s)).setCell ⟨gs, j * 3 + 2, none⟩ (.slice h.A h.n h.c)) (w.heap.size + 1) 87 #[.int .i64 h.f, .int .i64 h.s, .slice h.A h.n h.c] := ((hM.far (by dsimp only; omega) _).far (by dsimp only; omega) _).far (by dsimp only; omega) _
   replace hR : Blk ((((((w.alloc (.cells #[.int .i64 (j : Int)] 3)).alloc (.cells #[.int .i64 h.f, .int .i64 h.s, .slice h.A h.n h.c] 87)).alloc (.cells #[.int .i64 0, .int .i64 0, .slice none 0 0] 87)).setCell ⟨gs, j * 3, none⟩ (.int .i64 h.f)).setCell ⟨gs, j * 3 + 1, none⟩ (.int .i64 h.s)).setCell ⟨gs, j * 3 + 2, none⟩ (.slice h.A h.n h.c)) (w.heap.size + 1 + 1) 87 #[.int .i64 0, .int .i64 0, .slice none 0 0] := ((hR.far (by dsimp only; omega) _).far (by dsimp only; omega) _).far (by dsimp only; omega) _
   replace hT : Blk ((((((w.alloc (.cells #[.int .i64 (j : Int)] 3)).alloc (.cells #[.int .i64 h.f, .int .i64 h.s, .slice h.A h.n h.c] 87)).alloc (.cells #[.int .i64 0, .int .i64 0, .slice none 0 0] 87)).setCell ⟨gs, j * 3, none⟩ (.int .i64 h.f)).setCell ⟨gs, j * 3 + 1, none⟩ (.int .i64 h.s)).setCell ⟨gs, j * 3 + 2, none⟩ (.slice h.A h.n h.c)) gt 101 (six M) := ((hT.far (by dsimp only; omega) _).far (by dsimp only; omega) _).far (by dsimp only; omega) _
   have hG : Gp (Two gs gt) w ((((((w.alloc (.cells #[.int .i64 (j : Int)] 3)).alloc (.cells #[.int .i64 h.f, .int .i64 h.s, .slice h.A h.n h.c] 87)).alloc (.cells #[.int .i64 0, .int .i64 0, .slice none 0 0] 87)).setCell ⟨gs, j * 3, none⟩ (.int .i64 h.f)).setCell ⟨gs, j * 3 + 1, none⟩ (.int .i64 h.s)).setCell ⟨gs, j * 3 + 2, none⟩ (.slice h.A h.n h.c)) := (by repeat (first | with_reducible assumption | with_reducible refine Gp.drew ?_ | with_reducible refine Gp.alloc ?_ _ | with_reducible refine Gp.setCell ?_ (by first | exact Or.inl (two_l _ _) | exact Or.inl (two_r _ _) | (right; dsimp only; omega)) _ | with_reducible exact Gp.refl _ _))
   replace hW : Bl W0 ((((((w.alloc (.cells #[.int .i64 (j : Int)] 3)).alloc (.cells #[.int .i64 h.f, .int .i64 h.s, .slice h.A h.n h.c] 87)).alloc (.cells #[.int .i64 0, .int .i64 0, .slice none 0 0] 87)).setCell ⟨gs, j * 3, none⟩ (.int .i64 h.f)).setCell ⟨gs, j * 3 + 1, none⟩ (.int .i64 h.s)).setCell ⟨gs, j * 3 + 2, none⟩ (.slice h.A h.n h.c)) := Bl.a3
   have hsz : w.heap.size + 2 < (((((((w.alloc (.cells #[.int .i64 (j : Int)] 3)).alloc (.cells #[.int .i64 h.f, .int .i64 h.s, .slice h.A h.n h.c] 87)).alloc (.cells #[.int .i64 0, .int .i64 0, .slice none 0 0] 87)).setCell ⟨gs, j * 3, none⟩ (.int .i64 h.f)).setCell ⟨gs, j * 3 + 1, none⟩ (.int .i64 h.s)).setCell ⟨gs, j * 3 + 2, none⟩ (.slice h.A h.n h.c))).heap.size := hR.lt
   clear kl1 ka1
   generalize ((((((w.alloc (.cells #[.int .i64 (j : Int)] 3)).alloc (.cells #[.int .i64 h.f, .int .i64 h.s, .slice h.A h.n h.c] 87)).alloc (.cells #[.int .i64 0, .int .i64 0, .slice none 0 0] 87)).setCell ⟨gs, j * 3, none⟩ (.int .i64 h.f)).setCell ⟨gs, j * 3 + 1, none⟩ (.int .i64 h.s)).setCell ⟨gs, j * 3 + 2, none⟩ (.slice h.A h.n h.c)) = wb at hQ hM hR hS hT hG hW hsz ⊢
   have kl1 := hW.cells kl
   have ka1 := hW.cells ka
   have Q_l := hQ.lt; have Q_f := hQ.frozen; have Q_0 := hQ.cell 0 _ rfl; obtain ⟨M_l, M_f, M_0, M_1, M_2⟩ := hM.l3; obtain ⟨R_l, R_f, R_0, R_1, R_2⟩ := hR.l3; have S_l := hS.lt; have S_f := hS.frozen; have T_l := hT.lt; have T_f := hT.frozen; have HS_ := six_cells hS hLj2; have S_0 := HS_.1; have S_1 := HS_.2.1; have S_2 := HS_.2.2; have HT_ := six_cells hT hMj; have T_0 := HT_.1; have T_1 := HT_.2.1; have T_2 := HT_.2.2; clear HS_ HT_
   refine (slices_IndexFunc_md (j : Int) (w.heap.size) _ nl cl l _ Q_0 (hl.keep hW)).mono ?_
   rintro e wc ⟨rfl, hb1⟩
   rw [HV.out]
   replace hG := hG.call hb1
   replace hW : Bl W0 wc := Bl.a3; replace hQ := hQ.kp hb1; replace hM := hM.kp hb1; replace hR := hR.kp hb1; (try clear Q_l Q_f Q_0 M_l M_f M_0 M_1 M_2 R_l R_f R_0 R_1 R_2); have Q_l := hQ.lt; have Q_f := hQ.frozen; have Q_0 := hQ.cell 0 _ rfl; obtain ⟨M_l, M_f, M_0, M_1, M_2⟩ := hM.l3; obtain ⟨R_l, R_f, R_0, R_1, R_2⟩ := hR.l3; (try clear S_l S_f T_l T_f S_0 S_1 S_2 T_0 T_1 T_2); replace hS := hS.keep hb1; replace hT := hT.keep hb1; have S_l := hS.lt; have S_f := hS.frozen; have T_l := hT.lt; have T_f := hT.frozen; have HS_ := six_cells hS hLj2; have S_0 := HS_.1; have S_1 := HS_.2.1; have S_2 := HS_.2.2; have HT_ := six_cells hT hMj; have T_0 := HT_.1; have T_1 := HT_.2.1; have T_2 := HT_.2.2; clear HS_ HT_
   replace kl1 := hW.cells kl
   replace ka1 := hW.cells ka
   clear hb1
   have hwc : w.heap.size + 1 + 1 < wc.heap.size := R_l
   have htl2 : gt < wc.heap.size := T_l
   have q0 := hW.cells Q0.out
   have q2 := hW.cells Q2.out
   have q3 := hW.cells Q3.out
   go_wp2_with fail
   refine region_F (fun _ => True) (fun w' => w'.cell? ⟨ga, 0, none⟩ = some (.int .i64 p) ∧ w'.cell? ⟨w.heap.size + 1, 0, none⟩ = some (.int .i64 h.f) ∧ w'.cell? ⟨w.heap.size + 1, 1, none⟩ = some (.int .i64 h.s) ∧ w'.cell? ⟨w.heap.size + 1, 2, none⟩ = some (.slice h.A h.n h.c) ∧ w'.cell? ⟨gl, 0, none⟩ = some (.slice (some ad) nl cl) ∧ w'.cell? ⟨(ad.add (k * 4)).block, (ad.add (k * 4)).off + 2, none⟩ = some (.int .i64 (q : Int)) ∧ w'.cell? ⟨(ad.add (k * 4)).block, (ad.add (k * 4)).off + 3, none⟩ = some (.int .i64 V)) 14 (by kernel_rfl) ?_ (fun hHeld => ?_)
   ·(try dsimp only); exact ⟨trivial, ka1, M_0, M_1, M_2, kl1, q2, q3⟩
   refine tC 0 29 [0] ?_ hHeld
   refine tC 1 30 [1] ?_ hHeld
   refine tC 2 31 [2] ?_ hHeld
   refine tC 3 32 [3] ?_ hHeld
   refine tC 4 33 [4] ?_ hHeld
   refine tC 5 34 [5] ?_ hHeld
   refine tC 6 35 [6] ?_ hHeld
   refine tC 7 36 [7] ?_ hHeld
   refine tC 8 37 [8] ?_ hHeld
   refine tC 9 38 [9] ?_ hHeld
   refine tC 10 39 [10] ?_ hHeld
   refine tC 11 40 [11] ?_ hHeld
   refine tC 12 41 [12] ?_ hHeld
   refine f_step (i := 13) (by kernel_rfl) rfl (fun K hK => ?_)
   go_simp
   go_at_call 70; refine (impl_bend p h.f h.s q V h.A h.n h.c m.b _ (Rd.gp hm.b hG.drew (fun k hk => hQT k (hna k hk))) (by omega) hqn hp (by omega) hmb.2).mono ?_; rintro e wd ⟨A9, c9, rfl, ho9, hb9⟩; replace hW : Bl W0 wd := Bl.a3; replace hQ := hQ.kp hb9; replace hM := hM.kp hb9; replace hR := hR.kp hb9; (try clear Q_l Q_f Q_0 M_l M_f M_0 M_1 M_2 R_l R_f R_0 R_1 R_2); have Q_l := hQ.lt; have Q_f := hQ.frozen; have Q_0 := hQ.cell 0 _ rfl; obtain ⟨M_l, M_f, M_0, M_1, M_2⟩ := hM.l3; obtain ⟨R_l, R_f, R_0, R_1, R_2⟩ := hR.l3; (try clear S_l S_f T_l T_f S_0 S_1 S_2 T_0 T_1 T_2); replace hS := hS.drew.keep hb9; replace hT := hT.drew.keep hb9; replace hG := hG.drew.call hb9; have hsd : wc.heap.size ≤ wd.heap.size := hb9.sz
   go_wp2_with fail
   refine ko hK ?_ fun hHeld => ?_
   ·(try dsimp only); exact ⟨trivial, hW.cells ka, M_0, M_1, M_2, hW.cells kl, hW.cells Q2.out, hW.cells Q3.out⟩
   clear hK K
   refine f_last (i := 14) (by kernel_rfl) rfl (by simp) (fun K hK => ?_)
   refine wp_store_row 87 _ _ rfl (w.heap.size + 1) #[.int .i64 h.f, .int .i64 h.s, .slice A9 h.n c9] rfl rfl 87 #[.int .i64 h.f, .int .i64 h.s, .slice h.A h.n h.c] hM (by kernel_rfl) rfl (by first | rfl | simp [Value.oneCell'] | kernel_rfl) ?_
   refine ko hK ?_ fun hHeld => ?_
   ·exact trivial
   clear hK K
   refine f_done (by kernel_rfl) ?_ _
   (try clear Q_l Q_f Q_0 M_l M_f M_0 M_1 M_2 R_l R_f R_0 R_1 R_2); (try clear S_l S_f T_l T_f S_0 S_1 S_2 T_0 T_1 T_2)
   clear kl1 ka1 q0 q2 q3
   have hMm : Blk (wd.setRow (w.heap.size + 1) #[.int .i64 h.f, .int .i64 h.s, .slice A9 h.n c9]) (w.heap.size + 1) 87 #[.int .i64 h.f, .int .i64 h.s, .slice A9 h.n c9] := hM.row
   have hQm : Blk (wd.setRow (w.heap.size + 1) #[.int .i64 h.f, .int .i64 h.s, .slice A9 h.n c9]) w.heap.size 3 #[.int .i64 (j : Int)] := hQ.farRow (by omega)
   replace hR : Blk (wd.setRow (w.heap.size + 1) #[.int .i64 h.f, .int .i64 h.s, .slice A9 h.n c9]) (w.heap.size + 1 + 1) 87 #[.int .i64 0, .int .i64 0, .slice none 0 0] := hR.farRow (by omega)
   replace hS : Blk (wd.setRow (w.heap.size + 1) #[.int .i64 h.f, .int .i64 h.s, .slice A9 h.n c9]) gs 101 (six (L.set j h)) := hS.farRow (by omega)
   replace hT : Blk (wd.setRow (w.heap.size + 1) #[.int .i64 h.f, .int .i64 h.s, .slice A9 h.n c9]) gt 101 (six M) := hT.farRow (by omega)
   replace hG : Gp (Two gs gt) w (wd.setRow (w.heap.size + 1) #[.int .i64 h.f, .int .i64 h.s, .slice A9 h.n c9]) := hG.grown (setRow_grown _ _ _) (fun k e => (by injection e with e; right; omega))
   replace hW : Bl W0 (wd.setRow (w.heap.size + 1) #[.int .i64 h.f, .int .i64 h.s, .slice A9 h.n c9]) := hW.row (by omega) _
   have hsz3 : wc.heap.size ≤ ((wd.setRow (w.heap.size + 1) #[.int .i64 h.f, .int .i64 h.s, .slice A9 h.n c9])).heap.size := by simp; omega
   have ho9b := (ho9.blk)
   have hRo : OwnI wc.heap.size (wd.setRow (w.heap.size + 1) #[.int .i64 h.f, .int .i64 h.s, .slice A9 h.n c9]) A9 h.n c9 (m.b.set q ((num m.b q + V) % p)) := OwnI.grownR ho9 (setRow_grown _ _ _) (fun k hk e => by have := (show wc.heap.size ≤ k from (ho9b k hk).1); injection e with e; omega)
   clear hb9 ho9
   clear hQ hM
   generalize (wd.setRow (w.heap.size + 1) #[.int .i64 h.f, .int .i64 h.s, .slice A9 h.n c9]) = wm at hMm hQm hR hS hT hG hW hRo hsz3 ⊢
   have hQ := hQm
   have hM := hMm
   have M_0 := hM.cell 0 _ rfl
   have M_1 := hM.cell 1 _ rfl
   have M_2 := hM.cell 2 _ rfl
   have Q_0 := hQ.cell 0 _ rfl
   obtain ⟨R_l, R_f, R_0, R_1, R_2⟩ := hR.l3
   have S_l := hS.lt; have S_f := hS.frozen; have T_l := hT.lt; have T_f := hT.frozen; have HS_ := six_cells hS hLj2; have S_0 := HS_.1; have S_1 := HS_.2.1; have S_2 := HS_.2.2; have HT_ := six_cells hT hMj; have T_0 := HT_.1; have T_1 := HT_.2.1; have T_2 := HT_.2.2; clear HS_ HT_
   go_wp2
   have hTm : Blk wm gt 101 (six M) := (by repeat (first | with_reducible exact hT | with_reducible refine Blk.far ?_ (by dsimp only; omega) _))
   have hRm : Blk (((wm.setCell ⟨gt, j * 3, none⟩ (.int .i64 h.f)).setCell ⟨gt, j * 3 + 1, none⟩ (.int .i64 h.s)).setCell ⟨gt, j * 3 + 2, none⟩ (.slice A9 h.n c9)) (w.heap.size + 1 + 1) 87 #[.int .i64 0, .int .i64 0, .slice none 0 0] := (by repeat (first | with_reducible exact hR | with_reducible refine Blk.far ?_ (by dsimp only; omega) _))
   have hTt : Blk (((wm.setCell ⟨gt, j * 3, none⟩ (.int .i64 h.f)).setCell ⟨gt, j * 3 + 1, none⟩ (.int .i64 h.s)).setCell ⟨gt, j * 3 + 2, none⟩ (.slice A9 h.n c9)) gt 101 (six (M.set j ⟨h.f, h.s, A9, h.n, c9⟩)) := six_put hTm hjM ⟨h.f, h.s, A9, h.n, c9⟩
   have hR3 : Blk ((((((wm.setCell ⟨gt, j * 3, none⟩ (.int .i64 h.f)).setCell ⟨gt, j * 3 + 1, none⟩ (.int .i64 h.s)).setCell ⟨gt, j * 3 + 2, none⟩ (.slice A9 h.n c9)).setCell ⟨w.heap.size + 1 + 1, 0, none⟩ (.int .i64 h.f)).setCell ⟨w.heap.size + 1 + 1, 1, none⟩ (.int .i64 h.s)).setCell ⟨w.heap.size + 1 + 1, 2, none⟩ (.slice A9 h.n c9)) (w.heap.size + 1 + 1) 87 #[.int .i64 h.f, .int .i64 h.s, .slice A9 h.n c9] := put3_blk hRm (.int .i64 h.f) (.int .i64 h.s) (.slice A9 h.n c9)
   have hTr : Blk ((((((wm.setCell ⟨gt, j * 3, none⟩ (.int .i64 h.f)).setCell ⟨gt, j * 3 + 1, none⟩ (.int .i64 h.s)).setCell ⟨gt, j * 3 + 2, none⟩ (.slice A9 h.n c9)).setCell ⟨w.heap.size + 1 + 1, 0, none⟩ (.int .i64 h.f)).setCell ⟨w.heap.size + 1 + 1, 1, none⟩ (.int .i64 h.s)).setCell ⟨w.heap.size + 1 + 1, 2, none⟩ (.slice A9 h.n c9)) gt 101 (six (M.set j ⟨h.f, h.s, A9, h.n, c9⟩)) := hTt.grown (put3_grown _ _ (.int .i64 h.f) (.int .i64 h.s) (.slice A9 h.n c9)) (by simp; omega)
   have hSr : Blk ((((((wm.setCell ⟨gt, j * 3, none⟩ (.int .i64 h.f)).setCell ⟨gt, j * 3 + 1, none⟩ (.int .i64 h.s)).setCell ⟨gt, j * 3 + 2, none⟩ (.slice A9 h.n c9)).setCell ⟨w.heap.size + 1 + 1, 0, none⟩ (.int .i64 h.f)).setCell ⟨w.heap.size + 1 + 1, 1, none⟩ (.int .i64 h.s)).setCell ⟨w.heap.size + 1 + 1, 2, none⟩ (.slice A9 h.n c9)) gs 101 (six (L.set j h)) := (by repeat (first | with_reducible exact hS | with_reducible refine Blk.far ?_ (by dsimp only; omega) _))
   have hGr : Gp (Two gs gt) w ((((((wm.setCell ⟨gt, j * 3, none⟩ (.int .i64 h.f)).setCell ⟨gt, j * 3 + 1, none⟩ (.int .i64 h.s)).setCell ⟨gt, j * 3 + 2, none⟩ (.slice A9 h.n c9)).setCell ⟨w.heap.size + 1 + 1, 0, none⟩ (.int .i64 h.f)).setCell ⟨w.heap.size + 1 + 1, 1, none⟩ (.int .i64 h.s)).setCell ⟨w.heap.size + 1 + 1, 2, none⟩ (.slice A9 h.n c9)) := (by repeat (first | with_reducible assumption | with_reducible refine Gp.drew ?_ | with_reducible refine Gp.alloc ?_ _ | with_reducible refine Gp.setCell ?_ (by first | exact Or.inl (two_l _ _) | exact Or.inl (two_r _ _) | (right; dsimp only; omega)) _ | with_reducible exact Gp.refl _ _))
   have hRd : RdM ((((((wm.setCell ⟨gt, j * 3, none⟩ (.int .i64 h.f)).setCell ⟨gt, j * 3 + 1, none⟩ (.int .i64 h.s)).setCell ⟨gt, j * 3 + 2, none⟩ (.slice A9 h.n c9)).setCell ⟨w.heap.size + 1 + 1, 0, none⟩ (.int .i64 h.f)).setCell ⟨w.heap.size + 1 + 1, 1, none⟩ (.int .i64 h.s)).setCell ⟨w.heap.size + 1 + 1, 2, none⟩ (.slice A9 h.n c9)) ⟨h.f, h.s, A9, h.n, c9⟩ (takenP p l j m mo) := by
    rw [taken_1 HT.out]
    have hGw : Gp (fun b => b < wc.heap.size) wm ((((((wm.setCell ⟨gt, j * 3, none⟩ (.int .i64 h.f)).setCell ⟨gt, j * 3 + 1, none⟩ (.int .i64 h.s)).setCell ⟨gt, j * 3 + 2, none⟩ (.slice A9 h.n c9)).setCell ⟨w.heap.size + 1 + 1, 0, none⟩ (.int .i64 h.f)).setCell ⟨w.heap.size + 1 + 1, 1, none⟩ (.int .i64 h.s)).setCell ⟨w.heap.size + 1 + 1, 2, none⟩ (.slice A9 h.n c9)) := by repeat (first | with_reducible exact Gp.refl _ _ | with_reducible refine Gp.setCell ?_ (Or.inl (by dsimp only; omega)) _)
    exact ⟨HF.out, hm.s, (OwnI.gp hRo hGw (fun k hk e => by have := (hRo.blk k hk).1; omega)).rd⟩
   generalize ((((((wm.setCell ⟨gt, j * 3, none⟩ (.int .i64 h.f)).setCell ⟨gt, j * 3 + 1, none⟩ (.int .i64 h.s)).setCell ⟨gt, j * 3 + 2, none⟩ (.slice A9 h.n c9)).setCell ⟨w.heap.size + 1 + 1, 0, none⟩ (.int .i64 h.f)).setCell ⟨w.heap.size + 1 + 1, 1, none⟩ (.int .i64 h.s)).setCell ⟨w.heap.size + 1 + 1, 2, none⟩ (.slice A9 h.n c9)) = wz at hR3 hTr hSr hGr hRd ⊢
   have R3_0 := hR3.cell 0 _ rfl
   have R3_1 := hR3.cell 1 _ rfl
   have R3_2 := hR3.cell 2 _ rfl
   refine bodyPost_ret (v := .agg #[.int .i64 h.f, .int .i64 h.s, .slice A9 h.n c9]) (by simp [results, Tryd.results67, go_sem, R3_0, R3_1, R3_2]) rfl ?_
   exact ⟨⟨h.f, h.s, A9, h.n, c9⟩, rfl, hRd, (fun k hk => hQn k (by have := (hRo.blk k hk).1; omega)), hSr, hTr, hGr⟩
set_option maxRecDepth 20000 in
set_option maxHeartbeats 4000000 in
theorem change_d (j : Nat) (hj : j < 6) (p : Int) (h xj yj : Hm) (L M : List Hm) (hL : L.length = 6) (hM6 : M.length = 6) (hLj : L[j]? = some xj) (hMj : M[j]? = some yj) (m mo : Ms) (gs gt gl ga : Nat) (Al : Option Addr) (nl cl : Nat) (l : List Md) (W0 w : World) (hb0 : Bl W0 w) (hgs : W0.heap.size ≤ gs) (hgt : W0.heap.size ≤ gt) (hne : gs ≠ gt) (hp : 2 ≤ p ∧ p ≤ 251)
  (kl : W0.cell? ⟨gl, 0, none⟩ = some (.slice Al nl cl)) (ka : W0.cell? ⟨ga, 0, none⟩ = some (.int .i64 p)) (hl : RdMd W0 Al nl cl l) (hml : mdsB p l = true) (hS : Blk w gs 101 (six L)) (hT : Blk w gt 101 (six M))
  (hm : RdM w h m) (hmb : m.b.length = bodyN (j / 2) ∧ ∀ y ∈ m.b, 0 ≤ y ∧ y < p) (hmf : m.f = 0 ∨ m.f = 1) (Q : Nat → Prop) (hQT : ∀ k, Q k → ¬ Two gs gt k) (hQn : ∀ k, w.heap.size ≤ k → Q k) (hna : ∀ k, h.blk = some k → Q k) (K A N V : Int) (k : Nat) (hlk : l[k]? = some ⟨K, A, N, V⟩) (hat : meddleAt l (j : Int) = some ⟨K, A, N, V⟩) (hv : meddleV l (j : Int) = (k : Int)) (hK : K = 2) :
  Calls Tryd.prog 67 (#[.int .i64 (j : Int), .agg #[.int .i64 h.f, .int .i64 h.s, .slice h.A h.n h.c]] ++ #[.pointer (some ⟨gs, 0, none⟩), .pointer (some ⟨gl, 0, none⟩), .pointer (some ⟨ga, 0, none⟩), .pointer (some ⟨gt, 0, none⟩)]) w
   fun e w' => ∃ h' : Hm, e = .returned h'.val ∧ RdM w' h' (takenP p l j m mo) ∧ (∀ k, h'.blk = some k → Q k) ∧ Blk w' gs 101 (six (L.set j h)) ∧ Blk w' gt 101 (six (M.set j h')) ∧ Gp (Two gs gt) w w' := by
 have hsl := hS.lt
 have htl := hT.lt
 have hw0 := hb0.sz
 have hsf := hS.frozen
 have htf := hT.frozen
 have hne2 : ¬ gt = gs := fun e => hne e.symm
 have hmn : h.n = bodyN (j / 2) := by have := hm.b.length; have := hmb.1; omega
 have hgl1 : gl < W0.heap.size := World.block_lt_of_cell? W0 _ kl
 have hga1 : ga < W0.heap.size := World.block_lt_of_cell? W0 _ ka
 have hgl2 : ¬ gl = gs := by omega
 have hgl3 : ¬ gl = gt := by omega
 have hga2 : ¬ ga = gs := by omega
 have hga3 : ¬ ga = gt := by omega
 have hmN := bodyN_le (j / 2)
 have hn4 : h.n ≤ 4 := by omega
 have hhf := hm.f
 have zf : IntKind.i64.wrap (1 - h.f) = 1 - h.f := IntWalk.i64_in _ (by omega)
 have hfr : h.f = 0 ∨ h.f = 1 := by omega
 have ij0 : (0 : Int) ≤ j := by omega
 have ij6 : (j : Int) < 6 := by omega
 have hjL : j < L.length := by omega
 have hjM : j < M.length := by omega
 have hLj2 : (L.set j h)[j]? = some h := List.getElem?_set_self hjL
 have HL6 := Lib.hid hL
 have HM6 := Lib.hid hM6
 have HF := Lib.hid hhf
 have HN := Lib.hid hmn
 have HMF := Lib.hid hmf
 clear hmn hhf hmf hL hM6
 have HV := Lib.hid hv
 have hkn : k < nl := by have := (List.getElem?_eq_some_iff.1 hlk).1; have := hl.2; omega
 have i1 : (k : Int) < nl := by omega
 obtain ⟨ad, K', A', N', V', hAl, hx, q0, q1, q2, q3⟩ := hl.at_ hkn
 rw [hlk] at hx
 injection hx with hx
 injection hx with e1 e2 e3 e4
 subst e1 e2 e3 e4
 subst hAl
 have Q0 := Lib.hid q0
 have Q2 := Lib.hid q2
 have Q3 := Lib.hid q3
 have HT := Lib.hid hat
 clear q0 q1 q2 q3 hlk hat hv
 · subst hK
   have hW : Bl W0 (((w.alloc (.cells #[.int .i64 (j : Int)] 3)).alloc (.cells #[.int .i64 h.f, .int .i64 h.s, .slice h.A h.n h.c] 87)).alloc (.cells #[.int .i64 0, .int .i64 0, .slice none 0 0] 87)) := Bl.a3
   have hQ : Blk (((w.alloc (.cells #[.int .i64 (j : Int)] 3)).alloc (.cells #[.int .i64 h.f, .int .i64 h.s, .slice h.A h.n h.c] 87)).alloc (.cells #[.int .i64 0, .int .i64 0, .slice none 0 0] 87)) (w.heap.size) 3 #[.int .i64 (j : Int)] := (((Blk.new w 3 #[.int .i64 (j : Int)] (g := w.heap.size)).alloc (.cells #[.int .i64 h.f, .int .i64 h.s, .slice h.A h.n h.c] 87)).alloc (.cells #[.int .i64 0, .int .i64 0, .slice none 0 0] 87))
   have hM : Blk (((w.alloc (.cells #[.int .i64 (j : Int)] 3)).alloc (.cells #[.int .i64 h.f, .int .i64 h.s, .slice h.A h.n h.c] 87)).alloc (.cells #[.int .i64 0, .int .i64 0, .slice none 0 0] 87)) (w.heap.size + 1) 87 #[.int .i64 h.f, .int .i64 h.s, .slice h.A h.n h.c] := ((Blk.new (w.alloc (.cells #[.int .i64 (j : Int)] 3)) 87 #[.int .i64 h.f, .int .i64 h.s, .slice h.A h.n h.c] (g := w.heap.size + 1)).alloc (.cells #[.int .i64 0, .int .i64 0, .slice none 0 0] 87))
   have hR : Blk (((w.alloc (.cells #[.int .i64 (j : Int)] 3)).alloc (.cells #[.int .i64 h.f, .int .i64 h.s, .slice h.A h.n h.c] 87)).alloc (.cells #[.int .i64 0, .int .i64 0, .slice none 0 0] 87)) (w.heap.size + 1 + 1) 87 #[.int .i64 0, .int .i64 0, .slice none 0 0] := (Blk.new ((w.alloc (.cells #[.int .i64 (j : Int)] 3)).alloc (.cells #[.int .i64 h.f, .int .i64 h.s, .slice h.A h.n h.c] 87)) 87 #[.int .i64 0, .int .i64 0, .slice none 0 0] (g := w.heap.size + 1 + 1))
   replace hS : Blk (((w.alloc (.cells #[.int .i64 (j : Int)] 3)).alloc (.cells #[.int .i64 h.f, .int .i64 h.s, .slice h.A h.n h.c] 87)).alloc (.cells #[.int .i64 0, .int .i64 0, .slice none 0 0] 87)) gs 101 (six L) := ((hS.alloc _).alloc _).alloc _
   replace hT : Blk (((w.alloc (.cells #[.int .i64 (j : Int)] 3)).alloc (.cells #[.int .i64 h.f, .int .i64 h.s, .slice h.A h.n h.c] 87)).alloc (.cells #[.int .i64 0, .int .i64 0, .slice none 0 0] 87)) gt 101 (six M) := ((hT.alloc _).alloc _).alloc _
   have Q_l := hQ.lt; have Q_f := hQ.frozen; have Q_0 := hQ.cell 0 _ rfl; obtain ⟨M_l, M_f, M_0, M_1, M_2⟩ := hM.l3; obtain ⟨R_l, R_f, R_0, R_1, R_2⟩ := hR.l3; have S_l := hS.lt; have S_f := hS.frozen; have T_l := hT.lt; have T_f := hT.frozen; have HS_ := six_cells hS hLj; have S_0 := HS_.1; have S_1 := HS_.2.1; have S_2 := HS_.2.2; have HT_ := six_cells hT hMj; have T_0 := HT_.1; have T_1 := HT_.2.1; have T_2 := HT_.2.2; clear HS_ HT_
   have kl1 := hW.cells kl
   have ka1 := hW.cells ka
   go_enter Tryd.func67, Tryd.ntmps67
   go_wp2_with fail
   (try clear Q_l Q_f Q_0 M_l M_f M_0 M_1 M_2 R_l R_f R_0 R_1 R_2); (try clear S_l S_f T_l T_f S_0 S_1 S_2 T_0 T_1 T_2)
   replace hS : Blk ((((((w.alloc (.cells #[.int .i64 (j : Int)] 3)).alloc (.cells #[.int .i64 h.f, .int .i64 h.s, .slice h.A h.n h.c] 87)).alloc (.cells #[.int .i64 0, .int .i64 0, .slice none 0 0] 87)).setCell ⟨gs, j * 3, none⟩ (.int .i64 h.f)).setCell ⟨gs, j * 3 + 1, none⟩ (.int .i64 h.s)).setCell ⟨gs, j * 3 + 2, none⟩ (.slice h.A h.n h.c)) gs 101 (six (L.set j h)) := six_put hS hjL h
   replace hQ : Blk ((((((w.alloc (.cells #[.int .i64 (j : Int)] 3)).alloc (.cells #[.int .i64 h.f, .int .i64 h.s, .slice h.A h.n h.c] 87)).alloc (.cells #[.int .i64 0, .int .i64 0, .slice none 0 0] 87)).setCell ⟨gs, j * 3, none⟩ (.int .i64 h.f)).setCell ⟨gs, j * 3 + 1, none⟩ (.int .i64 h.s)).setCell ⟨gs, j * 3 + 2, none⟩ (.slice h.A h.n h.c)) (w.heap.size) 3 #[.int .i64 (j : Int)] := ((hQ.far (by dsimp only; omega) _).far (by dsimp only; omega) _).far (by dsimp only; omega) _
   replace hM : Blk ((((((w.alloc (.cells #[.int .i64 (j : Int)] 3)).alloc (.cells #[.int .i64 h.f, .int .i64 h.s, .slice h.A h.n h.c] 87)).alloc (.cells #[.int .i64 0, .int .i64 0, .slice none 0 0] 87)).setCell ⟨gs, j * 3, none⟩ (.int .i64 h.f)).setCell ⟨gs, j * 3 + 1, none⟩ (.int .i64 h.s)).setCell ⟨gs, j * 3 + 2, none⟩ (.slice h.A h.n h.c)) (w.heap.size + 1) 87 #[.int .i64 h.f, .int .i64 h.s, .slice h.A h.n h.c] := ((hM.far (by dsimp only; omega) _).far (by dsimp only; omega) _).far (by dsimp only; omega) _
   replace hR : Blk ((((((w.alloc (.cells #[.int .i64 (j : Int)] 3)).alloc (.cells #[.int .i64 h.f, .int .i64 h.s, .slice h.A h.n h.c] 87)).alloc (.cells #[.int .i64 0, .int .i64 0, .slice none 0 0] 87)).setCell ⟨gs, j * 3, none⟩ (.int .i64 h.f)).setCell ⟨gs, j * 3 + 1, none⟩ (.int .i64 h.s)).setCell ⟨gs, j * 3 + 2, none⟩ (.slice h.A h.n h.c)) (w.heap.size + 1 + 1) 87 #[.int .i64 0, .int .i64 0, .slice none 0 0] := ((hR.far (by dsimp only; omega) _).far (by dsimp only; omega) _).far (by dsimp only; omega) _
   replace hT : Blk ((((((w.alloc (.cells #[.int .i64 (j : Int)] 3)).alloc (.cells #[.int .i64 h.f, .int .i64 h.s, .slice h.A h.n h.c] 87)).alloc (.cells #[.int .i64 0, .int .i64 0, .slice none 0 0] 87)).setCell ⟨gs, j * 3, none⟩ (.int .i64 h.f)).setCell ⟨gs, j * 3 + 1, none⟩ (.int .i64 h.s)).setCell ⟨gs, j * 3 + 2, none⟩ (.slice h.A h.n h.c)) gt 101 (six M) := ((hT.far (by dsimp only; omega) _).far (by dsimp only; omega) _).far (by dsimp only; omega) _
   have hG : Gp (Two gs gt) w ((((((w.alloc (.cells #[.int .i64 (j : Int)] 3)).alloc (.cells #[.int .i64 h.f, .int .i64 h.s, .slice h.A h.n h.c] 87)).alloc (.cells #[.int .i64 0, .int .i64 0, .slice none 0 0] 87)).setCell ⟨gs, j * 3, none⟩ (.int .i64 h.f)).setCell ⟨gs, j * 3 + 1, none⟩ (.int .i64 h.s)).setCell ⟨gs, j * 3 + 2, none⟩ (.slice h.A h.n h.c)) := (by repeat (first | with_reducible assumption | with_reducible refine Gp.drew ?_ | with_reducible refine Gp.alloc ?_ _ | with_reducible refine Gp.setCell ?_ (by first | exact Or.inl (two_l _ _) | exact Or.inl (two_r _ _) | (right; dsimp only; omega)) _ | with_reducible exact Gp.refl _ _))
   replace hW : Bl W0 ((((((w.alloc (.cells #[.int .i64 (j : Int)] 3)).alloc (.cells #[.int .i64 h.f, .int .i64 h.s, .slice h.A h.n h.c] 87)).alloc (.cells #[.int .i64 0, .int .i64 0, .slice none 0 0] 87)).setCell ⟨gs, j * 3, none⟩ (.int .i64 h.f)).setCell ⟨gs, j * 3 + 1, none⟩ (.int .i64 h.s)).setCell ⟨gs, j * 3 + 2, none⟩ (.slice h.A h.n h.c)) := Bl.a3
   have hsz : w.heap.size + 2 < (((((((w.alloc (.cells #[.int .i64 (j : Int)] 3)).alloc (.cells #[.int .i64 h.f, .int .i64 h.s, .slice h.A h.n h.c] 87)).alloc (.cells #[.int .i64 0, .int .i64 0, .slice none 0 0] 87)).setCell ⟨gs, j * 3, none⟩ (.int .i64 h.f)).setCell ⟨gs, j * 3 + 1, none⟩ (.int .i64 h.s)).setCell ⟨gs, j * 3 + 2, none⟩ (.slice h.A h.n h.c))).heap.size := hR.lt
   clear kl1 ka1
   generalize ((((((w.alloc (.cells #[.int .i64 (j : Int)] 3)).alloc (.cells #[.int .i64 h.f, .int .i64 h.s, .slice h.A h.n h.c] 87)).alloc (.cells #[.int .i64 0, .int .i64 0, .slice none 0 0] 87)).setCell ⟨gs, j * 3, none⟩ (.int .i64 h.f)).setCell ⟨gs, j * 3 + 1, none⟩ (.int .i64 h.s)).setCell ⟨gs, j * 3 + 2, none⟩ (.slice h.A h.n h.c)) = wb at hQ hM hR hS hT hG hW hsz ⊢
   have kl1 := hW.cells kl
   have ka1 := hW.cells ka
   have Q_l := hQ.lt; have Q_f := hQ.frozen; have Q_0 := hQ.cell 0 _ rfl; obtain ⟨M_l, M_f, M_0, M_1, M_2⟩ := hM.l3; obtain ⟨R_l, R_f, R_0, R_1, R_2⟩ := hR.l3; have S_l := hS.lt; have S_f := hS.frozen; have T_l := hT.lt; have T_f := hT.frozen; have HS_ := six_cells hS hLj2; have S_0 := HS_.1; have S_1 := HS_.2.1; have S_2 := HS_.2.2; have HT_ := six_cells hT hMj; have T_0 := HT_.1; have T_1 := HT_.2.1; have T_2 := HT_.2.2; clear HS_ HT_
   refine (slices_IndexFunc_md (j : Int) (w.heap.size) _ nl cl l _ Q_0 (hl.keep hW)).mono ?_
   rintro e wc ⟨rfl, hb1⟩
   rw [HV.out]
   replace hG := hG.call hb1
   replace hW : Bl W0 wc := Bl.a3; replace hQ := hQ.kp hb1; replace hM := hM.kp hb1; replace hR := hR.kp hb1; (try clear Q_l Q_f Q_0 M_l M_f M_0 M_1 M_2 R_l R_f R_0 R_1 R_2); have Q_l := hQ.lt; have Q_f := hQ.frozen; have Q_0 := hQ.cell 0 _ rfl; obtain ⟨M_l, M_f, M_0, M_1, M_2⟩ := hM.l3; obtain ⟨R_l, R_f, R_0, R_1, R_2⟩ := hR.l3; (try clear S_l S_f T_l T_f S_0 S_1 S_2 T_0 T_1 T_2); replace hS := hS.keep hb1; replace hT := hT.keep hb1; have S_l := hS.lt; have S_f := hS.frozen; have T_l := hT.lt; have T_f := hT.frozen; have HS_ := six_cells hS hLj2; have S_0 := HS_.1; have S_1 := HS_.2.1; have S_2 := HS_.2.2; have HT_ := six_cells hT hMj; have T_0 := HT_.1; have T_1 := HT_.2.1; have T_2 := HT_.2.2; clear HS_ HT_
   replace kl1 := hW.cells kl
   replace ka1 := hW.cells ka
   clear hb1
   have q0 := hW.cells Q0.out
   go_wp2
   have hTm : Blk (wc.setCell ⟨w.heap.size + 1, 2, none⟩ (.slice none 0 0)) gt 101 (six M) := (by repeat (first | with_reducible exact hT | with_reducible refine Blk.far ?_ (by dsimp only; omega) _))
   have hRm : Blk ((((wc.setCell ⟨w.heap.size + 1, 2, none⟩ (.slice none 0 0)).setCell ⟨gt, j * 3, none⟩ (.int .i64 h.f)).setCell ⟨gt, j * 3 + 1, none⟩ (.int .i64 h.s)).setCell ⟨gt, j * 3 + 2, none⟩ (.slice none 0 0)) (w.heap.size + 1 + 1) 87 #[.int .i64 0, .int .i64 0, .slice none 0 0] := (by repeat (first | with_reducible exact hR | with_reducible refine Blk.far ?_ (by dsimp only; omega) _))
   have hTt : Blk ((((wc.setCell ⟨w.heap.size + 1, 2, none⟩ (.slice none 0 0)).setCell ⟨gt, j * 3, none⟩ (.int .i64 h.f)).setCell ⟨gt, j * 3 + 1, none⟩ (.int .i64 h.s)).setCell ⟨gt, j * 3 + 2, none⟩ (.slice none 0 0)) gt 101 (six (M.set j ⟨h.f, h.s, none, 0, 0⟩)) := six_put hTm hjM ⟨h.f, h.s, none, 0, 0⟩
   have hR3 : Blk (((((((wc.setCell ⟨w.heap.size + 1, 2, none⟩ (.slice none 0 0)).setCell ⟨gt, j * 3, none⟩ (.int .i64 h.f)).setCell ⟨gt, j * 3 + 1, none⟩ (.int .i64 h.s)).setCell ⟨gt, j * 3 + 2, none⟩ (.slice none 0 0)).setCell ⟨w.heap.size + 1 + 1, 0, none⟩ (.int .i64 h.f)).setCell ⟨w.heap.size + 1 + 1, 1, none⟩ (.int .i64 h.s)).setCell ⟨w.heap.size + 1 + 1, 2, none⟩ (.slice none 0 0)) (w.heap.size + 1 + 1) 87 #[.int .i64 h.f, .int .i64 h.s, .slice none 0 0] := put3_blk hRm (.int .i64 h.f) (.int .i64 h.s) (.slice none 0 0)
   have hTr : Blk (((((((wc.setCell ⟨w.heap.size + 1, 2, none⟩ (.slice none 0 0)).setCell ⟨gt, j * 3, none⟩ (.int .i64 h.f)).setCell ⟨gt, j * 3 + 1, none⟩ (.int .i64 h.s)).setCell ⟨gt, j * 3 + 2, none⟩ (.slice none 0 0)).setCell ⟨w.heap.size + 1 + 1, 0, none⟩ (.int .i64 h.f)).setCell ⟨w.heap.size + 1 + 1, 1, none⟩ (.int .i64 h.s)).setCell ⟨w.heap.size + 1 + 1, 2, none⟩ (.slice none 0 0)) gt 101 (six (M.set j ⟨h.f, h.s, none, 0, 0⟩)) := hTt.grown (put3_grown _ _ (.int .i64 h.f) (.int .i64 h.s) (.slice none 0 0)) (by simp; omega)
   have hSr : Blk (((((((wc.setCell ⟨w.heap.size + 1, 2, none⟩ (.slice none 0 0)).setCell ⟨gt, j * 3, none⟩ (.int .i64 h.f)).setCell ⟨gt, j * 3 + 1, none⟩ (.int .i64 h.s)).setCell ⟨gt, j * 3 + 2, none⟩ (.slice none 0 0)).setCell ⟨w.heap.size + 1 + 1, 0, none⟩ (.int .i64 h.f)).setCell ⟨w.heap.size + 1 + 1, 1, none⟩ (.int .i64 h.s)).setCell ⟨w.heap.size + 1 + 1, 2, none⟩ (.slice none 0 0)) gs 101 (six (L.set j h)) := (by repeat (first | with_reducible exact hS | with_reducible refine Blk.far ?_ (by dsimp only; omega) _))
   have hGr : Gp (Two gs gt) w (((((((wc.setCell ⟨w.heap.size + 1, 2, none⟩ (.slice none 0 0)).setCell ⟨gt, j * 3, none⟩ (.int .i64 h.f)).setCell ⟨gt, j * 3 + 1, none⟩ (.int .i64 h.s)).setCell ⟨gt, j * 3 + 2, none⟩ (.slice none 0 0)).setCell ⟨w.heap.size + 1 + 1, 0, none⟩ (.int .i64 h.f)).setCell ⟨w.heap.size + 1 + 1, 1, none⟩ (.int .i64 h.s)).setCell ⟨w.heap.size + 1 + 1, 2, none⟩ (.slice none 0 0)) := (by repeat (first | with_reducible assumption | with_reducible refine Gp.drew ?_ | with_reducible refine Gp.alloc ?_ _ | with_reducible refine Gp.setCell ?_ (by first | exact Or.inl (two_l _ _) | exact Or.inl (two_r _ _) | (right; dsimp only; omega)) _ | with_reducible exact Gp.refl _ _))
   have hRd : RdM (((((((wc.setCell ⟨w.heap.size + 1, 2, none⟩ (.slice none 0 0)).setCell ⟨gt, j * 3, none⟩ (.int .i64 h.f)).setCell ⟨gt, j * 3 + 1, none⟩ (.int .i64 h.s)).setCell ⟨gt, j * 3 + 2, none⟩ (.slice none 0 0)).setCell ⟨w.heap.size + 1 + 1, 0, none⟩ (.int .i64 h.f)).setCell ⟨w.heap.size + 1 + 1, 1, none⟩ (.int .i64 h.s)).setCell ⟨w.heap.size + 1 + 1, 2, none⟩ (.slice none 0 0)) ⟨h.f, h.s, none, 0, 0⟩ (takenP p l j m mo) := by rw [taken_2 HT.out]; exact ⟨HF.out, hm.s, Rd.nil _ 1⟩
   generalize (((((((wc.setCell ⟨w.heap.size + 1, 2, none⟩ (.slice none 0 0)).setCell ⟨gt, j * 3, none⟩ (.int .i64 h.f)).setCell ⟨gt, j * 3 + 1, none⟩ (.int .i64 h.s)).setCell ⟨gt, j * 3 + 2, none⟩ (.slice none 0 0)).setCell ⟨w.heap.size + 1 + 1, 0, none⟩ (.int .i64 h.f)).setCell ⟨w.heap.size + 1 + 1, 1, none⟩ (.int .i64 h.s)).setCell ⟨w.heap.size + 1 + 1, 2, none⟩ (.slice none 0 0)) = wz at hR3 hTr hSr hGr hRd ⊢
   have R3_0 := hR3.cell 0 _ rfl
   have R3_1 := hR3.cell 1 _ rfl
   have R3_2 := hR3.cell 2 _ rfl
   refine bodyPost_ret (v := .agg #[.int .i64 h.f, .int .i64 h.s, .slice none 0 0]) (by simp [results, Tryd.results67, go_sem, R3_0, R3_1, R3_2]) rfl ?_
   exact ⟨⟨h.f, h.s, none, 0, 0⟩, rfl, hRd, (fun k hk => by cases hk), hSr, hTr, hGr⟩
set_option maxRecDepth 20000 in
set_option maxHeartbeats 4000000 in
theorem change_r (j : Nat) (hj : j < 6) (p : Int) (h xj yj : Hm) (L M : List Hm) (hL : L.length = 6) (hM6 : M.length = 6) (hLj : L[j]? = some xj) (hMj : M[j]? = some yj) (m mo : Ms) (gs gt gl ga : Nat) (Al : Option Addr) (nl cl : Nat) (l : List Md) (W0 w : World) (hb0 : Bl W0 w) (hgs : W0.heap.size ≤ gs) (hgt : W0.heap.size ≤ gt) (hne : gs ≠ gt) (hp : 2 ≤ p ∧ p ≤ 251)
  (kl : W0.cell? ⟨gl, 0, none⟩ = some (.slice Al nl cl)) (ka : W0.cell? ⟨ga, 0, none⟩ = some (.int .i64 p)) (hl : RdMd W0 Al nl cl l) (hml : mdsB p l = true) (hS : Blk w gs 101 (six L)) (hT : Blk w gt 101 (six M))
  (hm : RdM w h m) (hmb : m.b.length = bodyN (j / 2) ∧ ∀ y ∈ m.b, 0 ≤ y ∧ y < p) (hmf : m.f = 0 ∨ m.f = 1) (Q : Nat → Prop) (hQT : ∀ k, Q k → ¬ Two gs gt k) (hQn : ∀ k, w.heap.size ≤ k → Q k) (hna : ∀ k, h.blk = some k → Q k) (xo : Hm) (h2 : 2 ≤ j) (hLo : L[j - 2]? = some xo) (ho : RdM w xo mo) (hnoo : ∀ k, xo.blk = some k → Q k) (K A N V : Int) (k : Nat) (hlk : l[k]? = some ⟨K, A, N, V⟩) (hat : meddleAt l (j : Int) = some ⟨K, A, N, V⟩) (hv : meddleV l (j : Int) = (k : Int)) (hK : K = 3) :
  Calls Tryd.prog 67 (#[.int .i64 (j : Int), .agg #[.int .i64 h.f, .int .i64 h.s, .slice h.A h.n h.c]] ++ #[.pointer (some ⟨gs, 0, none⟩), .pointer (some ⟨gl, 0, none⟩), .pointer (some ⟨ga, 0, none⟩), .pointer (some ⟨gt, 0, none⟩)]) w
   fun e w' => ∃ h' : Hm, e = .returned h'.val ∧ RdM w' h' (takenP p l j m mo) ∧ (∀ k, h'.blk = some k → Q k) ∧ Blk w' gs 101 (six (L.set j h)) ∧ Blk w' gt 101 (six (M.set j h')) ∧ Gp (Two gs gt) w w' := by
 have hsl := hS.lt
 have htl := hT.lt
 have hw0 := hb0.sz
 have hsf := hS.frozen
 have htf := hT.frozen
 have hne2 : ¬ gt = gs := fun e => hne e.symm
 have hmn : h.n = bodyN (j / 2) := by have := hm.b.length; have := hmb.1; omega
 have hgl1 : gl < W0.heap.size := World.block_lt_of_cell? W0 _ kl
 have hga1 : ga < W0.heap.size := World.block_lt_of_cell? W0 _ ka
 have hgl2 : ¬ gl = gs := by omega
 have hgl3 : ¬ gl = gt := by omega
 have hga2 : ¬ ga = gs := by omega
 have hga3 : ¬ ga = gt := by omega
 have hmN := bodyN_le (j / 2)
 have hn4 : h.n ≤ 4 := by omega
 have hhf := hm.f
 have zf : IntKind.i64.wrap (1 - h.f) = 1 - h.f := IntWalk.i64_in _ (by omega)
 have hfr : h.f = 0 ∨ h.f = 1 := by omega
 have ij0 : (0 : Int) ≤ j := by omega
 have ij6 : (j : Int) < 6 := by omega
 have hjL : j < L.length := by omega
 have hjM : j < M.length := by omega
 have hLj2 : (L.set j h)[j]? = some h := List.getElem?_set_self hjL
 have HL6 := Lib.hid hL
 have HM6 := Lib.hid hM6
 have HF := Lib.hid hhf
 have HN := Lib.hid hmn
 have HMF := Lib.hid hmf
 clear hmn hhf hmf hL hM6
 have HV := Lib.hid hv
 have hkn : k < nl := by have := (List.getElem?_eq_some_iff.1 hlk).1; have := hl.2; omega
 have i1 : (k : Int) < nl := by omega
 obtain ⟨ad, K', A', N', V', hAl, hx, q0, q1, q2, q3⟩ := hl.at_ hkn
 rw [hlk] at hx
 injection hx with hx
 injection hx with e1 e2 e3 e4
 subst e1 e2 e3 e4
 subst hAl
 have Q0 := Lib.hid q0
 have Q2 := Lib.hid q2
 have Q3 := Lib.hid q3
 have HT := Lib.hid hat
 clear q0 q1 q2 q3 hlk hat hv
 have zj : IntKind.i64.wrap ((j : Int) - 2) = ((j - 2 : Nat) : Int) := by rw [IntWalk.i64_in _ (by omega)]; omega
 have hLo2 : (L.set j h)[j - 2]? = some xo := by rw [List.getElem?_set_ne (by omega)]; exact hLo
 generalize j - 2 = jq at zj hLo2
 have iq6 : (jq : Int) < 6 := by have := HL6.out; have := (List.getElem?_eq_some_iff.1 hLo2).1; rw [List.length_set] at this; omega
 · subst hK
   have hW : Bl W0 (((w.alloc (.cells #[.int .i64 (j : Int)] 3)).alloc (.cells #[.int .i64 h.f, .int .i64 h.s, .slice h.A h.n h.c] 87)).alloc (.cells #[.int .i64 0, .int .i64 0, .slice none 0 0] 87)) := Bl.a3
   have hQ : Blk (((w.alloc (.cells #[.int .i64 (j : Int)] 3)).alloc (.cells #[.int .i64 h.f, .int .i64 h.s, .slice h.A h.n h.c] 87)).alloc (.cells #[.int .i64 0, .int .i64 0, .slice none 0 0] 87)) (w.heap.size) 3 #[.int .i64 (j : Int)] := (((Blk.new w 3 #[.int .i64 (j : Int)] (g := w.heap.size)).alloc (.cells #[.int .i64 h.f, .int .i64 h.s, .slice h.A h.n h.c] 87)).alloc (.cells #[.int .i64 0, .int .i64 0, .slice none 0 0] 87))
   have hM : Blk (((w.alloc (.cells #[.int .i64 (j : Int)] 3)).alloc (.cells #[.int .i64 h.f, .int .i64 h.s, .slice h.A h.n h.c] 87)).alloc (.cells #[.int .i64 0, .int .i64 0, .slice none 0 0] 87)) (w.heap.size + 1) 87 #[.int .i64 h.f, .int .i64 h.s, .slice h.A h.n h.c] := ((Blk.new (w.alloc (.cells #[.int .i64 (j : Int)] 3)) 87 #[.int .i64 h.f, .int .i64 h.s, .slice h.A h.n h.c] (g := w.heap.size + 1)).alloc (.cells #[.int .i64 0, .int .i64 0, .slice none 0 0] 87))
   have hR : Blk (((w.alloc (.cells #[.int .i64 (j : Int)] 3)).alloc (.cells #[.int .i64 h.f, .int .i64 h.s, .slice h.A h.n h.c] 87)).alloc (.cells #[.int .i64 0, .int .i64 0, .slice none 0 0] 87)) (w.heap.size + 1 + 1) 87 #[.int .i64 0, .int .i64 0, .slice none 0 0] := (Blk.new ((w.alloc (.cells #[.int .i64 (j : Int)] 3)).alloc (.cells #[.int .i64 h.f, .int .i64 h.s, .slice h.A h.n h.c] 87)) 87 #[.int .i64 0, .int .i64 0, .slice none 0 0] (g := w.heap.size + 1 + 1))
   replace hS : Blk (((w.alloc (.cells #[.int .i64 (j : Int)] 3)).alloc (.cells #[.int .i64 h.f, .int .i64 h.s, .slice h.A h.n h.c] 87)).alloc (.cells #[.int .i64 0, .int .i64 0, .slice none 0 0] 87)) gs 101 (six L) := ((hS.alloc _).alloc _).alloc _
   replace hT : Blk (((w.alloc (.cells #[.int .i64 (j : Int)] 3)).alloc (.cells #[.int .i64 h.f, .int .i64 h.s, .slice h.A h.n h.c] 87)).alloc (.cells #[.int .i64 0, .int .i64 0, .slice none 0 0] 87)) gt 101 (six M) := ((hT.alloc _).alloc _).alloc _
   have Q_l := hQ.lt; have Q_f := hQ.frozen; have Q_0 := hQ.cell 0 _ rfl; obtain ⟨M_l, M_f, M_0, M_1, M_2⟩ := hM.l3; obtain ⟨R_l, R_f, R_0, R_1, R_2⟩ := hR.l3; have S_l := hS.lt; have S_f := hS.frozen; have T_l := hT.lt; have T_f := hT.frozen; have HS_ := six_cells hS hLj; have S_0 := HS_.1; have S_1 := HS_.2.1; have S_2 := HS_.2.2; have HT_ := six_cells hT hMj; have T_0 := HT_.1; have T_1 := HT_.2.1; have T_2 := HT_.2.2; clear HS_ HT_
   have kl1 := hW.cells kl
   have ka1 := hW.cells ka
   go_enter Tryd.func67, Tryd.ntmps67
   go_wp2_with fail
   (try clear Q_l Q_f Q_0 M_l M_f M_0 M_1 M_2 R_l R_f R_0 R_1 R_2); (try clear S_l S_f T_l T_f S_0 S_1 S_2 T_0 T_1 T_2)
   replace hS : Blk ((((((w.alloc (.cells #[.int .i64 (j : Int)] 3)).alloc (.cells #[.int .i64 h.f, .int .i64 h.s, .slice h.A h.n h.c] 87)).alloc (.cells #[.int .i64 0, .int .i64 0, .slice none 0 0] 87)).setCell ⟨gs, j * 3, none⟩ (.int .i64 h.f)).setCell ⟨gs, j * 3 + 1, none⟩ (.int .i64 h.s)).setCell ⟨gs, j * 3 + 2, none⟩ (.slice h.A h.n h.c)) gs 101 (six (L.set j h)) := six_put hS hjL h
   replace hQ : Blk ((((((w.alloc (.cells #[.int .i64 (j : Int)] 3)).alloc (.cells #[.int .i64 h.f, .int .i64 h.s, .slice h.A h.n h.c] 87)).alloc (.cells #[.int .i64 0, .int .i64 0, .slice none 0 0] 87)).setCell ⟨gs, j * 3, none⟩ (.int .i64 h.f)).setCell ⟨gs, j * 3 + 1, none⟩ (.int .i64 h.s)).setCell ⟨gs, j * 3 + 2, none⟩ (.slice h.A h.n h.c)) (w.heap.size) 3 #[.int .i64 (j : Int)] := ((hQ.far (by dsimp only; omega) _).far (by dsimp only; omega) _).far (by dsimp only; omega) _
   replace hM : Blk ((((((w.alloc (.cells #[.int .i64 (j : Int)] 3)).alloc (.cells #[.int .i64 h.f, .int .i64 h.s, .slice h.A h.n h.c] 87)).alloc (.cells #[.int .i64 0, .int .i64 0, .slice none 0 0] 87)).setCell ⟨gs, j * 3, none⟩ (.int .i64 h.f)).setCell ⟨gs, j * 3 + 1, none⟩ (.int .i64 h.s)).setCell ⟨gs, j * 3 + 2, none⟩ (.slice h.A h.n h.c)) (w.heap.size + 1) 87 #[.int .i64 h.f, .int .i64 h.s, .slice h.A h.n h.c] := ((hM.far (by dsimp only; omega) _).far (by dsimp only; omega) _).far (by dsimp only; omega) _
   replace hR : Blk ((((((w.alloc (.cells #[.int .i64 (j : Int)] 3)).alloc (.cells #[.int .i64 h.f, .int .i64 h.s, .slice h.A h.n h.c] 87)).alloc (.cells #[.int .i64 0, .int .i64 0, .slice none 0 0] 87)).setCell ⟨gs, j * 3, none⟩ (.int .i64 h.f)).setCell ⟨gs, j * 3 + 1, none⟩ (.int .i64 h.s)).setCell ⟨gs, j * 3 + 2, none⟩ (.slice h.A h.n h.c)) (w.heap.size + 1 + 1) 87 #[.int .i64 0, .int .i64 0, .slice none 0 0] := ((hR.far (by dsimp only; omega) _).far (by dsimp only; omega) _).far (by dsimp only; omega) _
   replace hT : Blk ((((((w.alloc (.cells #[.int .i64 (j : Int)] 3)).alloc (.cells #[.int .i64 h.f, .int .i64 h.s, .slice h.A h.n h.c] 87)).alloc (.cells #[.int .i64 0, .int .i64 0, .slice none 0 0] 87)).setCell ⟨gs, j * 3, none⟩ (.int .i64 h.f)).setCell ⟨gs, j * 3 + 1, none⟩ (.int .i64 h.s)).setCell ⟨gs, j * 3 + 2, none⟩ (.slice h.A h.n h.c)) gt 101 (six M) := ((hT.far (by dsimp only; omega) _).far (by dsimp only; omega) _).far (by dsimp only; omega) _
   have hG : Gp (Two gs gt) w ((((((w.alloc (.cells #[.int .i64 (j : Int)] 3)).alloc (.cells #[.int .i64 h.f, .int .i64 h.s, .slice h.A h.n h.c] 87)).alloc (.cells #[.int .i64 0, .int .i64 0, .slice none 0 0] 87)).setCell ⟨gs, j * 3, none⟩ (.int .i64 h.f)).setCell ⟨gs, j * 3 + 1, none⟩ (.int .i64 h.s)).setCell ⟨gs, j * 3 + 2, none⟩ (.slice h.A h.n h.c)) := (by repeat (first | with_reducible assumption | with_reducible refine Gp.drew ?_ | with_reducible refine Gp.alloc ?_ _ | with_reducible refine Gp.setCell ?_ (by first | exact Or.inl (two_l _ _) | exact Or.inl (two_r _ _) | (right; dsimp only; omega)) _ | with_reducible exact Gp.refl _ _))
   replace hW : Bl W0 ((((((w.alloc (.cells #[.int .i64 (j : Int)] 3)).alloc (.cells #[.int .i64 h.f, .int .i64 h.s, .slice h.A h.n h.c] 87)).alloc (.cells #[.int .i64 0, .int .i64 0, .slice none 0 0] 87)).setCell ⟨gs, j * 3, none⟩ (.int .i64 h.f)).setCell ⟨gs, j * 3 + 1, none⟩ (.int .i64 h.s)).setCell ⟨gs, j * 3 + 2, none⟩ (.slice h.A h.n h.c)) := Bl.a3
   have hsz : w.heap.size + 2 < (((((((w.alloc (.cells #[.int .i64 (j : Int)] 3)).alloc (.cells #[.int .i64 h.f, .int .i64 h.s, .slice h.A h.n h.c] 87)).alloc (.cells #[.int .i64 0, .int .i64 0, .slice none 0 0] 87)).setCell ⟨gs, j * 3, none⟩ (.int .i64 h.f)).setCell ⟨gs, j * 3 + 1, none⟩ (.int .i64 h.s)).setCell ⟨gs, j * 3 + 2, none⟩ (.slice h.A h.n h.c))).heap.size := hR.lt
   clear kl1 ka1
   generalize ((((((w.alloc (.cells #[.int .i64 (j : Int)] 3)).alloc (.cells #[.int .i64 h.f, .int .i64 h.s, .slice h.A h.n h.c] 87)).alloc (.cells #[.int .i64 0, .int .i64 0, .slice none 0 0] 87)).setCell ⟨gs, j * 3, none⟩ (.int .i64 h.f)).setCell ⟨gs, j * 3 + 1, none⟩ (.int .i64 h.s)).setCell ⟨gs, j * 3 + 2, none⟩ (.slice h.A h.n h.c)) = wb at hQ hM hR hS hT hG hW hsz ⊢
   have kl1 := hW.cells kl
   have ka1 := hW.cells ka
   have Q_l := hQ.lt; have Q_f := hQ.frozen; have Q_0 := hQ.cell 0 _ rfl; obtain ⟨M_l, M_f, M_0, M_1, M_2⟩ := hM.l3; obtain ⟨R_l, R_f, R_0, R_1, R_2⟩ := hR.l3; have S_l := hS.lt; have S_f := hS.frozen; have T_l := hT.lt; have T_f := hT.frozen; have HS_ := six_cells hS hLj2; have S_0 := HS_.1; have S_1 := HS_.2.1; have S_2 := HS_.2.2; have HT_ := six_cells hT hMj; have T_0 := HT_.1; have T_1 := HT_.2.1; have T_2 := HT_.2.2; clear HS_ HT_
   refine (slices_IndexFunc_md (j : Int) (w.heap.size) _ nl cl l _ Q_0 (hl.keep hW)).mono ?_
   rintro e wc ⟨rfl, hb1⟩
   rw [HV.out]
   replace hG := hG.call hb1
   replace hW : Bl W0 wc := Bl.a3; replace hQ := hQ.kp hb1; replace hM := hM.kp hb1; replace hR := hR.kp hb1; (try clear Q_l Q_f Q_0 M_l M_f M_0 M_1 M_2 R_l R_f R_0 R_1 R_2); have Q_l := hQ.lt; have Q_f := hQ.frozen; have Q_0 := hQ.cell 0 _ rfl; obtain ⟨M_l, M_f, M_0, M_1, M_2⟩ := hM.l3; obtain ⟨R_l, R_f, R_0, R_1, R_2⟩ := hR.l3; (try clear S_l S_f T_l T_f S_0 S_1 S_2 T_0 T_1 T_2); replace hS := hS.keep hb1; replace hT := hT.keep hb1; have S_l := hS.lt; have S_f := hS.frozen; have T_l := hT.lt; have T_f := hT.frozen; have HS_ := six_cells hS hLj2; have S_0 := HS_.1; have S_1 := HS_.2.1; have S_2 := HS_.2.2; have HT_ := six_cells hT hMj; have T_0 := HT_.1; have T_1 := HT_.2.1; have T_2 := HT_.2.2; clear HS_ HT_
   replace kl1 := hW.cells kl
   replace ka1 := hW.cells ka
   clear hb1
   have q0 := hW.cells Q0.out
   obtain ⟨S_6, S_7, S_8⟩ := six_cells hS hLo2
   go_wp2_with (refine wpList_plain rfl fun K hK => ?_; refine wp_store_row 87 _ _ rfl (w.heap.size + 1) #[.int .i64 xo.f, .int .i64 xo.s, .slice xo.A xo.n xo.c] rfl rfl 87 #[.int .i64 h.f, .int .i64 h.s, .slice h.A h.n h.c] hM (by kernel_rfl) rfl (by first | rfl | simp [Value.oneCell'] | kernel_rfl) ?_; refine hK _ _ ?_; clear S_6 S_7 S_8; (try clear Q_l Q_f Q_0 M_l M_f M_0 M_1 M_2 R_l R_f R_0 R_1 R_2); (try clear S_l S_f T_l T_f S_0 S_1 S_2 T_0 T_1 T_2); have hMm : Blk (wc.setRow (w.heap.size + 1) #[.int .i64 xo.f, .int .i64 xo.s, .slice xo.A xo.n xo.c]) (w.heap.size + 1) 87 #[.int .i64 xo.f, .int .i64 xo.s, .slice xo.A xo.n xo.c] := hM.row; have hQm : Blk (wc.setRow (w.heap.size + 1) #[.int .i64 xo.f, .int .i64 xo.s, .slice xo.A xo.n xo.c]) w.heap.size 3 #[.int .i64 (j : Int)] := hQ.farRow (by omega); replace hR : Blk (wc.setRow (w.heap.size + 1) #[.int .i64 xo.f, .int .i64 xo.s, .slice xo.A xo.n xo.c]) (w.heap.size + 1 + 1) 87 #[.int .i64 0, .int .i64 0, .slice none 0 0] := hR.farRow (by omega); replace hS : Blk (wc.setRow (w.heap.size + 1) #[.int .i64 xo.f, .int .i64 xo.s, .slice xo.A xo.n xo.c]) gs 101 (six (L.set j h)) := hS.farRow (by omega); replace hT : Blk (wc.setRow (w.heap.size + 1) #[.int .i64 xo.f, .int .i64 xo.s, .slice xo.A xo.n xo.c]) gt 101 (six M) := hT.farRow (by omega); replace hG : Gp (Two gs gt) w (wc.setRow (w.heap.size + 1) #[.int .i64 xo.f, .int .i64 xo.s, .slice xo.A xo.n xo.c]) := hG.grown (setRow_grown _ _ _) (fun k e => (by injection e with e; right; omega)); replace hW : Bl W0 (wc.setRow (w.heap.size + 1) #[.int .i64 xo.f, .int .i64 xo.s, .slice xo.A xo.n xo.c]) := hW.row (by omega) _; clear hQ hM; generalize (wc.setRow (w.heap.size + 1) #[.int .i64 xo.f, .int .i64 xo.s, .slice xo.A xo.n xo.c]) = wm at hMm hQm hR hS hT hG hW ⊢; have hQ := hQm; have hM := hMm; have M_0 := hM.cell 0 _ rfl; have M_1 := hM.cell 1 _ rfl; have M_2 := hM.cell 2 _ rfl; have Q_0 := hQ.cell 0 _ rfl; obtain ⟨R_l, R_f, R_0, R_1, R_2⟩ := hR.l3; have S_l := hS.lt; have S_f := hS.frozen; have T_l := hT.lt; have T_f := hT.frozen; have HS_ := six_cells hS hLj2; have S_0 := HS_.1; have S_1 := HS_.2.1; have S_2 := HS_.2.2; have HT_ := six_cells hT hMj; have T_0 := HT_.1; have T_1 := HT_.2.1; have T_2 := HT_.2.2; clear HS_ HT_; clear kl1 ka1 q0)
   have hTm : Blk wm gt 101 (six M) := (by repeat (first | with_reducible exact hT | with_reducible refine Blk.far ?_ (by dsimp only; omega) _))
   have hRm : Blk (((wm.setCell ⟨gt, j * 3, none⟩ (.int .i64 xo.f)).setCell ⟨gt, j * 3 + 1, none⟩ (.int .i64 xo.s)).setCell ⟨gt, j * 3 + 2, none⟩ (.slice xo.A xo.n xo.c)) (w.heap.size + 1 + 1) 87 #[.int .i64 0, .int .i64 0, .slice none 0 0] := (by repeat (first | with_reducible exact hR | with_reducible refine Blk.far ?_ (by dsimp only; omega) _))
   have hTt : Blk (((wm.setCell ⟨gt, j * 3, none⟩ (.int .i64 xo.f)).setCell ⟨gt, j * 3 + 1, none⟩ (.int .i64 xo.s)).setCell ⟨gt, j * 3 + 2, none⟩ (.slice xo.A xo.n xo.c)) gt 101 (six (M.set j xo)) := six_put hTm hjM xo
   have hR3 : Blk ((((((wm.setCell ⟨gt, j * 3, none⟩ (.int .i64 xo.f)).setCell ⟨gt, j * 3 + 1, none⟩ (.int .i64 xo.s)).setCell ⟨gt, j * 3 + 2, none⟩ (.slice xo.A xo.n xo.c)).setCell ⟨w.heap.size + 1 + 1, 0, none⟩ (.int .i64 xo.f)).setCell ⟨w.heap.size + 1 + 1, 1, none⟩ (.int .i64 xo.s)).setCell ⟨w.heap.size + 1 + 1, 2, none⟩ (.slice xo.A xo.n xo.c)) (w.heap.size + 1 + 1) 87 #[.int .i64 xo.f, .int .i64 xo.s, .slice xo.A xo.n xo.c] := put3_blk hRm (.int .i64 xo.f) (.int .i64 xo.s) (.slice xo.A xo.n xo.c)
   have hTr : Blk ((((((wm.setCell ⟨gt, j * 3, none⟩ (.int .i64 xo.f)).setCell ⟨gt, j * 3 + 1, none⟩ (.int .i64 xo.s)).setCell ⟨gt, j * 3 + 2, none⟩ (.slice xo.A xo.n xo.c)).setCell ⟨w.heap.size + 1 + 1, 0, none⟩ (.int .i64 xo.f)).setCell ⟨w.heap.size + 1 + 1, 1, none⟩ (.int .i64 xo.s)).setCell ⟨w.heap.size + 1 + 1, 2, none⟩ (.slice xo.A xo.n xo.c)) gt 101 (six (M.set j xo)) := hTt.grown (put3_grown _ _ (.int .i64 xo.f) (.int .i64 xo.s) (.slice xo.A xo.n xo.c)) (by simp; omega)
   have hSr : Blk ((((((wm.setCell ⟨gt, j * 3, none⟩ (.int .i64 xo.f)).setCell ⟨gt, j * 3 + 1, none⟩ (.int .i64 xo.s)).setCell ⟨gt, j * 3 + 2, none⟩ (.slice xo.A xo.n xo.c)).setCell ⟨w.heap.size + 1 + 1, 0, none⟩ (.int .i64 xo.f)).setCell ⟨w.heap.size + 1 + 1, 1, none⟩ (.int .i64 xo.s)).setCell ⟨w.heap.size + 1 + 1, 2, none⟩ (.slice xo.A xo.n xo.c)) gs 101 (six (L.set j h)) := (by repeat (first | with_reducible exact hS | with_reducible refine Blk.far ?_ (by dsimp only; omega) _))
   have hGr : Gp (Two gs gt) w ((((((wm.setCell ⟨gt, j * 3, none⟩ (.int .i64 xo.f)).setCell ⟨gt, j * 3 + 1, none⟩ (.int .i64 xo.s)).setCell ⟨gt, j * 3 + 2, none⟩ (.slice xo.A xo.n xo.c)).setCell ⟨w.heap.size + 1 + 1, 0, none⟩ (.int .i64 xo.f)).setCell ⟨w.heap.size + 1 + 1, 1, none⟩ (.int .i64 xo.s)).setCell ⟨w.heap.size + 1 + 1, 2, none⟩ (.slice xo.A xo.n xo.c)) := (by repeat (first | with_reducible assumption | with_reducible refine Gp.drew ?_ | with_reducible refine Gp.alloc ?_ _ | with_reducible refine Gp.setCell ?_ (by first | exact Or.inl (two_l _ _) | exact Or.inl (two_r _ _) | (right; dsimp only; omega)) _ | with_reducible exact Gp.refl _ _))
   have hRd : RdM ((((((wm.setCell ⟨gt, j * 3, none⟩ (.int .i64 xo.f)).setCell ⟨gt, j * 3 + 1, none⟩ (.int .i64 xo.s)).setCell ⟨gt, j * 3 + 2, none⟩ (.slice xo.A xo.n xo.c)).setCell ⟨w.heap.size + 1 + 1, 0, none⟩ (.int .i64 xo.f)).setCell ⟨w.heap.size + 1 + 1, 1, none⟩ (.int .i64 xo.s)).setCell ⟨w.heap.size + 1 + 1, 2, none⟩ (.slice xo.A xo.n xo.c)) xo (takenP p l j m mo) := by rw [taken_3 HT.out]; exact ho.gp hGr (fun k hk => hQT k (hnoo k hk))
   generalize ((((((wm.setCell ⟨gt, j * 3, none⟩ (.int .i64 xo.f)).setCell ⟨gt, j * 3 + 1, none⟩ (.int .i64 xo.s)).setCell ⟨gt, j * 3 + 2, none⟩ (.slice xo.A xo.n xo.c)).setCell ⟨w.heap.size + 1 + 1, 0, none⟩ (.int .i64 xo.f)).setCell ⟨w.heap.size + 1 + 1, 1, none⟩ (.int .i64 xo.s)).setCell ⟨w.heap.size + 1 + 1, 2, none⟩ (.slice xo.A xo.n xo.c)) = wz at hR3 hTr hSr hGr hRd ⊢
   have R3_0 := hR3.cell 0 _ rfl
   have R3_1 := hR3.cell 1 _ rfl
   have R3_2 := hR3.cell 2 _ rfl
   refine bodyPost_ret (v := .agg #[.int .i64 xo.f, .int .i64 xo.s, .slice xo.A xo.n xo.c]) (by simp [results, Tryd.results67, go_sem, R3_0, R3_1, R3_2]) rfl ?_
   exact ⟨xo, rfl, hRd, hnoo, hSr, hTr, hGr⟩
set_option maxRecDepth 20000 in
set_option maxHeartbeats 4000000 in
theorem change_t (j : Nat) (hj : j < 6) (p : Int) (h xj yj : Hm) (L M : List Hm) (hL : L.length = 6) (hM6 : M.length = 6) (hLj : L[j]? = some xj) (hMj : M[j]? = some yj) (m mo : Ms) (gs gt gl ga : Nat) (Al : Option Addr) (nl cl : Nat) (l : List Md) (W0 w : World) (hb0 : Bl W0 w) (hgs : W0.heap.size ≤ gs) (hgt : W0.heap.size ≤ gt) (hne : gs ≠ gt) (hp : 2 ≤ p ∧ p ≤ 251)
  (kl : W0.cell? ⟨gl, 0, none⟩ = some (.slice Al nl cl)) (ka : W0.cell? ⟨ga, 0, none⟩ = some (.int .i64 p)) (hl : RdMd W0 Al nl cl l) (hml : mdsB p l = true) (hS : Blk w gs 101 (six L)) (hT : Blk w gt 101 (six M))
  (hm : RdM w h m) (hmb : m.b.length = bodyN (j / 2) ∧ ∀ y ∈ m.b, 0 ≤ y ∧ y < p) (hmf : m.f = 0 ∨ m.f = 1) (Q : Nat → Prop) (hQT : ∀ k, Q k → ¬ Two gs gt k) (hQn : ∀ k, w.heap.size ≤ k → Q k) (hna : ∀ k, h.blk = some k → Q k) (K A N V : Int) (k : Nat) (hlk : l[k]? = some ⟨K, A, N, V⟩) (hat : meddleAt l (j : Int) = some ⟨K, A, N, V⟩) (hv : meddleV l (j : Int) = (k : Int)) (hK : K = 4) :
  Calls Tryd.prog 67 (#[.int .i64 (j : Int), .agg #[.int .i64 h.f, .int .i64 h.s, .slice h.A h.n h.c]] ++ #[.pointer (some ⟨gs, 0, none⟩), .pointer (some ⟨gl, 0, none⟩), .pointer (some ⟨ga, 0, none⟩), .pointer (some ⟨gt, 0, none⟩)]) w
   fun e w' => ∃ h' : Hm, e = .returned h'.val ∧ RdM w' h' (takenP p l j m mo) ∧ (∀ k, h'.blk = some k → Q k) ∧ Blk w' gs 101 (six (L.set j h)) ∧ Blk w' gt 101 (six (M.set j h')) ∧ Gp (Two gs gt) w w' := by
 have hsl := hS.lt
 have htl := hT.lt
 have hw0 := hb0.sz
 have hsf := hS.frozen
 have htf := hT.frozen
 have hne2 : ¬ gt = gs := fun e => hne e.symm
 have hmn : h.n = bodyN (j / 2) := by have := hm.b.length; have := hmb.1; omega
 have hgl1 : gl < W0.heap.size := World.block_lt_of_cell? W0 _ kl
 have hga1 : ga < W0.heap.size := World.block_lt_of_cell? W0 _ ka
 have hgl2 : ¬ gl = gs := by omega
 have hgl3 : ¬ gl = gt := by omega
 have hga2 : ¬ ga = gs := by omega
 have hga3 : ¬ ga = gt := by omega
 have hmN := bodyN_le (j / 2)
 have hn4 : h.n ≤ 4 := by omega
 have hhf := hm.f
 have zf : IntKind.i64.wrap (1 - h.f) = 1 - h.f := IntWalk.i64_in _ (by omega)
 have hfr : h.f = 0 ∨ h.f = 1 := by omega
 have ij0 : (0 : Int) ≤ j := by omega
 have ij6 : (j : Int) < 6 := by omega
 have hjL : j < L.length := by omega
 have hjM : j < M.length := by omega
 have hLj2 : (L.set j h)[j]? = some h := List.getElem?_set_self hjL
 have HL6 := Lib.hid hL
 have HM6 := Lib.hid hM6
 have HF := Lib.hid hhf
 have HN := Lib.hid hmn
 have HMF := Lib.hid hmf
 clear hmn hhf hmf hL hM6
 have HV := Lib.hid hv
 have hkn : k < nl := by have := (List.getElem?_eq_some_iff.1 hlk).1; have := hl.2; omega
 have i1 : (k : Int) < nl := by omega
 obtain ⟨ad, K', A', N', V', hAl, hx, q0, q1, q2, q3⟩ := hl.at_ hkn
 rw [hlk] at hx
 injection hx with hx
 injection hx with e1 e2 e3 e4
 subst e1 e2 e3 e4
 subst hAl
 have Q0 := Lib.hid q0
 have Q2 := Lib.hid q2
 have Q3 := Lib.hid q3
 have HT := Lib.hid hat
 clear q0 q1 q2 q3 hlk hat hv
 · subst hK
   have hW : Bl W0 (((w.alloc (.cells #[.int .i64 (j : Int)] 3)).alloc (.cells #[.int .i64 h.f, .int .i64 h.s, .slice h.A h.n h.c] 87)).alloc (.cells #[.int .i64 0, .int .i64 0, .slice none 0 0] 87)) := Bl.a3
   have hQ : Blk (((w.alloc (.cells #[.int .i64 (j : Int)] 3)).alloc (.cells #[.int .i64 h.f, .int .i64 h.s, .slice h.A h.n h.c] 87)).alloc (.cells #[.int .i64 0, .int .i64 0, .slice none 0 0] 87)) (w.heap.size) 3 #[.int .i64 (j : Int)] := (((Blk.new w 3 #[.int .i64 (j : Int)] (g := w.heap.size)).alloc (.cells #[.int .i64 h.f, .int .i64 h.s, .slice h.A h.n h.c] 87)).alloc (.cells #[.int .i64 0, .int .i64 0, .slice none 0 0] 87))
   have hM : Blk (((w.alloc (.cells #[.int .i64 (j : Int)] 3)).alloc (.cells #[.int .i64 h.f, .int .i64 h.s, .slice h.A h.n h.c] 87)).alloc (.cells #[.int .i64 0, .int .i64 0, .slice none 0 0] 87)) (w.heap.size + 1) 87 #[.int .i64 h.f, .int .i64 h.s, .slice h.A h.n h.c] := ((Blk.new (w.alloc (.cells #[.int .i64 (j : Int)] 3)) 87 #[.int .i64 h.f, .int .i64 h.s, .slice h.A h.n h.c] (g := w.heap.size + 1)).alloc (.cells #[.int .i64 0, .int .i64 0, .slice none 0 0] 87))
   have hR : Blk (((w.alloc (.cells #[.int .i64 (j : Int)] 3)).alloc (.cells #[.int .i64 h.f, .int .i64 h.s, .slice h.A h.n h.c] 87)).alloc (.cells #[.int .i64 0, .int .i64 0, .slice none 0 0] 87)) (w.heap.size + 1 + 1) 87 #[.int .i64 0, .int .i64 0, .slice none 0 0] := (Blk.new ((w.alloc (.cells #[.int .i64 (j : Int)] 3)).alloc (.cells #[.int .i64 h.f, .int .i64 h.s, .slice h.A h.n h.c] 87)) 87 #[.int .i64 0, .int .i64 0, .slice none 0 0] (g := w.heap.size + 1 + 1))
   replace hS : Blk (((w.alloc (.cells #[.int .i64 (j : Int)] 3)).alloc (.cells #[.int .i64 h.f, .int .i64 h.s, .slice h.A h.n h.c] 87)).alloc (.cells #[.int .i64 0, .int .i64 0, .slice none 0 0] 87)) gs 101 (six L) := ((hS.alloc _).alloc _).alloc _
   replace hT : Blk (((w.alloc (.cells #[.int .i64 (j : Int)] 3)).alloc (.cells #[.int .i64 h.f, .int .i64 h.s, .slice h.A h.n h.c] 87)).alloc (.cells #[.int .i64 0, .int .i64 0, .slice none 0 0] 87)) gt 101 (six M) := ((hT.alloc _).alloc _).alloc _
   have Q_l := hQ.lt; have Q_f := hQ.frozen; have Q_0 := hQ.cell 0 _ rfl; obtain ⟨M_l, M_f, M_0, M_1, M_2⟩ := hM.l3; obtain ⟨R_l, R_f, R_0, R_1, R_2⟩ := hR.l3; have S_l := hS.lt; have S_f := hS.frozen; have T_l := hT.lt; have T_f := hT.frozen; have HS_ := six_cells hS hLj; have S_0 := HS_.1; have S_1 := HS_.2.1; have S_2 := HS_.2.2; have HT_ := six_cells hT hMj; have T_0 := HT_.1; have T_1 := HT_.2.1; have T_2 := HT_.2.2; clear HS_ HT_
   have kl1 := hW.cells kl
   have ka1 := hW.cells ka
   go_enter Tryd.func67, Tryd.ntmps67
   go_wp2_with fail
   (try clear Q_l Q_f Q_0 M_l M_f M_0 M_1 M_2 R_l R_f R_0 R_1 R_2); (try clear S_l S_f T_l T_f S_0 S_1 S_2 T_0 T_1 T_2)
   replace hS : Blk ((((((w.alloc (.cells #[.int .i64 (j : Int)] 3)).alloc (.cells #[.int .i64 h.f, .int .i64 h.s, .slice h.A h.n h.c] 87)).alloc (.cells #[.int .i64 0, .int .i64 0, .slice none 0 0] 87)).setCell ⟨gs, j * 3, none⟩ (.int .i64 h.f)).setCell ⟨gs, j * 3 + 1, none⟩ (.int .i64 h.s)).setCell ⟨gs, j * 3 + 2, none⟩ (.slice h.A h.n h.c)) gs 101 (six (L.set j h)) := six_put hS hjL h
   replace hQ : Blk ((((((w.alloc (.cells #[.int .i64 (j : Int)] 3)).alloc (.cells #[.int .i64 h.f, .int .i64 h.s, .slice h.A h.n h.c] 87)).alloc (.cells #[.int .i64 0, .int .i64 0, .slice none 0 0] 87)).setCell ⟨gs, j * 3, none⟩ (.int .i64 h.f)).setCell ⟨gs, j * 3 + 1, none⟩ (.int .i64 h.s)).setCell ⟨gs, j * 3 + 2, none⟩ (.slice h.A h.n h.c)) (w.heap.size) 3 #[.int .i64 (j : Int)] := ((hQ.far (by dsimp only; omega) _).far (by dsimp only; omega) _).far (by dsimp only; omega) _
   replace hM : Blk ((((((w.alloc (.cells #[.int .i64 (j : Int)] 3)).alloc (.cells #[.int .i64 h.f, .int .i64 h.s, .slice h.A h.n h.c] 87)).alloc (.cells #[.int .i64 0, .int .i64 0, .slice none 0 0] 87)).setCell ⟨gs, j * 3, none⟩ (.int .i64 h.f)).setCell ⟨gs, j * 3 + 1, none⟩ (.int .i64 h.s)).setCell ⟨gs, j * 3 + 2, none⟩ (.slice h.A h.n h.c)) (w.heap.size + 1) 87 #[.int .i64 h.f, .int .i64 h.s, .slice h.A h.n h.c] := ((hM.far (by dsimp only; omega) _).far (by dsimp only; omega) _).far (by dsimp only; omega) _
   replace hR : Blk ((((((w.alloc (.cells #[.int .i64 (j : Int)] 3)).alloc (.cells #[.int .i64 h.f, .int .i64 h.s, .slice h.A h.n h.c] 87)).alloc (.cells #[.int .i64 0, .int .i64 0, .slice none 0 0] 87)).setCell ⟨gs, j * 3, none⟩ (.int .i64 h.f)).setCell ⟨gs, j * 3 + 1, none⟩ (.int .i64 h.s)).setCell ⟨gs, j * 3 + 2, none⟩ (.slice h.A h.n h.c)) (w.heap.size + 1 + 1) 87 #[.int .i64 0, .int .i64 0, .slice none 0 0] := ((hR.far (by dsimp only; omega) _).far (by dsimp only; omega) _).far (by dsimp only; omega) _
   replace hT : Blk ((((((w.alloc (.cells #[.int .i64 (j : Int)] 3)).alloc (.cells #[.int .i64 h.f, .int .i64 h.s, .slice h.A h.n h.c] 87)).alloc (.cells #[.int .i64 0, .int .i64 0, .slice none 0 0] 87)).setCell ⟨gs, j * 3, none⟩ (.int .i64 h.f)).setCell ⟨gs, j * 3 + 1, none⟩ (.int .i64 h.s)).setCell ⟨gs, j * 3 + 2, none⟩ (.slice h.A h.n h.c)) gt 101 (six M) := ((hT.far (by dsimp only; omega) _).far (by dsimp only; omega) _).far (by dsimp only; omega) _
   have hG : Gp (Two gs gt) w ((((((w.alloc (.cells #[.int .i64 (j : Int)] 3)).alloc (.cells #[.int .i64 h.f, .int .i64 h.s, .slice h.A h.n h.c] 87)).alloc (.cells #[.int .i64 0, .int .i64 0, .slice none 0 0] 87)).setCell ⟨gs, j * 3, none⟩ (.int .i64 h.f)).setCell ⟨gs, j * 3 + 1, none⟩ (.int .i64 h.s)).setCell ⟨gs, j * 3 + 2, none⟩ (.slice h.A h.n h.c)) := (by repeat (first | with_reducible assumption | with_reducible refine Gp.drew ?_ | with_reducible refine Gp.alloc ?_ _ | with_reducible refine Gp.setCell ?_ (by first | exact Or.inl (two_l _ _) | exact Or.inl (two_r _ _) | (right; dsimp only; omega)) _ | with_reducible exact Gp.refl _ _))
   replace hW : Bl W0 ((((((w.alloc (.cells #[.int .i64 (j : Int)] 3)).alloc (.cells #[.int .i64 h.f, .int .i64 h.s, .slice h.A h.n h.c] 87)).alloc (.cells #[.int .i64 0, .int .i64 0, .slice none 0 0] 87)).setCell ⟨gs, j * 3, none⟩ (.int .i64 h.f)).setCell ⟨gs, j * 3 + 1, none⟩ (.int .i64 h.s)).setCell ⟨gs, j * 3 + 2, none⟩ (.slice h.A h.n h.c)) := Bl.a3
   have hsz : w.heap.size + 2 < (((((((w.alloc (.cells #[.int .i64 (j : Int)] 3)).alloc (.cells #[.int .i64 h.f, .int .i64 h.s, .slice h.A h.n h.c] 87)).alloc (.cells #[.int .i64 0, .int .i64 0, .slice none 0 0] 87)).setCell ⟨gs, j * 3, none⟩ (.int .i64 h.f)).setCell ⟨gs, j * 3 + 1, none⟩ (.int .i64 h.s)).setCell ⟨gs, j * 3 + 2, none⟩ (.slice h.A h.n h.c))).heap.size := hR.lt
   clear kl1 ka1
   generalize ((((((w.alloc (.cells #[.int .i64 (j : Int)] 3)).alloc (.cells #[.int .i64 h.f, .int .i64 h.s, .slice h.A h.n h.c] 87)).alloc (.cells #[.int .i64 0, .int .i64 0, .slice none 0 0] 87)).setCell ⟨gs, j * 3, none⟩ (.int .i64 h.f)).setCell ⟨gs, j * 3 + 1, none⟩ (.int .i64 h.s)).setCell ⟨gs, j * 3 + 2, none⟩ (.slice h.A h.n h.c)) = wb at hQ hM hR hS hT hG hW hsz ⊢
   have kl1 := hW.cells kl
   have ka1 := hW.cells ka
   have Q_l := hQ.lt; have Q_f := hQ.frozen; have Q_0 := hQ.cell 0 _ rfl; obtain ⟨M_l, M_f, M_0, M_1, M_2⟩ := hM.l3; obtain ⟨R_l, R_f, R_0, R_1, R_2⟩ := hR.l3; have S_l := hS.lt; have S_f := hS.frozen; have T_l := hT.lt; have T_f := hT.frozen; have HS_ := six_cells hS hLj2; have S_0 := HS_.1; have S_1 := HS_.2.1; have S_2 := HS_.2.2; have HT_ := six_cells hT hMj; have T_0 := HT_.1; have T_1 := HT_.2.1; have T_2 := HT_.2.2; clear HS_ HT_
   refine (slices_IndexFunc_md (j : Int) (w.heap.size) _ nl cl l _ Q_0 (hl.keep hW)).mono ?_
   rintro e wc ⟨rfl, hb1⟩
   rw [HV.out]
   replace hG := hG.call hb1
   replace hW : Bl W0 wc := Bl.a3; replace hQ := hQ.kp hb1; replace hM := hM.kp hb1; replace hR := hR.kp hb1; (try clear Q_l Q_f Q_0 M_l M_f M_0 M_1 M_2 R_l R_f R_0 R_1 R_2); have Q_l := hQ.lt; have Q_f := hQ.frozen; have Q_0 := hQ.cell 0 _ rfl; obtain ⟨M_l, M_f, M_0, M_1, M_2⟩ := hM.l3; obtain ⟨R_l, R_f, R_0, R_1, R_2⟩ := hR.l3; (try clear S_l S_f T_l T_f S_0 S_1 S_2 T_0 T_1 T_2); replace hS := hS.keep hb1; replace hT := hT.keep hb1; have S_l := hS.lt; have S_f := hS.frozen; have T_l := hT.lt; have T_f := hT.frozen; have HS_ := six_cells hS hLj2; have S_0 := HS_.1; have S_1 := HS_.2.1; have S_2 := HS_.2.2; have HT_ := six_cells hT hMj; have T_0 := HT_.1; have T_1 := HT_.2.1; have T_2 := HT_.2.2; clear HS_ HT_
   replace kl1 := hW.cells kl
   replace ka1 := hW.cells ka
   clear hb1
   have q0 := hW.cells Q0.out
   go_wp2
   have hTm : Blk (wc.setCell ⟨w.heap.size + 1, 0, none⟩ (.int .i64 (1 - h.f))) gt 101 (six M) := (by repeat (first | with_reducible exact hT | with_reducible refine Blk.far ?_ (by dsimp only; omega) _))
   have hRm : Blk ((((wc.setCell ⟨w.heap.size + 1, 0, none⟩ (.int .i64 (1 - h.f))).setCell ⟨gt, j * 3, none⟩ (.int .i64 (1 - h.f))).setCell ⟨gt, j * 3 + 1, none⟩ (.int .i64 h.s)).setCell ⟨gt, j * 3 + 2, none⟩ (.slice h.A h.n h.c)) (w.heap.size + 1 + 1) 87 #[.int .i64 0, .int .i64 0, .slice none 0 0] := (by repeat (first | with_reducible exact hR | with_reducible refine Blk.far ?_ (by dsimp only; omega) _))
   have hTt : Blk ((((wc.setCell ⟨w.heap.size + 1, 0, none⟩ (.int .i64 (1 - h.f))).setCell ⟨gt, j * 3, none⟩ (.int .i64 (1 - h.f))).setCell ⟨gt, j * 3 + 1, none⟩ (.int .i64 h.s)).setCell ⟨gt, j * 3 + 2, none⟩ (.slice h.A h.n h.c)) gt 101 (six (M.set j ⟨1 - h.f, h.s, h.A, h.n, h.c⟩)) := six_put hTm hjM ⟨1 - h.f, h.s, h.A, h.n, h.c⟩
   have hR3 : Blk (((((((wc.setCell ⟨w.heap.size + 1, 0, none⟩ (.int .i64 (1 - h.f))).setCell ⟨gt, j * 3, none⟩ (.int .i64 (1 - h.f))).setCell ⟨gt, j * 3 + 1, none⟩ (.int .i64 h.s)).setCell ⟨gt, j * 3 + 2, none⟩ (.slice h.A h.n h.c)).setCell ⟨w.heap.size + 1 + 1, 0, none⟩ (.int .i64 (1 - h.f))).setCell ⟨w.heap.size + 1 + 1, 1, none⟩ (.int .i64 h.s)).setCell ⟨w.heap.size + 1 + 1, 2, none⟩ (.slice h.A h.n h.c)) (w.heap.size + 1 + 1) 87 #[.int .i64 (1 - h.f), .int .i64 h.s, .slice h.A h.n h.c] := put3_blk hRm (.int .i64 (1 - h.f)) (.int .i64 h.s) (.slice h.A h.n h.c)
   have hTr : Blk (((((((wc.setCell ⟨w.heap.size + 1, 0, none⟩ (.int .i64 (1 - h.f))).setCell ⟨gt, j * 3, none⟩ (.int .i64 (1 - h.f))).setCell ⟨gt, j * 3 + 1, none⟩ (.int .i64 h.s)).setCell ⟨gt, j * 3 + 2, none⟩ (.slice h.A h.n h.c)).setCell ⟨w.heap.size + 1 + 1, 0, none⟩ (.int .i64 (1 - h.f))).setCell ⟨w.heap.size + 1 + 1, 1, none⟩ (.int .i64 h.s)).setCell ⟨w.heap.size + 1 + 1, 2, none⟩ (.slice h.A h.n h.c)) gt 101 (six (M.set j ⟨1 - h.f, h.s, h.A, h.n, h.c⟩)) := hTt.grown (put3_grown _ _ (.int .i64 (1 - h.f)) (.int .i64 h.s) (.slice h.A h.n h.c)) (by simp; omega)
   have hSr : Blk (((((((wc.setCell ⟨w.heap.size + 1, 0, none⟩ (.int .i64 (1 - h.f))).setCell ⟨gt, j * 3, none⟩ (.int .i64 (1 - h.f))).setCell ⟨gt, j * 3 + 1, none⟩ (.int .i64 h.s)).setCell ⟨gt, j * 3 + 2, none⟩ (.slice h.A h.n h.c)).setCell ⟨w.heap.size + 1 + 1, 0, none⟩ (.int .i64 (1 - h.f))).setCell ⟨w.heap.size + 1 + 1, 1, none⟩ (.int .i64 h.s)).setCell ⟨w.heap.size + 1 + 1, 2, none⟩ (.slice h.A h.n h.c)) gs 101 (six (L.set j h)) := (by repeat (first | with_reducible exact hS | with_reducible refine Blk.far ?_ (by dsimp only; omega) _))
   have hGr : Gp (Two gs gt) w (((((((wc.setCell ⟨w.heap.size + 1, 0, none⟩ (.int .i64 (1 - h.f))).setCell ⟨gt, j * 3, none⟩ (.int .i64 (1 - h.f))).setCell ⟨gt, j * 3 + 1, none⟩ (.int .i64 h.s)).setCell ⟨gt, j * 3 + 2, none⟩ (.slice h.A h.n h.c)).setCell ⟨w.heap.size + 1 + 1, 0, none⟩ (.int .i64 (1 - h.f))).setCell ⟨w.heap.size + 1 + 1, 1, none⟩ (.int .i64 h.s)).setCell ⟨w.heap.size + 1 + 1, 2, none⟩ (.slice h.A h.n h.c)) := (by repeat (first | with_reducible assumption | with_reducible refine Gp.drew ?_ | with_reducible refine Gp.alloc ?_ _ | with_reducible refine Gp.setCell ?_ (by first | exact Or.inl (two_l _ _) | exact Or.inl (two_r _ _) | (right; dsimp only; omega)) _ | with_reducible exact Gp.refl _ _))
   have hRd : RdM (((((((wc.setCell ⟨w.heap.size + 1, 0, none⟩ (.int .i64 (1 - h.f))).setCell ⟨gt, j * 3, none⟩ (.int .i64 (1 - h.f))).setCell ⟨gt, j * 3 + 1, none⟩ (.int .i64 h.s)).setCell ⟨gt, j * 3 + 2, none⟩ (.slice h.A h.n h.c)).setCell ⟨w.heap.size + 1 + 1, 0, none⟩ (.int .i64 (1 - h.f))).setCell ⟨w.heap.size + 1 + 1, 1, none⟩ (.int .i64 h.s)).setCell ⟨w.heap.size + 1 + 1, 2, none⟩ (.slice h.A h.n h.c)) ⟨1 - h.f, h.s, h.A, h.n, h.c⟩ (takenP p l j m mo) := by rw [taken_4 HT.out]; exact ⟨by simp only; rw [HF.out], hm.s, (hm.gp hGr (fun k hk => hQT k (hna k hk))).b⟩
   generalize (((((((wc.setCell ⟨w.heap.size + 1, 0, none⟩ (.int .i64 (1 - h.f))).setCell ⟨gt, j * 3, none⟩ (.int .i64 (1 - h.f))).setCell ⟨gt, j * 3 + 1, none⟩ (.int .i64 h.s)).setCell ⟨gt, j * 3 + 2, none⟩ (.slice h.A h.n h.c)).setCell ⟨w.heap.size + 1 + 1, 0, none⟩ (.int .i64 (1 - h.f))).setCell ⟨w.heap.size + 1 + 1, 1, none⟩ (.int .i64 h.s)).setCell ⟨w.heap.size + 1 + 1, 2, none⟩ (.slice h.A h.n h.c)) = wz at hR3 hTr hSr hGr hRd ⊢
   have R3_0 := hR3.cell 0 _ rfl
   have R3_1 := hR3.cell 1 _ rfl
   have R3_2 := hR3.cell 2 _ rfl
   refine bodyPost_ret (v := .agg #[.int .i64 (1 - h.f), .int .i64 h.s, .slice h.A h.n h.c]) (by simp [results, Tryd.results67, go_sem, R3_0, R3_1, R3_2]) rfl ?_
   exact ⟨⟨1 - h.f, h.s, h.A, h.n, h.c⟩, rfl, hRd, hna, hSr, hTr, hGr⟩
/-- The closure at any message. -/
theorem change_any (j : Nat) (hj : j < 6) (p : Int) (h : Hm) (L M : List Hm) (hL : L.length = 6) (hM : M.length = 6) (m mo : Ms) (gs gt gl ga : Nat) (Al : Option Addr) (nl cl : Nat) (l : List Md) (W0 w : World) (hb0 : Bl W0 w) (hgs : W0.heap.size ≤ gs) (hgt : W0.heap.size ≤ gt) (hne : gs ≠ gt) (hp : 2 ≤ p ∧ p ≤ 251)
  (kl : W0.cell? ⟨gl, 0, none⟩ = some (.slice Al nl cl)) (ka : W0.cell? ⟨ga, 0, none⟩ = some (.int .i64 p)) (hl : RdMd W0 Al nl cl l) (hml : mdsB p l = true) (hS : Blk w gs 101 (six L)) (hT : Blk w gt 101 (six M))
  (hm : RdM w h m) (hmb : m.b.length = bodyN (j / 2) ∧ ∀ y ∈ m.b, 0 ≤ y ∧ y < p) (hmf : m.f = 0 ∨ m.f = 1) (Q : Nat → Prop) (hQT : ∀ k, Q k → ¬ Two gs gt k) (hQn : ∀ k, w.heap.size ≤ k → Q k) (hna : ∀ k, h.blk = some k → Q k) (hm0 : j < 2 → mo = ⟨0, 0, []⟩)
  (ho : ∀ x, 2 ≤ j → L[j - 2]? = some x → RdM w x mo ∧ ∀ k, x.blk = some k → Q k) :
  Calls Tryd.prog 67 (#[.int .i64 (j : Int), h.val] ++ #[.pointer (some ⟨gs, 0, none⟩), .pointer (some ⟨gl, 0, none⟩), .pointer (some ⟨ga, 0, none⟩), .pointer (some ⟨gt, 0, none⟩)]) w
   fun e w' => ∃ h' : Hm, e = .returned h'.val ∧ RdM w' h' (takenP p l j m mo) ∧ (∀ k, h'.blk = some k → Q k) ∧ Blk w' gs 101 (six (L.set j h)) ∧ Blk w' gt 101 (six (M.set j h')) ∧ Gp (Two gs gt) w w' := by
 obtain ⟨xj, hLj⟩ : ∃ x, L[j]? = some x := ⟨_, List.getElem?_eq_getElem (by omega)⟩
 obtain ⟨yj, hMj⟩ : ∃ x, M[j]? = some x := ⟨_, List.getElem?_eq_getElem (by omega)⟩
 rcases hmi : meddleI l (j : Int) with _ | k
 ·exact change_n j hj p h xj yj L M hL hM hLj hMj m mo gs gt gl ga Al nl cl l W0 w hb0 hgs hgt hne hp kl ka hl hml hS hT hm hmb hmf Q hQT hQn hna hmi
 ·obtain ⟨⟨K, A, N, V⟩, hlk, hat, hA⟩ := meddleI_some hmi
  obtain ⟨hAr, hK⟩ := mdB_fields (mdsB_at hml hlk).1
  have hv : meddleV l (j : Int) = (k : Int) := by unfold meddleV; rw [hmi]
  have hA2 : A = j := hA
  rcases hK with ⟨hK, hI, hV1⟩ | hK | ⟨hK, hA3⟩ | hK
  ·exact change_b j hj p h xj yj L M hL hM hLj hMj m mo gs gt gl ga Al nl cl l W0 w hb0 hgs hgt hne hp kl ka hl hml hS hT hm hmb hmf Q hQT hQn hna K A N V k hlk hat hv hK hA2 hI hV1
  ·exact change_d j hj p h xj yj L M hL hM hLj hMj m mo gs gt gl ga Al nl cl l W0 w hb0 hgs hgt hne hp kl ka hl hml hS hT hm hmb hmf Q hQT hQn hna K A N V k hlk hat hv hK
  ·have h2 : 2 ≤ j := by omega
   obtain ⟨xo, hLo⟩ : ∃ x, L[j - 2]? = some x := ⟨_, List.getElem?_eq_getElem (by omega)⟩
   obtain ⟨ho1, ho2⟩ := ho xo h2 hLo
   exact change_r j hj p h xj yj L M hL hM hLj hMj m mo gs gt gl ga Al nl cl l W0 w hb0 hgs hgt hne hp kl ka hl hml hS hT hm hmb hmf Q hQT hQn hna xo h2 hLo ho1 ho2 K A N V k hlk hat hv hK
  ·exact change_t j hj p h xj yj L M hL hM hLj hMj m mo gs gt gl ga Al nl cl l W0 w hb0 hgs hgt hne hp kl ka hl hml hS hT hm hmb hmf Q hQT hQn hna K A N V k hlk hat hv hK
end Go.Proofs.YtcjpalhclgkjiaaDoor
