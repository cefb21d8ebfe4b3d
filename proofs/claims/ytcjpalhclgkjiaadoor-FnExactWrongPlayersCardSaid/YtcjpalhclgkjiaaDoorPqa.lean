/- Contracts: the reference's sums of tagged values, its tags, keys moved, values shifted, first terms.
   Conditions: the player is valid. -/
import Derived.Test.YtcjpalhclgkjiaaDoorPil
import Derived.Test.YtcjpalhclgkjiaaDoorPbx
namespace Go.Proofs.YtcjpalhclgkjiaaDoor
open Go.RowKit
set_option linter.unusedVariables false
theorem prod0 (a b : Int) (h1 : 0 ≤ a) (h2 : a ≤ 252) (h3 : 0 ≤ b) (h4 : b ≤ 252) : 0 ≤ a * b ∧ a * b ≤ 63504 := ⟨Int.mul_nonneg h1 h3, (prod252 a b (by omega) h2 (by omega) h4).2⟩
/-- A share by its cells. -/
theorem RdP.share {w : World} {a : Pl} {k : Nat} {As Ak Ah : Option Addr} {ns cs nk ck nh ch : Nat} {hs : List Hd} (h : RdP w a As Ak Ah ns cs nk ck nh ch hs) (ok : Ok a k) :
  ∃ ad, As = some ad ∧ 5 ≤ cs ∧ cs ≤ 9223372036854775807 ∧ w.cell? ad = some (.int .i64 (shv a 0)) ∧ w.cell? ⟨ad.block, ad.off + 1, none⟩ = some (.int .i64 (sht a 0)) ∧
   ∀ i, 0 < i → i < 5 → w.cell? ⟨ad.block, ad.off + i * 2, none⟩ = some (.int .i64 (shv a i)) ∧ w.cell? ⟨ad.block, ad.off + i * 2 + 1, none⟩ = some (.int .i64 (sht a i)) := by
 have hn := h.ns_eq ok
 obtain ⟨l1, l2⟩ := h.sh.le
 obtain ⟨ad, x, y, rfl, hx, q0, q1⟩ := h.sh.at_ (k := 0) (by omega)
 rw [ok.share (by omega)] at hx
 injection hx with hx
 injection hx with hx hy
 subst hx; subst hy
 rw [show ad.add (0 * 2) = ad from add_zero_ ad] at q0 q1
 refine ⟨ad, rfl, by omega, l2, q0, q1, fun i h0 h5 => ?_⟩
 obtain ⟨ad2, x, y, e, hx, q0, q1⟩ := h.sh.at_ (k := i) (by omega)
 injection e with e
 subst e
 rw [ok.share h5] at hx
 injection hx with hx
 injection hx with hx hy
 subst hx; subst hy
 rw [show ad.add (i * 2) = ⟨ad.block, ad.off + i * 2, none⟩ by unfold Addr.add; rw [if_neg (by omega)]] at q0 q1
 exact ⟨q0, q1⟩
set_option maxRecDepth 20000 in
set_option maxHeartbeats 1000000 in
theorem spec_tgAdd (p v t v2 t2 k : Int) (w : World) (hp : 2 ≤ p ∧ p ≤ 251) (hv : 0 ≤ v ∧ v < p) (ht : 0 ≤ t ∧ t < p) (hv2 : 0 ≤ v2 ∧ v2 < p) (ht2 : 0 ≤ t2 ∧ t2 < p) (hk : 0 ≤ k ∧ k < p) :
  Calls Tryd.prog 107 #[.int .i64 p, .agg #[.int .i64 v, .int .i64 t], .agg #[.int .i64 v2, .int .i64 t2], .int .i64 k] w fun e w' => e = .returned (.agg #[.int .i64 ((v + k * v2) % p), .int .i64 ((t + k * t2) % p)]) ∧ Bl w w' := by
 have m1 := prod0 k v2 (by omega) (by omega) (by omega) (by omega)
 have m2 := prod0 k t2 (by omega) (by omega) (by omega) (by omega)
 have z1 : IntKind.i64.wrap (k * v2) = k * v2 := IntWalk.i64_in _ (by omega)
 have z2 : IntKind.i64.wrap (v + k * v2) = v + k * v2 := IntWalk.i64_in _ (by omega)
 have z3 : IntKind.i64.wrap (k * t2) = k * t2 := IntWalk.i64_in _ (by omega)
 have z4 : IntKind.i64.wrap (t + k * t2) = t + k * t2 := IntWalk.i64_in _ (by omega)
 have e1 : (v + k * v2).tmod p = (v + k * v2) % p := Int.tmod_eq_emod_of_nonneg (by omega)
 have e2 : (t + k * t2).tmod p = (t + k * t2) % p := Int.tmod_eq_emod_of_nonneg (by omega)
 have hp0 : (p == 0) = false := by simp; omega
 have hp1 : ¬ p = 0 := by omega
 have hW : Bl w (((w.alloc (.cells #[.int .i64 v, .int .i64 t] 93)).alloc (.cells #[.int .i64 v2, .int .i64 t2] 93)).alloc (.cells #[.int .i64 0, .int .i64 0] 93)) := Bl.a2
 have hX : Blk (((w.alloc (.cells #[.int .i64 v, .int .i64 t] 93)).alloc (.cells #[.int .i64 v2, .int .i64 t2] 93)).alloc (.cells #[.int .i64 0, .int .i64 0] 93)) (w.heap.size) 93 #[.int .i64 v, .int .i64 t] := (((Blk.new w 93 #[.int .i64 v, .int .i64 t] (g := w.heap.size)).alloc (.cells #[.int .i64 v2, .int .i64 t2] 93)).alloc (.cells #[.int .i64 0, .int .i64 0] 93))
 have hY : Blk (((w.alloc (.cells #[.int .i64 v, .int .i64 t] 93)).alloc (.cells #[.int .i64 v2, .int .i64 t2] 93)).alloc (.cells #[.int .i64 0, .int .i64 0] 93)) (w.heap.size + 1) 93 #[.int .i64 v2, .int .i64 t2] := ((Blk.new (w.alloc (.cells #[.int .i64 v, .int .i64 t] 93)) 93 #[.int .i64 v2, .int .i64 t2] (g := w.heap.size + 1)).alloc (.cells #[.int .i64 0, .int .i64 0] 93))
 have hR : Blk (((w.alloc (.cells #[.int .i64 v, .int .i64 t] 93)).alloc (.cells #[.int .i64 v2, .int .i64 t2] 93)).alloc (.cells #[.int .i64 0, .int .i64 0] 93)) (w.heap.size + 1 + 1) 93 #[.int .i64 0, .int .i64 0] := (Blk.new ((w.alloc (.cells #[.int .i64 v, .int .i64 t] 93)).alloc (.cells #[.int .i64 v2, .int .i64 t2] 93)) 93 #[.int .i64 0, .int .i64 0] (g := w.heap.size + 1 + 1))
 obtain ⟨X_l, X_f, X_0, X_1⟩ := hX.l2; obtain ⟨Y_l, Y_f, Y_0, Y_1⟩ := hY.l2; obtain ⟨R_l, R_f, R_0, R_1⟩ := hR.l2
 go_enter Tryd.func107, Tryd.ntmps107
 go_wp2_with fail
 refine region_F (fun _ => True) (fun w' => w'.cell? ⟨w.heap.size, 0, none⟩ = some (.int .i64 v) ∧ w'.cell? ⟨w.heap.size, 1, none⟩ = some (.int .i64 t) ∧ w'.cell? ⟨w.heap.size + 1, 0, none⟩ = some (.int .i64 v2) ∧ w'.cell? ⟨w.heap.size + 1, 1, none⟩ = some (.int .i64 t2)) 19 (by kernel_rfl) ?_ (fun hHeld => ?_)
 ·(try dsimp only); exact ⟨trivial, X_0, X_1, Y_0, Y_1⟩
 refine tC 0 9 [0] ?_ hHeld
 refine tC 1 10 [1] ?_ hHeld
 refine tC 2 11 [2] ?_ hHeld
 refine tC 3 12 [3] ?_ hHeld
 refine tC 4 13 [4] ?_ hHeld
 refine tC 5 14 [5] ?_ hHeld
 refine tC 6 15 [6] ?_ hHeld
 refine tC 7 16 [7] ?_ hHeld
 refine tC 8 17 [8] ?_ hHeld
 refine tC 9 18 [9] ?_ hHeld
 refine tC 10 19 [10] ?_ hHeld
 refine tC 11 20 [11] ?_ hHeld
 refine tC 12 21 [12] ?_ hHeld
 refine tC 13 22 [13] ?_ hHeld
 refine tC 14 23 [14] ?_ hHeld
 refine tC 15 24 [15] ?_ hHeld
 refine tC 16 25 [16] ?_ hHeld
 refine tC 17 26 [17] ?_ hHeld
 refine tC 18 27 [18] ?_ hHeld
 refine f_last (i := 19) (by kernel_rfl) rfl (by simp) (fun K hK => ?_)
 refine wp_store_row 93 _ _ rfl (w.heap.size + 1 + 1) #[.int .i64 ((v + k * v2) % p), .int .i64 ((t + k * t2) % p)] rfl rfl 93 #[.int .i64 0, .int .i64 0] hR (by kernel_rfl) rfl (by first | rfl | simp [Value.oneCell'] | kernel_rfl) ?_
 refine ko hK ?_ fun hHeld => ?_
 ·exact trivial
 clear hK K
 refine f_done (by kernel_rfl) ?_ _
 go_wp2_with fail
 have hbz : Bl w ((((w.alloc (.cells #[.int .i64 v, .int .i64 t] 93)).alloc (.cells #[.int .i64 v2, .int .i64 t2] 93)).alloc (.cells #[.int .i64 0, .int .i64 0] 93)).drew.setRow (w.heap.size + 1 + 1) #[.int .i64 ((v + k * v2) % p), .int .i64 ((t + k * t2) % p)]) := (Bl.drew hW).row (by omega) _
 have hR2 : Blk ((((w.alloc (.cells #[.int .i64 v, .int .i64 t] 93)).alloc (.cells #[.int .i64 v2, .int .i64 t2] 93)).alloc (.cells #[.int .i64 0, .int .i64 0] 93)).drew.setRow (w.heap.size + 1 + 1) #[.int .i64 ((v + k * v2) % p), .int .i64 ((t + k * t2) % p)]) (w.heap.size + 1 + 1) 93 #[.int .i64 ((v + k * v2) % p), .int .i64 ((t + k * t2) % p)] := Blk.row hR
 generalize ((((w.alloc (.cells #[.int .i64 v, .int .i64 t] 93)).alloc (.cells #[.int .i64 v2, .int .i64 t2] 93)).alloc (.cells #[.int .i64 0, .int .i64 0] 93)).drew.setRow (w.heap.size + 1 + 1) #[.int .i64 ((v + k * v2) % p), .int .i64 ((t + k * t2) % p)]) = wz at hbz hR2 ⊢
 have R2_0 := hR2.cell 0 _ rfl
 have R2_1 := hR2.cell 1 _ rfl
 refine bodyPost_ret (v := .agg #[.int .i64 ((v + k * v2) % p), .int .i64 ((t + k * t2) % p)]) (by simp [results, Tryd.results107, go_sem, R2_0, R2_1]) rfl ⟨rfl, hbz⟩
theorem spec_tgHolds (p delta key v t : Int) (w : World) (hp : 2 ≤ p ∧ p ≤ 251) (hd : 0 ≤ delta ∧ delta < p) (hk : 0 ≤ key ∧ key < p) (hv : 0 ≤ v ∧ v < p) (ht : 0 ≤ t ∧ t < p) :
  Calls Tryd.prog 105 #[.int .i64 p, .int .i64 delta, .int .i64 key, .agg #[.int .i64 v, .int .i64 t]] w fun e w' => e = .returned (.bool (hold p delta key v t)) ∧ Bl w w' := by
 have m1 := prod0 v delta (by omega) (by omega) (by omega) (by omega)
 have z1 : IntKind.i64.wrap (v * delta) = v * delta := IntWalk.i64_in _ (by omega)
 have z2 : IntKind.i64.wrap (v * delta + key) = v * delta + key := IntWalk.i64_in _ (by omega)
 have e1 : (v * delta + key).tmod p = (v * delta + key) % p := Int.tmod_eq_emod_of_nonneg (by omega)
 have hp0 : (p == 0) = false := by simp; omega
 have hp1 : ¬ p = 0 := by omega
 go_enter Tryd.func105, Tryd.ntmps105
 go_wp2
 go_quiet (fail)
 go_wp2
 go_ret
 exact ⟨rfl, Bl.a1⟩
set_option maxHeartbeats 1000000 in
theorem spec_ptMoved (a : Pl) (k : Nat) (As Ak Ah : Option Addr) (ns cs nk ck nh ch : Nat) (hs : List Hd) (key f : Int) (w : World) (ok : Ok a k) (hk : -1000000 ≤ key ∧ key ≤ 1000000) (hf : 0 ≤ f ∧ f < a.p) :
  Calls Tryd.prog 104 #[.agg #[.int .i64 a.p, .int .i64 a.party, .int .i64 a.x, .int .i64 a.mask, .int .i64 a.delta, .slice As ns cs, .slice Ak nk ck, .int .i64 a.step, .slice Ah nh ch, .int .i64 a.status, .int .i64 a.out], .int .i64 key, .int .i64 f] w fun e w' => e = .returned (.int .i64 ((key - if1 a (f * a.delta)) % a.p)) ∧ Bl w w' := by
 have p2 := ok.p2
 have pd := ok.delta
 have m1 := prod0 f a.delta (by omega) (by omega) (by omega) (by omega)
 have hW : Bl w (w.alloc (.cells #[.int .i64 a.p, .int .i64 a.party, .int .i64 a.x, .int .i64 a.mask, .int .i64 a.delta, .slice As ns cs, .slice Ak nk ck, .int .i64 a.step, .slice Ah nh ch, .int .i64 a.status, .int .i64 a.out] 34)) := Bl.a2
 have hB : Blk (w.alloc (.cells #[.int .i64 a.p, .int .i64 a.party, .int .i64 a.x, .int .i64 a.mask, .int .i64 a.delta, .slice As ns cs, .slice Ak nk ck, .int .i64 a.step, .slice Ah nh ch, .int .i64 a.status, .int .i64 a.out] 34)) (w.heap.size) 34 #[.int .i64 a.p, .int .i64 a.party, .int .i64 a.x, .int .i64 a.mask, .int .i64 a.delta, .slice As ns cs, .slice Ak nk ck, .int .i64 a.step, .slice Ah nh ch, .int .i64 a.status, .int .i64 a.out] := (Blk.new w 34 #[.int .i64 a.p, .int .i64 a.party, .int .i64 a.x, .int .i64 a.mask, .int .i64 a.delta, .slice As ns cs, .slice Ak nk ck, .int .i64 a.step, .slice Ah nh ch, .int .i64 a.status, .int .i64 a.out] (g := w.heap.size))
 rcases ok.party with hp | hp
 ·have hpb : (a.party == 1) = false := by rw [hp]; rfl
  have E0 := Lib.hid (show if1 a (f * a.delta) = 0 by unfold if1; rw [if_neg (by omega)])
  clear hp
  go_enter Tryd.func104, Tryd.ntmps104
  go_wp2_with (go_at_call 87; refine (spec_btMod _ _ _ (by omega) (by omega) (by omega) (by omega)).mono ?_; rintro e w2 ⟨rfl, rfl⟩)
  go_ret
  exact ⟨ret_int (by rw [E0.out]; rw [Int.sub_zero]), Bl.a1⟩
 ·have hpb : (a.party == 1) = true := by rw [hp]; rfl
  have E0 := Lib.hid (show if1 a (f * a.delta) = f * a.delta by unfold if1; rw [if_pos hp])
  clear hp
  go_enter Tryd.func104, Tryd.ntmps104
  go_wp2_with (go_at_call 87; refine (spec_btMod _ _ _ (by omega) (by omega) (by omega) (by omega)).mono ?_; rintro e w2 ⟨rfl, rfl⟩)
  go_ret
  exact ⟨ret_int (by rw [E0.out]), Bl.a1⟩
set_option maxHeartbeats 1000000 in
theorem spec_ptShift (a : Pl) (k : Nat) (As Ak Ah : Option Addr) (ns cs nk ck nh ch : Nat) (hs : List Hd) (v t f : Int) (w : World) (ok : Ok a k) (hv : 0 ≤ v ∧ v < a.p) (hf : 0 ≤ f ∧ f < a.p) :
  Calls Tryd.prog 108 #[.agg #[.int .i64 a.p, .int .i64 a.party, .int .i64 a.x, .int .i64 a.mask, .int .i64 a.delta, .slice As ns cs, .slice Ak nk ck, .int .i64 a.step, .slice Ah nh ch, .int .i64 a.status, .int .i64 a.out], .agg #[.int .i64 v, .int .i64 t], .int .i64 f] w fun e w' => e = .returned (.agg #[.int .i64 (if a.party = 0 then (v + f) % a.p else v), .int .i64 t]) ∧ Bl w w' := by
 have p2 := ok.p2
 have z1 : IntKind.i64.wrap (v + f) = v + f := IntWalk.i64_in _ (by omega)
 have e1 : (v + f).tmod a.p = (v + f) % a.p := Int.tmod_eq_emod_of_nonneg (by omega)
 have hp0 : (a.p == 0) = false := by simp; omega
 have hp1 : ¬ a.p = 0 := by omega
 have hW : Bl w (((w.alloc (.cells #[.int .i64 a.p, .int .i64 a.party, .int .i64 a.x, .int .i64 a.mask, .int .i64 a.delta, .slice As ns cs, .slice Ak nk ck, .int .i64 a.step, .slice Ah nh ch, .int .i64 a.status, .int .i64 a.out] 34)).alloc (.cells #[.int .i64 v, .int .i64 t] 93)).alloc (.cells #[.int .i64 0, .int .i64 0] 93)) := Bl.a2
 have hB : Blk (((w.alloc (.cells #[.int .i64 a.p, .int .i64 a.party, .int .i64 a.x, .int .i64 a.mask, .int .i64 a.delta, .slice As ns cs, .slice Ak nk ck, .int .i64 a.step, .slice Ah nh ch, .int .i64 a.status, .int .i64 a.out] 34)).alloc (.cells #[.int .i64 v, .int .i64 t] 93)).alloc (.cells #[.int .i64 0, .int .i64 0] 93)) (w.heap.size) 34 #[.int .i64 a.p, .int .i64 a.party, .int .i64 a.x, .int .i64 a.mask, .int .i64 a.delta, .slice As ns cs, .slice Ak nk ck, .int .i64 a.step, .slice Ah nh ch, .int .i64 a.status, .int .i64 a.out] := (((Blk.new w 34 #[.int .i64 a.p, .int .i64 a.party, .int .i64 a.x, .int .i64 a.mask, .int .i64 a.delta, .slice As ns cs, .slice Ak nk ck, .int .i64 a.step, .slice Ah nh ch, .int .i64 a.status, .int .i64 a.out] (g := w.heap.size)).alloc (.cells #[.int .i64 v, .int .i64 t] 93)).alloc (.cells #[.int .i64 0, .int .i64 0] 93))
 have hX : Blk (((w.alloc (.cells #[.int .i64 a.p, .int .i64 a.party, .int .i64 a.x, .int .i64 a.mask, .int .i64 a.delta, .slice As ns cs, .slice Ak nk ck, .int .i64 a.step, .slice Ah nh ch, .int .i64 a.status, .int .i64 a.out] 34)).alloc (.cells #[.int .i64 v, .int .i64 t] 93)).alloc (.cells #[.int .i64 0, .int .i64 0] 93)) (w.heap.size + 1) 93 #[.int .i64 v, .int .i64 t] := ((Blk.new (w.alloc (.cells #[.int .i64 a.p, .int .i64 a.party, .int .i64 a.x, .int .i64 a.mask, .int .i64 a.delta, .slice As ns cs, .slice Ak nk ck, .int .i64 a.step, .slice Ah nh ch, .int .i64 a.status, .int .i64 a.out] 34)) 93 #[.int .i64 v, .int .i64 t] (g := w.heap.size + 1)).alloc (.cells #[.int .i64 0, .int .i64 0] 93))
 have hR : Blk (((w.alloc (.cells #[.int .i64 a.p, .int .i64 a.party, .int .i64 a.x, .int .i64 a.mask, .int .i64 a.delta, .slice As ns cs, .slice Ak nk ck, .int .i64 a.step, .slice Ah nh ch, .int .i64 a.status, .int .i64 a.out] 34)).alloc (.cells #[.int .i64 v, .int .i64 t] 93)).alloc (.cells #[.int .i64 0, .int .i64 0] 93)) (w.heap.size + 1 + 1) 93 #[.int .i64 0, .int .i64 0] := (Blk.new ((w.alloc (.cells #[.int .i64 a.p, .int .i64 a.party, .int .i64 a.x, .int .i64 a.mask, .int .i64 a.delta, .slice As ns cs, .slice Ak nk ck, .int .i64 a.step, .slice Ah nh ch, .int .i64 a.status, .int .i64 a.out] 34)).alloc (.cells #[.int .i64 v, .int .i64 t] 93)) 93 #[.int .i64 0, .int .i64 0] (g := w.heap.size + 1 + 1))
 obtain ⟨B_l, B_f, B_0, B_1, B_2, B_3, B_4, B_5, B_6, B_7, B_8, B_9, B_10⟩ := hB.l11; obtain ⟨X_l, X_f, X_0, X_1⟩ := hX.l2; obtain ⟨R_l, R_f, R_0, R_1⟩ := hR.l2
 rcases ok.party with hp | hp
 ·have hpb : (a.party == 0) = true := by rw [hp]; rfl
  have E0 := Lib.hid (show (if a.party = 0 then (v + f) % a.p else v) = (v + f) % a.p by rw [if_pos hp])
  rw [E0.out]
  clear hp
  go_enter Tryd.func108, Tryd.ntmps108
  go_wp2
  have hbz : Bl w (((w.alloc (.cells #[.int .i64 a.p, .int .i64 a.party, .int .i64 a.x, .int .i64 a.mask, .int .i64 a.delta, .slice As ns cs, .slice Ak nk ck, .int .i64 a.step, .slice Ah nh ch, .int .i64 a.status, .int .i64 a.out] 34)).alloc (.cells #[.int .i64 ((v + f) % a.p), .int .i64 t] 93)).alloc (.cells #[.int .i64 ((v + f) % a.p), .int .i64 t] 93)) := Bl.a2
  have hR2 : Blk (((w.alloc (.cells #[.int .i64 a.p, .int .i64 a.party, .int .i64 a.x, .int .i64 a.mask, .int .i64 a.delta, .slice As ns cs, .slice Ak nk ck, .int .i64 a.step, .slice Ah nh ch, .int .i64 a.status, .int .i64 a.out] 34)).alloc (.cells #[.int .i64 ((v + f) % a.p), .int .i64 t] 93)).alloc (.cells #[.int .i64 ((v + f) % a.p), .int .i64 t] 93)) (w.heap.size + 1 + 1) 93 #[.int .i64 ((v + f) % a.p), .int .i64 t] := Blk.new _ _ _
  generalize (((w.alloc (.cells #[.int .i64 a.p, .int .i64 a.party, .int .i64 a.x, .int .i64 a.mask, .int .i64 a.delta, .slice As ns cs, .slice Ak nk ck, .int .i64 a.step, .slice Ah nh ch, .int .i64 a.status, .int .i64 a.out] 34)).alloc (.cells #[.int .i64 ((v + f) % a.p), .int .i64 t] 93)).alloc (.cells #[.int .i64 ((v + f) % a.p), .int .i64 t] 93)) = wz at hbz hR2 ⊢
  have R2_0 := hR2.cell 0 _ rfl
  have R2_1 := hR2.cell 1 _ rfl
  refine bodyPost_ret (v := .agg #[.int .i64 ((v + f) % a.p), .int .i64 t]) (by simp [results, Tryd.results108, go_sem, R2_0, R2_1]) rfl ⟨rfl, hbz⟩
 ·have hpb : (a.party == 0) = false := by rw [hp]; rfl
  have E0 := Lib.hid (show (if a.party = 0 then (v + f) % a.p else v) = v by rw [if_neg (by omega)])
  rw [E0.out]
  clear hp
  go_enter Tryd.func108, Tryd.ntmps108
  go_wp2
  have hbz : Bl w (((w.alloc (.cells #[.int .i64 a.p, .int .i64 a.party, .int .i64 a.x, .int .i64 a.mask, .int .i64 a.delta, .slice As ns cs, .slice Ak nk ck, .int .i64 a.step, .slice Ah nh ch, .int .i64 a.status, .int .i64 a.out] 34)).alloc (.cells #[.int .i64 v, .int .i64 t] 93)).alloc (.cells #[.int .i64 v, .int .i64 t] 93)) := Bl.a2
  have hR2 : Blk (((w.alloc (.cells #[.int .i64 a.p, .int .i64 a.party, .int .i64 a.x, .int .i64 a.mask, .int .i64 a.delta, .slice As ns cs, .slice Ak nk ck, .int .i64 a.step, .slice Ah nh ch, .int .i64 a.status, .int .i64 a.out] 34)).alloc (.cells #[.int .i64 v, .int .i64 t] 93)).alloc (.cells #[.int .i64 v, .int .i64 t] 93)) (w.heap.size + 1 + 1) 93 #[.int .i64 v, .int .i64 t] := Blk.new _ _ _
  generalize (((w.alloc (.cells #[.int .i64 a.p, .int .i64 a.party, .int .i64 a.x, .int .i64 a.mask, .int .i64 a.delta, .slice As ns cs, .slice Ak nk ck, .int .i64 a.step, .slice Ah nh ch, .int .i64 a.status, .int .i64 a.out] 34)).alloc (.cells #[.int .i64 v, .int .i64 t] 93)).alloc (.cells #[.int .i64 v, .int .i64 t] 93)) = wz at hbz hR2 ⊢
  have R2_0 := hR2.cell 0 _ rfl
  have R2_1 := hR2.cell 1 _ rfl
  refine bodyPost_ret (v := .agg #[.int .i64 v, .int .i64 t]) (by simp [results, Tryd.results108, go_sem, R2_0, R2_1]) rfl ⟨rfl, hbz⟩
set_option maxRecDepth 20000 in
set_option maxHeartbeats 2000000 in
theorem spec_ptFirst (a : Pl) (k : Nat) (As Ak Ah : Option Addr) (ns cs nk ck nh ch : Nat) (hs : List Hd) (w : World) (ok : Ok a k) (hk : 1 ≤ k) (h : RdP w a As Ak Ah ns cs nk ck nh ch hs) :
  Calls Tryd.prog 103 #[.agg #[.int .i64 a.p, .int .i64 a.party, .int .i64 a.x, .int .i64 a.mask, .int .i64 a.delta, .slice As ns cs, .slice Ak nk ck, .int .i64 a.step, .slice Ah nh ch, .int .i64 a.status, .int .i64 a.out]] w fun e w' => ∃ g, e = .returned (.slice (some ⟨g, 0, none⟩) 2 2) ∧ Blk w' g 3 #[.int .i64 (msk a 0), .int .i64 (msk a 1)] ∧ w.heap.size ≤ g ∧ Bl w w' := by
 have p2 := ok.p2
 have px := ok.x
 have pm := ok.mask
 obtain ⟨ad, ad0, c0, rfl, hn, q0, hc1, hc2, q1⟩ := h.hear0 ok hk
 have hnN : 0 < nh := by omega
 have zxm : IntKind.i64.wrap (a.x - a.mask) = a.x - a.mask := IntWalk.i64_in _ (by omega)
 have hnZ : ¬ nh = 0 := by omega
 rcases ok.party with hp | hp
 ·have E0 := Lib.hid (show msk a 0 = (a.x - a.mask) % a.p by unfold msk; rw [if_pos hp]; rfl)
  have E1 := Lib.hid (show msk a 1 = said a 0 0 by unfold msk; rw [if_neg (by omega)])
  rw [hp]
  clear hp
  have hW : Bl w (w.alloc (.cells #[.int .i64 a.p, .int .i64 0, .int .i64 a.x, .int .i64 a.mask, .int .i64 a.delta, .slice As ns cs, .slice Ak nk ck, .int .i64 a.step, .slice (some ad) nh ch, .int .i64 a.status, .int .i64 a.out] 34)) := Bl.a2
  have hB : Blk (w.alloc (.cells #[.int .i64 a.p, .int .i64 0, .int .i64 a.x, .int .i64 a.mask, .int .i64 a.delta, .slice As ns cs, .slice Ak nk ck, .int .i64 a.step, .slice (some ad) nh ch, .int .i64 a.status, .int .i64 a.out] 34)) (w.heap.size) 34 #[.int .i64 a.p, .int .i64 0, .int .i64 a.x, .int .i64 a.mask, .int .i64 a.delta, .slice As ns cs, .slice Ak nk ck, .int .i64 a.step, .slice (some ad) nh ch, .int .i64 a.status, .int .i64 a.out] := (Blk.new w 34 #[.int .i64 a.p, .int .i64 0, .int .i64 a.x, .int .i64 a.mask, .int .i64 a.delta, .slice As ns cs, .slice Ak nk ck, .int .i64 a.step, .slice (some ad) nh ch, .int .i64 a.status, .int .i64 a.out] (g := w.heap.size))
  have q0 := hW.cells q0
  have q1 := hW.cells q1
  obtain ⟨B_l, B_f, B_0, B_1, B_2, B_3, B_4, B_5, B_6, B_7, B_8, B_9, B_10⟩ := hB.l11
  go_enter Tryd.func103, Tryd.ntmps103
  go_wp2_with fail
  go_region_held3 (fun w' => w'.cell? ⟨w.heap.size, 8, none⟩ = some (.slice (some ad) nh ch) ∧ w'.cell? ad = some (.slice (some ad0) 1 c0) ∧ w'.cell? ad0 = some (.int .i64 (said a 0 0))) (first | exact ⟨B_8, q0, q1⟩ | go_keep) (fail)
  have hF : Blk ((w.alloc (.cells #[.int .i64 a.p, .int .i64 0, .int .i64 a.x, .int .i64 a.mask, .int .i64 a.delta, .slice As ns cs, .slice Ak nk ck, .int .i64 a.step, .slice (some ad) nh ch, .int .i64 a.status, .int .i64 a.out] 34)).alloc (.cells #[.int .i64 (said a 0 0), .int .i64 (said a 0 0)] 3)).drew (w.heap.size + 1) 3 #[.int .i64 (said a 0 0), .int .i64 (said a 0 0)] := (Blk.new _ _ _).drew
  replace hB : Blk ((w.alloc (.cells #[.int .i64 a.p, .int .i64 0, .int .i64 a.x, .int .i64 a.mask, .int .i64 a.delta, .slice As ns cs, .slice Ak nk ck, .int .i64 a.step, .slice (some ad) nh ch, .int .i64 a.status, .int .i64 a.out] 34)).alloc (.cells #[.int .i64 (said a 0 0), .int .i64 (said a 0 0)] 3)).drew (w.heap.size) 34 #[.int .i64 a.p, .int .i64 0, .int .i64 a.x, .int .i64 a.mask, .int .i64 a.delta, .slice As ns cs, .slice Ak nk ck, .int .i64 a.step, .slice (some ad) nh ch, .int .i64 a.status, .int .i64 a.out] := (hB.alloc _).drew
  replace hW : Bl w ((w.alloc (.cells #[.int .i64 a.p, .int .i64 0, .int .i64 a.x, .int .i64 a.mask, .int .i64 a.delta, .slice As ns cs, .slice Ak nk ck, .int .i64 a.step, .slice (some ad) nh ch, .int .i64 a.status, .int .i64 a.out] 34)).alloc (.cells #[.int .i64 (said a 0 0), .int .i64 (said a 0 0)] 3)).drew := Bl.a2
  generalize ((w.alloc (.cells #[.int .i64 a.p, .int .i64 0, .int .i64 a.x, .int .i64 a.mask, .int .i64 a.delta, .slice As ns cs, .slice Ak nk ck, .int .i64 a.step, .slice (some ad) nh ch, .int .i64 a.status, .int .i64 a.out] 34)).alloc (.cells #[.int .i64 (said a 0 0), .int .i64 (said a 0 0)] 3)).drew = wz at hF hB hW ⊢
  (try clear B_l B_f B_0 B_1 B_2 B_3 B_4 B_5 B_6 B_7 B_8 B_9 B_10)
  clear q0 q1
  obtain ⟨B_l, B_f, B_0, B_1, B_2, B_3, B_4, B_5, B_6, B_7, B_8, B_9, B_10⟩ := hB.l11
  obtain ⟨F_l, F_f, F_0, F_1⟩ := hF.l2
  go_wp2_with fail
  go_region_held3 (fun w' => w'.cell? ⟨w.heap.size, 0, none⟩ = some (.int .i64 a.p) ∧ w'.cell? ⟨w.heap.size, 1, none⟩ = some (.int .i64 0) ∧ w'.cell? ⟨w.heap.size, 2, none⟩ = some (.int .i64 a.x) ∧ w'.cell? ⟨w.heap.size, 3, none⟩ = some (.int .i64 a.mask)) (first | exact ⟨B_0, B_1, B_2, B_3⟩ | go_keep) (first | (go_at_call 87; refine (spec_btMod _ _ _ (by omega) (by omega) (by omega) (by omega)).mono ?_; rintro e w2 ⟨rfl, rfl⟩))
  have hbz : Bl w (wz.drew.setCell ⟨w.heap.size + 1, 0, none⟩ (.int .i64 ((a.x - a.mask) % a.p))) := Bl.a2
  have hR := (hF.drew.set_ 0 (.int .i64 ((a.x - a.mask) % a.p)))
  go_wp2
  go_ret
  exact ⟨_, rfl, by rw [E0.out, E1.out]; exact hR, by omega, hbz⟩
 ·have E0 := Lib.hid (show msk a 1 = (a.x - a.mask) % a.p by unfold msk; rw [if_pos hp]; rfl)
  have E1 := Lib.hid (show msk a 0 = said a 0 0 by unfold msk; rw [if_neg (by omega)])
  rw [hp]
  clear hp
  have hW : Bl w (w.alloc (.cells #[.int .i64 a.p, .int .i64 1, .int .i64 a.x, .int .i64 a.mask, .int .i64 a.delta, .slice As ns cs, .slice Ak nk ck, .int .i64 a.step, .slice (some ad) nh ch, .int .i64 a.status, .int .i64 a.out] 34)) := Bl.a2
  have hB : Blk (w.alloc (.cells #[.int .i64 a.p, .int .i64 1, .int .i64 a.x, .int .i64 a.mask, .int .i64 a.delta, .slice As ns cs, .slice Ak nk ck, .int .i64 a.step, .slice (some ad) nh ch, .int .i64 a.status, .int .i64 a.out] 34)) (w.heap.size) 34 #[.int .i64 a.p, .int .i64 1, .int .i64 a.x, .int .i64 a.mask, .int .i64 a.delta, .slice As ns cs, .slice Ak nk ck, .int .i64 a.step, .slice (some ad) nh ch, .int .i64 a.status, .int .i64 a.out] := (Blk.new w 34 #[.int .i64 a.p, .int .i64 1, .int .i64 a.x, .int .i64 a.mask, .int .i64 a.delta, .slice As ns cs, .slice Ak nk ck, .int .i64 a.step, .slice (some ad) nh ch, .int .i64 a.status, .int .i64 a.out] (g := w.heap.size))
  have q0 := hW.cells q0
  have q1 := hW.cells q1
  obtain ⟨B_l, B_f, B_0, B_1, B_2, B_3, B_4, B_5, B_6, B_7, B_8, B_9, B_10⟩ := hB.l11
  go_enter Tryd.func103, Tryd.ntmps103
  go_wp2_with fail
  go_region_held3 (fun w' => w'.cell? ⟨w.heap.size, 8, none⟩ = some (.slice (some ad) nh ch) ∧ w'.cell? ad = some (.slice (some ad0) 1 c0) ∧ w'.cell? ad0 = some (.int .i64 (said a 0 0))) (first | exact ⟨B_8, q0, q1⟩ | go_keep) (fail)
  have hF : Blk ((w.alloc (.cells #[.int .i64 a.p, .int .i64 1, .int .i64 a.x, .int .i64 a.mask, .int .i64 a.delta, .slice As ns cs, .slice Ak nk ck, .int .i64 a.step, .slice (some ad) nh ch, .int .i64 a.status, .int .i64 a.out] 34)).alloc (.cells #[.int .i64 (said a 0 0), .int .i64 (said a 0 0)] 3)).drew (w.heap.size + 1) 3 #[.int .i64 (said a 0 0), .int .i64 (said a 0 0)] := (Blk.new _ _ _).drew
  replace hB : Blk ((w.alloc (.cells #[.int .i64 a.p, .int .i64 1, .int .i64 a.x, .int .i64 a.mask, .int .i64 a.delta, .slice As ns cs, .slice Ak nk ck, .int .i64 a.step, .slice (some ad) nh ch, .int .i64 a.status, .int .i64 a.out] 34)).alloc (.cells #[.int .i64 (said a 0 0), .int .i64 (said a 0 0)] 3)).drew (w.heap.size) 34 #[.int .i64 a.p, .int .i64 1, .int .i64 a.x, .int .i64 a.mask, .int .i64 a.delta, .slice As ns cs, .slice Ak nk ck, .int .i64 a.step, .slice (some ad) nh ch, .int .i64 a.status, .int .i64 a.out] := (hB.alloc _).drew
  replace hW : Bl w ((w.alloc (.cells #[.int .i64 a.p, .int .i64 1, .int .i64 a.x, .int .i64 a.mask, .int .i64 a.delta, .slice As ns cs, .slice Ak nk ck, .int .i64 a.step, .slice (some ad) nh ch, .int .i64 a.status, .int .i64 a.out] 34)).alloc (.cells #[.int .i64 (said a 0 0), .int .i64 (said a 0 0)] 3)).drew := Bl.a2
  generalize ((w.alloc (.cells #[.int .i64 a.p, .int .i64 1, .int .i64 a.x, .int .i64 a.mask, .int .i64 a.delta, .slice As ns cs, .slice Ak nk ck, .int .i64 a.step, .slice (some ad) nh ch, .int .i64 a.status, .int .i64 a.out] 34)).alloc (.cells #[.int .i64 (said a 0 0), .int .i64 (said a 0 0)] 3)).drew = wz at hF hB hW ⊢
  (try clear B_l B_f B_0 B_1 B_2 B_3 B_4 B_5 B_6 B_7 B_8 B_9 B_10)
  clear q0 q1
  obtain ⟨B_l, B_f, B_0, B_1, B_2, B_3, B_4, B_5, B_6, B_7, B_8, B_9, B_10⟩ := hB.l11
  obtain ⟨F_l, F_f, F_0, F_1⟩ := hF.l2
  go_wp2_with fail
  go_region_held3 (fun w' => w'.cell? ⟨w.heap.size, 0, none⟩ = some (.int .i64 a.p) ∧ w'.cell? ⟨w.heap.size, 1, none⟩ = some (.int .i64 1) ∧ w'.cell? ⟨w.heap.size, 2, none⟩ = some (.int .i64 a.x) ∧ w'.cell? ⟨w.heap.size, 3, none⟩ = some (.int .i64 a.mask)) (first | exact ⟨B_0, B_1, B_2, B_3⟩ | go_keep) (first | (go_at_call 87; refine (spec_btMod _ _ _ (by omega) (by omega) (by omega) (by omega)).mono ?_; rintro e w2 ⟨rfl, rfl⟩))
  have hbz : Bl w (wz.drew.setCell ⟨w.heap.size + 1, 1, none⟩ (.int .i64 ((a.x - a.mask) % a.p))) := Bl.a2
  have hR := (hF.drew.set_ 1 (.int .i64 ((a.x - a.mask) % a.p)))
  go_wp2
  go_ret
  exact ⟨_, rfl, by rw [E0.out, E1.out]; exact hR, by omega, hbz⟩
end Go.Proofs.YtcjpalhclgkjiaaDoor
