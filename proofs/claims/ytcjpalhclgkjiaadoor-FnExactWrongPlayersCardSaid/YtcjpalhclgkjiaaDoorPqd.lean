/- Contracts: whether the tags of a body hold, of the reference.
   Conditions: the player is valid. -/
import Derived.Test.YtcjpalhclgkjiaaDoorPqb
namespace Go.Proofs.YtcjpalhclgkjiaaDoor
open Go.RowKit
set_option linter.unusedVariables false
theorem num_at {l : List Int} {i : Nat} (h : i < l.length) : l[i]? = some (num l i) := by
 unfold num; rw [List.getElem?_eq_getElem h, Option.getD_some]
theorem keyS_eq (a : Pl) (i : Nat) : ((key a i - if1 a (msk a i * a.delta)) % a.p - key a (2 + i)) % a.p = keyS a i := by
 unfold keyS; rw [sum_sub]; congr 1; omega
theorem keyT_eq (a : Pl) : (key a 4 + dS a * key a 3 + eS a * key a 2 - if1 a (dS a * eS a % a.p * a.delta)) % a.p = keyT a := by
 unfold keyT; congr 1; omega
set_option maxRecDepth 20000 in
set_option maxHeartbeats 2000000 in
theorem spec_holds0 (a : Pl) (As Ak Ah : Option Addr) (ns cs nk ck nh ch : Nat) (hs : List Hd) (A : Option Addr) (n c : Nat) (l : List Int) (w : World) (ok : Ok a 0) (h : RdP w a As Ak Ah ns cs nk ck nh ch hs) (hb : RdI w A n c l) (hl : l.length = 1) (hr : ∀ y ∈ l, 0 ≤ y ∧ y < a.p) :
  Calls Tryd.prog 81 #[.agg #[.int .i64 a.p, .int .i64 a.party, .int .i64 a.x, .int .i64 a.mask, .int .i64 a.delta, .slice As ns cs, .slice Ak nk ck, .int .i64 a.step, .slice Ah nh ch, .int .i64 a.status, .int .i64 a.out], .slice A n c] w fun e w' => e = .returned (.bool (holdsP a l)) ∧ Bl w w' := by
 have hst : a.step = 0 := ok.step
 have hs0 : (a.step == 0) = true := by rw [hst]; rfl
 have hs1 : (a.step == 1) = false := by rw [hst]; rfl
 have HS := Lib.hid hst
 have p2 := ok.p2
 have hR := Lib.hid (show holdsP a l = true by unfold holdsP; rw [if_pos hst])
 clear hst
 go_enter Tryd.func81, Tryd.ntmps81
 go_wp2
 go_ret
 exact ⟨ret_bool hR.out.symm, Bl.a1⟩
set_option maxRecDepth 20000 in
set_option maxHeartbeats 2000000 in
theorem spec_holds1 (a : Pl) (As Ak Ah : Option Addr) (ns cs nk ck nh ch : Nat) (hs : List Hd) (A : Option Addr) (n c : Nat) (l : List Int) (w : World) (ok : Ok a 1) (h : RdP w a As Ak Ah ns cs nk ck nh ch hs) (hb : RdI w A n c l) (hl : l.length = 4) (hr : ∀ y ∈ l, 0 ≤ y ∧ y < a.p) :
  Calls Tryd.prog 81 #[.agg #[.int .i64 a.p, .int .i64 a.party, .int .i64 a.x, .int .i64 a.mask, .int .i64 a.delta, .slice As ns cs, .slice Ak nk ck, .int .i64 a.step, .slice Ah nh ch, .int .i64 a.status, .int .i64 a.out], .slice A n c] w fun e w' => e = .returned (.bool (holdsP a l)) ∧ Bl w w' := by
 have hst : a.step = 1 := ok.step
 have hs0 : (a.step == 0) = false := by rw [hst]; rfl
 have hs1 : (a.step == 1) = true := by rw [hst]; rfl
 have HS := Lib.hid hst
 have p2 := ok.p2
 have hR := Lib.hid (show holdsP a l = (hold a.p a.delta (keyS a 0) (num l 0) (num l 1) && hold a.p a.delta (keyS a 1) (num l 2) (num l 3)) by unfold holdsP; rw [if_neg (by omega), if_pos hst])
 have HF := Lib.hid (fun (w' : World) (hb : Bl w w') => spec_ptFirst a 1 As Ak Ah ns cs nk ck nh ch hs w' ok (by omega) (h.keep hb))
 have u0 := mod_rng (key a 0 - if1 a (msk a 0 * a.delta)) p2.1
 have v0 := ok.key_rng (2 + 0)
 have HH0 := Lib.hid (fun (w' : World) => spec_tgHolds a.p a.delta (keyS a 0) (num l 0) (num l 1) w' p2 ok.delta (ok.keyS 0) (num_rng hr p2.1 0) (num_rng hr p2.1 1))
 have HM0 := Lib.hid (fun (w' : World) => spec_ptMoved a 1 As Ak Ah ns cs nk ck nh ch hs (key a 0) (msk a 0) w' ok (by have := ok.key_rng 0; omega) (ok.msk 0))
 have e0 := keyS_eq a 0
 rw [show ((0 : Nat) : Int) = 0 from rfl] at e0
 generalize (key a 0 - if1 a (msk a 0 * a.delta)) % a.p = kv0 at u0 HM0 e0
 have HB0 := Lib.hid (fun (w' : World) => by have c := spec_btMod (kv0 - key a (2 + 0)) a.p w' (by omega) (by omega) (by omega) (by omega); rw [e0] at c; exact c)
 have z0 : IntKind.i64.wrap (kv0 - key a (2 + 0)) = kv0 - key a (2 + 0) := IntWalk.i64_in _ (by omega)
 clear e0
 have u1 := mod_rng (key a 1 - if1 a (msk a 1 * a.delta)) p2.1
 have v1 := ok.key_rng (2 + 1)
 have HH1 := Lib.hid (fun (w' : World) => spec_tgHolds a.p a.delta (keyS a 1) (num l 2) (num l 3) w' p2 ok.delta (ok.keyS 1) (num_rng hr p2.1 2) (num_rng hr p2.1 3))
 have HM1 := Lib.hid (fun (w' : World) => spec_ptMoved a 1 As Ak Ah ns cs nk ck nh ch hs (key a 1) (msk a 1) w' ok (by have := ok.key_rng 1; omega) (ok.msk 1))
 have e1 := keyS_eq a 1
 rw [show ((1 : Nat) : Int) = 1 from rfl] at e1
 generalize (key a 1 - if1 a (msk a 1 * a.delta)) % a.p = kv1 at u1 HM1 e1
 have HB1 := Lib.hid (fun (w' : World) => by have c := spec_btMod (kv1 - key a (2 + 1)) a.p w' (by omega) (by omega) (by omega) (by omega); rw [e1] at c; exact c)
 have z1 : IntKind.i64.wrap (kv1 - key a (2 + 1)) = kv1 - key a (2 + 1) := IntWalk.i64_in _ (by omega)
 clear e1
 have hnk := h.nk_eq ok
 obtain ⟨lk1, lk2⟩ := h.ks.le
 obtain ⟨ae, rfl, hae, k0, kk⟩ := h.ks.lit (by omega)
 have K0 := Lib.hid (k0 _ (ok.keyAt (i := 0) (by omega)))
 have K1 := Lib.hid (kk 1 _ (by omega) (ok.keyAt (i := 1) (by omega)))
 have K2 := Lib.hid (kk 2 _ (by omega) (ok.keyAt (i := 2) (by omega)))
 have K3 := Lib.hid (kk 3 _ (by omega) (ok.keyAt (i := 3) (by omega)))
 have K4 := Lib.hid (kk 4 _ (by omega) (ok.keyAt (i := 4) (by omega)))
 clear k0 kk
 have hnb : n = 4 := hb.length.symm.trans hl
 subst hnb
 obtain ⟨lb1, lb2⟩ := hb.le
 obtain ⟨ab, rfl, hab, b0, bb⟩ := hb.lit (by omega)
 have B0 := Lib.hid (b0 _ (num_at (by omega)))
 have B1 := Lib.hid (bb 1 _ (by omega) (num_at (by omega)))
 have B2 := Lib.hid (bb 2 _ (by omega) (num_at (by omega)))
 have B3 := Lib.hid (bb 3 _ (by omega) (num_at (by omega)))
 clear b0 bb
 subst hnk
 have w2 : IntKind.i64.wrap 2 = 2 := rfl
 have w3 : IntKind.i64.wrap 3 = 3 := rfl
 have w0 : IntKind.i64.wrap 0 = 0 := rfl
 have w1 : IntKind.i64.wrap 1 = 1 := rfl
 have n20 : 2 + 0 = 2 := rfl
 have n21 : 2 + 1 = 3 := rfl
 rw [n20] at z0 v0 HB0
 rw [n21] at z1 v1 HB1
 have hW : Bl w (w.alloc (.cells #[.int .i64 a.p, .int .i64 a.party, .int .i64 a.x, .int .i64 a.mask, .int .i64 a.delta, .slice As ns cs, .slice (some ae) 5 ck, .int .i64 a.step, .slice Ah nh ch, .int .i64 a.status, .int .i64 a.out] 34)) := Bl.a2
 have hB : Blk (w.alloc (.cells #[.int .i64 a.p, .int .i64 a.party, .int .i64 a.x, .int .i64 a.mask, .int .i64 a.delta, .slice As ns cs, .slice (some ae) 5 ck, .int .i64 a.step, .slice Ah nh ch, .int .i64 a.status, .int .i64 a.out] 34)) (w.heap.size) 34 #[.int .i64 a.p, .int .i64 a.party, .int .i64 a.x, .int .i64 a.mask, .int .i64 a.delta, .slice As ns cs, .slice (some ae) 5 ck, .int .i64 a.step, .slice Ah nh ch, .int .i64 a.status, .int .i64 a.out] := (Blk.new w 34 #[.int .i64 a.p, .int .i64 a.party, .int .i64 a.x, .int .i64 a.mask, .int .i64 a.delta, .slice As ns cs, .slice (some ae) 5 ck, .int .i64 a.step, .slice Ah nh ch, .int .i64 a.status, .int .i64 a.out] (g := w.heap.size))
 obtain ⟨B_l, B_f, B_0, B_1, B_2, B_3, B_4, B_5, B_6, B_7, B_8, B_9, B_10⟩ := hB.l11
 clear hst
 go_enter Tryd.func81, Tryd.ntmps81
 go_wp2_with (go_at_call 103; refine (HF.out _ Bl.a2).mono ?_; rintro e w1 ⟨gF, rfl, hF, hgF, hb1⟩; replace hW : Bl w w1 := Bl.a2; replace hB := hB.kp hb1; (try clear B_l B_f B_0 B_1 B_2 B_3 B_4 B_5 B_6 B_7 B_8 B_9 B_10); obtain ⟨B_l, B_f, B_0, B_1, B_2, B_3, B_4, B_5, B_6, B_7, B_8, B_9, B_10⟩ := hB.l11)
 clear hb1
 go_loopw [6] (fun i wr => ∃ j : Nat, j ≤ 2 ∧ i = .int .i64 j ∧ Hid (0 < j → hold a.p a.delta (keyS a 0) (num l 0) (num l 1) = true) ∧ Hid (1 < j → hold a.p a.delta (keyS a 1) (num l 2) (num l 3) = true) ∧ Bl w wr ∧ Blk wr (w.heap.size) 34 #[.int .i64 a.p, .int .i64 a.party, .int .i64 a.x, .int .i64 a.mask, .int .i64 a.delta, .slice As ns cs, .slice (some ae) 5 ck, .int .i64 a.step, .slice Ah nh ch, .int .i64 a.status, .int .i64 a.out] ∧ Blk wr (gF) 3 #[.int .i64 (msk a 0), .int .i64 (msk a 1)]) (fun i _ => 2 - (intOf i).toNat)
 case atStart => exact ⟨0, by omega, rfl, Lib.hid (fun h => absurd h (by omega)), Lib.hid (fun h => absurd h (by omega)), hW, hB, hF⟩
 case round =>
  (try clear B_l B_f B_0 B_1 B_2 B_3 B_4 B_5 B_6 B_7 B_8 B_9 B_10)
  (try clear F_l F_f F_0 F_1)
  clear hW hB hF
  obtain ⟨j, hj, hie, t0, t1, hW, hB, hF⟩ := hrel
  obtain ⟨B_l, B_f, B_0, B_1, B_2, B_3, B_4, B_5, B_6, B_7, B_8, B_9, B_10⟩ := hB.l11; obtain ⟨F_l, F_f, F_0, F_1⟩ := hF.l2
  obtain rfl | rfl | rfl : j = 0 ∨ j = 1 ∨ j = 2 := by omega
  ·obtain rfl := hie.trans (show _ = Value.int .i64 0 from rfl)
   clear hie hj
   have k0 := hW.cells K0.out; have k2 := hW.cells K2.out; have b0 := hW.cells B0.out; have b1 := hW.cells B1.out
   go_wp2_with fail
   refine wp_region_held_drew (S := (fun w' => w'.cell? ⟨w.heap.size, 0, none⟩ = some (.int .i64 a.p) ∧ w'.cell? ⟨w.heap.size, 1, none⟩ = some (.int .i64 a.party) ∧ w'.cell? ⟨w.heap.size, 2, none⟩ = some (.int .i64 a.x) ∧ w'.cell? ⟨w.heap.size, 3, none⟩ = some (.int .i64 a.mask) ∧ w'.cell? ⟨w.heap.size, 4, none⟩ = some (.int .i64 a.delta) ∧ w'.cell? ⟨w.heap.size, 5, none⟩ = some (.slice As ns cs) ∧ w'.cell? ⟨w.heap.size, 6, none⟩ = some (.slice (some ae) 5 ck) ∧ w'.cell? ⟨w.heap.size, 7, none⟩ = some (.int .i64 a.step) ∧ w'.cell? ⟨w.heap.size, 8, none⟩ = some (.slice Ah nh ch) ∧ w'.cell? ⟨w.heap.size, 9, none⟩ = some (.int .i64 a.status) ∧ w'.cell? ⟨w.heap.size, 10, none⟩ = some (.int .i64 a.out) ∧ w'.cell? ae = some (.int .i64 (key a 0)) ∧ w'.cell? ⟨ae.block, ae.off + 2, none⟩ = some (.int .i64 (key a 2)) ∧ w'.cell? ⟨gF, 0, none⟩ = some (.int .i64 (msk a 0)))) (by kernel_rfl) ?_ (fun hHeld => ?_)
   ·(try dsimp only); exact ⟨B_0, B_1, B_2, B_3, B_4, B_5, B_6, B_7, B_8, B_9, B_10, k0, k2, F_0⟩
   refine tkO 0 23 ?_
   refine tkO 1 24 ?_
   refine tkO 2 25 ?_
   refine tkO 3 26 ?_
   refine tkO 4 27 ?_
   refine tkO 5 28 ?_
   refine tkO 6 29 ?_
   refine tkO 7 30 ?_
   refine tkO 8 31 ?_
   refine tkO 9 32 ?_
   refine tkO 11 34 ?_
   refine tkO 12 35 ?_
   refine tkO 13 36 ?_
   refine tkO 14 37 ?_
   refine tkO 15 38 ?_
   refine tkO 16 39 ?_
   refine rdy1 10 fun K hK => ?_
   go_simp
   go_at_call 104; refine (HM0.out _).mono ?_; rintro e w2 ⟨rfl, hb2⟩
   go_wp2_with fail
   refine ko hK ?_ fun hHeld => ?_
   ·(try dsimp only); and_intros <;> exact hb2.cells (by first | with_reducible assumption | assumption)
   clear hK K
   refine tkO 17 40 ?_
   refine tkO 18 7 ?_
   refine wpAnyH_done (by kernel_rfl) ?_ _
   replace hW : Bl w w2 := hW.drew.call hb2
   replace hB := hB.drew.keep hb2
   replace hF := hF.drew.keep hb2
   (try clear B_l B_f B_0 B_1 B_2 B_3 B_4 B_5 B_6 B_7 B_8 B_9 B_10)
   (try clear F_l F_f F_0 F_1)
   clear k0 k2 b0 b1
   have b0 := hW.cells B0.out; have b1 := hW.cells B1.out
   obtain ⟨B_l, B_f, B_0, B_1, B_2, B_3, B_4, B_5, B_6, B_7, B_8, B_9, B_10⟩ := hB.l11
   go_wp2_with fail
   refine region_F (fun _ => True) (fun w' => w'.cell? ⟨w.heap.size, 0, none⟩ = some (.int .i64 a.p) ∧ w'.cell? ⟨w.heap.size, 4, none⟩ = some (.int .i64 a.delta) ∧ w'.cell? ab = some (.int .i64 (num l 0)) ∧ w'.cell? ⟨ab.block, ab.off + 1, none⟩ = some (.int .i64 (num l 1))) 20 (by kernel_rfl) ?_ (fun hHeld => ?_)
   ·(try dsimp only); exact ⟨trivial, B_0, B_4, b0, b1⟩
   refine tC 0 41 [1, 0] ?_ hHeld
   refine tC 1 42 [1] ?_ hHeld
   refine tC 2 43 [3, 2] ?_ hHeld
   refine tC 3 44 [3] ?_ hHeld
   refine tC 4 45 [7, 4] ?_ hHeld
   refine tC 5 46 [7, 6, 5] ?_ hHeld
   refine tC 6 47 [7, 6] ?_ hHeld
   refine tC 8 49 [19, 12, 11, 8] ?_ hHeld
   refine tC 9 50 [19, 12, 11, 10, 9] ?_ hHeld
   refine tC 10 51 [19, 12, 11, 10] ?_ hHeld
   refine tC 11 52 [19, 12, 11] ?_ hHeld
   refine tC 12 53 [19, 12] ?_ hHeld
   refine tC 13 54 [19, 18, 17, 13] ?_ hHeld
   refine tC 14 55 [19, 18, 17, 16, 15, 14] ?_ hHeld
   refine tC 15 56 [19, 18, 17, 16, 15] ?_ hHeld
   refine tC 16 57 [19, 18, 17, 16] ?_ hHeld
   refine tC 17 58 [19, 18, 17] ?_ hHeld
   refine tC 18 59 [19, 18] ?_ hHeld
   refine tC 19 60 [19] ?_ hHeld
   refine f_step (i := 7) (by kernel_rfl) rfl (fun K hK => ?_)
   go_simp
   go_at_call 87; refine (HB0.out _).mono ?_; rintro e w3 ⟨rfl, rfl⟩
   go_wp2_with fail
   refine ko hK ?_ fun hHeld => ?_
   ·(try dsimp only); exact ⟨trivial, B_0, B_4, b0, b1⟩
   clear hK K
   refine f_last (i := 20) (by kernel_rfl) rfl (by simp) (fun K hK => ?_)
   go_simp
   go_at_call 105; refine (HH0.out _).mono ?_; rintro e w4 ⟨rfl, hb4⟩
   go_wp2_with fail
   refine ko hK ?_ fun hHeld => ?_
   ·exact trivial
   clear hK K
   refine tS 21 62 ?_ hHeld (fun h => by simp at h)
   refine f_done (by kernel_rfl) ?_ _
   replace hW : Bl w w4 := hW.drew.call hb4
   replace hB := hB.drew.keep hb4
   replace hF := hF.drew.keep hb4
   rcases hv : hold a.p a.delta (keyS a 0) (num l 0) (num l 1)
   ·have HV := Lib.hid hv
    clear hv
    go_wp2_with fail
    go_ret
    exact ⟨ret_bool (by rw [hR.out, HV.out]; simp), hW⟩
   ·have HV := Lib.hid hv
    clear hv
    go_wp2_with fail
    go_roundw
    case rel => exact ⟨1, by omega, rfl, Lib.hid (fun _ => HV.out), Lib.hid (fun h => absurd h (by omega)), hW, hB, hF⟩
    case measure => simp [intOf]
  ·obtain rfl := hie.trans (show _ = Value.int .i64 1 from rfl)
   clear hie hj
   have k1 := hW.cells K1.out; have k3 := hW.cells K3.out; have b2 := hW.cells B2.out; have b3 := hW.cells B3.out
   go_wp2_with fail
   refine wp_region_held_drew (S := (fun w' => w'.cell? ⟨w.heap.size, 0, none⟩ = some (.int .i64 a.p) ∧ w'.cell? ⟨w.heap.size, 1, none⟩ = some (.int .i64 a.party) ∧ w'.cell? ⟨w.heap.size, 2, none⟩ = some (.int .i64 a.x) ∧ w'.cell? ⟨w.heap.size, 3, none⟩ = some (.int .i64 a.mask) ∧ w'.cell? ⟨w.heap.size, 4, none⟩ = some (.int .i64 a.delta) ∧ w'.cell? ⟨w.heap.size, 5, none⟩ = some (.slice As ns cs) ∧ w'.cell? ⟨w.heap.size, 6, none⟩ = some (.slice (some ae) 5 ck) ∧ w'.cell? ⟨w.heap.size, 7, none⟩ = some (.int .i64 a.step) ∧ w'.cell? ⟨w.heap.size, 8, none⟩ = some (.slice Ah nh ch) ∧ w'.cell? ⟨w.heap.size, 9, none⟩ = some (.int .i64 a.status) ∧ w'.cell? ⟨w.heap.size, 10, none⟩ = some (.int .i64 a.out) ∧ w'.cell? ⟨ae.block, ae.off + 1, none⟩ = some (.int .i64 (key a 1)) ∧ w'.cell? ⟨ae.block, ae.off + 3, none⟩ = some (.int .i64 (key a 3)) ∧ w'.cell? ⟨gF, 1, none⟩ = some (.int .i64 (msk a 1)))) (by kernel_rfl) ?_ (fun hHeld => ?_)
   ·(try dsimp only); exact ⟨B_0, B_1, B_2, B_3, B_4, B_5, B_6, B_7, B_8, B_9, B_10, k1, k3, F_1⟩
   refine tkO 0 23 ?_
   refine tkO 1 24 ?_
   refine tkO 2 25 ?_
   refine tkO 3 26 ?_
   refine tkO 4 27 ?_
   refine tkO 5 28 ?_
   refine tkO 6 29 ?_
   refine tkO 7 30 ?_
   refine tkO 8 31 ?_
   refine tkO 9 32 ?_
   refine tkO 11 34 ?_
   refine tkO 12 35 ?_
   refine tkO 13 36 ?_
   refine tkO 14 37 ?_
   refine tkO 15 38 ?_
   refine tkO 16 39 ?_
   refine rdy1 10 fun K hK => ?_
   go_simp
   go_at_call 104; refine (HM1.out _).mono ?_; rintro e w2 ⟨rfl, hb2⟩
   go_wp2_with fail
   refine ko hK ?_ fun hHeld => ?_
   ·(try dsimp only); and_intros <;> exact hb2.cells (by first | with_reducible assumption | assumption)
   clear hK K
   refine tkO 17 40 ?_
   refine tkO 18 7 ?_
   refine wpAnyH_done (by kernel_rfl) ?_ _
   replace hW : Bl w w2 := hW.drew.call hb2
   replace hB := hB.drew.keep hb2
   replace hF := hF.drew.keep hb2
   (try clear B_l B_f B_0 B_1 B_2 B_3 B_4 B_5 B_6 B_7 B_8 B_9 B_10)
   (try clear F_l F_f F_0 F_1)
   clear k1 k3 b2 b3
   have b2 := hW.cells B2.out; have b3 := hW.cells B3.out
   obtain ⟨B_l, B_f, B_0, B_1, B_2, B_3, B_4, B_5, B_6, B_7, B_8, B_9, B_10⟩ := hB.l11
   go_wp2_with fail
   refine region_F (fun _ => True) (fun w' => w'.cell? ⟨w.heap.size, 0, none⟩ = some (.int .i64 a.p) ∧ w'.cell? ⟨w.heap.size, 4, none⟩ = some (.int .i64 a.delta) ∧ w'.cell? ⟨ab.block, ab.off + 2, none⟩ = some (.int .i64 (num l 2)) ∧ w'.cell? ⟨ab.block, ab.off + 3, none⟩ = some (.int .i64 (num l 3))) 20 (by kernel_rfl) ?_ (fun hHeld => ?_)
   ·(try dsimp only); exact ⟨trivial, B_0, B_4, b2, b3⟩
   refine tC 0 41 [1, 0] ?_ hHeld
   refine tC 1 42 [1] ?_ hHeld
   refine tC 2 43 [3, 2] ?_ hHeld
   refine tC 3 44 [3] ?_ hHeld
   refine tC 4 45 [7, 4] ?_ hHeld
   refine tC 5 46 [7, 6, 5] ?_ hHeld
   refine tC 6 47 [7, 6] ?_ hHeld
   refine tC 8 49 [19, 12, 11, 8] ?_ hHeld
   refine tC 9 50 [19, 12, 11, 10, 9] ?_ hHeld
   refine tC 10 51 [19, 12, 11, 10] ?_ hHeld
   refine tC 11 52 [19, 12, 11] ?_ hHeld
   refine tC 12 53 [19, 12] ?_ hHeld
   refine tC 13 54 [19, 18, 17, 13] ?_ hHeld
   refine tC 14 55 [19, 18, 17, 16, 15, 14] ?_ hHeld
   refine tC 15 56 [19, 18, 17, 16, 15] ?_ hHeld
   refine tC 16 57 [19, 18, 17, 16] ?_ hHeld
   refine tC 17 58 [19, 18, 17] ?_ hHeld
   refine tC 18 59 [19, 18] ?_ hHeld
   refine tC 19 60 [19] ?_ hHeld
   refine f_step (i := 7) (by kernel_rfl) rfl (fun K hK => ?_)
   go_simp
   go_at_call 87; refine (HB1.out _).mono ?_; rintro e w3 ⟨rfl, rfl⟩
   go_wp2_with fail
   refine ko hK ?_ fun hHeld => ?_
   ·(try dsimp only); exact ⟨trivial, B_0, B_4, b2, b3⟩
   clear hK K
   refine f_last (i := 20) (by kernel_rfl) rfl (by simp) (fun K hK => ?_)
   go_simp
   go_at_call 105; refine (HH1.out _).mono ?_; rintro e w4 ⟨rfl, hb4⟩
   go_wp2_with fail
   refine ko hK ?_ fun hHeld => ?_
   ·exact trivial
   clear hK K
   refine tS 21 62 ?_ hHeld (fun h => by simp at h)
   refine f_done (by kernel_rfl) ?_ _
   replace hW : Bl w w4 := hW.drew.call hb4
   replace hB := hB.drew.keep hb4
   replace hF := hF.drew.keep hb4
   rcases hv : hold a.p a.delta (keyS a 1) (num l 2) (num l 3)
   ·have HV := Lib.hid hv
    clear hv
    go_wp2_with fail
    go_ret
    exact ⟨ret_bool (by rw [hR.out, HV.out]; simp), hW⟩
   ·have HV := Lib.hid hv
    clear hv
    go_wp2_with fail
    go_roundw
    case rel => exact ⟨2, by omega, rfl, Lib.hid (fun _ => t0.out (by omega)), Lib.hid (fun _ => HV.out), hW, hB, hF⟩
    case measure => simp [intOf]
  ·obtain rfl := hie.trans (show _ = Value.int .i64 2 from rfl)
   have T := Lib.hid (show holdsP a l = true by rw [hR.out, t0.out (by omega), t1.out (by omega)]; rfl)
   go_wp2
   go_ret
   exact ⟨ret_bool T.out.symm, hW⟩
set_option maxRecDepth 20000 in
set_option maxHeartbeats 2000000 in
theorem spec_holds2 (a : Pl) (As Ak Ah : Option Addr) (ns cs nk ck nh ch : Nat) (hs : List Hd) (A : Option Addr) (n c : Nat) (l : List Int) (w : World) (ok : Ok a 2) (h : RdP w a As Ak Ah ns cs nk ck nh ch hs) (hb : RdI w A n c l) (hl : l.length = 2) (hr : ∀ y ∈ l, 0 ≤ y ∧ y < a.p) :
  Calls Tryd.prog 81 #[.agg #[.int .i64 a.p, .int .i64 a.party, .int .i64 a.x, .int .i64 a.mask, .int .i64 a.delta, .slice As ns cs, .slice Ak nk ck, .int .i64 a.step, .slice Ah nh ch, .int .i64 a.status, .int .i64 a.out], .slice A n c] w fun e w' => e = .returned (.bool (holdsP a l)) ∧ Bl w w' := by
 have hst : a.step = 2 := ok.step
 have hs0 : (a.step == 0) = false := by rw [hst]; rfl
 have hs1 : (a.step == 1) = false := by rw [hst]; rfl
 have HS := Lib.hid hst
 have p2 := ok.p2
 have hR := Lib.hid (show holdsP a l = hold a.p a.delta (keyT a) (num l 0) (num l 1) by unfold holdsP; rw [if_neg (by omega), if_neg (by omega)])
 have HF := Lib.hid (fun (w' : World) (hb : Bl w w') => spec_ptSums a 2 As Ak Ah ns cs nk ck nh ch hs w' ok (by omega) (h.keep hb))
 have bd := ok.dS
 have be := ok.eS
 have m1 := prod0 (dS a) (eS a) (by omega) (by omega) (by omega) (by omega)
 have y4 := ok.key_rng 4
 have y3 := ok.key_rng 3
 have y2 := ok.key_rng 2
 have m2 := prod0 (dS a) (key a 3) (by omega) (by omega) (by omega) (by omega)
 have m3 := prod0 (eS a) (key a 2) (by omega) (by omega) (by omega) (by omega)
 have HM := Lib.hid (fun (w' : World) => by have c := spec_ptMoved a 2 As Ak Ah ns cs nk ck nh ch hs (key a 4 + dS a * key a 3 + eS a * key a 2) (dS a * eS a % a.p) w' ok (by omega) (mod_rng _ p2.1); rw [keyT_eq] at c; exact c)
 have HH := Lib.hid (fun (w' : World) => spec_tgHolds a.p a.delta (keyT a) (num l 0) (num l 1) w' p2 ok.delta ok.keyT (num_rng hr p2.1 0) (num_rng hr p2.1 1))
 have z0 : IntKind.i64.wrap (dS a * key a 3) = dS a * key a 3 := IntWalk.i64_in _ (by omega)
 have z1 : IntKind.i64.wrap (key a 4 + dS a * key a 3) = key a 4 + dS a * key a 3 := IntWalk.i64_in _ (by omega)
 have z2 : IntKind.i64.wrap (eS a * key a 2) = eS a * key a 2 := IntWalk.i64_in _ (by omega)
 have z3 : IntKind.i64.wrap (key a 4 + dS a * key a 3 + eS a * key a 2) = key a 4 + dS a * key a 3 + eS a * key a 2 := IntWalk.i64_in _ (by omega)
 have z4 : IntKind.i64.wrap (dS a * eS a) = dS a * eS a := IntWalk.i64_in _ (by omega)
 have e1 : (dS a * eS a).tmod a.p = dS a * eS a % a.p := Int.tmod_eq_emod_of_nonneg (by omega)
 have hp0 : (a.p == 0) = false := by simp; omega
 have hp1 : ¬ a.p = 0 := by omega
 have hnk := h.nk_eq ok
 obtain ⟨lk1, lk2⟩ := h.ks.le
 obtain ⟨ae, rfl, hae, k0, kk⟩ := h.ks.lit (by omega)
 have K0 := Lib.hid (k0 _ (ok.keyAt (i := 0) (by omega)))
 have K1 := Lib.hid (kk 1 _ (by omega) (ok.keyAt (i := 1) (by omega)))
 have K2 := Lib.hid (kk 2 _ (by omega) (ok.keyAt (i := 2) (by omega)))
 have K3 := Lib.hid (kk 3 _ (by omega) (ok.keyAt (i := 3) (by omega)))
 have K4 := Lib.hid (kk 4 _ (by omega) (ok.keyAt (i := 4) (by omega)))
 clear k0 kk
 have hnb : n = 2 := hb.length.symm.trans hl
 subst hnb
 obtain ⟨lb1, lb2⟩ := hb.le
 obtain ⟨ab, rfl, hab, b0, bb⟩ := hb.lit (by omega)
 have B0 := Lib.hid (b0 _ (num_at (by omega)))
 have B1 := Lib.hid (bb 1 _ (by omega) (num_at (by omega)))
 clear b0 bb
 subst hnk
 clear m1 m2 m3
 have hW : Bl w (w.alloc (.cells #[.int .i64 a.p, .int .i64 a.party, .int .i64 a.x, .int .i64 a.mask, .int .i64 a.delta, .slice As ns cs, .slice (some ae) 5 ck, .int .i64 a.step, .slice Ah nh ch, .int .i64 a.status, .int .i64 a.out] 34)) := Bl.a2
 have hB : Blk (w.alloc (.cells #[.int .i64 a.p, .int .i64 a.party, .int .i64 a.x, .int .i64 a.mask, .int .i64 a.delta, .slice As ns cs, .slice (some ae) 5 ck, .int .i64 a.step, .slice Ah nh ch, .int .i64 a.status, .int .i64 a.out] 34)) (w.heap.size) 34 #[.int .i64 a.p, .int .i64 a.party, .int .i64 a.x, .int .i64 a.mask, .int .i64 a.delta, .slice As ns cs, .slice (some ae) 5 ck, .int .i64 a.step, .slice Ah nh ch, .int .i64 a.status, .int .i64 a.out] := (Blk.new w 34 #[.int .i64 a.p, .int .i64 a.party, .int .i64 a.x, .int .i64 a.mask, .int .i64 a.delta, .slice As ns cs, .slice (some ae) 5 ck, .int .i64 a.step, .slice Ah nh ch, .int .i64 a.status, .int .i64 a.out] (g := w.heap.size))
 obtain ⟨B_l, B_f, B_0, B_1, B_2, B_3, B_4, B_5, B_6, B_7, B_8, B_9, B_10⟩ := hB.l11
 clear hst
 go_enter Tryd.func81, Tryd.ntmps81
 go_wp2_with (go_at_call 106; refine (HF.out _ Bl.a2).mono ?_; rintro e w1 ⟨rfl, hb1⟩; replace hW : Bl w w1 := Bl.a2; replace hB := hB.kp hb1; (try clear B_l B_f B_0 B_1 B_2 B_3 B_4 B_5 B_6 B_7 B_8 B_9 B_10); obtain ⟨B_l, B_f, B_0, B_1, B_2, B_3, B_4, B_5, B_6, B_7, B_8, B_9, B_10⟩ := hB.l11)
 have k4 := hW.cells K4.out; have k3 := hW.cells K3.out; have k2 := hW.cells K2.out
 refine region_F (fun _ => True) (fun w' => w'.cell? ⟨w.heap.size, 0, none⟩ = some (.int .i64 a.p) ∧ w'.cell? ⟨w.heap.size, 1, none⟩ = some (.int .i64 a.party) ∧ w'.cell? ⟨w.heap.size, 2, none⟩ = some (.int .i64 a.x) ∧ w'.cell? ⟨w.heap.size, 3, none⟩ = some (.int .i64 a.mask) ∧ w'.cell? ⟨w.heap.size, 4, none⟩ = some (.int .i64 a.delta) ∧ w'.cell? ⟨w.heap.size, 5, none⟩ = some (.slice As ns cs) ∧ w'.cell? ⟨w.heap.size, 6, none⟩ = some (.slice (some ae) 5 ck) ∧ w'.cell? ⟨w.heap.size, 7, none⟩ = some (.int .i64 a.step) ∧ w'.cell? ⟨w.heap.size, 8, none⟩ = some (.slice Ah nh ch) ∧ w'.cell? ⟨w.heap.size, 9, none⟩ = some (.int .i64 a.status) ∧ w'.cell? ⟨w.heap.size, 10, none⟩ = some (.int .i64 a.out) ∧ w'.cell? ⟨ae.block, ae.off + 4, none⟩ = some (.int .i64 (key a 4)) ∧ w'.cell? ⟨ae.block, ae.off + 3, none⟩ = some (.int .i64 (key a 3)) ∧ w'.cell? ⟨ae.block, ae.off + 2, none⟩ = some (.int .i64 (key a 2))) 25 (by kernel_rfl) ?_ (fun hHeld => ?_)
 ·(try dsimp only); exact ⟨trivial, B_0, B_1, B_2, B_3, B_4, B_5, B_6, B_7, B_8, B_9, B_10, k4, k3, k2⟩
 refine tC 0 68 [0] ?_ hHeld
 refine tC 1 69 [18, 11, 4, 3, 2, 1] ?_ hHeld
 refine tC 2 70 [18, 11, 4, 3, 2] ?_ hHeld
 refine tC 3 71 [18, 11, 4, 3] ?_ hHeld
 refine tC 4 72 [18, 11, 4] ?_ hHeld
 refine tC 5 73 [18, 11, 10, 5] ?_ hHeld
 refine tC 6 74 [18, 11, 10, 9, 8, 7, 6] ?_ hHeld
 refine tC 7 75 [18, 11, 10, 9, 8, 7] ?_ hHeld
 refine tC 8 76 [18, 11, 10, 9, 8] ?_ hHeld
 refine tC 9 77 [18, 11, 10, 9] ?_ hHeld
 refine tC 10 78 [18, 11, 10] ?_ hHeld
 refine tC 11 79 [18, 11] ?_ hHeld
 refine tC 12 80 [18, 17, 12] ?_ hHeld
 refine tC 13 81 [18, 17, 16, 15, 14, 13] ?_ hHeld
 refine tC 14 82 [18, 17, 16, 15, 14] ?_ hHeld
 refine tC 15 83 [18, 17, 16, 15] ?_ hHeld
 refine tC 16 84 [18, 17, 16] ?_ hHeld
 refine tC 17 85 [18, 17] ?_ hHeld
 refine tC 18 86 [18] ?_ hHeld
 refine tC 19 87 [24, 21, 19] ?_ hHeld
 refine tC 20 88 [24, 21, 20] ?_ hHeld
 refine tC 21 89 [24, 21] ?_ hHeld
 refine tC 22 90 [24, 23, 22] ?_ hHeld
 refine tC 23 91 [24, 23] ?_ hHeld
 refine tC 24 92 [24] ?_ hHeld
 refine f_last (i := 25) (by kernel_rfl) rfl (by simp) (fun K hK => ?_)
 go_simp
 go_at_call 104; refine (HM.out _).mono ?_; rintro e w2 ⟨rfl, hb2⟩
 go_wp2_with fail
 refine ko hK ?_ fun hHeld => ?_
 ·exact trivial
 clear hK K
 refine tS 26 10 ?_ hHeld (fun h => by simp at h)
 refine f_done (by kernel_rfl) ?_ _
 replace hW : Bl w w2 := hW.drew.call hb2
 replace hB := hB.drew.keep hb2
 (try clear B_l B_f B_0 B_1 B_2 B_3 B_4 B_5 B_6 B_7 B_8 B_9 B_10)
 clear k4 k3 k2 hb1 hb2
 have b0 := hW.cells B0.out; have b1 := hW.cells B1.out
 obtain ⟨B_l, B_f, B_0, B_1, B_2, B_3, B_4, B_5, B_6, B_7, B_8, B_9, B_10⟩ := hB.l11
 go_wp2_with fail
 refine region_F (fun _ => True) (fun w' => w'.cell? ⟨w.heap.size, 0, none⟩ = some (.int .i64 a.p) ∧ w'.cell? ⟨w.heap.size, 4, none⟩ = some (.int .i64 a.delta) ∧ w'.cell? ab = some (.int .i64 (num l 0)) ∧ w'.cell? ⟨ab.block, ab.off + 1, none⟩ = some (.int .i64 (num l 1))) 12 (by kernel_rfl) ?_ (fun hHeld => ?_)
 ·(try dsimp only); exact ⟨trivial, B_0, B_4, b0, b1⟩
 refine tC 0 94 [1, 0] ?_ hHeld
 refine tC 1 95 [1] ?_ hHeld
 refine tC 2 96 [3, 2] ?_ hHeld
 refine tC 3 97 [3] ?_ hHeld
 refine tC 4 98 [4] ?_ hHeld
 refine tC 5 99 [11, 7, 6, 5] ?_ hHeld
 refine tC 6 100 [11, 7, 6] ?_ hHeld
 refine tC 7 101 [11, 7] ?_ hHeld
 refine tC 8 102 [11, 10, 9, 8] ?_ hHeld
 refine tC 9 103 [11, 10, 9] ?_ hHeld
 refine tC 10 104 [11, 10] ?_ hHeld
 refine tC 11 105 [11] ?_ hHeld
 refine f_last (i := 12) (by kernel_rfl) rfl (by simp) (fun K hK => ?_)
 go_simp
 go_at_call 105; refine (HH.out _).mono ?_; rintro e w3 ⟨rfl, hb3⟩
 go_wp2_with fail
 refine ko hK ?_ fun hHeld => ?_
 ·exact trivial
 clear hK K
 refine tS 13 4 ?_ hHeld (fun h => by simp at h)
 refine f_done (by kernel_rfl) ?_ _
 go_wp2_with fail
 go_ret
 exact ⟨ret_bool hR.out.symm, hW.drew.call hb3⟩
end Go.Proofs.YtcjpalhclgkjiaaDoor
