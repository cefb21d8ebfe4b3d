/- Contracts: whether a player accepts a message.
   Conditions: the player is valid. -/
import Derived.Test.YtcjpalhclgkjiaaDoorPin
import Derived.Test.YtcjpalhclgkjiaaDoorPgp
namespace Go.Proofs.YtcjpalhclgkjiaaDoor
open Go.RowKit
set_option linter.unusedVariables false
set_option maxRecDepth 20000 in
set_option maxHeartbeats 2000000 in
theorem impl_accepts2 (a : Pl) (m : Ms) (As Ak Ah : Option Addr) (ns cs nk ck nh ch : Nat) (hs : List Hd) (Am : Option Addr) (nm cm : Nat) (w : World) (hTb : Tab w) (ok : Ok a 2) (h : RdP w a As Ak Ah ns cs nk ck nh ch hs) (hm : RdI w Am nm cm m.b) :
  Calls Tryd.prog 118 #[.agg #[.int .i64 a.p, .int .i64 a.party, .int .i64 a.x, .int .i64 a.mask, .int .i64 a.delta, .slice As ns cs, .slice Ak nk ck, .int .i64 a.step, .slice Ah nh ch, .int .i64 a.status, .int .i64 a.out], .agg #[.int .i64 m.f, .int .i64 m.s, .slice Am nm cm]] w fun e w' => e = .returned (.bool (accP a m)) ∧ Bl w w' := by
 have p2 := ok.p2
 have pd := ok.delta
 have hst : a.step = 2 := ok.step
 have hs0 : (a.step == 0) = false := by simp; omega
 have hix : a.step.toNat = 2 := by omega
 have hs1 : 0 ≤ a.step := by omega
 have hs2 : a.step < 3 := by omega
 have HS := Lib.hid hst
 clear hst
 have hml := Lib.hid hm.length
 obtain ⟨hm1, hm2⟩ := hm.le
 have hpa := ok.party
 have zp : IntKind.i64.wrap (1 - a.party) = 1 - a.party := IntWalk.i64_in _ (by omega)
 have z0 : IntKind.i64.wrap 0 = 0 := rfl
 have z1 : IntKind.i64.wrap 1 = 1 := rfl
 have z2 : IntKind.i64.wrap 2 = 2 := rfl
 have z3 : IntKind.i64.wrap 3 = 3 := rfl
 clear hpa
 have hAE := Lib.hid (fun (w' : World) (hb : Bl w w') => impl_areElements a.p Am nm cm m.b w' (hm.keep hb))
 have HT := Lib.hid (fun (w' : World) (hb : Bl w w') => impl_terms2 a 2 As Ak Ah ns cs nk ck nh ch hs a.step w' HS.out ok (by omega) (h.keep hb))
 have HK0 := Lib.hid (fun (w' : World) (hb : Bl w w') => key_th a 2 As Ak Ah ns cs nk ck nh ch hs w' ok (h.keep hb))
 have hW : Bl w ((w.alloc (.cells #[.int .i64 a.p, .int .i64 a.party, .int .i64 a.x, .int .i64 a.mask, .int .i64 a.delta, .slice As ns cs, .slice Ak nk ck, .int .i64 a.step, .slice Ah nh ch, .int .i64 a.status, .int .i64 a.out] 34)).alloc (.cells #[.int .i64 m.f, .int .i64 m.s, .slice Am nm cm] 87)) := Bl.a2
 have hB : Blk ((w.alloc (.cells #[.int .i64 a.p, .int .i64 a.party, .int .i64 a.x, .int .i64 a.mask, .int .i64 a.delta, .slice As ns cs, .slice Ak nk ck, .int .i64 a.step, .slice Ah nh ch, .int .i64 a.status, .int .i64 a.out] 34)).alloc (.cells #[.int .i64 m.f, .int .i64 m.s, .slice Am nm cm] 87)) (w.heap.size) 34 #[.int .i64 a.p, .int .i64 a.party, .int .i64 a.x, .int .i64 a.mask, .int .i64 a.delta, .slice As ns cs, .slice Ak nk ck, .int .i64 a.step, .slice Ah nh ch, .int .i64 a.status, .int .i64 a.out] := ((Blk.new w 34 #[.int .i64 a.p, .int .i64 a.party, .int .i64 a.x, .int .i64 a.mask, .int .i64 a.delta, .slice As ns cs, .slice Ak nk ck, .int .i64 a.step, .slice Ah nh ch, .int .i64 a.status, .int .i64 a.out] (g := w.heap.size)).alloc (.cells #[.int .i64 m.f, .int .i64 m.s, .slice Am nm cm] 87))
 have hM : Blk ((w.alloc (.cells #[.int .i64 a.p, .int .i64 a.party, .int .i64 a.x, .int .i64 a.mask, .int .i64 a.delta, .slice As ns cs, .slice Ak nk ck, .int .i64 a.step, .slice Ah nh ch, .int .i64 a.status, .int .i64 a.out] 34)).alloc (.cells #[.int .i64 m.f, .int .i64 m.s, .slice Am nm cm] 87)) (w.heap.size + 1) 87 #[.int .i64 m.f, .int .i64 m.s, .slice Am nm cm] := (Blk.new (w.alloc (.cells #[.int .i64 a.p, .int .i64 a.party, .int .i64 a.x, .int .i64 a.mask, .int .i64 a.delta, .slice As ns cs, .slice Ak nk ck, .int .i64 a.step, .slice Ah nh ch, .int .i64 a.status, .int .i64 a.out] 34)) 87 #[.int .i64 m.f, .int .i64 m.s, .slice Am nm cm] (g := w.heap.size + 1))
 have tb := hW.cells hTb.c2
 obtain ⟨B_l, B_f, B_0, B_1, B_2, B_3, B_4, B_5, B_6, B_7, B_8, B_9, B_10⟩ := hB.l11; obtain ⟨M_l, M_f, M_0, M_1, M_2⟩ := hM.l3
 rcases e1 : (m.f == 1 - a.party)
 ·have j1 := bn_f e1
  have k1 := nq_f e1
  have HR := Lib.hid (show accP a m = false by unfold accP shapeP; rw [e1]; rfl)
  go_enter Tryd.func118, Tryd.ntmps118
  go_wp2
  refine wp_region_held_drew (S := (fun w' => w'.cell? ⟨w.heap.size, 0, none⟩ = some (.int .i64 a.p) ∧ w'.cell? ⟨w.heap.size, 1, none⟩ = some (.int .i64 a.party) ∧ w'.cell? ⟨w.heap.size, 7, none⟩ = some (.int .i64 a.step) ∧ w'.cell? ⟨w.heap.size + 1, 0, none⟩ = some (.int .i64 m.f) ∧ w'.cell? ⟨w.heap.size + 1, 1, none⟩ = some (.int .i64 m.s) ∧ w'.cell? ⟨w.heap.size + 1, 2, none⟩ = some (.slice Am nm cm) ∧ w'.cell? ⟨0, 2, none⟩ = some (.int .i64 2))) (by kernel_rfl) ?_ (fun hHeld => ?_)
  ·(try dsimp only); first | exact ⟨B_0, B_1, B_7, M_0, M_1, M_2, tb⟩ | go_keep
  refine tkO 0 7 ?_
  refine tkO 1 8 ?_
  refine tkO 2 9 ?_
  refine tkO 3 10 ?_
  refine tkO 4 11 ?_
  refine tkO 5 12 ?_
  refine tkO 6 13 ?_
  refine tkz 7 14 ?_
  refine tkz 8 15 ?_
  refine tkz 9 16 ?_
  refine tkz 10 17 ?_
  refine tkz 11 18 ?_
  refine tkO 12 19 ?_
  refine tkO 13 20 ?_
  refine tkz 14 21 ?_
  refine tkz 15 22 ?_
  refine tkz 16 23 ?_
  refine tkz 17 24 ?_
  refine tkz 18 25 ?_
  refine tkz 19 26 ?_
  refine tkz 20 27 ?_
  refine tkz 21 28 ?_
  refine tkO 22 29 ?_
  refine tkO 23 30 ?_
  refine tkz 24 31 ?_
  refine tkz 25 32 ?_
  refine tkz 26 33 ?_
  refine tkz 27 34 ?_
  refine tkz 28 35 ?_
  refine tkz 29 36 ?_
  refine tkO 30 37 ?_
  refine wpAnyH_done (by kernel_rfl) ?_ _
  go_wp2
  go_ret
  exact ⟨ret_bool (by rw [HR.out]), Bl.a2⟩
 have j1 := bn_t e1
 have k1 := nq_t e1
 rcases e2 : (m.s == a.step)
 ·have j2 := bn_f e2
  have k2 := nq_f e2
  have HR := Lib.hid (show accP a m = false by unfold accP shapeP; rw [e1, e2]; rfl)
  clear k1
  go_enter Tryd.func118, Tryd.ntmps118
  go_wp2
  refine wp_region_held_drew (S := (fun w' => w'.cell? ⟨w.heap.size, 0, none⟩ = some (.int .i64 a.p) ∧ w'.cell? ⟨w.heap.size, 1, none⟩ = some (.int .i64 a.party) ∧ w'.cell? ⟨w.heap.size, 7, none⟩ = some (.int .i64 a.step) ∧ w'.cell? ⟨w.heap.size + 1, 0, none⟩ = some (.int .i64 m.f) ∧ w'.cell? ⟨w.heap.size + 1, 1, none⟩ = some (.int .i64 m.s) ∧ w'.cell? ⟨w.heap.size + 1, 2, none⟩ = some (.slice Am nm cm) ∧ w'.cell? ⟨0, 2, none⟩ = some (.int .i64 2))) (by kernel_rfl) ?_ (fun hHeld => ?_)
  ·(try dsimp only); first | exact ⟨B_0, B_1, B_7, M_0, M_1, M_2, tb⟩ | go_keep
  refine tkO 0 7 ?_
  refine tkO 1 8 ?_
  refine tkO 2 9 ?_
  refine tkO 3 10 ?_
  refine tkO 4 11 ?_
  refine tkO 5 12 ?_
  refine tkO 6 13 ?_
  refine tkO 7 14 ?_
  refine tkO 8 15 ?_
  refine tkO 9 16 ?_
  refine tkO 10 17 ?_
  refine tkO 11 18 ?_
  refine tkO 12 19 ?_
  refine tkO 13 20 ?_
  refine tkz 14 21 ?_
  refine tkz 15 22 ?_
  refine tkz 16 23 ?_
  refine tkz 17 24 ?_
  refine tkz 18 25 ?_
  refine tkz 19 26 ?_
  refine tkz 20 27 ?_
  refine tkz 21 28 ?_
  refine tkO 22 29 ?_
  refine tkO 23 30 ?_
  refine tkz 24 31 ?_
  refine tkz 25 32 ?_
  refine tkz 26 33 ?_
  refine tkz 27 34 ?_
  refine tkz 28 35 ?_
  refine tkz 29 36 ?_
  refine tkO 30 37 ?_
  refine wpAnyH_done (by kernel_rfl) ?_ _
  go_wp2
  go_ret
  exact ⟨ret_bool (by rw [HR.out]), Bl.a2⟩
 have j2 := bn_t e2
 have k2 := nq_t e2
 rcases e3 : decide (m.b.length = bodyN a.step.toNat)
 ·have e3' : ((nm : Int) == 2) = false := by
   have q := of_decide_eq_false e3
   have q2 := hml.out
   rw [hix] at q
   have q3 : m.b.length ≠ 2 := q
   simp only [beq_eq_false_iff_ne]; omega
  have j3 := bn_f e3'
  have k3 := nq_f e3'
  have HR := Lib.hid (show accP a m = false by unfold accP shapeP; rw [e1, e2, e3]; rfl)
  clear k1 k2 e3
  go_enter Tryd.func118, Tryd.ntmps118
  go_wp2
  refine wp_region_held_drew (S := (fun w' => w'.cell? ⟨w.heap.size, 0, none⟩ = some (.int .i64 a.p) ∧ w'.cell? ⟨w.heap.size, 1, none⟩ = some (.int .i64 a.party) ∧ w'.cell? ⟨w.heap.size, 7, none⟩ = some (.int .i64 a.step) ∧ w'.cell? ⟨w.heap.size + 1, 0, none⟩ = some (.int .i64 m.f) ∧ w'.cell? ⟨w.heap.size + 1, 1, none⟩ = some (.int .i64 m.s) ∧ w'.cell? ⟨w.heap.size + 1, 2, none⟩ = some (.slice Am nm cm) ∧ w'.cell? ⟨0, 2, none⟩ = some (.int .i64 2))) (by kernel_rfl) ?_ (fun hHeld => ?_)
  ·(try dsimp only); first | exact ⟨B_0, B_1, B_7, M_0, M_1, M_2, tb⟩ | go_keep
  refine tkO 0 7 ?_
  refine tkO 1 8 ?_
  refine tkO 2 9 ?_
  refine tkO 3 10 ?_
  refine tkO 4 11 ?_
  refine tkO 5 12 ?_
  refine tkO 6 13 ?_
  refine tkO 7 14 ?_
  refine tkO 8 15 ?_
  refine tkO 9 16 ?_
  refine tkO 10 17 ?_
  refine tkO 11 18 ?_
  refine tkO 12 19 ?_
  refine tkO 13 20 ?_
  refine tkO 14 21 ?_
  refine tkO 15 22 ?_
  refine tkO 16 23 ?_
  refine tkO 17 24 ?_
  refine tkO 18 25 ?_
  refine tkO 19 26 ?_
  refine tkO 20 27 ?_
  refine tkO 21 28 ?_
  refine tkO 22 29 ?_
  refine tkO 23 30 ?_
  refine tkz 24 31 ?_
  refine tkz 25 32 ?_
  refine tkz 26 33 ?_
  refine tkz 27 34 ?_
  refine tkz 28 35 ?_
  refine tkz 29 36 ?_
  refine tkO 30 37 ?_
  refine wpAnyH_done (by kernel_rfl) ?_ _
  go_wp2
  go_ret
  exact ⟨ret_bool (by rw [HR.out]), Bl.a2⟩
 have hnm : m.b.length = 2 := by
  have q := of_decide_eq_true e3
  rw [hix] at q
  exact q
 have e3' : ((nm : Int) == 2) = true := by
  have q2 := hml.out
  simp only [beq_iff_eq]; omega
 have j3 := bn_t e3'
 have k3 := nq_t e3'
 have hK2 : (primeB a.p && allR m.b 0 (a.p - 1)) = allR m.b 0 (a.p - 1) := by rw [ok.prime]; rfl
 have HK2 := Lib.hid hK2
 clear hK2
 rcases e4 : allR m.b 0 (a.p - 1)
 ·have HR := Lib.hid (show accP a m = false by unfold accP shapeP; rw [e1, e2, e3, e4]; rfl)
  have E3 := Lib.hid e3
  clear k1 k2 k3 e3
  go_enter Tryd.func118, Tryd.ntmps118
  go_wp2
  refine wp_region_held_drew (S := (fun w' => w'.cell? ⟨w.heap.size, 0, none⟩ = some (.int .i64 a.p) ∧ w'.cell? ⟨w.heap.size, 1, none⟩ = some (.int .i64 a.party) ∧ w'.cell? ⟨w.heap.size, 7, none⟩ = some (.int .i64 a.step) ∧ w'.cell? ⟨w.heap.size + 1, 0, none⟩ = some (.int .i64 m.f) ∧ w'.cell? ⟨w.heap.size + 1, 1, none⟩ = some (.int .i64 m.s) ∧ w'.cell? ⟨w.heap.size + 1, 2, none⟩ = some (.slice Am nm cm) ∧ w'.cell? ⟨0, 2, none⟩ = some (.int .i64 2))) (by kernel_rfl) ?_ (fun hHeld => ?_)
  ·(try dsimp only); first | exact ⟨B_0, B_1, B_7, M_0, M_1, M_2, tb⟩ | go_keep
  refine tkO 0 7 ?_
  refine tkO 1 8 ?_
  refine tkO 2 9 ?_
  refine tkO 3 10 ?_
  refine tkO 4 11 ?_
  refine tkO 5 12 ?_
  refine tkO 6 13 ?_
  refine tkO 7 14 ?_
  refine tkO 8 15 ?_
  refine tkO 9 16 ?_
  refine tkO 10 17 ?_
  refine tkO 11 18 ?_
  refine tkO 12 19 ?_
  refine tkO 13 20 ?_
  refine tkO 14 21 ?_
  refine tkO 15 22 ?_
  refine tkO 16 23 ?_
  refine tkO 17 24 ?_
  refine tkO 18 25 ?_
  refine tkO 19 26 ?_
  refine tkO 20 27 ?_
  refine tkO 21 28 ?_
  refine tkO 22 29 ?_
  refine tkO 23 30 ?_
  refine tkO 24 31 ?_
  refine tkO 25 32 ?_
  refine tkO 26 33 ?_
  refine tkO 27 34 ?_
  refine rdy1 28 fun K hK => ?_
  go_simp
  (first | (go_at_call 88; refine (hAE.out _ Bl.a2).mono ?_; rintro e w1 ⟨rfl, hb1⟩; rw [HK2.out, e4]; replace hW : Bl w w1 := Bl.a2; replace hB := hB.kp hb1; replace hM := hM.kp hb1; (try clear B_l B_f B_0 B_1 B_2 B_3 B_4 B_5 B_6 B_7 B_8 B_9 B_10 M_l M_f M_0 M_1 M_2); obtain ⟨B_l, B_f, B_0, B_1, B_2, B_3, B_4, B_5, B_6, B_7, B_8, B_9, B_10⟩ := hB.l11; obtain ⟨M_l, M_f, M_0, M_1, M_2⟩ := hM.l3; replace tb := hW.cells hTb.c2))
  go_wp2_with fail
  refine ko hK ?_ fun hHeld => ?_
  ·(try dsimp only); first | exact ⟨B_0, B_1, B_7, M_0, M_1, M_2, tb⟩ | go_keep
  clear hK K
  refine tkO 29 36 ?_
  refine tkO 30 37 ?_
  refine wpAnyH_done (by kernel_rfl) ?_ _
  go_wp2
  go_ret
  exact ⟨ret_bool (by rw [HR.out]), Bl.a2⟩
 have E3 := Lib.hid e3
 have HR := Lib.hid (show accP a m = holdsP a m.b by unfold accP shapeP; rw [e1, e2, e3, e4]; simp)
 have HA := Lib.hid (fun y hy => allR_mem e4 (x := y) hy)
 clear k1 k2 e3
 have K3 := Lib.hid k3
 clear k3
 go_enter Tryd.func118, Tryd.ntmps118
 go_wp2
 refine wp_region_held_drew (S := (fun w' => w'.cell? ⟨w.heap.size, 0, none⟩ = some (.int .i64 a.p) ∧ w'.cell? ⟨w.heap.size, 1, none⟩ = some (.int .i64 a.party) ∧ w'.cell? ⟨w.heap.size, 7, none⟩ = some (.int .i64 a.step) ∧ w'.cell? ⟨w.heap.size + 1, 0, none⟩ = some (.int .i64 m.f) ∧ w'.cell? ⟨w.heap.size + 1, 1, none⟩ = some (.int .i64 m.s) ∧ w'.cell? ⟨w.heap.size + 1, 2, none⟩ = some (.slice Am nm cm) ∧ w'.cell? ⟨0, 2, none⟩ = some (.int .i64 2))) (by kernel_rfl) ?_ (fun hHeld => ?_)
 ·(try dsimp only); first | exact ⟨B_0, B_1, B_7, M_0, M_1, M_2, tb⟩ | go_keep
 refine tkO 0 7 ?_
 refine tkO 1 8 ?_
 refine tkO 2 9 ?_
 refine tkO 3 10 ?_
 refine tkO 4 11 ?_
 refine tkO 5 12 ?_
 refine tkO 6 13 ?_
 refine tkO 7 14 ?_
 refine tkO 8 15 ?_
 refine tkO 9 16 ?_
 refine tkO 10 17 ?_
 refine tkO 11 18 ?_
 refine tkO 12 19 ?_
 refine tkO 13 20 ?_
 refine tkO 14 21 ?_
 refine tkO 15 22 ?_
 refine tkO 16 23 ?_
 refine tkO 17 24 ?_
 refine tkO 18 25 ?_
 refine tkO 19 26 ?_
 refine tkO 20 27 ?_
 refine tkO 21 28 ?_
 refine tkO 22 29 ?_
 refine tkO 23 30 ?_
 refine tkO 24 31 ?_
 refine tkO 25 32 ?_
 refine tkO 26 33 ?_
 refine tkO 27 34 ?_
 refine rdy1 28 fun K hK => ?_
 go_simp
 (first | (go_at_call 88; refine (hAE.out _ Bl.a2).mono ?_; rintro e w1 ⟨rfl, hb1⟩; rw [HK2.out, e4]; replace hW : Bl w w1 := Bl.a2; replace hB := hB.kp hb1; replace hM := hM.kp hb1; (try clear B_l B_f B_0 B_1 B_2 B_3 B_4 B_5 B_6 B_7 B_8 B_9 B_10 M_l M_f M_0 M_1 M_2); obtain ⟨B_l, B_f, B_0, B_1, B_2, B_3, B_4, B_5, B_6, B_7, B_8, B_9, B_10⟩ := hB.l11; obtain ⟨M_l, M_f, M_0, M_1, M_2⟩ := hM.l3; replace tb := hW.cells hTb.c2))
 go_wp2_with fail
 refine ko hK ?_ fun hHeld => ?_
 ·(try dsimp only); first | exact ⟨B_0, B_1, B_7, M_0, M_1, M_2, tb⟩ | go_keep
 clear hK K
 refine tkO 29 36 ?_
 refine tkO 30 37 ?_
 refine wpAnyH_done (by kernel_rfl) ?_ _
 go_wp2_with (first | (go_at_call 116; refine (HT.out _ Bl.a2).mono ?_; rintro e w1 ⟨g, rfl, hF, hgw, hb1⟩; replace hW : Bl w w1 := Bl.a2; replace hB := hB.kp hb1; replace hM := hM.kp hb1; (try clear B_l B_f B_0 B_1 B_2 B_3 B_4 B_5 B_6 B_7 B_8 B_9 B_10 M_l M_f M_0 M_1 M_2); obtain ⟨B_l, B_f, B_0, B_1, B_2, B_3, B_4, B_5, B_6, B_7, B_8, B_9, B_10⟩ := hB.l11; obtain ⟨M_l, M_f, M_0, M_1, M_2⟩ := hM.l3; obtain ⟨F_l, -, F_0, F_1, F_2, F_3, F_4, F_5⟩ := hF.l6))
 obtain ⟨adm, rfl, hadl, hz, hz2⟩ := hm.lit (by have := K3.out; omega)
 have HZ := Lib.hid (show w.cell? adm = some (.int .i64 (num m.b 0)) from hz _ (by unfold num; rw [List.getElem?_eq_getElem (by omega), Option.getD_some]))
 have HZ2 := Lib.hid (fun (i : Nat) (h0 : 0 < i) (hi : i < 2) => (show w.cell? ⟨adm.block, adm.off + i, none⟩ = some (.int .i64 (num m.b i)) from hz2 i _ h0 (by unfold num; rw [List.getElem?_eq_getElem (by omega), Option.getD_some])))
 have HN := Lib.hid (fun i => num_rng (p := a.p) (l := m.b) (fun y hy => by have := HA.out y hy; omega) p2.1 i)
 clear hz hz2
 have HH := Lib.hid (show holdsP a m.b = (hold a.p a.delta (keyT a) (num m.b 0) (num m.b 1)) by unfold holdsP; rw [if_neg (by have := HS.out; omega), if_neg (by have := HS.out; omega)])
 go_loopw [46] (fun i wr => ∃ j : Int, 0 ≤ j ∧ j ≤ 1 ∧ i = .int .i64 j ∧ Hid (∀ q : Int, q < j → (q = 0 → hold a.p a.delta (keyT a) (num m.b 0) (num m.b 1) = true) ∧ (q = 1 → hold a.p a.delta (keyT a) (num m.b 0) (num m.b 1) = true)) ∧ Bl w wr ∧ Blk wr (w.heap.size) 34 #[.int .i64 a.p, .int .i64 a.party, .int .i64 a.x, .int .i64 a.mask, .int .i64 a.delta, .slice As ns cs, .slice Ak nk ck, .int .i64 a.step, .slice Ah nh ch, .int .i64 a.status, .int .i64 a.out] ∧ Blk wr (w.heap.size + 1) 87 #[.int .i64 m.f, .int .i64 m.s, .slice (some adm) nm cm] ∧ Blk wr g 141 #[.int .i64 0, .int .i64 0, .int .i64 (eS a), .int .i64 (dS a), .int .i64 1, .int .i64 (dS a * eS a)]) (fun i _ => 1 - (intOf i).toNat)
 case atStart => exact ⟨0, by omega, by omega, rfl, Lib.hid (fun q hq => ⟨fun e => by omega, fun e => by omega⟩), hW, hB, hM, hF⟩
 case round =>
  (try clear B_l B_f B_0 B_1 B_2 B_3 B_4 B_5 B_6 B_7 B_8 B_9 B_10 M_l M_f M_0 M_1 M_2)
  (try clear F_l F_0 F_1 F_2 F_3 F_4 F_5)
  clear hW hB hF hM hb1
  (try clear tb)
  obtain ⟨j, hj0, hj, rfl, hall, hW, hB, hM, hF⟩ := hrel
  obtain ⟨B_l, B_f, B_0, B_1, B_2, B_3, B_4, B_5, B_6, B_7, B_8, B_9, B_10⟩ := hB.l11; obtain ⟨M_l, M_f, M_0, M_1, M_2⟩ := hM.l3
  have F_l := hF.lt
  have F_0 := hF.cell 0 _ rfl; have F_1 := hF.cell 1 _ rfl; have F_2 := hF.cell 2 _ rfl; have F_3 := hF.cell 3 _ rfl; have F_4 := hF.cell 4 _ rfl; have F_5 := hF.cell 5 _ rfl
  obtain rfl | rfl : j = 0 ∨ j = 1 := by omega
  ·have Y0 := Lib.hid (HZ.out)
   have Y1 := Lib.hid (HZ2.out 1 (by omega) (by omega))
   have bv := HN.out 0
   have bt := HN.out 1
   generalize hnv : num m.b 0 = v at Y0 bv
   generalize hnt : num m.b 1 = t at Y1 bt
   have NV := Lib.hid hnv
   have NT := Lib.hid hnt
   clear hnv hnt
   have bk := ok.keyT
   have y0 := hW.cells Y0.out
   have y1 := hW.cells Y1.out
   have hnm2 : (nm : Int) = 2 := K3.out
   have i0 : (0 : Int) < nm := by omega
   have i00 : 0 < nm := by omega
   have i1 : (1 : Int) < nm := by omega
   clear hnm2
   go_wp2_with fail
   have hX := Blk.new wr 141 #[.int .i64 0, .int .i64 0, .int .i64 (eS a), .int .i64 (dS a), .int .i64 1, .int .i64 (dS a * eS a)]
   replace hB := hB.alloc (.cells #[.int .i64 0, .int .i64 0, .int .i64 (eS a), .int .i64 (dS a), .int .i64 1, .int .i64 (dS a * eS a)] 141)
   replace hM := hM.alloc (.cells #[.int .i64 0, .int .i64 0, .int .i64 (eS a), .int .i64 (dS a), .int .i64 1, .int .i64 (dS a * eS a)] 141)
   replace hF := hF.alloc (.cells #[.int .i64 0, .int .i64 0, .int .i64 (eS a), .int .i64 (dS a), .int .i64 1, .int .i64 (dS a * eS a)] 141)
   replace hW := hW.alloc (.cells #[.int .i64 0, .int .i64 0, .int .i64 (eS a), .int .i64 (dS a), .int .i64 1, .int .i64 (dS a * eS a)] 141)
   have hgt : w.heap.size + 1 < wr.heap.size := M_l
   (try clear B_l B_f B_0 B_1 B_2 B_3 B_4 B_5 B_6 B_7 B_8 B_9 B_10 M_l M_f M_0 M_1 M_2)
   (try clear F_l F_0 F_1 F_2 F_3 F_4 F_5)
   clear y0 y1
   generalize wr.alloc (.cells #[.int .i64 0, .int .i64 0, .int .i64 (eS a), .int .i64 (dS a), .int .i64 1, .int .i64 (dS a * eS a)] 141) = wz at hX hB hM hF hW ⊢
   generalize wr.heap.size = gt at hX hgt ⊢
   obtain ⟨B_l, B_f, B_0, B_1, B_2, B_3, B_4, B_5, B_6, B_7, B_8, B_9, B_10⟩ := hB.l11; obtain ⟨M_l, M_f, M_0, M_1, M_2⟩ := hM.l3
   have X_0 := hX.cell 0 _ rfl; have X_1 := hX.cell 1 _ rfl; have X_2 := hX.cell 2 _ rfl; have X_3 := hX.cell 3 _ rfl; have X_4 := hX.cell 4 _ rfl; have X_5 := hX.cell 5 _ rfl
   have y0 := hW.cells Y0.out
   have y1 := hW.cells Y1.out
   rcases hh : hold a.p a.delta (keyT a) v t
   ·go_region_held3 (fun w' => w'.cell? ⟨w.heap.size, 0, none⟩ = some (.int .i64 a.p) ∧ w'.cell? ⟨w.heap.size, 1, none⟩ = some (.int .i64 a.party) ∧ w'.cell? ⟨w.heap.size, 2, none⟩ = some (.int .i64 a.x) ∧ w'.cell? ⟨w.heap.size, 3, none⟩ = some (.int .i64 a.mask) ∧ w'.cell? ⟨w.heap.size, 4, none⟩ = some (.int .i64 a.delta) ∧ w'.cell? ⟨w.heap.size, 5, none⟩ = some (.slice As ns cs) ∧ w'.cell? ⟨w.heap.size, 6, none⟩ = some (.slice Ak nk ck) ∧ w'.cell? ⟨w.heap.size, 7, none⟩ = some (.int .i64 a.step) ∧ w'.cell? ⟨w.heap.size, 8, none⟩ = some (.slice Ah nh ch) ∧ w'.cell? ⟨w.heap.size, 9, none⟩ = some (.int .i64 a.status) ∧ w'.cell? ⟨w.heap.size, 10, none⟩ = some (.int .i64 a.out) ∧ w'.cell? ⟨w.heap.size + 1, 2, none⟩ = some (.slice (some adm) nm cm) ∧ w'.cell? ⟨gt, 0, none⟩ = some (.int .i64 0) ∧ w'.cell? ⟨gt, 1, none⟩ = some (.int .i64 0) ∧ w'.cell? ⟨gt, 2, none⟩ = some (.int .i64 (eS a)) ∧ w'.cell? ⟨gt, 3, none⟩ = some (.int .i64 (dS a)) ∧ w'.cell? ⟨gt, 4, none⟩ = some (.int .i64 1) ∧ w'.cell? ⟨gt, 5, none⟩ = some (.int .i64 (dS a * eS a)) ∧ w'.cell? adm = some (.int .i64 v) ∧ w'.cell? ⟨adm.block, adm.off + 1, none⟩ = some (.int .i64 t)) (first | exact ⟨B_0, B_1, B_2, B_3, B_4, B_5, B_6, B_7, B_8, B_9, B_10, M_2, X_0, X_1, X_2, X_3, X_4, X_5, y0, y1⟩ | go_keep) (first | (go_at_call 126; refine (HK0.out _ Bl.a2).mono ?_; rintro e w1 ⟨rfl, hb1⟩; replace hW : Bl w w1 := Bl.a2; replace hB := hB.kp hb1; replace hM := hM.kp hb1; (try clear B_l B_f B_0 B_1 B_2 B_3 B_4 B_5 B_6 B_7 B_8 B_9 B_10 M_l M_f M_0 M_1 M_2); obtain ⟨B_l, B_f, B_0, B_1, B_2, B_3, B_4, B_5, B_6, B_7, B_8, B_9, B_10⟩ := hB.l11; obtain ⟨M_l, M_f, M_0, M_1, M_2⟩ := hM.l3; replace hF := hF.kp hb1; replace hX := hX.kp hb1; (try clear X_0 X_1 X_2 X_3 X_4 X_5 y0 y1); have X_0 := hX.cell 0 _ rfl; have X_1 := hX.cell 1 _ rfl; have X_2 := hX.cell 2 _ rfl; have X_3 := hX.cell 3 _ rfl; have X_4 := hX.cell 4 _ rfl; have X_5 := hX.cell 5 _ rfl; have y0 := hW.cells Y0.out; have y1 := hW.cells Y1.out) | (go_at_call 125; refine (impl_holds a.p a.delta _ v t _ p2 pd bk bv bt).mono ?_; rintro e w1 ⟨rfl, hb1⟩; rw [hh]; replace hW : Bl w w1 := Bl.a2; replace hB := hB.kp hb1; replace hM := hM.kp hb1; (try clear B_l B_f B_0 B_1 B_2 B_3 B_4 B_5 B_6 B_7 B_8 B_9 B_10 M_l M_f M_0 M_1 M_2); obtain ⟨B_l, B_f, B_0, B_1, B_2, B_3, B_4, B_5, B_6, B_7, B_8, B_9, B_10⟩ := hB.l11; obtain ⟨M_l, M_f, M_0, M_1, M_2⟩ := hM.l3; replace hF := hF.kp hb1; replace hX := hX.kp hb1; (try clear X_0 X_1 X_2 X_3 X_4 X_5 y0 y1); have X_0 := hX.cell 0 _ rfl; have X_1 := hX.cell 1 _ rfl; have X_2 := hX.cell 2 _ rfl; have X_3 := hX.cell 3 _ rfl; have X_4 := hX.cell 4 _ rfl; have X_5 := hX.cell 5 _ rfl; have y0 := hW.cells Y0.out; have y1 := hW.cells Y1.out))
    go_wp2
    go_ret
    exact ⟨ret_bool (by rw [HR.out, HH.out, NV.out, NT.out, hh]; (try simp)), Bl.a2⟩
   ·go_region_held3 (fun w' => w'.cell? ⟨w.heap.size, 0, none⟩ = some (.int .i64 a.p) ∧ w'.cell? ⟨w.heap.size, 1, none⟩ = some (.int .i64 a.party) ∧ w'.cell? ⟨w.heap.size, 2, none⟩ = some (.int .i64 a.x) ∧ w'.cell? ⟨w.heap.size, 3, none⟩ = some (.int .i64 a.mask) ∧ w'.cell? ⟨w.heap.size, 4, none⟩ = some (.int .i64 a.delta) ∧ w'.cell? ⟨w.heap.size, 5, none⟩ = some (.slice As ns cs) ∧ w'.cell? ⟨w.heap.size, 6, none⟩ = some (.slice Ak nk ck) ∧ w'.cell? ⟨w.heap.size, 7, none⟩ = some (.int .i64 a.step) ∧ w'.cell? ⟨w.heap.size, 8, none⟩ = some (.slice Ah nh ch) ∧ w'.cell? ⟨w.heap.size, 9, none⟩ = some (.int .i64 a.status) ∧ w'.cell? ⟨w.heap.size, 10, none⟩ = some (.int .i64 a.out) ∧ w'.cell? ⟨w.heap.size + 1, 2, none⟩ = some (.slice (some adm) nm cm) ∧ w'.cell? ⟨gt, 0, none⟩ = some (.int .i64 0) ∧ w'.cell? ⟨gt, 1, none⟩ = some (.int .i64 0) ∧ w'.cell? ⟨gt, 2, none⟩ = some (.int .i64 (eS a)) ∧ w'.cell? ⟨gt, 3, none⟩ = some (.int .i64 (dS a)) ∧ w'.cell? ⟨gt, 4, none⟩ = some (.int .i64 1) ∧ w'.cell? ⟨gt, 5, none⟩ = some (.int .i64 (dS a * eS a)) ∧ w'.cell? adm = some (.int .i64 v) ∧ w'.cell? ⟨adm.block, adm.off + 1, none⟩ = some (.int .i64 t)) (first | exact ⟨B_0, B_1, B_2, B_3, B_4, B_5, B_6, B_7, B_8, B_9, B_10, M_2, X_0, X_1, X_2, X_3, X_4, X_5, y0, y1⟩ | go_keep) (first | (go_at_call 126; refine (HK0.out _ Bl.a2).mono ?_; rintro e w1 ⟨rfl, hb1⟩; replace hW : Bl w w1 := Bl.a2; replace hB := hB.kp hb1; replace hM := hM.kp hb1; (try clear B_l B_f B_0 B_1 B_2 B_3 B_4 B_5 B_6 B_7 B_8 B_9 B_10 M_l M_f M_0 M_1 M_2); obtain ⟨B_l, B_f, B_0, B_1, B_2, B_3, B_4, B_5, B_6, B_7, B_8, B_9, B_10⟩ := hB.l11; obtain ⟨M_l, M_f, M_0, M_1, M_2⟩ := hM.l3; replace hF := hF.kp hb1; replace hX := hX.kp hb1; (try clear X_0 X_1 X_2 X_3 X_4 X_5 y0 y1); have X_0 := hX.cell 0 _ rfl; have X_1 := hX.cell 1 _ rfl; have X_2 := hX.cell 2 _ rfl; have X_3 := hX.cell 3 _ rfl; have X_4 := hX.cell 4 _ rfl; have X_5 := hX.cell 5 _ rfl; have y0 := hW.cells Y0.out; have y1 := hW.cells Y1.out) | (go_at_call 125; refine (impl_holds a.p a.delta _ v t _ p2 pd bk bv bt).mono ?_; rintro e w1 ⟨rfl, hb1⟩; rw [hh]; replace hW : Bl w w1 := Bl.a2; replace hB := hB.kp hb1; replace hM := hM.kp hb1; (try clear B_l B_f B_0 B_1 B_2 B_3 B_4 B_5 B_6 B_7 B_8 B_9 B_10 M_l M_f M_0 M_1 M_2); obtain ⟨B_l, B_f, B_0, B_1, B_2, B_3, B_4, B_5, B_6, B_7, B_8, B_9, B_10⟩ := hB.l11; obtain ⟨M_l, M_f, M_0, M_1, M_2⟩ := hM.l3; replace hF := hF.kp hb1; replace hX := hX.kp hb1; (try clear X_0 X_1 X_2 X_3 X_4 X_5 y0 y1); have X_0 := hX.cell 0 _ rfl; have X_1 := hX.cell 1 _ rfl; have X_2 := hX.cell 2 _ rfl; have X_3 := hX.cell 3 _ rfl; have X_4 := hX.cell 4 _ rfl; have X_5 := hX.cell 5 _ rfl; have y0 := hW.cells Y0.out; have y1 := hW.cells Y1.out))
    go_wp2
    go_roundw
    case rel => exact ⟨1, by omega, by omega, rfl, Lib.hid (fun q hq => ⟨fun e => by first | exact hh | (rw [NV.out, NT.out]; exact hh), fun e => by omega⟩), hW, hB, hM, hF⟩
    case measure => simp [intOf]
  ·have hx0 := (hall.out 0 (by omega)).1 rfl
   have hx1 := (hall.out 0 (by omega)).1 rfl
   go_wp2
   go_ret
   exact ⟨ret_bool (by rw [HR.out, HH.out, hx0]), Bl.a2⟩
end Go.Proofs.YtcjpalhclgkjiaaDoor
