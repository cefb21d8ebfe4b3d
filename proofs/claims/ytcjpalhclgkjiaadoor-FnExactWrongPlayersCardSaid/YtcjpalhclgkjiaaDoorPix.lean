/- Contracts: whether a player accepts a message.
   Conditions: the player is valid. -/
import Derived.Test.YtcjpalhclgkjiaaDoorPin
import Derived.Test.YtcjpalhclgkjiaaDoorPgp
namespace Go.Proofs.YtcjpalhclgkjiaaDoor
open Go.RowKit
set_option linter.unusedVariables false
set_option maxRecDepth 20000 in
set_option maxHeartbeats 2000000 in
theorem impl_accepts0 (a : Pl) (m : Ms) (As Ak Ah : Option Addr) (ns cs nk ck nh ch : Nat) (hs : List Hd) (Am : Option Addr) (nm cm : Nat) (w : World) (hTb : Tab w) (ok : Ok a 0) (h : RdP w a As Ak Ah ns cs nk ck nh ch hs) (hm : RdI w Am nm cm m.b) :
  Calls Tryd.prog 118 #[.agg #[.int .i64 a.p, .int .i64 a.party, .int .i64 a.x, .int .i64 a.mask, .int .i64 a.delta, .slice As ns cs, .slice Ak nk ck, .int .i64 a.step, .slice Ah nh ch, .int .i64 a.status, .int .i64 a.out], .agg #[.int .i64 m.f, .int .i64 m.s, .slice Am nm cm]] w fun e w' => e = .returned (.bool (accP a m)) ∧ Bl w w' := by
 have p2 := ok.p2
 have pd := ok.delta
 have hst : a.step = 0 := ok.step
 have hs0 : (a.step == 0) = true := by simp; omega
 have hix : a.step.toNat = 0 := by omega
 have hs1 : 0 ≤ a.step := by omega
 have hs2 : a.step < 3 := by omega
 have HS := Lib.hid hst
 clear hst
 have hml := Lib.hid hm.length
 obtain ⟨hm1, hm2⟩ := hm.le
 have hpa := ok.party
 have zp : IntKind.i64.wrap (1 - a.party) = 1 - a.party := IntWalk.i64_in _ (by omega)
 have z0 : IntKind.i64.wrap 0 = 0 := rfl
 have z1 : IntKind.i64.wrap 1 = 1 := rfl
 have z2 : IntKind.i64.wrap 2 = 2 := rfl
 have z3 : IntKind.i64.wrap 3 = 3 := rfl
 clear hpa
 have hAE := Lib.hid (fun (w' : World) (hb : Bl w w') => impl_areElements a.p Am nm cm m.b w' (hm.keep hb))
 have hW : Bl w ((w.alloc (.cells #[.int .i64 a.p, .int .i64 a.party, .int .i64 a.x, .int .i64 a.mask, .int .i64 a.delta, .slice As ns cs, .slice Ak nk ck, .int .i64 a.step, .slice Ah nh ch, .int .i64 a.status, .int .i64 a.out] 34)).alloc (.cells #[.int .i64 m.f, .int .i64 m.s, .slice Am nm cm] 87)) := Bl.a2
 have hB : Blk ((w.alloc (.cells #[.int .i64 a.p, .int .i64 a.party, .int .i64 a.x, .int .i64 a.mask, .int .i64 a.delta, .slice As ns cs, .slice Ak nk ck, .int .i64 a.step, .slice Ah nh ch, .int .i64 a.status, .int .i64 a.out] 34)).alloc (.cells #[.int .i64 m.f, .int .i64 m.s, .slice Am nm cm] 87)) (w.heap.size) 34 #[.int .i64 a.p, .int .i64 a.party, .int .i64 a.x, .int .i64 a.mask, .int .i64 a.delta, .slice As ns cs, .slice Ak nk ck, .int .i64 a.step, .slice Ah nh ch, .int .i64 a.status, .int .i64 a.out] := ((Blk.new w 34 #[.int .i64 a.p, .int .i64 a.party, .int .i64 a.x, .int .i64 a.mask, .int .i64 a.delta, .slice As ns cs, .slice Ak nk ck, .int .i64 a.step, .slice Ah nh ch, .int .i64 a.status, .int .i64 a.out] (g := w.heap.size)).alloc (.cells #[.int .i64 m.f, .int .i64 m.s, .slice Am nm cm] 87))
 have hM : Blk ((w.alloc (.cells #[.int .i64 a.p, .int .i64 a.party, .int .i64 a.x, .int .i64 a.mask, .int .i64 a.delta, .slice As ns cs, .slice Ak nk ck, .int .i64 a.step, .slice Ah nh ch, .int .i64 a.status, .int .i64 a.out] 34)).alloc (.cells #[.int .i64 m.f, .int .i64 m.s, .slice Am nm cm] 87)) (w.heap.size + 1) 87 #[.int .i64 m.f, .int .i64 m.s, .slice Am nm cm] := (Blk.new (w.alloc (.cells #[.int .i64 a.p, .int .i64 a.party, .int .i64 a.x, .int .i64 a.mask, .int .i64 a.delta, .slice As ns cs, .slice Ak nk ck, .int .i64 a.step, .slice Ah nh ch, .int .i64 a.status, .int .i64 a.out] 34)) 87 #[.int .i64 m.f, .int .i64 m.s, .slice Am nm cm] (g := w.heap.size + 1))
 have tb := hW.cells hTb.c0
 obtain ⟨B_l, B_f, B_0, B_1, B_2, B_3, B_4, B_5, B_6, B_7, B_8, B_9, B_10⟩ := hB.l11; obtain ⟨M_l, M_f, M_0, M_1, M_2⟩ := hM.l3
 rcases e1 : (m.f == 1 - a.party)
 ·have j1 := bn_f e1
  have k1 := nq_f e1
  have HR := Lib.hid (show accP a m = false by unfold accP shapeP; rw [e1]; rfl)
  go_enter Tryd.func118, Tryd.ntmps118
  go_wp2
  refine wp_region_held_drew (S := (fun w' => w'.cell? ⟨w.heap.size, 0, none⟩ = some (.int .i64 a.p) ∧ w'.cell? ⟨w.heap.size, 1, none⟩ = some (.int .i64 a.party) ∧ w'.cell? ⟨w.heap.size, 7, none⟩ = some (.int .i64 a.step) ∧ w'.cell? ⟨w.heap.size + 1, 0, none⟩ = some (.int .i64 m.f) ∧ w'.cell? ⟨w.heap.size + 1, 1, none⟩ = some (.int .i64 m.s) ∧ w'.cell? ⟨w.heap.size + 1, 2, none⟩ = some (.slice Am nm cm) ∧ w'.cell? ⟨0, 0, none⟩ = some (.int .i64 1))) (by kernel_rfl) ?_ (fun hHeld => ?_)
  ·(try dsimp only); first | exact ⟨B_0, B_1, B_7, M_0, M_1, M_2, tb⟩ | go_keep
  refine tkO 0 7 ?_
  refine tkO 1 8 ?_
  refine tkO 2 9 ?_
  refine tkO 3 10 ?_
  refine tkO 4 11 ?_
  refine tkO 5 12 ?_
  refine tkO 6 13 ?_
  refine tkz 7 14 ?_
  refine tkz 8 15 ?_
  refine tkz 9 16 ?_
  refine tkz 10 17 ?_
  refine tkz 11 18 ?_
  refine tkO 12 19 ?_
  refine tkO 13 20 ?_
  refine tkz 14 21 ?_
  refine tkz 15 22 ?_
  refine tkz 16 23 ?_
  refine tkz 17 24 ?_
  refine tkz 18 25 ?_
  refine tkz 19 26 ?_
  refine tkz 20 27 ?_
  refine tkz 21 28 ?_
  refine tkO 22 29 ?_
  refine tkO 23 30 ?_
  refine tkz 24 31 ?_
  refine tkz 25 32 ?_
  refine tkz 26 33 ?_
  refine tkz 27 34 ?_
  refine tkz 28 35 ?_
  refine tkz 29 36 ?_
  refine tkO 30 37 ?_
  refine wpAnyH_done (by kernel_rfl) ?_ _
  go_wp2
  go_ret
  exact ⟨ret_bool (by rw [HR.out]), Bl.a2⟩
 have j1 := bn_t e1
 have k1 := nq_t e1
 rcases e2 : (m.s == a.step)
 ·have j2 := bn_f e2
  have k2 := nq_f e2
  have HR := Lib.hid (show accP a m = false by unfold accP shapeP; rw [e1, e2]; rfl)
  clear k1
  go_enter Tryd.func118, Tryd.ntmps118
  go_wp2
  refine wp_region_held_drew (S := (fun w' => w'.cell? ⟨w.heap.size, 0, none⟩ = some (.int .i64 a.p) ∧ w'.cell? ⟨w.heap.size, 1, none⟩ = some (.int .i64 a.party) ∧ w'.cell? ⟨w.heap.size, 7, none⟩ = some (.int .i64 a.step) ∧ w'.cell? ⟨w.heap.size + 1, 0, none⟩ = some (.int .i64 m.f) ∧ w'.cell? ⟨w.heap.size + 1, 1, none⟩ = some (.int .i64 m.s) ∧ w'.cell? ⟨w.heap.size + 1, 2, none⟩ = some (.slice Am nm cm) ∧ w'.cell? ⟨0, 0, none⟩ = some (.int .i64 1))) (by kernel_rfl) ?_ (fun hHeld => ?_)
  ·(try dsimp only); first | exact ⟨B_0, B_1, B_7, M_0, M_1, M_2, tb⟩ | go_keep
  refine tkO 0 7 ?_
  refine tkO 1 8 ?_
  refine tkO 2 9 ?_
  refine tkO 3 10 ?_
  refine tkO 4 11 ?_
  refine tkO 5 12 ?_
  refine tkO 6 13 ?_
  refine tkO 7 14 ?_
  refine tkO 8 15 ?_
  refine tkO 9 16 ?_
  refine tkO 10 17 ?_
  refine tkO 11 18 ?_
  refine tkO 12 19 ?_
  refine tkO 13 20 ?_
  refine tkz 14 21 ?_
  refine tkz 15 22 ?_
  refine tkz 16 23 ?_
  refine tkz 17 24 ?_
  refine tkz 18 25 ?_
  refine tkz 19 26 ?_
  refine tkz 20 27 ?_
  refine tkz 21 28 ?_
  refine tkO 22 29 ?_
  refine tkO 23 30 ?_
  refine tkz 24 31 ?_
  refine tkz 25 32 ?_
  refine tkz 26 33 ?_
  refine tkz 27 34 ?_
  refine tkz 28 35 ?_
  refine tkz 29 36 ?_
  refine tkO 30 37 ?_
  refine wpAnyH_done (by kernel_rfl) ?_ _
  go_wp2
  go_ret
  exact ⟨ret_bool (by rw [HR.out]), Bl.a2⟩
 have j2 := bn_t e2
 have k2 := nq_t e2
 rcases e3 : decide (m.b.length = bodyN a.step.toNat)
 ·have e3' : ((nm : Int) == 1) = false := by
   have q := of_decide_eq_false e3
   have q2 := hml.out
   rw [hix] at q
   have q3 : m.b.length ≠ 1 := q
   simp only [beq_eq_false_iff_ne]; omega
  have j3 := bn_f e3'
  have k3 := nq_f e3'
  have HR := Lib.hid (show accP a m = false by unfold accP shapeP; rw [e1, e2, e3]; rfl)
  clear k1 k2 e3
  go_enter Tryd.func118, Tryd.ntmps118
  go_wp2
  refine wp_region_held_drew (S := (fun w' => w'.cell? ⟨w.heap.size, 0, none⟩ = some (.int .i64 a.p) ∧ w'.cell? ⟨w.heap.size, 1, none⟩ = some (.int .i64 a.party) ∧ w'.cell? ⟨w.heap.size, 7, none⟩ = some (.int .i64 a.step) ∧ w'.cell? ⟨w.heap.size + 1, 0, none⟩ = some (.int .i64 m.f) ∧ w'.cell? ⟨w.heap.size + 1, 1, none⟩ = some (.int .i64 m.s) ∧ w'.cell? ⟨w.heap.size + 1, 2, none⟩ = some (.slice Am nm cm) ∧ w'.cell? ⟨0, 0, none⟩ = some (.int .i64 1))) (by kernel_rfl) ?_ (fun hHeld => ?_)
  ·(try dsimp only); first | exact ⟨B_0, B_1, B_7, M_0, M_1, M_2, tb⟩ | go_keep
  refine tkO 0 7 ?_
  refine tkO 1 8 ?_
  refine tkO 2 9 ?_
  refine tkO 3 10 ?_
  refine tkO 4 11 ?_
  refine tkO 5 12 ?_
  refine tkO 6 13 ?_
  refine tkO 7 14 ?_
  refine tkO 8 15 ?_
  refine tkO 9 16 ?_
  refine tkO 10 17 ?_
  refine tkO 11 18 ?_
  refine tkO 12 19 ?_
  refine tkO 13 20 ?_
  refine tkO 14 21 ?_
  refine tkO 15 22 ?_
  refine tkO 16 23 ?_
  refine tkO 17 24 ?_
  refine tkO 18 25 ?_
  refine tkO 19 26 ?_
  refine tkO 20 27 ?_
  refine tkO 21 28 ?_
  refine tkO 22 29 ?_
  refine tkO 23 30 ?_
  refine tkz 24 31 ?_
  refine tkz 25 32 ?_
  refine tkz 26 33 ?_
  refine tkz 27 34 ?_
  refine tkz 28 35 ?_
  refine tkz 29 36 ?_
  refine tkO 30 37 ?_
  refine wpAnyH_done (by kernel_rfl) ?_ _
  go_wp2
  go_ret
  exact ⟨ret_bool (by rw [HR.out]), Bl.a2⟩
 have hnm : m.b.length = 1 := by
  have q := of_decide_eq_true e3
  rw [hix] at q
  exact q
 have e3' : ((nm : Int) == 1) = true := by
  have q2 := hml.out
  simp only [beq_iff_eq]; omega
 have j3 := bn_t e3'
 have k3 := nq_t e3'
 have hK2 : (primeB a.p && allR m.b 0 (a.p - 1)) = allR m.b 0 (a.p - 1) := by rw [ok.prime]; rfl
 have HK2 := Lib.hid hK2
 clear hK2
 rcases e4 : allR m.b 0 (a.p - 1)
 ·have HR := Lib.hid (show accP a m = false by unfold accP shapeP; rw [e1, e2, e3, e4]; rfl)
  have E3 := Lib.hid e3
  clear k1 k2 k3 e3
  go_enter Tryd.func118, Tryd.ntmps118
  go_wp2
  refine wp_region_held_drew (S := (fun w' => w'.cell? ⟨w.heap.size, 0, none⟩ = some (.int .i64 a.p) ∧ w'.cell? ⟨w.heap.size, 1, none⟩ = some (.int .i64 a.party) ∧ w'.cell? ⟨w.heap.size, 7, none⟩ = some (.int .i64 a.step) ∧ w'.cell? ⟨w.heap.size + 1, 0, none⟩ = some (.int .i64 m.f) ∧ w'.cell? ⟨w.heap.size + 1, 1, none⟩ = some (.int .i64 m.s) ∧ w'.cell? ⟨w.heap.size + 1, 2, none⟩ = some (.slice Am nm cm) ∧ w'.cell? ⟨0, 0, none⟩ = some (.int .i64 1))) (by kernel_rfl) ?_ (fun hHeld => ?_)
  ·(try dsimp only); first | exact ⟨B_0, B_1, B_7, M_0, M_1, M_2, tb⟩ | go_keep
  refine tkO 0 7 ?_
  refine tkO 1 8 ?_
  refine tkO 2 9 ?_
  refine tkO 3 10 ?_
  refine tkO 4 11 ?_
  refine tkO 5 12 ?_
  refine tkO 6 13 ?_
  refine tkO 7 14 ?_
  refine tkO 8 15 ?_
  refine tkO 9 16 ?_
  refine tkO 10 17 ?_
  refine tkO 11 18 ?_
  refine tkO 12 19 ?_
  refine tkO 13 20 ?_
  refine tkO 14 21 ?_
  refine tkO 15 22 ?_
  refine tkO 16 23 ?_
  refine tkO 17 24 ?_
  refine tkO 18 25 ?_
  refine tkO 19 26 ?_
  refine tkO 20 27 ?_
  refine tkO 21 28 ?_
  refine tkO 22 29 ?_
  refine tkO 23 30 ?_
  refine tkO 24 31 ?_
  refine tkO 25 32 ?_
  refine tkO 26 33 ?_
  refine tkO 27 34 ?_
  refine rdy1 28 fun K hK => ?_
  go_simp
  (first | (go_at_call 88; refine (hAE.out _ Bl.a2).mono ?_; rintro e w1 ⟨rfl, hb1⟩; rw [HK2.out, e4]; replace hW : Bl w w1 := Bl.a2; replace hB := hB.kp hb1; replace hM := hM.kp hb1; (try clear B_l B_f B_0 B_1 B_2 B_3 B_4 B_5 B_6 B_7 B_8 B_9 B_10 M_l M_f M_0 M_1 M_2); obtain ⟨B_l, B_f, B_0, B_1, B_2, B_3, B_4, B_5, B_6, B_7, B_8, B_9, B_10⟩ := hB.l11; obtain ⟨M_l, M_f, M_0, M_1, M_2⟩ := hM.l3; replace tb := hW.cells hTb.c0))
  go_wp2_with fail
  refine ko hK ?_ fun hHeld => ?_
  ·(try dsimp only); first | exact ⟨B_0, B_1, B_7, M_0, M_1, M_2, tb⟩ | go_keep
  clear hK K
  refine tkO 29 36 ?_
  refine tkO 30 37 ?_
  refine wpAnyH_done (by kernel_rfl) ?_ _
  go_wp2
  go_ret
  exact ⟨ret_bool (by rw [HR.out]), Bl.a2⟩
 have E3 := Lib.hid e3
 have HR := Lib.hid (show accP a m = holdsP a m.b by unfold accP shapeP; rw [e1, e2, e3, e4]; simp)
 have HA := Lib.hid (fun y hy => allR_mem e4 (x := y) hy)
 clear k1 k2 e3
 have K3 := Lib.hid k3
 clear k3
 go_enter Tryd.func118, Tryd.ntmps118
 go_wp2
 refine wp_region_held_drew (S := (fun w' => w'.cell? ⟨w.heap.size, 0, none⟩ = some (.int .i64 a.p) ∧ w'.cell? ⟨w.heap.size, 1, none⟩ = some (.int .i64 a.party) ∧ w'.cell? ⟨w.heap.size, 7, none⟩ = some (.int .i64 a.step) ∧ w'.cell? ⟨w.heap.size + 1, 0, none⟩ = some (.int .i64 m.f) ∧ w'.cell? ⟨w.heap.size + 1, 1, none⟩ = some (.int .i64 m.s) ∧ w'.cell? ⟨w.heap.size + 1, 2, none⟩ = some (.slice Am nm cm) ∧ w'.cell? ⟨0, 0, none⟩ = some (.int .i64 1))) (by kernel_rfl) ?_ (fun hHeld => ?_)
 ·(try dsimp only); first | exact ⟨B_0, B_1, B_7, M_0, M_1, M_2, tb⟩ | go_keep
 refine tkO 0 7 ?_
 refine tkO 1 8 ?_
 refine tkO 2 9 ?_
 refine tkO 3 10 ?_
 refine tkO 4 11 ?_
 refine tkO 5 12 ?_
 refine tkO 6 13 ?_
 refine tkO 7 14 ?_
 refine tkO 8 15 ?_
 refine tkO 9 16 ?_
 refine tkO 10 17 ?_
 refine tkO 11 18 ?_
 refine tkO 12 19 ?_
 refine tkO 13 20 ?_
 refine tkO 14 21 ?_
 refine tkO 15 22 ?_
 refine tkO 16 23 ?_
 refine tkO 17 24 ?_
 refine tkO 18 25 ?_
 refine tkO 19 26 ?_
 refine tkO 20 27 ?_
 refine tkO 21 28 ?_
 refine tkO 22 29 ?_
 refine tkO 23 30 ?_
 refine tkO 24 31 ?_
 refine tkO 25 32 ?_
 refine tkO 26 33 ?_
 refine tkO 27 34 ?_
 refine rdy1 28 fun K hK => ?_
 go_simp
 (first | (go_at_call 88; refine (hAE.out _ Bl.a2).mono ?_; rintro e w1 ⟨rfl, hb1⟩; rw [HK2.out, e4]; replace hW : Bl w w1 := Bl.a2; replace hB := hB.kp hb1; replace hM := hM.kp hb1; (try clear B_l B_f B_0 B_1 B_2 B_3 B_4 B_5 B_6 B_7 B_8 B_9 B_10 M_l M_f M_0 M_1 M_2); obtain ⟨B_l, B_f, B_0, B_1, B_2, B_3, B_4, B_5, B_6, B_7, B_8, B_9, B_10⟩ := hB.l11; obtain ⟨M_l, M_f, M_0, M_1, M_2⟩ := hM.l3; replace tb := hW.cells hTb.c0))
 go_wp2_with fail
 refine ko hK ?_ fun hHeld => ?_
 ·(try dsimp only); first | exact ⟨B_0, B_1, B_7, M_0, M_1, M_2, tb⟩ | go_keep
 clear hK K
 refine tkO 29 36 ?_
 refine tkO 30 37 ?_
 refine wpAnyH_done (by kernel_rfl) ?_ _
 go_wp2
 go_ret
 exact ⟨ret_bool (by rw [HR.out]; unfold holdsP; rw [if_pos HS.out]), Bl.a2⟩
end Go.Proofs.YtcjpalhclgkjiaaDoor
