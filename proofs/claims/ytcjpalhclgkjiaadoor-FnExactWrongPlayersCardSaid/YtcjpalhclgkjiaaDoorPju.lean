/- Contracts: a running player takes a message, its last one.
   Conditions: the player is valid. -/
import Derived.Test.YtcjpalhclgkjiaaDoorPjt
namespace Go.Proofs.YtcjpalhclgkjiaaDoor
open Go.RowKit
set_option linter.unusedVariables false
set_option maxRecDepth 20000 in
set_option maxHeartbeats 1000000 in
theorem impl_take_y2 (a : Pl) (m : Ms) (k : Nat) (As Ak Ah : Option Addr) (ns cs nk ck nh ch : Nat) (hs : List Hd) (Am : Option Addr) (nm cm : Nat) (w : World) (hTb : Tab w) (hk : k = 2) (ok : Ok a k) (h : RdP w a As Ak Ah ns cs nk ck nh ch hs) (hm : RdI w Am nm cm m.b) (hacc : accP a m = true) :
  Calls Tryd.prog 95 #[.agg #[.int .i64 a.p, .int .i64 a.party, .int .i64 a.x, .int .i64 a.mask, .int .i64 a.delta, .slice As ns cs, .slice Ak nk ck, .int .i64 a.step, .slice Ah nh ch, .int .i64 a.status, .int .i64 a.out], .agg #[.int .i64 m.f, .int .i64 m.s, .slice Am nm cm]] w fun e w' => ∃ As' Ak' Ah' cs' ck' nh' ch' hs' T, e = .returned (.agg #[.int .i64 (takeP a m).p, .int .i64 (takeP a m).party, .int .i64 (takeP a m).x, .int .i64 (takeP a m).mask, .int .i64 (takeP a m).delta, .slice As' ns cs', .slice Ak' nk ck', .int .i64 (takeP a m).step, .slice Ah' nh' ch', .int .i64 (takeP a m).status, .int .i64 (takeP a m).out]) ∧
   OwnP w.heap.size T w' (takeP a m) As' Ak' Ah' ns cs' nk ck' nh' ch' hs' ∧ Bl w w' := by
 have hst : a.step = k := ok.step
 have hnsE := h.ns_eq ok
 have hnkE := h.nk_eq ok
 have hnhE := h.nh_eq ok
 have hlen : ∀ b ∈ a.hd, b.length ≤ 1000000 := fun b hb => by
  obtain ⟨i, hi⟩ := List.mem_iff_getElem?.1 hb
  have := (ok.hd i b hi).1
  have := bodyN_le i
  omega
 have HC := Lib.hid (fun (w' : World) (hb : Bl w w') => impl_copyPlayer a As Ak Ah ns cs nk ck nh ch hs w' (h.keep hb) ⟨by omega, by omega, by omega, hlen⟩)
 have HA := Lib.hid (fun (w' : World) (hb : Bl w w') => impl_accepts a m k As Ak Ah ns cs nk ck nh ch hs Am nm cm w' (hTb.keep hb) (by omega) ok (h.keep hb) (hm.keep hb))
 have HR := Lib.hid hacc
 have HN := Lib.hid hnhE
 have HS := Lib.hid hst
 clear hlen hnsE hnkE hnhE hst hacc
 have ok2 : Ok a 2 := hk ▸ ok
 have HB2 := Lib.hid (show (bodyP a).length = 2 from (ok2.body (Nat.le_refl _)).1)
 have HB3 := Lib.hid (show (bodyP a)[0]? = some (thV a) by
  have e := ok2.step
  unfold bodyP; rw [if_neg (by omega), if_neg (by omega)]; rfl)
 have q3 := (shape_facts (a := a) (m := m) (k := k) (by have := HR.out; simp only [accP, Bool.and_eq_true] at this; exact this.1) HS.out).2.2
 have q4 : m.b.length = 2 := by rw [q3.1, hk]; rfl
 have q5 := hm.length
 have i0m : (0 : Int) < nm := by omega
 have i00m : 0 < nm := by omega
 obtain ⟨adm, hAm, hadl, hz, hz2⟩ := hm.lit i00m
 have HZM := Lib.hid (show w.cell? adm = some (.int .i64 (num m.b 0)) from hz _ (by unfold num; rw [List.getElem?_eq_getElem (by omega), Option.getD_some]))
 have bm := num_rng (p := a.p) q3.2 ok2.p2.1 0
 have bt := ok2.thV
 have p2 := ok2.p2
 have zs : IntKind.i64.wrap (thV a + num m.b 0) = thV a + num m.b 0 := IntWalk.i64_in _ (by omega)
 clear q3 q4 q5 hz hz2
 subst hAm
 have hW : Bl w (((w.alloc (.cells #[.int .i64 a.p, .int .i64 a.party, .int .i64 a.x, .int .i64 a.mask, .int .i64 a.delta, .slice As ns cs, .slice Ak nk ck, .int .i64 a.step, .slice Ah nh ch, .int .i64 a.status, .int .i64 a.out] 34)).alloc (.cells #[.int .i64 m.f, .int .i64 m.s, .slice (some adm) nm cm] 87)).alloc (.cells #[.int .i64 0, .int .i64 0, .int .i64 0, .int .i64 0, .int .i64 0, .slice none 0 0, .slice none 0 0, .int .i64 0, .slice none 0 0, .int .i64 0, .int .i64 0] 34)) := Bl.a2
 have hB : Blk (((w.alloc (.cells #[.int .i64 a.p, .int .i64 a.party, .int .i64 a.x, .int .i64 a.mask, .int .i64 a.delta, .slice As ns cs, .slice Ak nk ck, .int .i64 a.step, .slice Ah nh ch, .int .i64 a.status, .int .i64 a.out] 34)).alloc (.cells #[.int .i64 m.f, .int .i64 m.s, .slice (some adm) nm cm] 87)).alloc (.cells #[.int .i64 0, .int .i64 0, .int .i64 0, .int .i64 0, .int .i64 0, .slice none 0 0, .slice none 0 0, .int .i64 0, .slice none 0 0, .int .i64 0, .int .i64 0] 34)) (w.heap.size) 34 #[.int .i64 a.p, .int .i64 a.party, .int .i64 a.x, .int .i64 a.mask, .int .i64 a.delta, .slice As ns cs, .slice Ak nk ck, .int .i64 a.step, .slice Ah nh ch, .int .i64 a.status, .int .i64 a.out] := (((Blk.new w 34 #[.int .i64 a.p, .int .i64 a.party, .int .i64 a.x, .int .i64 a.mask, .int .i64 a.delta, .slice As ns cs, .slice Ak nk ck, .int .i64 a.step, .slice Ah nh ch, .int .i64 a.status, .int .i64 a.out] (g := w.heap.size)).alloc (.cells #[.int .i64 m.f, .int .i64 m.s, .slice (some adm) nm cm] 87)).alloc (.cells #[.int .i64 0, .int .i64 0, .int .i64 0, .int .i64 0, .int .i64 0, .slice none 0 0, .slice none 0 0, .int .i64 0, .slice none 0 0, .int .i64 0, .int .i64 0] 34))
 have hM : Blk (((w.alloc (.cells #[.int .i64 a.p, .int .i64 a.party, .int .i64 a.x, .int .i64 a.mask, .int .i64 a.delta, .slice As ns cs, .slice Ak nk ck, .int .i64 a.step, .slice Ah nh ch, .int .i64 a.status, .int .i64 a.out] 34)).alloc (.cells #[.int .i64 m.f, .int .i64 m.s, .slice (some adm) nm cm] 87)).alloc (.cells #[.int .i64 0, .int .i64 0, .int .i64 0, .int .i64 0, .int .i64 0, .slice none 0 0, .slice none 0 0, .int .i64 0, .slice none 0 0, .int .i64 0, .int .i64 0] 34)) (w.heap.size + 1) 87 #[.int .i64 m.f, .int .i64 m.s, .slice (some adm) nm cm] := ((Blk.new (w.alloc (.cells #[.int .i64 a.p, .int .i64 a.party, .int .i64 a.x, .int .i64 a.mask, .int .i64 a.delta, .slice As ns cs, .slice Ak nk ck, .int .i64 a.step, .slice Ah nh ch, .int .i64 a.status, .int .i64 a.out] 34)) 87 #[.int .i64 m.f, .int .i64 m.s, .slice (some adm) nm cm] (g := w.heap.size + 1)).alloc (.cells #[.int .i64 0, .int .i64 0, .int .i64 0, .int .i64 0, .int .i64 0, .slice none 0 0, .slice none 0 0, .int .i64 0, .slice none 0 0, .int .i64 0, .int .i64 0] 34))
 have hR : Blk (((w.alloc (.cells #[.int .i64 a.p, .int .i64 a.party, .int .i64 a.x, .int .i64 a.mask, .int .i64 a.delta, .slice As ns cs, .slice Ak nk ck, .int .i64 a.step, .slice Ah nh ch, .int .i64 a.status, .int .i64 a.out] 34)).alloc (.cells #[.int .i64 m.f, .int .i64 m.s, .slice (some adm) nm cm] 87)).alloc (.cells #[.int .i64 0, .int .i64 0, .int .i64 0, .int .i64 0, .int .i64 0, .slice none 0 0, .slice none 0 0, .int .i64 0, .slice none 0 0, .int .i64 0, .int .i64 0] 34)) (w.heap.size + 1 + 1) 34 #[.int .i64 0, .int .i64 0, .int .i64 0, .int .i64 0, .int .i64 0, .slice none 0 0, .slice none 0 0, .int .i64 0, .slice none 0 0, .int .i64 0, .int .i64 0] := (Blk.new ((w.alloc (.cells #[.int .i64 a.p, .int .i64 a.party, .int .i64 a.x, .int .i64 a.mask, .int .i64 a.delta, .slice As ns cs, .slice Ak nk ck, .int .i64 a.step, .slice Ah nh ch, .int .i64 a.status, .int .i64 a.out] 34)).alloc (.cells #[.int .i64 m.f, .int .i64 m.s, .slice (some adm) nm cm] 87)) 34 #[.int .i64 0, .int .i64 0, .int .i64 0, .int .i64 0, .int .i64 0, .slice none 0 0, .slice none 0 0, .int .i64 0, .slice none 0 0, .int .i64 0, .int .i64 0] (g := w.heap.size + 1 + 1))
 obtain ⟨B_l, B_f, B_0, B_1, B_2, B_3, B_4, B_5, B_6, B_7, B_8, B_9, B_10⟩ := hB.l11; obtain ⟨M_l, M_f, M_0, M_1, M_2⟩ := hM.l3; obtain ⟨R_l, R_f, R_0, R_1, R_2, R_3, R_4, R_5, R_6, R_7, R_8, R_9, R_10⟩ := hR.l11
 go_enter Tryd.func95, Tryd.ntmps95
 go_wp2_with fail
 refine (HC.out _ Bl.a2).mono ?_
 rintro e w1 ⟨A5, A6, A8, c5, c6, c8, hs8, T, rfl, hp1, hb1⟩
 replace hW : Bl w w1 := Bl.a2; replace hB := hB.kp hb1; replace hM := hM.kp hb1; replace hR := hR.kp hb1; (try clear B_l B_f B_0 B_1 B_2 B_3 B_4 B_5 B_6 B_7 B_8 B_9 B_10 M_l M_f M_0 M_1 M_2 R_l R_f R_0 R_1 R_2 R_3 R_4 R_5 R_6 R_7 R_8 R_9 R_10); obtain ⟨B_l, B_f, B_0, B_1, B_2, B_3, B_4, B_5, B_6, B_7, B_8, B_9, B_10⟩ := hB.l11; obtain ⟨M_l, M_f, M_0, M_1, M_2⟩ := hM.l3; obtain ⟨R_l, R_f, R_0, R_1, R_2, R_3, R_4, R_5, R_6, R_7, R_8, R_9, R_10⟩ := hR.l11
 replace hp1 := hp1.mono (base' := w.heap.size + 3) (by simp)
 have hg0 : w.heap.size + 3 ≤ w1.heap.size := by have := R_l; omega
 go_wp2_with fail
 have hO := Blk.new w1 34 #[.int .i64 a.p, .int .i64 a.party, .int .i64 a.x, .int .i64 a.mask, .int .i64 a.delta, .slice A5 ns c5, .slice A6 nk c6, .int .i64 a.step, .slice A8 nh c8, .int .i64 a.status, .int .i64 a.out]
 have hz1 : Bl w1 (w1.alloc (.cells #[.int .i64 a.p, .int .i64 a.party, .int .i64 a.x, .int .i64 a.mask, .int .i64 a.delta, .slice A5 ns c5, .slice A6 nk c6, .int .i64 a.step, .slice A8 nh c8, .int .i64 a.status, .int .i64 a.out] 34)) := (Bl.refl _).alloc _
 have hgO : w1.heap.size ≤ w1.heap.size := Nat.le_refl _
 (try clear B_l B_f B_0 B_1 B_2 B_3 B_4 B_5 B_6 B_7 B_8 B_9 B_10 M_l M_f M_0 M_1 M_2 R_l R_f R_0 R_1 R_2 R_3 R_4 R_5 R_6 R_7 R_8 R_9 R_10)
 replace hB := hB.alloc (.cells #[.int .i64 a.p, .int .i64 a.party, .int .i64 a.x, .int .i64 a.mask, .int .i64 a.delta, .slice A5 ns c5, .slice A6 nk c6, .int .i64 a.step, .slice A8 nh c8, .int .i64 a.status, .int .i64 a.out] 34)
 replace hM := hM.alloc (.cells #[.int .i64 a.p, .int .i64 a.party, .int .i64 a.x, .int .i64 a.mask, .int .i64 a.delta, .slice A5 ns c5, .slice A6 nk c6, .int .i64 a.step, .slice A8 nh c8, .int .i64 a.status, .int .i64 a.out] 34)
 replace hR := hR.alloc (.cells #[.int .i64 a.p, .int .i64 a.party, .int .i64 a.x, .int .i64 a.mask, .int .i64 a.delta, .slice A5 ns c5, .slice A6 nk c6, .int .i64 a.step, .slice A8 nh c8, .int .i64 a.status, .int .i64 a.out] 34)
 replace hW := hW.alloc (.cells #[.int .i64 a.p, .int .i64 a.party, .int .i64 a.x, .int .i64 a.mask, .int .i64 a.delta, .slice A5 ns c5, .slice A6 nk c6, .int .i64 a.step, .slice A8 nh c8, .int .i64 a.status, .int .i64 a.out] 34)
 clear hb1
 generalize w1.alloc (.cells #[.int .i64 a.p, .int .i64 a.party, .int .i64 a.x, .int .i64 a.mask, .int .i64 a.delta, .slice A5 ns c5, .slice A6 nk c6, .int .i64 a.step, .slice A8 nh c8, .int .i64 a.status, .int .i64 a.out] 34) = w2 at hO hz1 hB hM hR hW ⊢
 generalize hgE : w1.heap.size = gO at hO ⊢
 have hGE := Lib.hid hgE
 have hgO : w.heap.size + 3 ≤ gO := by omega
 clear hgE
 obtain ⟨B_l, B_f, B_0, B_1, B_2, B_3, B_4, B_5, B_6, B_7, B_8, B_9, B_10⟩ := hB.l11; obtain ⟨M_l, M_f, M_0, M_1, M_2⟩ := hM.l3; obtain ⟨R_l, R_f, R_0, R_1, R_2, R_3, R_4, R_5, R_6, R_7, R_8, R_9, R_10⟩ := hR.l11; obtain ⟨O_l, O_f, O_0, O_1, O_2, O_3, O_4, O_5, O_6, O_7, O_8, O_9, O_10⟩ := hO.l11
 refine (HA.out _ hW).mono ?_
 rintro e w3 ⟨rfl, hb3⟩
 rw [HR.out]
 replace hW : Bl w w3 := Bl.a2; replace hB := hB.kp hb3; replace hM := hM.kp hb3; replace hR := hR.kp hb3; replace hO := hO.kp hb3; (try clear B_l B_f B_0 B_1 B_2 B_3 B_4 B_5 B_6 B_7 B_8 B_9 B_10 M_l M_f M_0 M_1 M_2 R_l R_f R_0 R_1 R_2 R_3 R_4 R_5 R_6 R_7 R_8 R_9 R_10 O_l O_f O_0 O_1 O_2 O_3 O_4 O_5 O_6 O_7 O_8 O_9 O_10); obtain ⟨B_l, B_f, B_0, B_1, B_2, B_3, B_4, B_5, B_6, B_7, B_8, B_9, B_10⟩ := hB.l11; obtain ⟨M_l, M_f, M_0, M_1, M_2⟩ := hM.l3; obtain ⟨R_l, R_f, R_0, R_1, R_2, R_3, R_4, R_5, R_6, R_7, R_8, R_9, R_10⟩ := hR.l11; obtain ⟨O_l, O_f, O_0, O_1, O_2, O_3, O_4, O_5, O_6, O_7, O_8, O_9, O_10⟩ := hO.l11
 replace hz1 : Bl w1 w3 := hz1.call hb3
 clear hb3
 have zm := hW.cells HZM.out
 have hs2 : (a.step == 2) = true := by have := HS.out; simp only [beq_iff_eq]; omega
 go_wp2_with fail
 refine region_F (fun _ => True) (fun w' => w'.cell? ⟨w.heap.size, 0, none⟩ = some (.int .i64 a.p) ∧ w'.cell? ⟨w.heap.size, 1, none⟩ = some (.int .i64 a.party) ∧ w'.cell? ⟨w.heap.size, 2, none⟩ = some (.int .i64 a.x) ∧ w'.cell? ⟨w.heap.size, 3, none⟩ = some (.int .i64 a.mask) ∧ w'.cell? ⟨w.heap.size, 4, none⟩ = some (.int .i64 a.delta) ∧ w'.cell? ⟨w.heap.size, 5, none⟩ = some (.slice As ns cs) ∧ w'.cell? ⟨w.heap.size, 6, none⟩ = some (.slice Ak nk ck) ∧ w'.cell? ⟨w.heap.size, 7, none⟩ = some (.int .i64 a.step) ∧ w'.cell? ⟨w.heap.size, 8, none⟩ = some (.slice Ah nh ch) ∧ w'.cell? ⟨w.heap.size, 9, none⟩ = some (.int .i64 a.status) ∧ w'.cell? ⟨w.heap.size, 10, none⟩ = some (.int .i64 a.out) ∧ w'.cell? ⟨w.heap.size + 1, 2, none⟩ = some (.slice (some adm) nm cm) ∧ w'.cell? adm = some (.int .i64 (num m.b 0))) 15 (by kernel_rfl) ?_ (fun hHeld => ?_)
 ·(try dsimp only); exact ⟨trivial, B_0, B_1, B_2, B_3, B_4, B_5, B_6, B_7, B_8, B_9, B_10, M_2, zm⟩
 refine tC 0 17 [0] ?_ hHeld
 refine tC 1 18 [1] ?_ hHeld
 refine tC 2 19 [2] ?_ hHeld
 refine tC 6 23 [6] ?_ hHeld
 refine tC 7 24 [7] ?_ hHeld
 refine tC 8 25 [8] ?_ hHeld
 refine tC 9 26 [9] ?_ hHeld
 refine tC 12 29 [12] ?_ hHeld
 refine f_step (i := 3) (by kernel_rfl) rfl (fun K hK => ?_)
 go_simp
 go_at_call 94; refine (impl_body2 a As Ak Ah ns cs nk ck nh ch hs _ ok2 (h.keep Bl.a2)).mono ?_; rintro e w4 ⟨A4, n4, c4, rfl, ho4, hb4⟩; have hn4 := ho4.length; have hn4b := HB2.out; have hn5 : 0 < n4 := (by omega); have hn6 : (0 : Int) < n4 := (by omega); clear hn4 hn4b; obtain ⟨g4, rfl, hlo4, hlt4, hc4, hf4⟩ := ho4.form hn5; have hz4 := hc4 0 _ HB3.out; clear hc4 hf4; replace hW : Bl w w4 := Bl.a2; replace hB := hB.kp hb4; replace hM := hM.kp hb4; replace hR := hR.kp hb4; replace hO := hO.kp hb4; (try clear B_l B_f B_0 B_1 B_2 B_3 B_4 B_5 B_6 B_7 B_8 B_9 B_10 M_l M_f M_0 M_1 M_2 R_l R_f R_0 R_1 R_2 R_3 R_4 R_5 R_6 R_7 R_8 R_9 R_10 O_l O_f O_0 O_1 O_2 O_3 O_4 O_5 O_6 O_7 O_8 O_9 O_10); obtain ⟨B_l, B_f, B_0, B_1, B_2, B_3, B_4, B_5, B_6, B_7, B_8, B_9, B_10⟩ := hB.l11; obtain ⟨M_l, M_f, M_0, M_1, M_2⟩ := hM.l3; obtain ⟨R_l, R_f, R_0, R_1, R_2, R_3, R_4, R_5, R_6, R_7, R_8, R_9, R_10⟩ := hR.l11; obtain ⟨O_l, O_f, O_0, O_1, O_2, O_3, O_4, O_5, O_6, O_7, O_8, O_9, O_10⟩ := hO.l11; have hz6 : Bl w1 w4 := Bl.call hz1.drew hb4; replace zm := hW.cells HZM.out
 go_wp2_with fail
 refine ko hK ?_ fun hHeld => ?_
 ·(try dsimp only); exact ⟨trivial, B_0, B_1, B_2, B_3, B_4, B_5, B_6, B_7, B_8, B_9, B_10, M_2, zm⟩
 clear hK K
 refine tC 4 21 [4] ?_ hHeld
 refine f_step (i := 5) (by kernel_rfl) rfl (fun K hK => ?_)
 go_simp
 refine ko hK ?_ fun hHeld => ?_
 ·(try dsimp only); exact ⟨trivial, B_0, B_1, B_2, B_3, B_4, B_5, B_6, B_7, B_8, B_9, B_10, M_2, zm⟩
 clear hK K
 refine tC 10 27 [10] ?_ hHeld
 refine f_step (i := 11) (by kernel_rfl) rfl (fun K hK => ?_)
 go_simp
 go_at_call 45; refine (impl_mod _ _ _ (by omega) (by omega) (by omega) (by omega)).mono ?_; rintro e w6 ⟨rfl, rfl⟩
 go_wp2_with fail
 refine ko hK ?_ fun hHeld => ?_
 ·(try dsimp only); exact ⟨trivial, B_0, B_1, B_2, B_3, B_4, B_5, B_6, B_7, B_8, B_9, B_10, M_2, zm⟩
 clear hK K
 refine f_step (i := 13) (by kernel_rfl) rfl (fun K hK => ?_)
 go_simp
 refine ko hK ?_ fun hHeld => ?_
 ·(try dsimp only); exact ⟨trivial, (hB.far (by dsimp only; omega) _).cell 0 _ rfl, (hB.far (by dsimp only; omega) _).cell 1 _ rfl, (hB.far (by dsimp only; omega) _).cell 2 _ rfl, (hB.far (by dsimp only; omega) _).cell 3 _ rfl, (hB.far (by dsimp only; omega) _).cell 4 _ rfl, (hB.far (by dsimp only; omega) _).cell 5 _ rfl, (hB.far (by dsimp only; omega) _).cell 6 _ rfl, (hB.far (by dsimp only; omega) _).cell 7 _ rfl, (hB.far (by dsimp only; omega) _).cell 8 _ rfl, (hB.far (by dsimp only; omega) _).cell 9 _ rfl, (hB.far (by dsimp only; omega) _).cell 10 _ rfl, (hM.far (by dsimp only; omega) _).cell 2 _ rfl, (hW.setCell (by dsimp only; omega) _).cells HZM.out⟩
 clear hK K
 refine tC 14 30 [14] ?_ hHeld
 refine f_last (i := 15) (by kernel_rfl) rfl (by simp) (fun K hK => ?_)
 go_simp
 refine ko hK ?_ fun hHeld => ?_
 ·exact trivial
 clear hK K
 refine f_done (by kernel_rfl) ?_ _
 go_wp2_with fail
 (try clear B_l B_f B_0 B_1 B_2 B_3 B_4 B_5 B_6 B_7 B_8 B_9 B_10 M_l M_f M_0 M_1 M_2 R_l R_f R_0 R_1 R_2 R_3 R_4 R_5 R_6 R_7 R_8 R_9 R_10 O_l O_f O_0 O_1 O_2 O_3 O_4 O_5 O_6 O_7 O_8 O_9 O_10)
 have hz7 : Bl w1 ((w4.setCell ⟨gO, 9, none⟩ (.int .i64 1)).setCell ⟨gO, 10, none⟩ (.int .i64 ((thV a + num m.b 0) % a.p))) := (hz6.setCell (by have := hGE.out; dsimp only; omega) _).setCell (by have := hGE.out; dsimp only; omega) _
 replace hO : Blk ((w4.setCell ⟨gO, 9, none⟩ (.int .i64 1)).setCell ⟨gO, 10, none⟩ (.int .i64 ((thV a + num m.b 0) % a.p))) (gO) 34 #[.int .i64 a.p, .int .i64 a.party, .int .i64 a.x, .int .i64 a.mask, .int .i64 a.delta, .slice A5 ns c5, .slice A6 nk c6, .int .i64 a.step, .slice A8 nh c8, .int .i64 1, .int .i64 ((thV a + num m.b 0) % a.p)] := (hO.set_ 9 _).set_ 10 _
 replace hB : Blk ((w4.setCell ⟨gO, 9, none⟩ (.int .i64 1)).setCell ⟨gO, 10, none⟩ (.int .i64 ((thV a + num m.b 0) % a.p))) (w.heap.size) 34 #[.int .i64 a.p, .int .i64 a.party, .int .i64 a.x, .int .i64 a.mask, .int .i64 a.delta, .slice As ns cs, .slice Ak nk ck, .int .i64 a.step, .slice Ah nh ch, .int .i64 a.status, .int .i64 a.out] := (hB.far (by dsimp only; omega) _).far (by dsimp only; omega) _
 replace hM : Blk ((w4.setCell ⟨gO, 9, none⟩ (.int .i64 1)).setCell ⟨gO, 10, none⟩ (.int .i64 ((thV a + num m.b 0) % a.p))) (w.heap.size + 1) 87 #[.int .i64 m.f, .int .i64 m.s, .slice (some adm) nm cm] := (hM.far (by dsimp only; omega) _).far (by dsimp only; omega) _
 replace hR : Blk ((w4.setCell ⟨gO, 9, none⟩ (.int .i64 1)).setCell ⟨gO, 10, none⟩ (.int .i64 ((thV a + num m.b 0) % a.p))) (w.heap.size + 1 + 1) 34 #[.int .i64 0, .int .i64 0, .int .i64 0, .int .i64 0, .int .i64 0, .slice none 0 0, .slice none 0 0, .int .i64 0, .slice none 0 0, .int .i64 0, .int .i64 0] := (hR.far (by dsimp only; omega) _).far (by dsimp only; omega) _
 replace hW : Bl w ((w4.setCell ⟨gO, 9, none⟩ (.int .i64 1)).setCell ⟨gO, 10, none⟩ (.int .i64 ((thV a + num m.b 0) % a.p))) := (hW.setCell (by dsimp only; omega) _).setCell (by dsimp only; omega) _
 clear zm hz1 hb4 hz6 ho4 hz4 hlt4 hlo4
 generalize ((w4.setCell ⟨gO, 9, none⟩ (.int .i64 1)).setCell ⟨gO, 10, none⟩ (.int .i64 ((thV a + num m.b 0) % a.p))) = w3 at hz7 hO hB hM hR hW ⊢
 have hz1 := hz7
 obtain ⟨B_l, B_f, B_0, B_1, B_2, B_3, B_4, B_5, B_6, B_7, B_8, B_9, B_10⟩ := hB.l11; obtain ⟨M_l, M_f, M_0, M_1, M_2⟩ := hM.l3; obtain ⟨R_l, R_f, R_0, R_1, R_2, R_3, R_4, R_5, R_6, R_7, R_8, R_9, R_10⟩ := hR.l11; obtain ⟨O_l, O_f, O_0, O_1, O_2, O_3, O_4, O_5, O_6, O_7, O_8, O_9, O_10⟩ := hO.l11
 have hz3 := hz1
 have hS3 := hp1.hd.keep hz1
 have hTb0 := hp1.bT
 have hO3 := hO.lt
 have hlm : nm ≤ 4 := by
  have q := hm.length
  have q2 := (shape_facts (a := a) (m := m) (k := k) (by have := HR.out; simp only [accP, Bool.and_eq_true] at this; exact this.1) HS.out).2.2.1
  have := bodyN_le k
  omega
 have hz2 : IntKind.i64.wrap (a.step + 1) = a.step + 1 := IntWalk.i64_in _ (by have := HS.out; omega)
 have hn2 : nh ≤ 3 := by have := HN.out; omega
 refine region_F (fun w' => w'.cell? ⟨w.heap.size, 7, none⟩ = some (.int .i64 a.step)) (fun w' => Bl w w' ∧ w'.cell? ⟨gO, 8, none⟩ = some (.slice A8 nh c8) ∧ w'.cell? ⟨w.heap.size + 1, 2, none⟩ = some (.slice (some adm) nm cm)) 11 (by kernel_rfl) ?_ (fun hHeld => ?_)
 ·(try dsimp only); exact ⟨B_7, Bl.a2, O_8, M_2⟩
 refine tC 0 31 [0] ?_ hHeld
 refine tC 1 32 [1] ?_ hHeld
 refine tC 2 33 [2] ?_ hHeld
 refine tC 3 34 [3] ?_ hHeld
 refine tS 7 38 ?_ hHeld.1 (fun _ => hHeld.2)
 refine tS 8 39 ?_ hHeld.1 (fun _ => hHeld.2)
 refine tS 9 40 ?_ hHeld.1 (fun _ => hHeld.2)
 refine f_step (i := 4) (by kernel_rfl) rfl (fun K hK => ?_)
 go_simp
 go_at_call 96; refine (slices_Clone (some adm) nm cm m.b _ (hm.keep Bl.a2) (by omega)).mono ?_; rintro e w5 ⟨A9, c9, rfl, ho9, hb5⟩; have hsz5 := hz1.sz; have hdr : w3.drew.heap.size = w3.heap.size := rfl; have hT1 := hp1.hT; have hus := hS3.under; replace hW : Bl w w5 := Bl.a2; replace hB := hB.kp hb5; replace hM := hM.kp hb5; replace hR := hR.kp hb5; replace hO := hO.kp hb5; (try clear B_l B_f B_0 B_1 B_2 B_3 B_4 B_5 B_6 B_7 B_8 B_9 B_10 M_l M_f M_0 M_1 M_2 R_l R_f R_0 R_1 R_2 R_3 R_4 R_5 R_6 R_7 R_8 R_9 R_10 O_l O_f O_0 O_1 O_2 O_3 O_4 O_5 O_6 O_7 O_8 O_9 O_10); obtain ⟨B_l, B_f, B_0, B_1, B_2, B_3, B_4, B_5, B_6, B_7, B_8, B_9, B_10⟩ := hB.l11; obtain ⟨M_l, M_f, M_0, M_1, M_2⟩ := hM.l3; obtain ⟨R_l, R_f, R_0, R_1, R_2, R_3, R_4, R_5, R_6, R_7, R_8, R_9, R_10⟩ := hR.l11; obtain ⟨O_l, O_f, O_0, O_1, O_2, O_3, O_4, O_5, O_6, O_7, O_8, O_9, O_10⟩ := hO.l11; have hz5 : Bl w1 w5 := Bl.call hz1.drew hb5; have hS5 := (hS3.keep ((Bl.refl _).drew)).keep hb5
 go_wp2_with fail
 refine ko hK ?_ fun hHeld => ?_
 ·(try dsimp only); exact ⟨B_7, Bl.a2, O_8, M_2⟩
 clear hK K
 refine f_step (i := 5) (by kernel_rfl) rfl (fun K hK => ?_)
 go_simp
 refine ko hK ?_ fun hHeld => ?_
 ·(try dsimp only); exact ⟨(hB.alloc _).cell 7 _ rfl, Bl.a2, (hO.alloc _).cell 8 _ rfl, (hM.alloc _).cell 2 _ rfl⟩
 clear hK K
 refine f_step (i := 6) (by kernel_rfl) rfl (fun K hK => ?_)
 refine ap_ss_step (y := ⟨A9, nm, c9⟩) (l := m.b) rfl rfl rfl (hS5.alloc _) rfl (rd_hd1 _ ⟨A9, nm, c9⟩) ((ho9.mono (by omega)).keep Bl.a2) (fun q hq e2 => by have a1 := (ho9.blk q hq).1; have a2 := hus.1 q e2; omega) (fun i z hz q hq e2 => by have a1 := (ho9.blk q e2).1; have a2 := hus.2 i z hz q hq; omega) (by omega) (by have := hz5.sz; simp; omega) ?_; intro A10 c10 w8 ho10 hg8 hat8; have hab := hS5.above.1; have hun : ∀ q, A8.map (·.block) = some q → q < gO := fun q hq => (by have q1 := hp1.hd.under.1 q hq; have q2 := hGE.out; omega); replace hW : Bl w w8 := (hW.alloc _).grown hg8 (fun q hq => by have := hab q hq; omega); replace hB : Blk w8 (w.heap.size) 34 #[.int .i64 a.p, .int .i64 a.party, .int .i64 a.x, .int .i64 a.mask, .int .i64 a.delta, .slice As ns cs, .slice Ak nk ck, .int .i64 a.step, .slice Ah nh ch, .int .i64 a.status, .int .i64 a.out] := Blk.grown (hB.alloc _) hg8 (fun e => by have a1 := hab _ e.symm; have a2 := hun _ e.symm; omega); replace hM : Blk w8 (w.heap.size + 1) 87 #[.int .i64 m.f, .int .i64 m.s, .slice (some adm) nm cm] := Blk.grown (hM.alloc _) hg8 (fun e => by have a1 := hab _ e.symm; have a2 := hun _ e.symm; omega); replace hR : Blk w8 (w.heap.size + 1 + 1) 34 #[.int .i64 0, .int .i64 0, .int .i64 0, .int .i64 0, .int .i64 0, .slice none 0 0, .slice none 0 0, .int .i64 0, .slice none 0 0, .int .i64 0, .int .i64 0] := Blk.grown (hR.alloc _) hg8 (fun e => by have a1 := hab _ e.symm; have a2 := hun _ e.symm; omega); replace hO : Blk w8 (gO) 34 #[.int .i64 a.p, .int .i64 a.party, .int .i64 a.x, .int .i64 a.mask, .int .i64 a.delta, .slice A5 ns c5, .slice A6 nk c6, .int .i64 a.step, .slice A8 nh c8, .int .i64 1, .int .i64 ((thV a + num m.b 0) % a.p)] := Blk.grown (hO.alloc _) hg8 (fun e => by have a1 := hab _ e.symm; have a2 := hun _ e.symm; omega); (try clear B_l B_f B_0 B_1 B_2 B_3 B_4 B_5 B_6 B_7 B_8 B_9 B_10 M_l M_f M_0 M_1 M_2 R_l R_f R_0 R_1 R_2 R_3 R_4 R_5 R_6 R_7 R_8 R_9 R_10 O_l O_f O_0 O_1 O_2 O_3 O_4 O_5 O_6 O_7 O_8 O_9 O_10); obtain ⟨B_l, B_f, B_0, B_1, B_2, B_3, B_4, B_5, B_6, B_7, B_8, B_9, B_10⟩ := hB.l11; obtain ⟨M_l, M_f, M_0, M_1, M_2⟩ := hM.l3; obtain ⟨R_l, R_f, R_0, R_1, R_2, R_3, R_4, R_5, R_6, R_7, R_8, R_9, R_10⟩ := hR.l11; obtain ⟨O_l, O_f, O_0, O_1, O_2, O_3, O_4, O_5, O_6, O_7, O_8, O_9, O_10⟩ := hO.l11
 refine ko hK ?_ fun hHeld => ?_
 ·(try dsimp only); exact ⟨B_7, Bl.a2, O_8, M_2⟩
 clear hK K
 refine tC 10 41 [10] ?_ hHeld
 refine f_last (i := 11) (by kernel_rfl) rfl (by simp) (fun K hK => ?_)
 go_simp
 refine ko hK ?_ fun hHeld => ?_
 ·(try dsimp only); exact (hB.far (by dsimp only; omega) _).cell 7 _ rfl
 clear hK K
 refine tS 12 42 ?_ hHeld (fun h => by simp at h)
 refine f_last (i := 13) (by kernel_rfl) rfl (by simp) (fun K hK => ?_)
 go_simp
 refine ko hK ?_ fun hHeld => ?_
 ·(try dsimp only); exact ((hB.far (by dsimp only; omega) _).far (by dsimp only; omega) _).cell 7 _ rfl
 clear hK K
 refine f_done (by kernel_rfl) ?_ _
 go_wp2
 have hgs : w8.grownBy ((w8.setCell ⟨gO, 8, none⟩ (.slice A10 (nh + 1) c10)).setCell ⟨gO, 7, none⟩ (.int .i64 (a.step + 1))) (some gO) := grownBy_trans (grownBy_setCell w8 gO 8 _) (grownBy_setCell _ gO 7 _)
 have hus1 := hp1.hd.under
 have hge := hGE.out
 have hnA : ∀ q, (some gO : Option Nat) ≠ some q ∨ ¬ q < gO := fun q => by
  by_cases e : gO = q
  ·exact .inr (by omega)
  ·exact .inl (fun h => e (by injection h))
 have f5 : OwnTg (w.heap.size + 3) ((w8.setCell ⟨gO, 8, none⟩ (.slice A10 (nh + 1) c10)).setCell ⟨gO, 7, none⟩ (.int .i64 (a.step + 1))) A5 ns c5 a.sh := ((((hp1.sh.keep hz1).keep ((Bl.refl _).drew)).keep hb5).keep ((Bl.refl _).alloc _) |>.grownR hg8 (fun q hq e => by have a1 := hab q e; have a2 := hp1.ls q hq; omega)).grownR hgs (fun q hq e => by have a2 := (hp1.sh.blk q hq).2; injection e with e; omega)
 have f6 : OwnI (w.heap.size + 3) ((w8.setCell ⟨gO, 8, none⟩ (.slice A10 (nh + 1) c10)).setCell ⟨gO, 7, none⟩ (.int .i64 (a.step + 1))) A6 nk c6 a.ks := ((((hp1.ks.keep hz1).keep ((Bl.refl _).drew)).keep hb5).keep ((Bl.refl _).alloc _) |>.grownR hg8 (fun q hq e => by have a1 := hab q e; have a2 := hp1.lk q hq; omega)).grownR hgs (fun q hq e => by have a2 := (hp1.ks.blk q hq).2; injection e with e; omega)
 have hs85 := hz5.sz
 have hs35 : w3.heap.size ≤ w5.heap.size := hb5.sz
 have hdr : w3.drew.heap.size = w3.heap.size := rfl
 have hgl := hg8.size
 simp only [World.size_alloc] at hgl
 have fS : OwnSS T ((w8.setCell ⟨gO, 8, none⟩ (.slice A10 (nh + 1) c10)).setCell ⟨gO, 7, none⟩ (.int .i64 (a.step + 1))) A10 (nh + 1) c10 (hs8 ++ [⟨A9, nm, c9⟩]) (a.hd ++ [m.b]) := by
  refine ho10.grownR hgs (fun q hq e => ?_) (fun i x hx q hq e => ?_)
  ·injection e with e
   rcases hat8 with h1 | h1
   ·have := hun q (h1 ▸ hq); omega
   ·rw [h1] at hq; simp at hq; omega
  ·injection e with e
   rcases getElem?_snoc hx with ⟨h1, _⟩ | ⟨_, rfl⟩
   ·have := hus1.2 i x h1 q hq; omega
   ·have := (ho9.blk q hq).1; omega
 have hX0 : OwnP (w.heap.size + 3) T ((w8.setCell ⟨gO, 8, none⟩ (.slice A10 (nh + 1) c10)).setCell ⟨gO, 7, none⟩ (.int .i64 (a.step + 1))) { a with hd := a.hd ++ [m.b] } A5 A6 A10 ns c5 nk c6 (nh + 1) c10 (hs8 ++ [⟨A9, nm, c9⟩]) :=
  ⟨f5, f6, fS, hp1.bT, hp1.ls, hp1.lk, hp1.lsk, by simp; omega⟩
 replace hW : Bl w ((w8.setCell ⟨gO, 8, none⟩ (.slice A10 (nh + 1) c10)).setCell ⟨gO, 7, none⟩ (.int .i64 (a.step + 1))) := hW.grown hgs (fun q e => by injection e with e; omega)
 replace hR : Blk ((w8.setCell ⟨gO, 8, none⟩ (.slice A10 (nh + 1) c10)).setCell ⟨gO, 7, none⟩ (.int .i64 (a.step + 1))) (w.heap.size + 2) 34 #[.int .i64 0, .int .i64 0, .int .i64 0, .int .i64 0, .int .i64 0, .slice none 0 0, .slice none 0 0, .int .i64 0, .slice none 0 0, .int .i64 0, .int .i64 0] := (hR.far (by dsimp only; omega) _).far (by dsimp only; omega) _
 have hR3 : Blk ((((((((((((((w8.setCell ⟨gO, 8, none⟩ (.slice A10 (nh + 1) c10)).setCell ⟨gO, 7, none⟩ (.int .i64 (a.step + 1))).setCell ⟨w.heap.size + 2, 0, none⟩ (.int .i64 a.p)).setCell ⟨w.heap.size + 2, 1, none⟩ (.int .i64 a.party)).setCell ⟨w.heap.size + 2, 2, none⟩ (.int .i64 a.x)).setCell ⟨w.heap.size + 2, 3, none⟩ (.int .i64 a.mask)).setCell ⟨w.heap.size + 2, 4, none⟩ (.int .i64 a.delta)).setCell ⟨w.heap.size + 2, 5, none⟩ (.slice A5 ns c5)).setCell ⟨w.heap.size + 2, 6, none⟩ (.slice A6 nk c6)).setCell ⟨w.heap.size + 2, 7, none⟩ (.int .i64 (a.step + 1))).setCell ⟨w.heap.size + 2, 8, none⟩ (.slice A10 (nh + 1) c10)).setCell ⟨w.heap.size + 2, 9, none⟩ (.int .i64 1)).setCell ⟨w.heap.size + 2, 10, none⟩ (.int .i64 ((thV a + num m.b 0) % a.p)))) (w.heap.size + 2) 34 #[.int .i64 a.p, .int .i64 a.party, .int .i64 a.x, .int .i64 a.mask, .int .i64 a.delta, .slice A5 ns c5, .slice A6 nk c6, .int .i64 (a.step + 1), .slice A10 (nh + 1) c10, .int .i64 1, .int .i64 ((thV a + num m.b 0) % a.p)] := put11_blk hR (.int .i64 a.p) (.int .i64 a.party) (.int .i64 a.x) (.int .i64 a.mask) (.int .i64 a.delta) (.slice A5 ns c5) (.slice A6 nk c6) (.int .i64 (a.step + 1)) (.slice A10 (nh + 1) c10) (.int .i64 1) (.int .i64 ((thV a + num m.b 0) % a.p))
 have hg4 : (((w8.setCell ⟨gO, 8, none⟩ (.slice A10 (nh + 1) c10)).setCell ⟨gO, 7, none⟩ (.int .i64 (a.step + 1)))).grownBy ((((((((((((((w8.setCell ⟨gO, 8, none⟩ (.slice A10 (nh + 1) c10)).setCell ⟨gO, 7, none⟩ (.int .i64 (a.step + 1))).setCell ⟨w.heap.size + 2, 0, none⟩ (.int .i64 a.p)).setCell ⟨w.heap.size + 2, 1, none⟩ (.int .i64 a.party)).setCell ⟨w.heap.size + 2, 2, none⟩ (.int .i64 a.x)).setCell ⟨w.heap.size + 2, 3, none⟩ (.int .i64 a.mask)).setCell ⟨w.heap.size + 2, 4, none⟩ (.int .i64 a.delta)).setCell ⟨w.heap.size + 2, 5, none⟩ (.slice A5 ns c5)).setCell ⟨w.heap.size + 2, 6, none⟩ (.slice A6 nk c6)).setCell ⟨w.heap.size + 2, 7, none⟩ (.int .i64 (a.step + 1))).setCell ⟨w.heap.size + 2, 8, none⟩ (.slice A10 (nh + 1) c10)).setCell ⟨w.heap.size + 2, 9, none⟩ (.int .i64 1)).setCell ⟨w.heap.size + 2, 10, none⟩ (.int .i64 ((thV a + num m.b 0) % a.p)))) (some (w.heap.size + 2)) := put11_grown _ _ (.int .i64 a.p) (.int .i64 a.party) (.int .i64 a.x) (.int .i64 a.mask) (.int .i64 a.delta) (.slice A5 ns c5) (.slice A6 nk c6) (.int .i64 (a.step + 1)) (.slice A10 (nh + 1) c10) (.int .i64 1) (.int .i64 ((thV a + num m.b 0) % a.p))
 have hW4 := hW.grown hg4 (fun k h => by injection h with h; omega)
 have hX := hX0.grownLow hg4 (fun k h => by injection h with h; omega)
 clear hg4
 generalize (((((((((((((w8.setCell ⟨gO, 8, none⟩ (.slice A10 (nh + 1) c10)).setCell ⟨gO, 7, none⟩ (.int .i64 (a.step + 1))).setCell ⟨w.heap.size + 2, 0, none⟩ (.int .i64 a.p)).setCell ⟨w.heap.size + 2, 1, none⟩ (.int .i64 a.party)).setCell ⟨w.heap.size + 2, 2, none⟩ (.int .i64 a.x)).setCell ⟨w.heap.size + 2, 3, none⟩ (.int .i64 a.mask)).setCell ⟨w.heap.size + 2, 4, none⟩ (.int .i64 a.delta)).setCell ⟨w.heap.size + 2, 5, none⟩ (.slice A5 ns c5)).setCell ⟨w.heap.size + 2, 6, none⟩ (.slice A6 nk c6)).setCell ⟨w.heap.size + 2, 7, none⟩ (.int .i64 (a.step + 1))).setCell ⟨w.heap.size + 2, 8, none⟩ (.slice A10 (nh + 1) c10)).setCell ⟨w.heap.size + 2, 9, none⟩ (.int .i64 1)).setCell ⟨w.heap.size + 2, 10, none⟩ (.int .i64 ((thV a + num m.b 0) % a.p))) = wy at hW4 hR3 hX ⊢
 have R3_0 := hR3.cell 0 _ rfl; have R3_1 := hR3.cell 1 _ rfl; have R3_2 := hR3.cell 2 _ rfl; have R3_3 := hR3.cell 3 _ rfl; have R3_4 := hR3.cell 4 _ rfl; have R3_5 := hR3.cell 5 _ rfl; have R3_6 := hR3.cell 6 _ rfl; have R3_7 := hR3.cell 7 _ rfl; have R3_8 := hR3.cell 8 _ rfl; have R3_9 := hR3.cell 9 _ rfl; have R3_10 := hR3.cell 10 _ rfl
 refine bodyPost_ret (v := .agg #[.int .i64 a.p, .int .i64 a.party, .int .i64 a.x, .int .i64 a.mask, .int .i64 a.delta, .slice A5 ns c5, .slice A6 nk c6, .int .i64 (a.step + 1), .slice A10 (nh + 1) c10, .int .i64 1, .int .i64 ((thV a + num m.b 0) % a.p)]) (by simp [results, Tryd.results95, go_sem, R3_0, R3_1, R3_2, R3_3, R3_4, R3_5, R3_6, R3_7, R3_8, R3_9, R3_10]) rfl ?_
 rw [take_y2 HR.out (by have := HS.out; omega)]
 have hY := hX.mono (base' := w.heap.size) (by omega)
 first | exact ⟨A5, A6, A10, c5, c6, nh + 1, c10, rfl, ⟨_, T, OwnP.as hY rfl rfl rfl⟩, hW4⟩ | exact ⟨A5, A6, A10, c5, c6, nh + 1, c10, _, T, rfl, OwnP.as hY rfl rfl rfl, hW4⟩
theorem impl_take (a : Pl) (m : Ms) (k : Nat) (As Ak Ah : Option Addr) (ns cs nk ck nh ch : Nat) (hs : List Hd) (Am : Option Addr) (nm cm : Nat) (w : World) (hTb : Tab w) (hk : k ≤ 2) (ok : Ok a k) (h : RdP w a As Ak Ah ns cs nk ck nh ch hs) (hm : RdI w Am nm cm m.b) :
  Calls Tryd.prog 95 #[.agg #[.int .i64 a.p, .int .i64 a.party, .int .i64 a.x, .int .i64 a.mask, .int .i64 a.delta, .slice As ns cs, .slice Ak nk ck, .int .i64 a.step, .slice Ah nh ch, .int .i64 a.status, .int .i64 a.out], .agg #[.int .i64 m.f, .int .i64 m.s, .slice Am nm cm]] w fun e w' => ∃ As' Ak' Ah' cs' ck' nh' ch' hs' T, e = .returned (.agg #[.int .i64 (takeP a m).p, .int .i64 (takeP a m).party, .int .i64 (takeP a m).x, .int .i64 (takeP a m).mask, .int .i64 (takeP a m).delta, .slice As' ns cs', .slice Ak' nk ck', .int .i64 (takeP a m).step, .slice Ah' nh' ch', .int .i64 (takeP a m).status, .int .i64 (takeP a m).out]) ∧
   OwnP w.heap.size T w' (takeP a m) As' Ak' Ah' ns cs' nk ck' nh' ch' hs' ∧ Bl w w' := by
 rcases hacc : accP a m
 ·exact impl_take_n a m k As Ak Ah ns cs nk ck nh ch hs Am nm cm w hTb hk ok h hm hacc
 ·by_cases h2 : k = 2
  ·exact impl_take_y2 a m k As Ak Ah ns cs nk ck nh ch hs Am nm cm w hTb h2 ok h hm hacc
  ·exact impl_take_y a m k As Ak Ah ns cs nk ck nh ch hs Am nm cm w hTb (by omega) ok h hm hacc
end Go.Proofs.YtcjpalhclgkjiaaDoor
