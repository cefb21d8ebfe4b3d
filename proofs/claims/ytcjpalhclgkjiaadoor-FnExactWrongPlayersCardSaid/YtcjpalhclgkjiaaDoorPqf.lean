/- Contracts: the reference's player with no memory shared.
   Conditions: none. -/
import Derived.Test.YtcjpalhclgkjiaaDoorPqe
import Derived.Test.YtcjpalhclgkjiaaDoorPju
namespace Go.Proofs.YtcjpalhclgkjiaaDoor
open Go.RowKit
set_option linter.unusedVariables false
set_option maxRecDepth 20000 in
set_option maxHeartbeats 2000000 in
theorem spec_ptOwn (a : Pl) (As Ak Ah : Option Addr) (ns cs nk ck nh ch : Nat) (hs : List Hd) (w : World) (h : RdP w a As Ak Ah ns cs nk ck nh ch hs) (hl : ns ≤ 1000000 ∧ nk ≤ 1000000 ∧ nh ≤ 1000000 ∧ ∀ b ∈ a.hd, b.length ≤ 1000000) :
  Calls Tryd.prog 57 #[.agg #[.int .i64 a.p, .int .i64 a.party, .int .i64 a.x, .int .i64 a.mask, .int .i64 a.delta, .slice As ns cs, .slice Ak nk ck, .int .i64 a.step, .slice Ah nh ch, .int .i64 a.status, .int .i64 a.out]] w fun e w' => ∃ As' Ak' Ah' cs' ck' ch' hs', e = .returned (.agg #[.int .i64 a.p, .int .i64 a.party, .int .i64 a.x, .int .i64 a.mask, .int .i64 a.delta, .slice As' ns cs', .slice Ak' nk ck', .int .i64 a.step, .slice Ah' nh ch', .int .i64 a.status, .int .i64 a.out]) ∧
   RdP w' a As' Ak' Ah' ns cs' nk ck' nh ch' hs' ∧ Bl w w' := by
 obtain ⟨hl1, hl2, hl3, hl4⟩ := hl
 have HL4 := Lib.hid hl4
 clear hl4
 obtain ⟨hh1, hh2⟩ := h.hd.le
 have hW : Bl w (((w.alloc (.cells #[.int .i64 a.p, .int .i64 a.party, .int .i64 a.x, .int .i64 a.mask, .int .i64 a.delta, .slice As ns cs, .slice Ak nk ck, .int .i64 a.step, .slice Ah nh ch, .int .i64 a.status, .int .i64 a.out] 34)).alloc (.cells #[.int .i64 0, .int .i64 0, .int .i64 0, .int .i64 0, .int .i64 0, .slice none 0 0, .slice none 0 0, .int .i64 0, .slice none 0 0, .int .i64 0, .int .i64 0] 34)).alloc (.cells #[.int .i64 a.p, .int .i64 a.party, .int .i64 a.x, .int .i64 a.mask, .int .i64 a.delta, .slice As ns cs, .slice Ak nk ck, .int .i64 a.step, .slice Ah nh ch, .int .i64 a.status, .int .i64 a.out] 34)) := Bl.a2
 have hB : Blk (((w.alloc (.cells #[.int .i64 a.p, .int .i64 a.party, .int .i64 a.x, .int .i64 a.mask, .int .i64 a.delta, .slice As ns cs, .slice Ak nk ck, .int .i64 a.step, .slice Ah nh ch, .int .i64 a.status, .int .i64 a.out] 34)).alloc (.cells #[.int .i64 0, .int .i64 0, .int .i64 0, .int .i64 0, .int .i64 0, .slice none 0 0, .slice none 0 0, .int .i64 0, .slice none 0 0, .int .i64 0, .int .i64 0] 34)).alloc (.cells #[.int .i64 a.p, .int .i64 a.party, .int .i64 a.x, .int .i64 a.mask, .int .i64 a.delta, .slice As ns cs, .slice Ak nk ck, .int .i64 a.step, .slice Ah nh ch, .int .i64 a.status, .int .i64 a.out] 34)) (w.heap.size) 34 #[.int .i64 a.p, .int .i64 a.party, .int .i64 a.x, .int .i64 a.mask, .int .i64 a.delta, .slice As ns cs, .slice Ak nk ck, .int .i64 a.step, .slice Ah nh ch, .int .i64 a.status, .int .i64 a.out] := (((Blk.new w 34 #[.int .i64 a.p, .int .i64 a.party, .int .i64 a.x, .int .i64 a.mask, .int .i64 a.delta, .slice As ns cs, .slice Ak nk ck, .int .i64 a.step, .slice Ah nh ch, .int .i64 a.status, .int .i64 a.out] (g := w.heap.size)).alloc (.cells #[.int .i64 0, .int .i64 0, .int .i64 0, .int .i64 0, .int .i64 0, .slice none 0 0, .slice none 0 0, .int .i64 0, .slice none 0 0, .int .i64 0, .int .i64 0] 34)).alloc (.cells #[.int .i64 a.p, .int .i64 a.party, .int .i64 a.x, .int .i64 a.mask, .int .i64 a.delta, .slice As ns cs, .slice Ak nk ck, .int .i64 a.step, .slice Ah nh ch, .int .i64 a.status, .int .i64 a.out] 34))
 have hR : Blk (((w.alloc (.cells #[.int .i64 a.p, .int .i64 a.party, .int .i64 a.x, .int .i64 a.mask, .int .i64 a.delta, .slice As ns cs, .slice Ak nk ck, .int .i64 a.step, .slice Ah nh ch, .int .i64 a.status, .int .i64 a.out] 34)).alloc (.cells #[.int .i64 0, .int .i64 0, .int .i64 0, .int .i64 0, .int .i64 0, .slice none 0 0, .slice none 0 0, .int .i64 0, .slice none 0 0, .int .i64 0, .int .i64 0] 34)).alloc (.cells #[.int .i64 a.p, .int .i64 a.party, .int .i64 a.x, .int .i64 a.mask, .int .i64 a.delta, .slice As ns cs, .slice Ak nk ck, .int .i64 a.step, .slice Ah nh ch, .int .i64 a.status, .int .i64 a.out] 34)) (w.heap.size + 1) 34 #[.int .i64 0, .int .i64 0, .int .i64 0, .int .i64 0, .int .i64 0, .slice none 0 0, .slice none 0 0, .int .i64 0, .slice none 0 0, .int .i64 0, .int .i64 0] := ((Blk.new (w.alloc (.cells #[.int .i64 a.p, .int .i64 a.party, .int .i64 a.x, .int .i64 a.mask, .int .i64 a.delta, .slice As ns cs, .slice Ak nk ck, .int .i64 a.step, .slice Ah nh ch, .int .i64 a.status, .int .i64 a.out] 34)) 34 #[.int .i64 0, .int .i64 0, .int .i64 0, .int .i64 0, .int .i64 0, .slice none 0 0, .slice none 0 0, .int .i64 0, .slice none 0 0, .int .i64 0, .int .i64 0] (g := w.heap.size + 1)).alloc (.cells #[.int .i64 a.p, .int .i64 a.party, .int .i64 a.x, .int .i64 a.mask, .int .i64 a.delta, .slice As ns cs, .slice Ak nk ck, .int .i64 a.step, .slice Ah nh ch, .int .i64 a.status, .int .i64 a.out] 34))
 have hO : Blk (((w.alloc (.cells #[.int .i64 a.p, .int .i64 a.party, .int .i64 a.x, .int .i64 a.mask, .int .i64 a.delta, .slice As ns cs, .slice Ak nk ck, .int .i64 a.step, .slice Ah nh ch, .int .i64 a.status, .int .i64 a.out] 34)).alloc (.cells #[.int .i64 0, .int .i64 0, .int .i64 0, .int .i64 0, .int .i64 0, .slice none 0 0, .slice none 0 0, .int .i64 0, .slice none 0 0, .int .i64 0, .int .i64 0] 34)).alloc (.cells #[.int .i64 a.p, .int .i64 a.party, .int .i64 a.x, .int .i64 a.mask, .int .i64 a.delta, .slice As ns cs, .slice Ak nk ck, .int .i64 a.step, .slice Ah nh ch, .int .i64 a.status, .int .i64 a.out] 34)) (w.heap.size + 1 + 1) 34 #[.int .i64 a.p, .int .i64 a.party, .int .i64 a.x, .int .i64 a.mask, .int .i64 a.delta, .slice As ns cs, .slice Ak nk ck, .int .i64 a.step, .slice Ah nh ch, .int .i64 a.status, .int .i64 a.out] := (Blk.new ((w.alloc (.cells #[.int .i64 a.p, .int .i64 a.party, .int .i64 a.x, .int .i64 a.mask, .int .i64 a.delta, .slice As ns cs, .slice Ak nk ck, .int .i64 a.step, .slice Ah nh ch, .int .i64 a.status, .int .i64 a.out] 34)).alloc (.cells #[.int .i64 0, .int .i64 0, .int .i64 0, .int .i64 0, .int .i64 0, .slice none 0 0, .slice none 0 0, .int .i64 0, .slice none 0 0, .int .i64 0, .int .i64 0] 34)) 34 #[.int .i64 a.p, .int .i64 a.party, .int .i64 a.x, .int .i64 a.mask, .int .i64 a.delta, .slice As ns cs, .slice Ak nk ck, .int .i64 a.step, .slice Ah nh ch, .int .i64 a.status, .int .i64 a.out] (g := w.heap.size + 1 + 1))
 have B_l := hB.lt; have B_f := hB.frozen; have B_5 := hB.cell 5 _ rfl; have B_6 := hB.cell 6 _ rfl; have B_8 := hB.cell 8 _ rfl; have R_l := hR.lt; have R_f := hR.frozen; have O_l := hO.lt; have O_f := hO.frozen; have O_5 := hO.cell 5 _ rfl; have O_6 := hO.cell 6 _ rfl; have O_8 := hO.cell 8 _ rfl
 have hSh := h.sh.keep (hW.alloc (.cells #[] 93))
 have hS0 := own_made_tg0 (((w.alloc (.cells #[.int .i64 a.p, .int .i64 a.party, .int .i64 a.x, .int .i64 a.mask, .int .i64 a.delta, .slice As ns cs, .slice Ak nk ck, .int .i64 a.step, .slice Ah nh ch, .int .i64 a.status, .int .i64 a.out] 34)).alloc (.cells #[.int .i64 0, .int .i64 0, .int .i64 0, .int .i64 0, .int .i64 0, .slice none 0 0, .slice none 0 0, .int .i64 0, .slice none 0 0, .int .i64 0, .int .i64 0] 34)).alloc (.cells #[.int .i64 a.p, .int .i64 a.party, .int .i64 a.x, .int .i64 a.mask, .int .i64 a.delta, .slice As ns cs, .slice Ak nk ck, .int .i64 a.step, .slice Ah nh ch, .int .i64 a.status, .int .i64 a.out] 34)) (g := w.heap.size + 1 + 1 + 1)
 go_enter Tryd.func57, Tryd.ntmps57
 go_wp2_with (at_builtin; refine ap_tg rfl rfl rfl hS0 rfl hSh (by omega) (by simp) ?_; intro A5 c5 w1 ho5 hg5 hat5; rw [Nat.zero_add] at ho5 ⊢; rw [List.nil_append] at ho5; have hb1 := (hW.alloc (.cells #[] 93)).grown hg5 (fun k e => by simp at e; omega); have hO1 := Blk.grown (hO.alloc (.cells #[] 93)) hg5 (by simp); have hB1 := Blk.grown (hB.alloc (.cells #[] 93)) hg5 (by simp; omega); have hR1 := Blk.grown (hR.alloc (.cells #[] 93)) hg5 (by simp); have hz1 := hb1.sz; (try clear B_l B_f B_5 B_6 B_8 R_l R_f  O_l O_f O_5 O_6 O_8); clear hW hB hR hO hg5 hat5; have hW := hb1; have hB := hB1; have hR := hR1; have hO := hO1; clear hb1 hB1 hR1 hO1; have B_l := hB.lt; have B_f := hB.frozen; have B_5 := hB.cell 5 _ rfl; have B_6 := hB.cell 6 _ rfl; have B_8 := hB.cell 8 _ rfl; have R_l := hR.lt; have R_f := hR.frozen; have O_l := hO.lt; have O_f := hO.frozen; have O_5 := hO.cell 5 _ rfl; have O_6 := hO.cell 6 _ rfl; have O_8 := hO.cell 8 _ rfl)
 have m5 : OwnTg (w.heap.size + 3) w1 A5 ns c5 a.sh := ho5.mono (by simp)
 have hW5 : Bl w (w1.setCell ⟨w.heap.size + 1 + 1, 5, none⟩ (.slice A5 ns c5)) := hW.setCell (by dsimp only; omega) _
 have hO5 : Blk (w1.setCell ⟨w.heap.size + 1 + 1, 5, none⟩ (.slice A5 ns c5)) (w.heap.size + 1 + 1) 34 #[.int .i64 a.p, .int .i64 a.party, .int .i64 a.x, .int .i64 a.mask, .int .i64 a.delta, .slice A5 ns c5, .slice Ak nk ck, .int .i64 a.step, .slice Ah nh ch, .int .i64 a.status, .int .i64 a.out] := hO.set_ 5 _
 have hR5 := hR.far (p := ⟨w.heap.size + 1 + 1, 5, none⟩) (by dsimp only; omega) (.slice A5 ns c5)
 have hB5 := hB.far (p := ⟨w.heap.size + 1 + 1, 5, none⟩) (by dsimp only; omega) (.slice A5 ns c5)
 have m55 : OwnTg (w.heap.size + 3) (w1.setCell ⟨w.heap.size + 1 + 1, 5, none⟩ (.slice A5 ns c5)) A5 ns c5 a.sh := m5.setLow (by omega) _
 (try clear B_l B_f B_5 B_6 B_8 R_l R_f  O_l O_f O_5 O_6 O_8)
 clear hW hO hR hB m5 ho5
 generalize (w1.setCell ⟨w.heap.size + 1 + 1, 5, none⟩ (.slice A5 ns c5)) = wa at hW5 hO5 hR5 hB5 m55 ⊢
 refine (spec_l1Own Ak nk ck a.ks _ (h.ks.keep hW5) (by omega)).mono ?_
 rintro e w2 ⟨A6, c6, rfl, ho6, hb2⟩
 have hza := hO5.lt
 have hW6 := hW5.call hb2
 have hO6 := hO5.keep hb2
 have hR6 := hR5.keep hb2
 have hB6 := hB5.keep hb2
 have m56 := m55.keep hb2
 have m6 : OwnI (w.heap.size + 3) w2 A6 nk c6 a.ks := ho6.mono (by omega)
 clear hW5 hO5 hR5 hB5 m55 ho6 hb2
 have O_l := hO6.lt; have O_f := hO6.frozen; have O_6 := hO6.cell 6 _ rfl; have O_8 := hO6.cell 8 _ rfl
 have B_l := hB6.lt; have B_f := hB6.frozen; have B_8 := hB6.cell 8 _ rfl
 go_wp2
 have hO : Blk ((w2.setCell ⟨w.heap.size + 1 + 1, 6, none⟩ (.slice A6 nk c6)).setCell ⟨w.heap.size + 1 + 1, 8, none⟩ (.slice none 0 0)) (w.heap.size + 1 + 1) 34 #[.int .i64 a.p, .int .i64 a.party, .int .i64 a.x, .int .i64 a.mask, .int .i64 a.delta, .slice A5 ns c5, .slice A6 nk c6, .int .i64 a.step, .slice none 0 0, .int .i64 a.status, .int .i64 a.out] := (hO6.set_ 6 _).set_ 8 _
 have hR := (hR6.far (p := ⟨w.heap.size + 1 + 1, 6, none⟩) (by dsimp only; omega) (.slice A6 nk c6)).far (p := ⟨w.heap.size + 1 + 1, 8, none⟩) (by dsimp only; omega) (.slice none 0 0)
 have hW : Bl w ((w2.setCell ⟨w.heap.size + 1 + 1, 6, none⟩ (.slice A6 nk c6)).setCell ⟨w.heap.size + 1 + 1, 8, none⟩ (.slice none 0 0)) := (hW6.setCell (by dsimp only; omega) _).setCell (by dsimp only; omega) _
 have n5 : OwnTg (w.heap.size + 3) ((w2.setCell ⟨w.heap.size + 1 + 1, 6, none⟩ (.slice A6 nk c6)).setCell ⟨w.heap.size + 1 + 1, 8, none⟩ (.slice none 0 0)) A5 ns c5 a.sh := (m56.setLow (by omega) _).setLow (by omega) _
 have n6 : OwnI (w.heap.size + 3) ((w2.setCell ⟨w.heap.size + 1 + 1, 6, none⟩ (.slice A6 nk c6)).setCell ⟨w.heap.size + 1 + 1, 8, none⟩ (.slice none 0 0)) A6 nk c6 a.ks := (m6.setLow (by omega) _).setLow (by omega) _
 clear hO6 hR6 hW6 hB6 m56 m6 O_l O_f O_6 O_8 B_l B_f B_8
 generalize ((w2.setCell ⟨w.heap.size + 1 + 1, 6, none⟩ (.slice A6 nk c6)).setCell ⟨w.heap.size + 1 + 1, 8, none⟩ (.slice none 0 0)) = wz at hO hR hW n5 n6 ⊢
 have z5 := Lib.hid (fun k hk => (n5.blk k hk).2)
 have z6 := Lib.hid (fun k hk => (n6.blk k hk).2)
 have hwz : w.heap.size + 3 ≤ wz.heap.size := by have := hO.lt; omega
 go_loopw [20] (fun i wr => ∃ k : Nat, k ≤ nh ∧ i = .int .i64 k ∧ Bl wz (wz.alloc (.cells #[] 3)) ∧ ∃ A c hs', Blk wr (w.heap.size + 1 + 1) 34 #[.int .i64 a.p, .int .i64 a.party, .int .i64 a.x, .int .i64 a.mask, .int .i64 a.delta, .slice A5 ns c5, .slice A6 nk c6, .int .i64 a.step, .slice A k c, .int .i64 a.status, .int .i64 a.out] ∧ OwnSS wz.heap.size wr A k c hs' (a.hd.take k) ∧ Bl w wr ∧ wz.heap.size ≤ wr.heap.size ∧ Blk wr (w.heap.size + 1) 34 #[.int .i64 0, .int .i64 0, .int .i64 0, .int .i64 0, .int .i64 0, .slice none 0 0, .slice none 0 0, .int .i64 0, .slice none 0 0, .int .i64 0, .int .i64 0] ∧ OwnTg (w.heap.size + 3) wr A5 ns c5 a.sh ∧ OwnI (w.heap.size + 3) wr A6 nk c6 a.ks) (fun i _ => nh - (intOf i).toNat)
 case atStart => exact ⟨0, by omega, rfl, (Bl.refl _).alloc _, none, 0, [], hO, OwnSS.nil _ _, hW, Nat.le_refl _, hR, n5, n6⟩
 case round =>
  clear hO hR hW n5 n6
  obtain ⟨k, hk, rfl, _, A, c, hs', hO, hS, hW, hZ, hR, n5, n6⟩ := hrel
  by_cases hlt : k < nh
  ·obtain ⟨ad, x, l, rfl, hl, hc, hrow⟩ := (h.hd.keep hW).at_ hlt
   have HX := Lib.hid hl
   have hxl : x.n ≤ 1000000 := by
    have := HL4.out l (List.mem_of_getElem? hl)
    rw [hrow.length] at this; exact this
   clear hl
   have i1 : (k : Int) < nh := by omega
   have hSl := hS.le
   have O_l := hO.lt; have O_f := hO.frozen; have O_8 := hO.cell 8 _ rfl
   go_wp2_with fail
   refine region_F (fun _ => True) (fun w' => w'.cell? ⟨w.heap.size + 1 + 1, 8, none⟩ = some (.slice A k c)) 7 (by kernel_rfl) ?_ (fun hHeld => ?_)
   ·(try dsimp only); exact ⟨trivial, O_8⟩
   refine tC 0 24 [0] ?_ hHeld
   refine tC 1 25 [1] ?_ hHeld
   refine tC 2 26 [2] ?_ hHeld
   refine f_step (i := 3) (by kernel_rfl) rfl (fun K hK => ?_)
   go_simp
   go_at_call 77; refine (spec_l1Own x.A x.n x.c l _ hrow.drew (by omega)).mono ?_; rintro e w3 ⟨A7, c7, rfl, ho7, hb3⟩; have hO3 := hO.drew.keep hb3; have hu7 := hS.under; have hz3 := hb3.sz; have hS1 := hS.keep ((Bl.refl wr).drew.call hb3)
   go_wp2_with fail
   refine ko hK ?_ fun hHeld => ?_
   ·(try dsimp only); exact ⟨trivial, hO3.cell 8 _ rfl⟩
   clear hK K
   refine f_step (i := 4) (by kernel_rfl) rfl (fun K hK => ?_)
   go_simp
   refine ko hK ?_ fun hHeld => ?_
   ·(try dsimp only); exact ⟨trivial, (hO3.alloc _).cell 8 _ rfl⟩
   clear hK K
   refine f_step (i := 5) (by kernel_rfl) rfl (fun K hK => ?_)
   refine ap_ss_step (y := ⟨A7, x.n, c7⟩) (l := l) rfl rfl rfl (hS1.alloc _) rfl (rd_hd1 _ ⟨A7, x.n, c7⟩) ((ho7.mono (by exact hZ)).alloc _) (fun q hq e2 => by have a1 := (ho7.blk q hq).1; have a2 := hu7.1 q e2; simp at a1; omega) (fun i z hz q hq e2 => by have a1 := (ho7.blk q e2).1; have a2 := hu7.2 i z hz q hq; simp at a1; omega) (by omega) (by have q := hz3; have q2 := hZ; simp at q ⊢; omega) ?_; intro A8 c8 w8 ho8 hg8 hat8; have hO8 : Blk w8 (w.heap.size + 1 + 1) 34 #[.int .i64 a.p, .int .i64 a.party, .int .i64 a.x, .int .i64 a.mask, .int .i64 a.delta, .slice A5 ns c5, .slice A6 nk c6, .int .i64 a.step, .slice A k c, .int .i64 a.status, .int .i64 a.out] := Blk.grown (hO3.alloc _) hg8 (fun e => by have := hS.above.1 _ e.symm; omega); have O8_l := hO8.lt; have O8_f := hO8.frozen; have O8_8 := hO8.cell 8 _ rfl
   refine ko hK ?_ fun hHeld => ?_
   ·(try dsimp only); exact ⟨trivial, O8_8⟩
   clear hK K
   refine tC 6 30 [6] ?_ hHeld
   refine f_last (i := 7) (by kernel_rfl) rfl (by simp) (fun K hK => ?_)
   go_simp
   refine ko hK ?_ fun hHeld => ?_
   ·exact trivial
   clear hK K
   refine f_done (by kernel_rfl) ?_ _
   have hW8 : Bl w w8 := (((hW.drew.call hb3).alloc _).grown hg8 (fun q hq => by have := hS.above.1 q hq; omega))
   have hR8 := Blk.grown ((hR.drew.keep hb3).alloc (.cells #[.slice A7 x.n c7] 23)) hg8 (fun e => by have := hS.above.1 _ e.symm; omega)
   have k5 := ((n5.keep ((Bl.refl wr).drew.call hb3)).keep ((Bl.refl w3).alloc (.cells #[.slice A7 x.n c7] 23))).grownR hg8 (fun q hq e => by have := z5.out q hq; have := hS.above.1 q e; omega)
   have k6 := ((n6.keep ((Bl.refl wr).drew.call hb3)).keep ((Bl.refl w3).alloc (.cells #[.slice A7 x.n c7] 23))).grownR hg8 (fun q hq e => by have := z6.out q hq; have := hS.above.1 q e; omega)
   have hz8 := hg8.size
   have hzr : wz.heap.size ≤ w8.heap.size := by simp at hz8; have := hz3; simp at this; omega
   go_wp2_with fail
   go_roundw
   case rel => exact ⟨k + 1, by omega, by go_num, (Bl.refl _).alloc _, A8, c8, _, hO8.set_ 8 _, by rw [List.take_add_one, HX.out]; exact ho8.setLow (by omega) _, hW8.setCell (by dsimp only; omega) _, by simpa using hzr, hR8.far (by dsimp only; omega) _, k5.setLow (by omega) _, k6.setLow (by omega) _⟩
   case measure => simp [intOf]; omega
  ·have he : k = nh := by omega
   have htk := Lib.hid (show a.hd.take k = a.hd from List.take_of_length_le (by rw [he, h.hd.l_eq]; exact Nat.le_refl _))
   clear hlt
   subst he
   obtain ⟨O_l, O_f, O_0, O_1, O_2, O_3, O_4, O_5, O_6, O_7, O_8, O_9, O_10⟩ := hO.l11; obtain ⟨R_l, R_f, R_0, R_1, R_2, R_3, R_4, R_5, R_6, R_7, R_8, R_9, R_10⟩ := hR.l11
   go_wp2_with fail
   have hR3 : Blk ((((((((((((wr.setCell ⟨w.heap.size + 1, 0, none⟩ (.int .i64 a.p)).setCell ⟨w.heap.size + 1, 1, none⟩ (.int .i64 a.party)).setCell ⟨w.heap.size + 1, 2, none⟩ (.int .i64 a.x)).setCell ⟨w.heap.size + 1, 3, none⟩ (.int .i64 a.mask)).setCell ⟨w.heap.size + 1, 4, none⟩ (.int .i64 a.delta)).setCell ⟨w.heap.size + 1, 5, none⟩ (.slice A5 ns c5)).setCell ⟨w.heap.size + 1, 6, none⟩ (.slice A6 nk c6)).setCell ⟨w.heap.size + 1, 7, none⟩ (.int .i64 a.step)).setCell ⟨w.heap.size + 1, 8, none⟩ (.slice A k c)).setCell ⟨w.heap.size + 1, 9, none⟩ (.int .i64 a.status)).setCell ⟨w.heap.size + 1, 10, none⟩ (.int .i64 a.out))) (w.heap.size + 1) 34 #[.int .i64 a.p, .int .i64 a.party, .int .i64 a.x, .int .i64 a.mask, .int .i64 a.delta, .slice A5 ns c5, .slice A6 nk c6, .int .i64 a.step, .slice A k c, .int .i64 a.status, .int .i64 a.out] := put11_blk hR (.int .i64 a.p) (.int .i64 a.party) (.int .i64 a.x) (.int .i64 a.mask) (.int .i64 a.delta) (.slice A5 ns c5) (.slice A6 nk c6) (.int .i64 a.step) (.slice A k c) (.int .i64 a.status) (.int .i64 a.out)
   have hg4 : wr.grownBy ((((((((((((wr.setCell ⟨w.heap.size + 1, 0, none⟩ (.int .i64 a.p)).setCell ⟨w.heap.size + 1, 1, none⟩ (.int .i64 a.party)).setCell ⟨w.heap.size + 1, 2, none⟩ (.int .i64 a.x)).setCell ⟨w.heap.size + 1, 3, none⟩ (.int .i64 a.mask)).setCell ⟨w.heap.size + 1, 4, none⟩ (.int .i64 a.delta)).setCell ⟨w.heap.size + 1, 5, none⟩ (.slice A5 ns c5)).setCell ⟨w.heap.size + 1, 6, none⟩ (.slice A6 nk c6)).setCell ⟨w.heap.size + 1, 7, none⟩ (.int .i64 a.step)).setCell ⟨w.heap.size + 1, 8, none⟩ (.slice A k c)).setCell ⟨w.heap.size + 1, 9, none⟩ (.int .i64 a.status)).setCell ⟨w.heap.size + 1, 10, none⟩ (.int .i64 a.out))) (some (w.heap.size + 1)) := put11_grown _ _ (.int .i64 a.p) (.int .i64 a.party) (.int .i64 a.x) (.int .i64 a.mask) (.int .i64 a.delta) (.slice A5 ns c5) (.slice A6 nk c6) (.int .i64 a.step) (.slice A k c) (.int .i64 a.status) (.int .i64 a.out)
   have hW4 := hW.grown hg4 (fun k h => by injection h with h; omega)
   have r5 := n5.grownR hg4 (fun q hq e => by have := n5.blk q hq; injection e with e; omega)
   have r6 := n6.grownR hg4 (fun q hq e => by have := n6.blk q hq; injection e with e; omega)
   have rS := hS.grownLow hg4 (fun k h => by injection h with h; omega)
   rw [htk.out] at rS
   clear hg4
   generalize (((((((((((wr.setCell ⟨w.heap.size + 1, 0, none⟩ (.int .i64 a.p)).setCell ⟨w.heap.size + 1, 1, none⟩ (.int .i64 a.party)).setCell ⟨w.heap.size + 1, 2, none⟩ (.int .i64 a.x)).setCell ⟨w.heap.size + 1, 3, none⟩ (.int .i64 a.mask)).setCell ⟨w.heap.size + 1, 4, none⟩ (.int .i64 a.delta)).setCell ⟨w.heap.size + 1, 5, none⟩ (.slice A5 ns c5)).setCell ⟨w.heap.size + 1, 6, none⟩ (.slice A6 nk c6)).setCell ⟨w.heap.size + 1, 7, none⟩ (.int .i64 a.step)).setCell ⟨w.heap.size + 1, 8, none⟩ (.slice A k c)).setCell ⟨w.heap.size + 1, 9, none⟩ (.int .i64 a.status)).setCell ⟨w.heap.size + 1, 10, none⟩ (.int .i64 a.out)) = wy at hW4 hR3 r5 r6 rS ⊢
   have R3_0 := hR3.cell 0 _ rfl; have R3_1 := hR3.cell 1 _ rfl; have R3_2 := hR3.cell 2 _ rfl; have R3_3 := hR3.cell 3 _ rfl; have R3_4 := hR3.cell 4 _ rfl; have R3_5 := hR3.cell 5 _ rfl; have R3_6 := hR3.cell 6 _ rfl; have R3_7 := hR3.cell 7 _ rfl; have R3_8 := hR3.cell 8 _ rfl; have R3_9 := hR3.cell 9 _ rfl; have R3_10 := hR3.cell 10 _ rfl
   refine bodyPost_ret (v := .agg #[.int .i64 a.p, .int .i64 a.party, .int .i64 a.x, .int .i64 a.mask, .int .i64 a.delta, .slice A5 ns c5, .slice A6 nk c6, .int .i64 a.step, .slice A k c, .int .i64 a.status, .int .i64 a.out]) (by simp [results, Tryd.results57, go_sem, R3_0, R3_1, R3_2, R3_3, R3_4, R3_5, R3_6, R3_7, R3_8, R3_9, R3_10]) rfl ?_
   exact ⟨A5, A6, A, c5, c6, c, hs', rfl, ⟨r5.rd, r6.rd, rS.rd⟩, hW4⟩
end Go.Proofs.YtcjpalhclgkjiaaDoor
