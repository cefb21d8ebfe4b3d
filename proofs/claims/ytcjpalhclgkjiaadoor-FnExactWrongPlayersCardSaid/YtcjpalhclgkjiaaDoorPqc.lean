/- Contracts: what the reference's player sends, and whether the tags of a body hold.
   Conditions: the player is valid. -/
import Derived.Test.YtcjpalhclgkjiaaDoorPqb
namespace Go.Proofs.YtcjpalhclgkjiaaDoor
open Go.RowKit
set_option linter.unusedVariables false
theorem own_lit4 (w : World) (a b d f : Int) {base g : Nat} (hb : base ≤ g) (hg : w.heap.size = g) : OwnI base (w.alloc (.cells #[.int .i64 a, .int .i64 b, .int .i64 d, .int .i64 f] 3)) (some ⟨g, 0, none⟩) 4 4 [a, b, d, f] := own_lit w [a, b, d, f] hg hb (by simp)
set_option maxRecDepth 20000 in
set_option maxHeartbeats 2000000 in
theorem spec_body0 (a : Pl) (As Ak Ah : Option Addr) (ns cs nk ck nh ch : Nat) (hs : List Hd) (w : World) (ok : Ok a 0) (h : RdP w a As Ak Ah ns cs nk ck nh ch hs) :
  Calls Tryd.prog 76 #[.agg #[.int .i64 a.p, .int .i64 a.party, .int .i64 a.x, .int .i64 a.mask, .int .i64 a.delta, .slice As ns cs, .slice Ak nk ck, .int .i64 a.step, .slice Ah nh ch, .int .i64 a.status, .int .i64 a.out]] w fun e w' => ∃ A n c, e = .returned (.slice A n c) ∧ OwnI w.heap.size w' A n c (bodyP a) ∧ Bl w w' := by
 have hst : a.step = 0 := ok.step
 have hs0 : (a.step == 0) = true := by rw [hst]; rfl
 have hs1 : (a.step == 1) = false := by rw [hst]; rfl
 have HS := Lib.hid hst
 have p2 := ok.p2
 have px := ok.x
 have pm := ok.mask
 have hR := Lib.hid (show bodyP a = [(a.x - a.mask) % a.p] by unfold bodyP; rw [if_pos hst]; rfl)
 clear hst
 go_enter Tryd.func76, Tryd.ntmps76
 go_wp2_with (go_at_call 87; refine (spec_btMod _ _ _ (by omega) (by omega) (by omega) (by omega)).mono ?_; rintro e w2 ⟨rfl, rfl⟩)
 go_ret
 exact ⟨_, _, _, rfl, by rw [hR.out]; exact own_lit1 _ _ (by simp) (by first | with_reducible rfl | simp), Bl.a1⟩
set_option maxRecDepth 20000 in
set_option maxHeartbeats 2000000 in
theorem spec_body1 (a : Pl) (As Ak Ah : Option Addr) (ns cs nk ck nh ch : Nat) (hs : List Hd) (w : World) (ok : Ok a 1) (h : RdP w a As Ak Ah ns cs nk ck nh ch hs) :
  Calls Tryd.prog 76 #[.agg #[.int .i64 a.p, .int .i64 a.party, .int .i64 a.x, .int .i64 a.mask, .int .i64 a.delta, .slice As ns cs, .slice Ak nk ck, .int .i64 a.step, .slice Ah nh ch, .int .i64 a.status, .int .i64 a.out]] w fun e w' => ∃ A n c, e = .returned (.slice A n c) ∧ OwnI w.heap.size w' A n c (bodyP a) ∧ Bl w w' := by
 have hst : a.step = 1 := ok.step
 have hs0 : (a.step == 0) = false := by rw [hst]; rfl
 have hs1 : (a.step == 1) = true := by rw [hst]; rfl
 have HS := Lib.hid hst
 have p2 := ok.p2
 have hR := Lib.hid (show bodyP a = [secV a 0, secT a 0, secV a 1, secT a 1] by unfold bodyP; rw [if_neg (by omega), if_pos hst])
 have HF := Lib.hid (fun (w' : World) (hb : Bl w w') => spec_ptSecond a 1 As Ak Ah ns cs nk ck nh ch hs w' ok (by omega) (h.keep hb))
 have hW : Bl w (w.alloc (.cells #[.int .i64 a.p, .int .i64 a.party, .int .i64 a.x, .int .i64 a.mask, .int .i64 a.delta, .slice As ns cs, .slice Ak nk ck, .int .i64 a.step, .slice Ah nh ch, .int .i64 a.status, .int .i64 a.out] 34)) := Bl.a2
 have hB : Blk (w.alloc (.cells #[.int .i64 a.p, .int .i64 a.party, .int .i64 a.x, .int .i64 a.mask, .int .i64 a.delta, .slice As ns cs, .slice Ak nk ck, .int .i64 a.step, .slice Ah nh ch, .int .i64 a.status, .int .i64 a.out] 34)) (w.heap.size) 34 #[.int .i64 a.p, .int .i64 a.party, .int .i64 a.x, .int .i64 a.mask, .int .i64 a.delta, .slice As ns cs, .slice Ak nk ck, .int .i64 a.step, .slice Ah nh ch, .int .i64 a.status, .int .i64 a.out] := (Blk.new w 34 #[.int .i64 a.p, .int .i64 a.party, .int .i64 a.x, .int .i64 a.mask, .int .i64 a.delta, .slice As ns cs, .slice Ak nk ck, .int .i64 a.step, .slice Ah nh ch, .int .i64 a.status, .int .i64 a.out] (g := w.heap.size))
 obtain ⟨B_l, B_f, B_0, B_1, B_2, B_3, B_4, B_5, B_6, B_7, B_8, B_9, B_10⟩ := hB.l11
 clear hst
 go_enter Tryd.func76, Tryd.ntmps76
 go_wp2_with (go_at_call 102; refine (HF.out _ Bl.a2).mono ?_; rintro e w1 ⟨A, c, rfl, ho, hb1⟩; obtain ⟨g, rfl, hA1, hA2, hg1, hg2, r0, r1, r2, r3⟩ := ho.two; replace hW : Bl w w1 := Bl.a2; replace hB := hB.kp hb1; (try clear B_l B_f B_0 B_1 B_2 B_3 B_4 B_5 B_6 B_7 B_8 B_9 B_10); obtain ⟨B_l, B_f, B_0, B_1, B_2, B_3, B_4, B_5, B_6, B_7, B_8, B_9, B_10⟩ := hB.l11)
 go_region_held3 (fun w' => w'.cell? ⟨g, 0, none⟩ = some (.int .i64 (secV a 0)) ∧ w'.cell? ⟨g, 1, none⟩ = some (.int .i64 (secT a 0)) ∧ w'.cell? ⟨g, 2, none⟩ = some (.int .i64 (secV a 1)) ∧ w'.cell? ⟨g, 3, none⟩ = some (.int .i64 (secT a 1))) (first | exact ⟨r0, r1, r2, r3⟩ | go_keep) (fail)
 go_wp2
 go_ret
 exact ⟨_, _, _, rfl, by rw [hR.out]; exact own_lit4 _ _ _ _ _ (by have := hW.sz; simpa using this) (by first | with_reducible rfl | simp), Bl.a1⟩
set_option maxRecDepth 20000 in
set_option maxHeartbeats 2000000 in
theorem spec_body2 (a : Pl) (As Ak Ah : Option Addr) (ns cs nk ck nh ch : Nat) (hs : List Hd) (w : World) (ok : Ok a 2) (h : RdP w a As Ak Ah ns cs nk ck nh ch hs) :
  Calls Tryd.prog 76 #[.agg #[.int .i64 a.p, .int .i64 a.party, .int .i64 a.x, .int .i64 a.mask, .int .i64 a.delta, .slice As ns cs, .slice Ak nk ck, .int .i64 a.step, .slice Ah nh ch, .int .i64 a.status, .int .i64 a.out]] w fun e w' => ∃ A n c, e = .returned (.slice A n c) ∧ OwnI w.heap.size w' A n c (bodyP a) ∧ Bl w w' := by
 have hst : a.step = 2 := ok.step
 have hs0 : (a.step == 0) = false := by rw [hst]; rfl
 have hs1 : (a.step == 1) = false := by rw [hst]; rfl
 have HS := Lib.hid hst
 have p2 := ok.p2
 have hR := Lib.hid (show bodyP a = [thV a, thT a] by unfold bodyP; rw [if_neg (by omega), if_neg (by omega)])
 have HF := Lib.hid (fun (w' : World) (hb : Bl w w') => spec_ptThird a 2 As Ak Ah ns cs nk ck nh ch hs w' ok (by omega) (h.keep hb))
 have hW : Bl w (w.alloc (.cells #[.int .i64 a.p, .int .i64 a.party, .int .i64 a.x, .int .i64 a.mask, .int .i64 a.delta, .slice As ns cs, .slice Ak nk ck, .int .i64 a.step, .slice Ah nh ch, .int .i64 a.status, .int .i64 a.out] 34)) := Bl.a2
 have hB : Blk (w.alloc (.cells #[.int .i64 a.p, .int .i64 a.party, .int .i64 a.x, .int .i64 a.mask, .int .i64 a.delta, .slice As ns cs, .slice Ak nk ck, .int .i64 a.step, .slice Ah nh ch, .int .i64 a.status, .int .i64 a.out] 34)) (w.heap.size) 34 #[.int .i64 a.p, .int .i64 a.party, .int .i64 a.x, .int .i64 a.mask, .int .i64 a.delta, .slice As ns cs, .slice Ak nk ck, .int .i64 a.step, .slice Ah nh ch, .int .i64 a.status, .int .i64 a.out] := (Blk.new w 34 #[.int .i64 a.p, .int .i64 a.party, .int .i64 a.x, .int .i64 a.mask, .int .i64 a.delta, .slice As ns cs, .slice Ak nk ck, .int .i64 a.step, .slice Ah nh ch, .int .i64 a.status, .int .i64 a.out] (g := w.heap.size))
 obtain ⟨B_l, B_f, B_0, B_1, B_2, B_3, B_4, B_5, B_6, B_7, B_8, B_9, B_10⟩ := hB.l11
 clear hst
 go_enter Tryd.func76, Tryd.ntmps76
 go_wp2_with (go_at_call 82; refine (HF.out _ Bl.a2).mono ?_; rintro e w1 ⟨rfl, hb1⟩; replace hW : Bl w w1 := Bl.a2; replace hB := hB.kp hb1; (try clear B_l B_f B_0 B_1 B_2 B_3 B_4 B_5 B_6 B_7 B_8 B_9 B_10); obtain ⟨B_l, B_f, B_0, B_1, B_2, B_3, B_4, B_5, B_6, B_7, B_8, B_9, B_10⟩ := hB.l11)
 go_ret
 exact ⟨_, _, _, rfl, by rw [hR.out]; exact own_lit2 _ _ _ (by have := hW.sz; simp; omega) (by first | with_reducible rfl | simp), Bl.a1⟩
theorem spec_ptBody (a : Pl) (k : Nat) (As Ak Ah : Option Addr) (ns cs nk ck nh ch : Nat) (hs : List Hd) (w : World) (hk : k ≤ 2) (ok : Ok a k) (h : RdP w a As Ak Ah ns cs nk ck nh ch hs) :
  Calls Tryd.prog 76 #[.agg #[.int .i64 a.p, .int .i64 a.party, .int .i64 a.x, .int .i64 a.mask, .int .i64 a.delta, .slice As ns cs, .slice Ak nk ck, .int .i64 a.step, .slice Ah nh ch, .int .i64 a.status, .int .i64 a.out]] w fun e w' => ∃ A n c, e = .returned (.slice A n c) ∧ OwnI w.heap.size w' A n c (bodyP a) ∧ Bl w w' := by
 obtain rfl | rfl | rfl : k = 0 ∨ k = 1 ∨ k = 2 := by omega
 ·exact spec_body0 a As Ak Ah ns cs nk ck nh ch hs w ok h
 ·exact spec_body1 a As Ak Ah ns cs nk ck nh ch hs w ok h
 ·exact spec_body2 a As Ak Ah ns cs nk ck nh ch hs w ok h
set_option maxRecDepth 20000 in
set_option maxHeartbeats 2000000 in
theorem spec_ptMessage (a : Pl) (k : Nat) (As Ak Ah : Option Addr) (ns cs nk ck nh ch : Nat) (hs : List Hd) (w : World) (hk : k ≤ 2) (ok : Ok a k) (h : RdP w a As Ak Ah ns cs nk ck nh ch hs) :
  Calls Tryd.prog 54 #[.agg #[.int .i64 a.p, .int .i64 a.party, .int .i64 a.x, .int .i64 a.mask, .int .i64 a.delta, .slice As ns cs, .slice Ak nk ck, .int .i64 a.step, .slice Ah nh ch, .int .i64 a.status, .int .i64 a.out]] w fun e w' => ∃ A n c, e = .returned (.agg #[.int .i64 a.party, .int .i64 a.step, .slice A n c]) ∧ OwnI w.heap.size w' A n c (bodyP a) ∧ Bl w w' := by
 have HF := Lib.hid (fun (w' : World) (hb : Bl w w') => spec_ptBody a k As Ak Ah ns cs nk ck nh ch hs w' hk ok (h.keep hb))
 have hW : Bl w ((w.alloc (.cells #[.int .i64 a.p, .int .i64 a.party, .int .i64 a.x, .int .i64 a.mask, .int .i64 a.delta, .slice As ns cs, .slice Ak nk ck, .int .i64 a.step, .slice Ah nh ch, .int .i64 a.status, .int .i64 a.out] 34)).alloc (.cells #[.int .i64 0, .int .i64 0, .slice none 0 0] 87)) := Bl.a2
 have hB : Blk ((w.alloc (.cells #[.int .i64 a.p, .int .i64 a.party, .int .i64 a.x, .int .i64 a.mask, .int .i64 a.delta, .slice As ns cs, .slice Ak nk ck, .int .i64 a.step, .slice Ah nh ch, .int .i64 a.status, .int .i64 a.out] 34)).alloc (.cells #[.int .i64 0, .int .i64 0, .slice none 0 0] 87)) (w.heap.size) 34 #[.int .i64 a.p, .int .i64 a.party, .int .i64 a.x, .int .i64 a.mask, .int .i64 a.delta, .slice As ns cs, .slice Ak nk ck, .int .i64 a.step, .slice Ah nh ch, .int .i64 a.status, .int .i64 a.out] := ((Blk.new w 34 #[.int .i64 a.p, .int .i64 a.party, .int .i64 a.x, .int .i64 a.mask, .int .i64 a.delta, .slice As ns cs, .slice Ak nk ck, .int .i64 a.step, .slice Ah nh ch, .int .i64 a.status, .int .i64 a.out] (g := w.heap.size)).alloc (.cells #[.int .i64 0, .int .i64 0, .slice none 0 0] 87))
 have hR : Blk ((w.alloc (.cells #[.int .i64 a.p, .int .i64 a.party, .int .i64 a.x, .int .i64 a.mask, .int .i64 a.delta, .slice As ns cs, .slice Ak nk ck, .int .i64 a.step, .slice Ah nh ch, .int .i64 a.status, .int .i64 a.out] 34)).alloc (.cells #[.int .i64 0, .int .i64 0, .slice none 0 0] 87)) (w.heap.size + 1) 87 #[.int .i64 0, .int .i64 0, .slice none 0 0] := (Blk.new (w.alloc (.cells #[.int .i64 a.p, .int .i64 a.party, .int .i64 a.x, .int .i64 a.mask, .int .i64 a.delta, .slice As ns cs, .slice Ak nk ck, .int .i64 a.step, .slice Ah nh ch, .int .i64 a.status, .int .i64 a.out] 34)) 87 #[.int .i64 0, .int .i64 0, .slice none 0 0] (g := w.heap.size + 1))
 obtain ⟨B_l, B_f, B_0, B_1, B_2, B_3, B_4, B_5, B_6, B_7, B_8, B_9, B_10⟩ := hB.l11; obtain ⟨R_l, R_f, R_0, R_1, R_2⟩ := hR.l3
 go_enter Tryd.func54, Tryd.ntmps54
 go_wp2_with fail
 refine region_F (fun _ => True) (fun w' => w'.cell? ⟨w.heap.size, 0, none⟩ = some (.int .i64 a.p) ∧ w'.cell? ⟨w.heap.size, 1, none⟩ = some (.int .i64 a.party) ∧ w'.cell? ⟨w.heap.size, 2, none⟩ = some (.int .i64 a.x) ∧ w'.cell? ⟨w.heap.size, 3, none⟩ = some (.int .i64 a.mask) ∧ w'.cell? ⟨w.heap.size, 4, none⟩ = some (.int .i64 a.delta) ∧ w'.cell? ⟨w.heap.size, 5, none⟩ = some (.slice As ns cs) ∧ w'.cell? ⟨w.heap.size, 6, none⟩ = some (.slice Ak nk ck) ∧ w'.cell? ⟨w.heap.size, 7, none⟩ = some (.int .i64 a.step) ∧ w'.cell? ⟨w.heap.size, 8, none⟩ = some (.slice Ah nh ch) ∧ w'.cell? ⟨w.heap.size, 9, none⟩ = some (.int .i64 a.status) ∧ w'.cell? ⟨w.heap.size, 10, none⟩ = some (.int .i64 a.out)) 7 (by kernel_rfl) ?_ (fun hHeld => ?_)
 ·(try dsimp only); exact ⟨trivial, B_0, B_1, B_2, B_3, B_4, B_5, B_6, B_7, B_8, B_9, B_10⟩
 refine tC 0 3 [0] ?_ hHeld
 refine tC 1 4 [1] ?_ hHeld
 refine tC 2 5 [2] ?_ hHeld
 refine tC 3 6 [3] ?_ hHeld
 refine tC 4 7 [4] ?_ hHeld
 refine f_step (i := 5) (by kernel_rfl) rfl (fun K hK => ?_)
 go_simp
 go_at_call 76; refine (HF.out _ hW.drew).mono ?_; rintro e w1 ⟨A, n, c, rfl, ho, hb1⟩; have hR1 := hR.drew.keep hb1
 go_wp2_with fail
 refine ko hK ?_ fun hHeld => ?_
 ·(try dsimp only); exact ⟨trivial, hb1.cells B_0, hb1.cells B_1, hb1.cells B_2, hb1.cells B_3, hb1.cells B_4, hb1.cells B_5, hb1.cells B_6, hb1.cells B_7, hb1.cells B_8, hb1.cells B_9, hb1.cells B_10⟩
 clear hK K
 refine tC 6 9 [6] ?_ hHeld
 refine f_last (i := 7) (by kernel_rfl) rfl (by simp) (fun K hK => ?_)
 refine wp_store_row 87 _ _ rfl (w.heap.size + 1) #[.int .i64 a.party, .int .i64 a.step, .slice A n c] rfl rfl 87 #[.int .i64 0, .int .i64 0, .slice none 0 0] hR1 (by kernel_rfl) rfl (by first | rfl | simp [Value.oneCell'] | kernel_rfl) ?_
 refine ko hK ?_ fun hHeld => ?_
 ·exact trivial
 clear hK K
 refine f_done (by kernel_rfl) ?_ _
 go_wp2_with fail
 have ho2 : OwnI w.heap.size (w1.setRow (w.heap.size + 1) #[.int .i64 a.party, .int .i64 a.step, .slice A n c]) A n c (bodyP a) := (ho.mono (by simp; omega)).grownR (setRow_grown w1 _ _) (fun k hk e => by have := (ho.blk k hk).1; injection e with e; simp at this; omega)
 have hbz : Bl w (w1.setRow (w.heap.size + 1) #[.int .i64 a.party, .int .i64 a.step, .slice A n c]) := (hW.drew.call hb1).row (by omega) _
 have hR2 := Blk.row (cs' := #[.int .i64 a.party, .int .i64 a.step, .slice A n c]) hR1
 generalize w1.setRow (w.heap.size + 1) #[.int .i64 a.party, .int .i64 a.step, .slice A n c] = wz at hbz hR2 ho2 ⊢
 have R2_0 := hR2.cell 0 _ rfl
 have R2_1 := hR2.cell 1 _ rfl
 have R2_2 := hR2.cell 2 _ rfl
 refine bodyPost_ret (v := .agg #[.int .i64 a.party, .int .i64 a.step, .slice A n c]) (by simp [results, Tryd.results54, go_sem, R2_0, R2_1, R2_2]) rfl ⟨A, n, c, rfl, ho2, hbz⟩
end Go.Proofs.YtcjpalhclgkjiaaDoor
