/- The law on the players with a wrong result, walked.
   Conditions: the arguments read as players and meddles, the table of lengths holds what its text lays. -/
import Derived.Test.YtcjpalhclgkjiaaDoorPqx
import Derived.Test.YtcjpalhclgkjiaaDoorPqt
namespace Go.Proofs.YtcjpalhclgkjiaaDoor
open Go.RowKit
set_option linter.unusedVariables false
set_option maxRecDepth 20000 in
set_option maxHeartbeats 8000000 in
theorem law_WrongPlayers (a b : Pl) (As Ak Ah : Option Addr) (ns cs nk ck nh ch : Nat) (hs : List Hd) (As2 Ak2 Ah2 : Option Addr) (ns2 cs2 nk2 ck2 nh2 ch2 : Nat) (hs2 : List Hd) (Al : Option Addr) (nl cl : Nat) (l : List Md) (w : World) (hTb : Tab w) (hl : RdMd w Al nl cl l) (ha : RdP w a As Ak Ah ns cs nk ck nh ch hs) (hb : RdP w b As2 Ak2 Ah2 ns2 cs2 nk2 ck2 nh2 ch2 hs2) :
  Calls Tryd.prog 5 #[.agg #[.int .i64 a.p, .int .i64 a.party, .int .i64 a.x, .int .i64 a.mask, .int .i64 a.delta, .slice As ns cs, .slice Ak nk ck, .int .i64 a.step, .slice Ah nh ch, .int .i64 a.status, .int .i64 a.out], .agg #[.int .i64 b.p, .int .i64 b.party, .int .i64 b.x, .int .i64 b.mask, .int .i64 b.delta, .slice As2 ns2 cs2, .slice Ak2 nk2 ck2, .int .i64 b.step, .slice Ah2 nh2 ch2, .int .i64 b.status, .int .i64 b.out], .slice Al nl cl] w fun e w' => e = .returned (.bool true) ∧ Bl w w' := by
 obtain ⟨hl1, hl2⟩ := hl.le
 have hW : Bl w ((w.alloc (.cells #[.int .i64 a.p, .int .i64 a.party, .int .i64 a.x, .int .i64 a.mask, .int .i64 a.delta, .slice As ns cs, .slice Ak nk ck, .int .i64 a.step, .slice Ah nh ch, .int .i64 a.status, .int .i64 a.out] 26)).alloc (.cells #[.int .i64 b.p, .int .i64 b.party, .int .i64 b.x, .int .i64 b.mask, .int .i64 b.delta, .slice As2 ns2 cs2, .slice Ak2 nk2 ck2, .int .i64 b.step, .slice Ah2 nh2 ch2, .int .i64 b.status, .int .i64 b.out] 26)) := Bl.a3
 have hA : Blk ((w.alloc (.cells #[.int .i64 a.p, .int .i64 a.party, .int .i64 a.x, .int .i64 a.mask, .int .i64 a.delta, .slice As ns cs, .slice Ak nk ck, .int .i64 a.step, .slice Ah nh ch, .int .i64 a.status, .int .i64 a.out] 26)).alloc (.cells #[.int .i64 b.p, .int .i64 b.party, .int .i64 b.x, .int .i64 b.mask, .int .i64 b.delta, .slice As2 ns2 cs2, .slice Ak2 nk2 ck2, .int .i64 b.step, .slice Ah2 nh2 ch2, .int .i64 b.status, .int .i64 b.out] 26)) (w.heap.size) 26 #[.int .i64 a.p, .int .i64 a.party, .int .i64 a.x, .int .i64 a.mask, .int .i64 a.delta, .slice As ns cs, .slice Ak nk ck, .int .i64 a.step, .slice Ah nh ch, .int .i64 a.status, .int .i64 a.out] := ((Blk.new w 26 #[.int .i64 a.p, .int .i64 a.party, .int .i64 a.x, .int .i64 a.mask, .int .i64 a.delta, .slice As ns cs, .slice Ak nk ck, .int .i64 a.step, .slice Ah nh ch, .int .i64 a.status, .int .i64 a.out] (g := w.heap.size)).alloc (.cells #[.int .i64 b.p, .int .i64 b.party, .int .i64 b.x, .int .i64 b.mask, .int .i64 b.delta, .slice As2 ns2 cs2, .slice Ak2 nk2 ck2, .int .i64 b.step, .slice Ah2 nh2 ch2, .int .i64 b.status, .int .i64 b.out] 26))
 have hB : Blk ((w.alloc (.cells #[.int .i64 a.p, .int .i64 a.party, .int .i64 a.x, .int .i64 a.mask, .int .i64 a.delta, .slice As ns cs, .slice Ak nk ck, .int .i64 a.step, .slice Ah nh ch, .int .i64 a.status, .int .i64 a.out] 26)).alloc (.cells #[.int .i64 b.p, .int .i64 b.party, .int .i64 b.x, .int .i64 b.mask, .int .i64 b.delta, .slice As2 ns2 cs2, .slice Ak2 nk2 ck2, .int .i64 b.step, .slice Ah2 nh2 ch2, .int .i64 b.status, .int .i64 b.out] 26)) (w.heap.size + 1) 26 #[.int .i64 b.p, .int .i64 b.party, .int .i64 b.x, .int .i64 b.mask, .int .i64 b.delta, .slice As2 ns2 cs2, .slice Ak2 nk2 ck2, .int .i64 b.step, .slice Ah2 nh2 ch2, .int .i64 b.status, .int .i64 b.out] := (Blk.new (w.alloc (.cells #[.int .i64 a.p, .int .i64 a.party, .int .i64 a.x, .int .i64 a.mask, .int .i64 a.delta, .slice As ns cs, .slice Ak nk ck, .int .i64 a.step, .slice Ah nh ch, .int .i64 a.status, .int .i64 a.out] 26)) 26 #[.int .i64 b.p, .int .i64 b.party, .int .i64 b.x, .int .i64 b.mask, .int .i64 b.delta, .slice As2 ns2 cs2, .slice Ak2 nk2 ck2, .int .i64 b.step, .slice Ah2 nh2 ch2, .int .i64 b.status, .int .i64 b.out] (g := w.heap.size + 1))
 obtain ⟨A_l, A_f, A_0, A_1, A_2, A_3, A_4, A_5, A_6, A_7, A_8, A_9, A_10⟩ := hA.l11; obtain ⟨B_l, B_f, B_0, B_1, B_2, B_3, B_4, B_5, B_6, B_7, B_8, B_9, B_10⟩ := hB.l11
 go_enter Tryd.func5, Tryd.ntmps5
 go_wp2_with fail
 refine (laws_szPlayer a As Ak Ah ns cs nk ck nh ch hs 1048576 _ (ha.keep hW) (by omega) (by omega)).mono ?_
 rintro e w1 ⟨r1, rfl, t1, t2, t3, hb1⟩
 have HT3 := Lib.hid t3
 clear t3
 replace hW : Bl w w1 := Bl.a3; replace hA := hA.kp hb1; replace hB := hB.kp hb1; (try clear A_l A_f A_0 A_1 A_2 A_3 A_4 A_5 A_6 A_7 A_8 A_9 A_10 B_l B_f B_0 B_1 B_2 B_3 B_4 B_5 B_6 B_7 B_8 B_9 B_10); obtain ⟨A_l, A_f, A_0, A_1, A_2, A_3, A_4, A_5, A_6, A_7, A_8, A_9, A_10⟩ := hA.l11; obtain ⟨B_l, B_f, B_0, B_1, B_2, B_3, B_4, B_5, B_6, B_7, B_8, B_9, B_10⟩ := hB.l11
 by_cases hr1 : r1 < 0
 ·go_wp2_with fail
  go_ret
  exact ⟨rfl, hW⟩
 have hr1' : 0 ≤ r1 := by omega
 go_wp2_with fail
 refine (laws_szPlayer b As2 Ak2 Ah2 ns2 cs2 nk2 ck2 nh2 ch2 hs2 r1 _ (hb.keep hW) (by omega) (by omega)).mono ?_
 rintro e w1 ⟨r2, rfl, u1, u2, u3, hb1⟩
 have HU3 := Lib.hid u3
 clear u3
 replace hW : Bl w w1 := Bl.a3; replace hA := hA.kp hb1; replace hB := hB.kp hb1; (try clear A_l A_f A_0 A_1 A_2 A_3 A_4 A_5 A_6 A_7 A_8 A_9 A_10 B_l B_f B_0 B_1 B_2 B_3 B_4 B_5 B_6 B_7 B_8 B_9 B_10); obtain ⟨A_l, A_f, A_0, A_1, A_2, A_3, A_4, A_5, A_6, A_7, A_8, A_9, A_10⟩ := hA.l11; obtain ⟨B_l, B_f, B_0, B_1, B_2, B_3, B_4, B_5, B_6, B_7, B_8, B_9, B_10⟩ := hB.l11
 by_cases hr2 : r2 < 0
 ·go_wp2_with fail
  go_ret
  exact ⟨rfl, hW⟩
 have hr2' : 0 ≤ r2 := by omega
 by_cases hr3 : r2 - nl < 0
 ·go_wp2_with (go_at_call 8; refine (laws_szMeddleS Al nl cl r2 _ hl1 hl2 hr2' (by omega)).mono ?_; rintro e w1 ⟨rfl, rfl⟩; rw [if_pos (show r2 - (nl : Int) < 0 by omega)])
  go_ret
  exact ⟨rfl, hW⟩
 obtain ⟨r3, hr3e⟩ : ∃ r : Int, r2 - nl = r := ⟨_, rfl⟩
 have HR3 := Lib.hid hr3e
 have hr3' : 0 ≤ r3 := by omega
 have hr3'' : ¬ r3 < 0 := by omega
 have hnl : nl ≤ 1048576 := by omega
 have TA := Lib.hid (fun (w' : World) (hb' : Bl w w') => laws_toPlayer a As Ak Ah ns cs nk ck nh ch hs w' (ha.keep hb') (HT3.out hr1'))
 have TB := Lib.hid (fun (w' : World) (hb' : Bl w w') => laws_toPlayer b As2 Ak2 Ah2 ns2 cs2 nk2 ck2 nh2 ch2 hs2 w' (hb.keep hb') (HU3.out hr2'))
 have TM := Lib.hid (fun (w' : World) (hb' : Bl w w') => laws_toMeddleS Al nl cl l w' (hl.keep hb') (by omega))
 clear hr3e
 go_wp2_with (go_at_call 8; refine (laws_szMeddleS Al nl cl r2 _ hl1 hl2 hr2' (by omega)).mono ?_; rintro e w2 ⟨rfl, rfl⟩; rw [if_neg (show ¬ r2 - (nl : Int) < 0 by omega), HR3.out])
 clear hr1 hr2 hr3
 refine region_F (fun _ => True) (fun w' => w'.cell? ⟨w.heap.size, 0, none⟩ = some (.int .i64 a.p) ∧ w'.cell? ⟨w.heap.size, 1, none⟩ = some (.int .i64 a.party) ∧ w'.cell? ⟨w.heap.size, 2, none⟩ = some (.int .i64 a.x) ∧ w'.cell? ⟨w.heap.size, 3, none⟩ = some (.int .i64 a.mask) ∧ w'.cell? ⟨w.heap.size, 4, none⟩ = some (.int .i64 a.delta) ∧ w'.cell? ⟨w.heap.size, 5, none⟩ = some (.slice As ns cs) ∧ w'.cell? ⟨w.heap.size, 6, none⟩ = some (.slice Ak nk ck) ∧ w'.cell? ⟨w.heap.size, 7, none⟩ = some (.int .i64 a.step) ∧ w'.cell? ⟨w.heap.size, 8, none⟩ = some (.slice Ah nh ch) ∧ w'.cell? ⟨w.heap.size, 9, none⟩ = some (.int .i64 a.status) ∧ w'.cell? ⟨w.heap.size, 10, none⟩ = some (.int .i64 a.out) ∧ w'.cell? ⟨w.heap.size + 1, 0, none⟩ = some (.int .i64 b.p) ∧ w'.cell? ⟨w.heap.size + 1, 1, none⟩ = some (.int .i64 b.party) ∧ w'.cell? ⟨w.heap.size + 1, 2, none⟩ = some (.int .i64 b.x) ∧ w'.cell? ⟨w.heap.size + 1, 3, none⟩ = some (.int .i64 b.mask) ∧ w'.cell? ⟨w.heap.size + 1, 4, none⟩ = some (.int .i64 b.delta) ∧ w'.cell? ⟨w.heap.size + 1, 5, none⟩ = some (.slice As2 ns2 cs2) ∧ w'.cell? ⟨w.heap.size + 1, 6, none⟩ = some (.slice Ak2 nk2 ck2) ∧ w'.cell? ⟨w.heap.size + 1, 7, none⟩ = some (.int .i64 b.step) ∧ w'.cell? ⟨w.heap.size + 1, 8, none⟩ = some (.slice Ah2 nh2 ch2) ∧ w'.cell? ⟨w.heap.size + 1, 9, none⟩ = some (.int .i64 b.status) ∧ w'.cell? ⟨w.heap.size + 1, 10, none⟩ = some (.int .i64 b.out)) 6 (by kernel_rfl) ?_ (fun hHeld => ?_)
 ·(try dsimp only); and_intros <;> first | exact trivial | with_reducible assumption | exact (Bl.refl _).drew.cells (by with_reducible assumption)
 refine tC 0 36 [1, 0] ?_ hHeld
 refine tC 2 38 [3, 2] ?_ hHeld
 refine tC 4 40 [5, 4] ?_ hHeld
 refine f_step (i := 1) (by kernel_rfl) rfl (fun K hK => ?_)
 go_simp
 go_at_call 10; refine (TA.out _ hW.drew).mono ?_; rintro e p1 ⟨X5, X6, X8, X5_, X6_, X8_, Xs, TX, rfl, oX, hd1⟩; have hV1 : Bl w p1 := hW.drew.call hd1
 go_wp2_with fail
 refine ko hK ?_ fun hHeld => ?_
 ·(try dsimp only); and_intros <;> first | exact trivial | exact (((Bl.refl _).drew.call hd1).cells (by with_reducible assumption))
 clear hK K
 refine f_step (i := 3) (by kernel_rfl) rfl (fun K hK => ?_)
 go_simp
 go_at_call 10; refine (TB.out _ hV1).mono ?_; rintro e p2 ⟨Y5, Y6, Y8, Y5_, Y6_, Y8_, Ys, TY, rfl, oY, hd2⟩; have hV2 : Bl w p2 := hV1.call hd2; replace oX := oX.keep hd2
 go_wp2_with fail
 refine ko hK ?_ fun hHeld => ?_
 ·(try dsimp only); and_intros <;> first | exact trivial | exact (hd2.cells (((Bl.refl _).drew.call hd1).cells (by with_reducible assumption)))
 clear hK K
 refine f_step (i := 5) (by kernel_rfl) rfl (fun K hK => ?_)
 go_simp
 go_at_call 11; refine (TM.out _ hV2).mono ?_; rintro e p3 ⟨Z5, z5, rfl, oZ, hd3⟩; have hV3 : Bl w p3 := hV2.call hd3; replace oX := oX.keep hd3; replace oY := oY.keep hd3
 go_wp2_with fail
 refine ko hK ?_ fun hHeld => ?_
 ·(try dsimp only); and_intros <;> first | exact trivial | exact (hd3.cells (hd2.cells (((Bl.refl _).drew.call hd1).cells (by with_reducible assumption))))
 clear hK K
 refine f_last (i := 6) (by kernel_rfl) rfl (by simp) (fun K hK => ?_)
 go_simp
 go_at_call 22; refine (spec_WrongPlayers a b X5 X6 X8 ns X5_ nk X6_ nh X8_ Xs Y5 Y6 Y8 ns2 Y5_ nk2 Y6_ nh2 Y8_ Ys Z5 nl z5 l _ (hTb.keep hV3) oZ.rd oX.rd oY.rd oX.under oY.under hnl).mono ?_; rintro e p4 ⟨AW, nw, cw, rfl, oW, hd4⟩; have hV4 : Bl w p4 := hV3.call hd4
 go_wp2_with fail
 refine ko hK ?_ fun hHeld => ?_
 ·exact trivial
 clear hK K
 refine tS 7 35 ?_ hHeld (fun h => by simp at h)
 refine tS 8 43 ?_ hHeld (fun h => by simp at h)
 refine tS 9 44 ?_ hHeld (fun h => by simp at h)
 refine tS 10 8 ?_ hHeld (fun h => by simp at h)
 refine tS 11 9 ?_ hHeld (fun h => by simp at h)
 refine f_done (by kernel_rfl) ?_ _
 have hA4 := (((hA.drew.keep hd1).keep hd2).keep hd3).keep hd4
 have hB4 := (((hB.drew.keep hd1).keep hd2).keep hd3).keep hd4
 have lW : nw ≤ 2 := by have := oW.length; have := wrgR_len a b l; omega
 have rW := oW.rd
 have uW : ∀ k, AW.map (·.block) = some k → k < p4.heap.size := fun k hk => (oW.blk k hk).2
 have hs4 := hB4.lt
 (try clear A_l A_f A_0 A_1 A_2 A_3 A_4 A_5 A_6 A_7 A_8 A_9 A_10); (try clear B_l B_f B_0 B_1 B_2 B_3 B_4 B_5 B_6 B_7 B_8 B_9 B_10)
 clear hA hB hW hV1 hV2 hV3 hd1 hd2 hd3 hd4 oX oY oZ hb1 oW
 have hA := hA4; have hB := hB4; clear hA4 hB4
 have hW := hV4; clear hV4
 obtain ⟨A_l, A_f, A_0, A_1, A_2, A_3, A_4, A_5, A_6, A_7, A_8, A_9, A_10⟩ := hA.l11; obtain ⟨B_l, B_f, B_0, B_1, B_2, B_3, B_4, B_5, B_6, B_7, B_8, B_9, B_10⟩ := hB.l11
 go_wp2_with fail
 refine (TA.out _ hW).mono ?_
 rintro e q1 ⟨P5, P6, P8, P5_, P6_, P8_, Ps, TP_, rfl, oP, he1⟩
 (try clear A_l A_f A_0 A_1 A_2 A_3 A_4 A_5 A_6 A_7 A_8 A_9 A_10); (try clear B_l B_f B_0 B_1 B_2 B_3 B_4 B_5 B_6 B_7 B_8 B_9 B_10)
 have uP := oP.under
 have sP := he1.sz
 replace hW : Bl w q1 := hW.call he1
 replace hA := (hA.keep he1).alloc (.cells #[.int .i64 a.p, .int .i64 a.party, .int .i64 a.x, .int .i64 a.mask, .int .i64 a.delta, .slice P5 ns P5_, .slice P6 nk P6_, .int .i64 a.step, .slice P8 nh P8_, .int .i64 a.status, .int .i64 a.out] 34)
 replace hB := (hB.keep he1).alloc (.cells #[.int .i64 a.p, .int .i64 a.party, .int .i64 a.x, .int .i64 a.mask, .int .i64 a.delta, .slice P5 ns P5_, .slice P6 nk P6_, .int .i64 a.step, .slice P8 nh P8_, .int .i64 a.status, .int .i64 a.out] 34)
 replace hW := hW.alloc (.cells #[.int .i64 a.p, .int .i64 a.party, .int .i64 a.x, .int .i64 a.mask, .int .i64 a.delta, .slice P5 ns P5_, .slice P6 nk P6_, .int .i64 a.step, .slice P8 nh P8_, .int .i64 a.status, .int .i64 a.out] 34)
 replace rW := (rW.keep he1).keep ((Bl.refl q1).alloc (.cells #[.int .i64 a.p, .int .i64 a.party, .int .i64 a.x, .int .i64 a.mask, .int .i64 a.delta, .slice P5 ns P5_, .slice P6 nk P6_, .int .i64 a.step, .slice P8 nh P8_, .int .i64 a.status, .int .i64 a.out] 34))
 have hP := Blk.new q1 34 #[.int .i64 a.p, .int .i64 a.party, .int .i64 a.x, .int .i64 a.mask, .int .i64 a.delta, .slice P5 ns P5_, .slice P6 nk P6_, .int .i64 a.step, .slice P8 nh P8_, .int .i64 a.status, .int .i64 a.out] (g := q1.heap.size)
 replace oP := oP.keep ((Bl.refl q1).alloc (.cells #[.int .i64 a.p, .int .i64 a.party, .int .i64 a.x, .int .i64 a.mask, .int .i64 a.delta, .slice P5 ns P5_, .slice P6 nk P6_, .int .i64 a.step, .slice P8 nh P8_, .int .i64 a.status, .int .i64 a.out] 34))
 have sP2 : q1.heap.size ≤ (q1.alloc (.cells #[.int .i64 a.p, .int .i64 a.party, .int .i64 a.x, .int .i64 a.mask, .int .i64 a.delta, .slice P5 ns P5_, .slice P6 nk P6_, .int .i64 a.step, .slice P8 nh P8_, .int .i64 a.status, .int .i64 a.out] 34)).heap.size := ((Bl.refl q1).alloc (.cells #[.int .i64 a.p, .int .i64 a.party, .int .i64 a.x, .int .i64 a.mask, .int .i64 a.delta, .slice P5 ns P5_, .slice P6 nk P6_, .int .i64 a.step, .slice P8 nh P8_, .int .i64 a.status, .int .i64 a.out] 34)).sz
 clear he1
 obtain ⟨A_l, A_f, A_0, A_1, A_2, A_3, A_4, A_5, A_6, A_7, A_8, A_9, A_10⟩ := hA.l11; obtain ⟨B_l, B_f, B_0, B_1, B_2, B_3, B_4, B_5, B_6, B_7, B_8, B_9, B_10⟩ := hB.l11
 go_wp2_with fail
 generalize q1.alloc (.cells #[.int .i64 a.p, .int .i64 a.party, .int .i64 a.x, .int .i64 a.mask, .int .i64 a.delta, .slice P5 ns P5_, .slice P6 nk P6_, .int .i64 a.step, .slice P8 nh P8_, .int .i64 a.status, .int .i64 a.out] 34) = q2 at hA hB hW hP oP sP2 rW A_l A_f B_l B_f A_0 A_1 A_2 A_3 A_4 A_5 A_6 A_7 A_8 A_9 A_10 B_0 B_1 B_2 B_3 B_4 B_5 B_6 B_7 B_8 B_9 B_10 ⊢
 generalize q1.heap.size = gP at hP uP sP sP2 ⊢
 refine (TB.out _ hW).mono ?_
 rintro e q3 ⟨Q5, Q6, Q8, Q5_, Q6_, Q8_, Qs, TQ_, rfl, oQ, he2⟩
 (try clear A_l A_f A_0 A_1 A_2 A_3 A_4 A_5 A_6 A_7 A_8 A_9 A_10); (try clear B_l B_f B_0 B_1 B_2 B_3 B_4 B_5 B_6 B_7 B_8 B_9 B_10)
 have uQ := oQ.under
 have sQ := he2.sz
 replace hW : Bl w q3 := hW.call he2
 replace hA := (hA.keep he2).alloc (.cells #[.int .i64 b.p, .int .i64 b.party, .int .i64 b.x, .int .i64 b.mask, .int .i64 b.delta, .slice Q5 ns2 Q5_, .slice Q6 nk2 Q6_, .int .i64 b.step, .slice Q8 nh2 Q8_, .int .i64 b.status, .int .i64 b.out] 34)
 replace hB := (hB.keep he2).alloc (.cells #[.int .i64 b.p, .int .i64 b.party, .int .i64 b.x, .int .i64 b.mask, .int .i64 b.delta, .slice Q5 ns2 Q5_, .slice Q6 nk2 Q6_, .int .i64 b.step, .slice Q8 nh2 Q8_, .int .i64 b.status, .int .i64 b.out] 34)
 replace hP := (hP.keep he2).alloc (.cells #[.int .i64 b.p, .int .i64 b.party, .int .i64 b.x, .int .i64 b.mask, .int .i64 b.delta, .slice Q5 ns2 Q5_, .slice Q6 nk2 Q6_, .int .i64 b.step, .slice Q8 nh2 Q8_, .int .i64 b.status, .int .i64 b.out] 34)
 replace hW := hW.alloc (.cells #[.int .i64 b.p, .int .i64 b.party, .int .i64 b.x, .int .i64 b.mask, .int .i64 b.delta, .slice Q5 ns2 Q5_, .slice Q6 nk2 Q6_, .int .i64 b.step, .slice Q8 nh2 Q8_, .int .i64 b.status, .int .i64 b.out] 34)
 replace rW := (rW.keep he2).keep ((Bl.refl q3).alloc (.cells #[.int .i64 b.p, .int .i64 b.party, .int .i64 b.x, .int .i64 b.mask, .int .i64 b.delta, .slice Q5 ns2 Q5_, .slice Q6 nk2 Q6_, .int .i64 b.step, .slice Q8 nh2 Q8_, .int .i64 b.status, .int .i64 b.out] 34))
 have hQ := Blk.new q3 34 #[.int .i64 b.p, .int .i64 b.party, .int .i64 b.x, .int .i64 b.mask, .int .i64 b.delta, .slice Q5 ns2 Q5_, .slice Q6 nk2 Q6_, .int .i64 b.step, .slice Q8 nh2 Q8_, .int .i64 b.status, .int .i64 b.out] (g := q3.heap.size)
 replace oP := (oP.keep he2).keep ((Bl.refl q3).alloc (.cells #[.int .i64 b.p, .int .i64 b.party, .int .i64 b.x, .int .i64 b.mask, .int .i64 b.delta, .slice Q5 ns2 Q5_, .slice Q6 nk2 Q6_, .int .i64 b.step, .slice Q8 nh2 Q8_, .int .i64 b.status, .int .i64 b.out] 34))
 replace oQ := oQ.keep ((Bl.refl q3).alloc (.cells #[.int .i64 b.p, .int .i64 b.party, .int .i64 b.x, .int .i64 b.mask, .int .i64 b.delta, .slice Q5 ns2 Q5_, .slice Q6 nk2 Q6_, .int .i64 b.step, .slice Q8 nh2 Q8_, .int .i64 b.status, .int .i64 b.out] 34))
 have sQ2 : q3.heap.size ≤ (q3.alloc (.cells #[.int .i64 b.p, .int .i64 b.party, .int .i64 b.x, .int .i64 b.mask, .int .i64 b.delta, .slice Q5 ns2 Q5_, .slice Q6 nk2 Q6_, .int .i64 b.step, .slice Q8 nh2 Q8_, .int .i64 b.status, .int .i64 b.out] 34)).heap.size := ((Bl.refl q3).alloc (.cells #[.int .i64 b.p, .int .i64 b.party, .int .i64 b.x, .int .i64 b.mask, .int .i64 b.delta, .slice Q5 ns2 Q5_, .slice Q6 nk2 Q6_, .int .i64 b.step, .slice Q8 nh2 Q8_, .int .i64 b.status, .int .i64 b.out] 34)).sz
 clear he2
 go_wp2_with fail
 generalize q3.alloc (.cells #[.int .i64 b.p, .int .i64 b.party, .int .i64 b.x, .int .i64 b.mask, .int .i64 b.delta, .slice Q5 ns2 Q5_, .slice Q6 nk2 Q6_, .int .i64 b.step, .slice Q8 nh2 Q8_, .int .i64 b.status, .int .i64 b.out] 34) = q4 at hA hB hW hP hQ oP oQ sQ2 rW ⊢
 generalize q3.heap.size = gQ at hQ uQ sQ sQ2 ⊢
 refine (TM.out _ hW).mono ?_
 rintro e q5 ⟨M5, m5, rfl, oM, he3⟩
 have uM : ∀ k, M5.map (·.block) = some k → k < q5.heap.size := fun k hk => (oM.blk k hk).2
 have sM := he3.sz
 replace hW : Bl w q5 := hW.call he3
 replace hA := hA.keep he3; replace hB := hB.keep he3; replace hP := hP.keep he3; replace hQ := hQ.keep he3; replace oP := oP.keep he3; replace oQ := oQ.keep he3; replace rW := rW.keep he3
 clear he3
 obtain ⟨P_l, P_f, P_0, P_1, P_2, P_3, P_4, P_5, P_6, P_7, P_8, P_9, P_10⟩ := hP.l11; obtain ⟨Q_l, Q_f, Q_0, Q_1, Q_2, Q_3, Q_4, Q_5, Q_6, Q_7, Q_8, Q_9, Q_10⟩ := hQ.l11
 go_wp2_with fail
 refine (impl_WrongPlayers a b P5 P6 P8 ns P5_ nk P6_ nh P8_ Ps Q5 Q6 Q8 ns2 Q5_ nk2 Q6_ nh2 Q8_ Qs M5 nl m5 l _ (hTb.keep hW) oM.rd oP.rd oQ.rd hnl).mono ?_
 rintro e q6 ⟨AG, ng, cg, rfl, oG, he4⟩
 have lG : ng ≤ 2 := by have := oG.length; have := wrgR_len a b l; omega
 (try clear P_l P_f P_0 P_1 P_2 P_3 P_4 P_5 P_6 P_7 P_8 P_9 P_10); (try clear Q_l Q_f Q_0 Q_1 Q_2 Q_3 Q_4 Q_5 Q_6 Q_7 Q_8 Q_9 Q_10)
 have sG := he4.sz
 replace hW : Bl w q6 := hW.call he4
 replace hA := hA.keep he4; replace hB := hB.keep he4; replace hP := hP.keep he4; replace hQ := hQ.keep he4; replace oP := oP.keep he4; replace oQ := oQ.keep he4; replace rW := rW.keep he4
 replace oM := oM.keep he4
 clear he4
 go_wp2_with fail
 refine (laws_eqIntS _ _ _ _ _ _ _ _ _ oG.rd rW).mono ?_
 rintro e q7 ⟨rfl, he5⟩
 replace hW : Bl w q7 := hW.call he5
 replace hA := hA.keep he5; replace hB := hB.keep he5; replace hP := hP.keep he5; replace hQ := hQ.keep he5; replace oP := oP.keep he5; replace oQ := oQ.keep he5; replace rW := rW.keep he5
 replace oM := oM.keep he5
 replace oG := oG.keep he5
 clear he5
 obtain ⟨A_l, A_f, A_0, A_1, A_2, A_3, A_4, A_5, A_6, A_7, A_8, A_9, A_10⟩ := hA.l11; obtain ⟨B_l, B_f, B_0, B_1, B_2, B_3, B_4, B_5, B_6, B_7, B_8, B_9, B_10⟩ := hB.l11
 obtain ⟨P_l, P_f, P_0, P_1, P_2, P_3, P_4, P_5, P_6, P_7, P_8, P_9, P_10⟩ := hP.l11; obtain ⟨Q_l, Q_f, Q_0, Q_1, Q_2, Q_3, Q_4, Q_5, Q_6, Q_7, Q_8, Q_9, Q_10⟩ := hQ.l11
 go_wp2_with fail
 have hV := hW
 refine region_F (fun _ => True) (fun w' => w'.cell? ⟨gP, 0, none⟩ = some (.int .i64 a.p) ∧ w'.cell? ⟨gP, 1, none⟩ = some (.int .i64 a.party) ∧ w'.cell? ⟨gP, 2, none⟩ = some (.int .i64 a.x) ∧ w'.cell? ⟨gP, 3, none⟩ = some (.int .i64 a.mask) ∧ w'.cell? ⟨gP, 4, none⟩ = some (.int .i64 a.delta) ∧ w'.cell? ⟨gP, 5, none⟩ = some (.slice P5 ns P5_) ∧ w'.cell? ⟨gP, 6, none⟩ = some (.slice P6 nk P6_) ∧ w'.cell? ⟨gP, 7, none⟩ = some (.int .i64 a.step) ∧ w'.cell? ⟨gP, 8, none⟩ = some (.slice P8 nh P8_) ∧ w'.cell? ⟨gP, 9, none⟩ = some (.int .i64 a.status) ∧ w'.cell? ⟨gP, 10, none⟩ = some (.int .i64 a.out) ∧ w'.cell? ⟨w.heap.size, 0, none⟩ = some (.int .i64 a.p) ∧ w'.cell? ⟨w.heap.size, 1, none⟩ = some (.int .i64 a.party) ∧ w'.cell? ⟨w.heap.size, 2, none⟩ = some (.int .i64 a.x) ∧ w'.cell? ⟨w.heap.size, 3, none⟩ = some (.int .i64 a.mask) ∧ w'.cell? ⟨w.heap.size, 4, none⟩ = some (.int .i64 a.delta) ∧ w'.cell? ⟨w.heap.size, 5, none⟩ = some (.slice As ns cs) ∧ w'.cell? ⟨w.heap.size, 6, none⟩ = some (.slice Ak nk ck) ∧ w'.cell? ⟨w.heap.size, 7, none⟩ = some (.int .i64 a.step) ∧ w'.cell? ⟨w.heap.size, 8, none⟩ = some (.slice Ah nh ch) ∧ w'.cell? ⟨w.heap.size, 9, none⟩ = some (.int .i64 a.status) ∧ w'.cell? ⟨w.heap.size, 10, none⟩ = some (.int .i64 a.out)) 3 (by kernel_rfl) ?_ (fun hHeld => ?_)
 ·(try dsimp only); and_intros <;> first | exact trivial | with_reducible assumption | exact (Bl.refl _).drew.cells (by with_reducible assumption)
 refine tC 0 67 [0] ?_ hHeld
 refine tC 1 68 [2, 1] ?_ hHeld
 refine f_step (i := 2) (by kernel_rfl) rfl (fun K hK => ?_)
 go_simp
 go_at_call 10; refine (TA.out _ hV.drew).mono ?_; rintro e v1 ⟨R5, R6, R8, R5_, R6_, R8_, Rs, TR, rfl, oR, hc1⟩; have hU1 : Bl w v1 := hV.drew.call hc1
 go_wp2_with fail
 refine ko hK ?_ fun hHeld => ?_
 ·(try dsimp only); and_intros <;> first | exact trivial | exact hc1.cells (by with_reducible assumption) | exact ((Bl.refl _).drew.call hc1).cells (by with_reducible assumption)
 clear hK K
 refine f_last (i := 3) (by kernel_rfl) rfl (by simp) (fun K hK => ?_)
 go_simp
 go_at_call 13; refine (laws_eqPlayer a P5 P6 P8 ns P5_ nk P6_ nh P8_ Ps R5 R6 R8 ns R5_ nk R6_ nh R8_ Rs _ _ _ _ _ (oP.keep ((Bl.refl _).drew.call hc1)) oR).mono ?_; rintro e v2 ⟨rfl, hc2⟩
 go_wp2_with fail
 refine ko hK ?_ fun hHeld => ?_
 ·exact trivial
 clear hK K
 refine tS 4 71 ?_ hHeld (fun h => by simp at h)
 refine f_done (by kernel_rfl) ?_ _
 replace hW : Bl w v2 := hU1.call hc2
 replace hA := (hA.drew.keep hc1).keep hc2; replace hB := (hB.drew.keep hc1).keep hc2; replace hP := (hP.drew.keep hc1).keep hc2; replace hQ := (hQ.drew.keep hc1).keep hc2; replace oP := oP.keep (((Bl.refl _).drew.call hc1).call hc2); replace oQ := oQ.keep (((Bl.refl _).drew.call hc1).call hc2); replace rW := rW.keep (((Bl.refl _).drew.call hc1).call hc2)
 replace oM := oM.keep (((Bl.refl _).drew.call hc1).call hc2)
 replace oG := oG.keep (((Bl.refl _).drew.call hc1).call hc2)
 (try clear A_l A_f A_0 A_1 A_2 A_3 A_4 A_5 A_6 A_7 A_8 A_9 A_10); (try clear B_l B_f B_0 B_1 B_2 B_3 B_4 B_5 B_6 B_7 B_8 B_9 B_10)
 (try clear P_l P_f P_0 P_1 P_2 P_3 P_4 P_5 P_6 P_7 P_8 P_9 P_10); (try clear Q_l Q_f Q_0 Q_1 Q_2 Q_3 Q_4 Q_5 Q_6 Q_7 Q_8 Q_9 Q_10)
 clear hV hU1 hc1 hc2 oR
 obtain ⟨B_l, B_f, B_0, B_1, B_2, B_3, B_4, B_5, B_6, B_7, B_8, B_9, B_10⟩ := hB.l11
 obtain ⟨Q_l, Q_f, Q_0, Q_1, Q_2, Q_3, Q_4, Q_5, Q_6, Q_7, Q_8, Q_9, Q_10⟩ := hQ.l11
 go_wp2_with fail
 have hV := hW
 refine region_F (fun _ => True) (fun w' => w'.cell? ⟨gQ, 0, none⟩ = some (.int .i64 b.p) ∧ w'.cell? ⟨gQ, 1, none⟩ = some (.int .i64 b.party) ∧ w'.cell? ⟨gQ, 2, none⟩ = some (.int .i64 b.x) ∧ w'.cell? ⟨gQ, 3, none⟩ = some (.int .i64 b.mask) ∧ w'.cell? ⟨gQ, 4, none⟩ = some (.int .i64 b.delta) ∧ w'.cell? ⟨gQ, 5, none⟩ = some (.slice Q5 ns2 Q5_) ∧ w'.cell? ⟨gQ, 6, none⟩ = some (.slice Q6 nk2 Q6_) ∧ w'.cell? ⟨gQ, 7, none⟩ = some (.int .i64 b.step) ∧ w'.cell? ⟨gQ, 8, none⟩ = some (.slice Q8 nh2 Q8_) ∧ w'.cell? ⟨gQ, 9, none⟩ = some (.int .i64 b.status) ∧ w'.cell? ⟨gQ, 10, none⟩ = some (.int .i64 b.out) ∧ w'.cell? ⟨w.heap.size + 1, 0, none⟩ = some (.int .i64 b.p) ∧ w'.cell? ⟨w.heap.size + 1, 1, none⟩ = some (.int .i64 b.party) ∧ w'.cell? ⟨w.heap.size + 1, 2, none⟩ = some (.int .i64 b.x) ∧ w'.cell? ⟨w.heap.size + 1, 3, none⟩ = some (.int .i64 b.mask) ∧ w'.cell? ⟨w.heap.size + 1, 4, none⟩ = some (.int .i64 b.delta) ∧ w'.cell? ⟨w.heap.size + 1, 5, none⟩ = some (.slice As2 ns2 cs2) ∧ w'.cell? ⟨w.heap.size + 1, 6, none⟩ = some (.slice Ak2 nk2 ck2) ∧ w'.cell? ⟨w.heap.size + 1, 7, none⟩ = some (.int .i64 b.step) ∧ w'.cell? ⟨w.heap.size + 1, 8, none⟩ = some (.slice Ah2 nh2 ch2) ∧ w'.cell? ⟨w.heap.size + 1, 9, none⟩ = some (.int .i64 b.status) ∧ w'.cell? ⟨w.heap.size + 1, 10, none⟩ = some (.int .i64 b.out)) 3 (by kernel_rfl) ?_ (fun hHeld => ?_)
 ·(try dsimp only); and_intros <;> first | exact trivial | with_reducible assumption | exact (Bl.refl _).drew.cells (by with_reducible assumption)
 refine tC 0 72 [0] ?_ hHeld
 refine tC 1 73 [2, 1] ?_ hHeld
 refine f_step (i := 2) (by kernel_rfl) rfl (fun K hK => ?_)
 go_simp
 go_at_call 10; refine (TB.out _ hV.drew).mono ?_; rintro e v1 ⟨R5, R6, R8, R5_, R6_, R8_, Rs, TR, rfl, oR, hc1⟩; have hU1 : Bl w v1 := hV.drew.call hc1
 go_wp2_with fail
 refine ko hK ?_ fun hHeld => ?_
 ·(try dsimp only); and_intros <;> first | exact trivial | exact hc1.cells (by with_reducible assumption) | exact ((Bl.refl _).drew.call hc1).cells (by with_reducible assumption)
 clear hK K
 refine f_last (i := 3) (by kernel_rfl) rfl (by simp) (fun K hK => ?_)
 go_simp
 go_at_call 13; refine (laws_eqPlayer b Q5 Q6 Q8 ns2 Q5_ nk2 Q6_ nh2 Q8_ Qs R5 R6 R8 ns2 R5_ nk2 R6_ nh2 R8_ Rs _ _ _ _ _ (oQ.keep ((Bl.refl _).drew.call hc1)) oR).mono ?_; rintro e v2 ⟨rfl, hc2⟩
 go_wp2_with fail
 refine ko hK ?_ fun hHeld => ?_
 ·exact trivial
 clear hK K
 refine tS 4 76 ?_ hHeld (fun h => by simp at h)
 refine f_done (by kernel_rfl) ?_ _
 replace hW : Bl w v2 := hU1.call hc2
 replace hA := (hA.drew.keep hc1).keep hc2; replace hB := (hB.drew.keep hc1).keep hc2; replace hP := (hP.drew.keep hc1).keep hc2; replace hQ := (hQ.drew.keep hc1).keep hc2; replace oP := oP.keep (((Bl.refl _).drew.call hc1).call hc2); replace oQ := oQ.keep (((Bl.refl _).drew.call hc1).call hc2); replace rW := rW.keep (((Bl.refl _).drew.call hc1).call hc2)
 replace oM := oM.keep (((Bl.refl _).drew.call hc1).call hc2)
 replace oG := oG.keep (((Bl.refl _).drew.call hc1).call hc2)
 (try clear A_l A_f A_0 A_1 A_2 A_3 A_4 A_5 A_6 A_7 A_8 A_9 A_10); (try clear B_l B_f B_0 B_1 B_2 B_3 B_4 B_5 B_6 B_7 B_8 B_9 B_10)
 (try clear P_l P_f P_0 P_1 P_2 P_3 P_4 P_5 P_6 P_7 P_8 P_9 P_10); (try clear Q_l Q_f Q_0 Q_1 Q_2 Q_3 Q_4 Q_5 Q_6 Q_7 Q_8 Q_9 Q_10)
 clear hV hU1 hc1 hc2 oR
 go_wp2_with fail
 refine (TM.out _ hW).mono ?_
 rintro e q7 ⟨N5, n5, rfl, oN, he5⟩
 replace hW : Bl w q7 := hW.call he5
 replace hA := hA.keep he5; replace hB := hB.keep he5; replace hP := hP.keep he5; replace hQ := hQ.keep he5; replace oP := oP.keep he5; replace oQ := oQ.keep he5; replace rW := rW.keep he5
 replace oM := oM.keep he5
 replace oG := oG.keep he5
 clear he5
 go_wp2_with fail
 refine (laws_eqMeddleS M5 N5 nl m5 nl n5 l _ oM.rd oN.rd).mono ?_
 rintro e q8 ⟨rfl, he5⟩
 replace hW : Bl w q8 := hW.call he5
 replace hA := hA.keep he5; replace hB := hB.keep he5; replace hP := hP.keep he5; replace hQ := hQ.keep he5; replace oP := oP.keep he5; replace oQ := oQ.keep he5; replace rW := rW.keep he5
 replace oM := oM.keep he5
 replace oG := oG.keep he5
 clear he5 oN
 obtain ⟨P_l, P_f, P_0, P_1, P_2, P_3, P_4, P_5, P_6, P_7, P_8, P_9, P_10⟩ := hP.l11; obtain ⟨Q_l, Q_f, Q_0, Q_1, Q_2, Q_3, Q_4, Q_5, Q_6, Q_7, Q_8, Q_9, Q_10⟩ := hQ.l11
 have s8 := hW.sz
 have sZ := oP.hT
 have z1 := hP.lt
 have z2 := hQ.lt
 go_wp2_with fail
 refine (laws_markPlayer a P5 P6 P8 ns P5_ nk P6_ nh P8_ Ps _ _ gP 1 _ oP uP (by omega) ⟨(HT3.out hr1').1, (HT3.out hr1').2.1, (HT3.out hr1').2.2.1, ha.rows (HT3.out hr1').2.2.2⟩ (by omega) (by omega)).mono ?_
 rintro e x1 ⟨k1, rfl, kk1, kk2, G1⟩
 (try clear P_l P_f P_0 P_1 P_2 P_3 P_4 P_5 P_6 P_7 P_8 P_9 P_10); (try clear Q_l Q_f Q_0 Q_1 Q_2 Q_3 Q_4 Q_5 Q_6 Q_7 Q_8 Q_9 Q_10)
 replace hW : Bl w x1 := hW.gp G1 (fun q hq => by omega)
 replace hA := hA.gp G1 (fun q => by omega)
 replace hB := hB.gp G1 (fun q => by omega)
 replace hQ := hQ.gp G1 (fun q => by omega)
 replace oQ := oQ.gp uQ G1 (fun q hq => by omega)
 replace oM := oM.gp G1 (fun k hk hq => by have := (oM.blk k hk).1; omega)
 replace oG := oG.gp G1 (fun k hk hq => by have := (oG.blk k hk).1; omega)
 replace rW := RdI.gp_ rW G1 (fun k hk hq => by have := uW k hk; omega)
 have z3 := G1.size
 clear G1 hP oP
 obtain ⟨Q_l, Q_f, Q_0, Q_1, Q_2, Q_3, Q_4, Q_5, Q_6, Q_7, Q_8, Q_9, Q_10⟩ := hQ.l11
 go_wp2_with fail
 refine (laws_markPlayer b Q5 Q6 Q8 ns2 Q5_ nk2 Q6_ nh2 Q8_ Qs _ _ gQ k1 _ oQ uQ (by omega) ⟨(HU3.out hr2').1, (HU3.out hr2').2.1, (HU3.out hr2').2.2.1, hb.rows (HU3.out hr2').2.2.2⟩ (by omega) (by omega)).mono ?_
 rintro e x2 ⟨k2, rfl, kk3, kk4, G1⟩
 (try clear Q_l Q_f Q_0 Q_1 Q_2 Q_3 Q_4 Q_5 Q_6 Q_7 Q_8 Q_9 Q_10)
 replace hW : Bl w x2 := hW.gp G1 (fun q hq => by omega)
 replace hA := hA.gp G1 (fun q => by omega)
 replace hB := hB.gp G1 (fun q => by omega)
 replace oM := oM.gp G1 (fun k hk hq => by have := (oM.blk k hk).1; omega)
 replace oG := oG.gp G1 (fun k hk hq => by have := (oG.blk k hk).1; omega)
 replace rW := RdI.gp_ rW G1 (fun k hk hq => by have := uW k hk; omega)
 clear G1 hQ oQ
 go_wp2_with fail
 refine (laws_markMeddleS M5 nl m5 _ l k2 _ oM (by omega) (by omega)).mono ?_
 rintro e x3 ⟨rfl, _, hg1⟩
 have G1 : Gp (fun q => q4.heap.size ≤ q ∧ q < q5.heap.size) x2 x3 := Gp.of_grown hg1 (fun q hq => ⟨(oM.blk q hq).1, uM q hq⟩)
 replace hW : Bl w x3 := hW.gp G1 (fun q hq => by omega)
 replace hA := hA.gp G1 (fun q => by omega)
 replace hB := hB.gp G1 (fun q => by omega)
 replace oG := oG.gp G1 (fun k hk hq => by have := (oG.blk k hk).1; omega)
 replace rW := RdI.gp_ rW G1 (fun k hk hq => by have := uW k hk; omega)
 clear G1 hg1 oM
 have z4 : ¬ k2 + 4 * (nl : Int) < 0 := by omega
 have z5 : 0 ≤ k2 + 4 * (nl : Int) := by omega
 go_wp2_with fail
 refine (laws_eqIntS _ _ _ _ _ _ _ _ _ oG.rd rW).mono ?_
 rintro e x4 ⟨rfl, he5⟩
 replace hW : Bl w x4 := hW.call he5
 replace hA := hA.keep he5
 replace hB := hB.keep he5
 replace oG := oG.keep he5
 replace rW := rW.keep he5
 clear he5
 go_wp2_with fail
 refine (laws_markIntS _ _ _ _ _ _ _ oG (by omega) (by omega)).mono ?_
 rintro e x5 ⟨rfl, oH, hg1⟩
 have G1 : Gp (fun q => q5.heap.size ≤ q) x4 x5 := Gp.of_grown hg1 (fun q hq => (oG.blk q hq).1)
 replace hW : Bl w x5 := hW.gp G1 (fun q hq => by omega)
 replace hA := hA.gp G1 (fun q => by omega)
 replace hB := hB.gp G1 (fun q => by omega)
 replace rW := RdI.gp_ rW G1 (fun k hk hq => by have := uW k hk; omega)
 clear G1 hg1 oG
 go_wp2_with fail
 refine (laws_heldIntS _ _ _ _ _ oH.rd (by omega) (by omega)).mono ?_
 rintro e x6 ⟨rfl, rfl⟩
 obtain ⟨A_l, A_f, A_0, A_1, A_2, A_3, A_4, A_5, A_6, A_7, A_8, A_9, A_10⟩ := hA.l11; obtain ⟨B_l, B_f, B_0, B_1, B_2, B_3, B_4, B_5, B_6, B_7, B_8, B_9, B_10⟩ := hB.l11
 go_wp2_with fail
 refine region_F (fun _ => True) (fun w' => w'.cell? ⟨w.heap.size, 0, none⟩ = some (.int .i64 a.p) ∧ w'.cell? ⟨w.heap.size, 1, none⟩ = some (.int .i64 a.party) ∧ w'.cell? ⟨w.heap.size, 2, none⟩ = some (.int .i64 a.x) ∧ w'.cell? ⟨w.heap.size, 3, none⟩ = some (.int .i64 a.mask) ∧ w'.cell? ⟨w.heap.size, 4, none⟩ = some (.int .i64 a.delta) ∧ w'.cell? ⟨w.heap.size, 5, none⟩ = some (.slice As ns cs) ∧ w'.cell? ⟨w.heap.size, 6, none⟩ = some (.slice Ak nk ck) ∧ w'.cell? ⟨w.heap.size, 7, none⟩ = some (.int .i64 a.step) ∧ w'.cell? ⟨w.heap.size, 8, none⟩ = some (.slice Ah nh ch) ∧ w'.cell? ⟨w.heap.size, 9, none⟩ = some (.int .i64 a.status) ∧ w'.cell? ⟨w.heap.size, 10, none⟩ = some (.int .i64 a.out) ∧ w'.cell? ⟨w.heap.size + 1, 0, none⟩ = some (.int .i64 b.p) ∧ w'.cell? ⟨w.heap.size + 1, 1, none⟩ = some (.int .i64 b.party) ∧ w'.cell? ⟨w.heap.size + 1, 2, none⟩ = some (.int .i64 b.x) ∧ w'.cell? ⟨w.heap.size + 1, 3, none⟩ = some (.int .i64 b.mask) ∧ w'.cell? ⟨w.heap.size + 1, 4, none⟩ = some (.int .i64 b.delta) ∧ w'.cell? ⟨w.heap.size + 1, 5, none⟩ = some (.slice As2 ns2 cs2) ∧ w'.cell? ⟨w.heap.size + 1, 6, none⟩ = some (.slice Ak2 nk2 ck2) ∧ w'.cell? ⟨w.heap.size + 1, 7, none⟩ = some (.int .i64 b.step) ∧ w'.cell? ⟨w.heap.size + 1, 8, none⟩ = some (.slice Ah2 nh2 ch2) ∧ w'.cell? ⟨w.heap.size + 1, 9, none⟩ = some (.int .i64 b.status) ∧ w'.cell? ⟨w.heap.size + 1, 10, none⟩ = some (.int .i64 b.out)) 6 (by kernel_rfl) ?_ (fun hHeld => ?_)
 ·(try dsimp only); and_intros <;> first | exact trivial | with_reducible assumption | exact (Bl.refl _).drew.cells (by with_reducible assumption)
 refine tC 0 116 [1, 0] ?_ hHeld
 refine tC 2 118 [3, 2] ?_ hHeld
 refine tC 4 120 [5, 4] ?_ hHeld
 refine f_step (i := 1) (by kernel_rfl) rfl (fun K hK => ?_)
 go_simp
 go_at_call 10; refine (TA.out _ hW.drew).mono ?_; rintro e p1 ⟨X5, X6, X8, X5_, X6_, X8_, Xs, TX, rfl, oX, hd1⟩; have hV1 : Bl w p1 := hW.drew.call hd1
 go_wp2_with fail
 refine ko hK ?_ fun hHeld => ?_
 ·(try dsimp only); and_intros <;> first | exact trivial | exact (((Bl.refl _).drew.call hd1).cells (by with_reducible assumption))
 clear hK K
 refine f_step (i := 3) (by kernel_rfl) rfl (fun K hK => ?_)
 go_simp
 go_at_call 10; refine (TB.out _ hV1).mono ?_; rintro e p2 ⟨Y5, Y6, Y8, Y5_, Y6_, Y8_, Ys, TY, rfl, oY, hd2⟩; have hV2 : Bl w p2 := hV1.call hd2; replace oX := oX.keep hd2
 go_wp2_with fail
 refine ko hK ?_ fun hHeld => ?_
 ·(try dsimp only); and_intros <;> first | exact trivial | exact (hd2.cells (((Bl.refl _).drew.call hd1).cells (by with_reducible assumption)))
 clear hK K
 refine f_step (i := 5) (by kernel_rfl) rfl (fun K hK => ?_)
 go_simp
 go_at_call 11; refine (TM.out _ hV2).mono ?_; rintro e p3 ⟨Z5, z5, rfl, oZ, hd3⟩; have hV3 : Bl w p3 := hV2.call hd3; replace oX := oX.keep hd3; replace oY := oY.keep hd3
 go_wp2_with fail
 refine ko hK ?_ fun hHeld => ?_
 ·(try dsimp only); and_intros <;> first | exact trivial | exact (hd3.cells (hd2.cells (((Bl.refl _).drew.call hd1).cells (by with_reducible assumption))))
 clear hK K
 refine f_last (i := 6) (by kernel_rfl) rfl (by simp) (fun K hK => ?_)
 go_simp
 go_at_call 23; refine (impl_WrongPlayers a b X5 X6 X8 ns X5_ nk X6_ nh X8_ Xs Y5 Y6 Y8 ns2 Y5_ nk2 Y6_ nh2 Y8_ Ys Z5 nl z5 l _ (hTb.keep hV3) oZ.rd oX.rd oY.rd hnl).mono ?_; rintro e p4 ⟨AH, nh_, ch_, rfl, oW, hd4⟩; have hV4 : Bl w p4 := hV3.call hd4
 go_wp2_with fail
 refine ko hK ?_ fun hHeld => ?_
 ·exact trivial
 clear hK K
 refine tS 7 115 ?_ hHeld (fun h => by simp at h)
 refine tS 8 123 ?_ hHeld (fun h => by simp at h)
 refine tS 9 124 ?_ hHeld (fun h => by simp at h)
 refine tS 10 18 ?_ hHeld (fun h => by simp at h)
 refine tS 11 19 ?_ hHeld (fun h => by simp at h)
 refine f_done (by kernel_rfl) ?_ _
 replace rW := (((rW.keep (Bl.refl _).drew).keep hd1).keep hd2).keep hd3 |>.keep hd4
 replace oH := (((oH.keep (Bl.refl _).drew).keep hd1).keep hd2).keep hd3 |>.keep hd4
 (try clear A_l A_f A_0 A_1 A_2 A_3 A_4 A_5 A_6 A_7 A_8 A_9 A_10); (try clear B_l B_f B_0 B_1 B_2 B_3 B_4 B_5 B_6 B_7 B_8 B_9 B_10)
 clear hA hB hd1 hd2 hd3 hd4 oX oY oZ
 go_wp2_with fail
 refine (laws_eqIntS _ _ _ _ _ _ _ _ _ oW.rd rW).mono ?_
 rintro e x7 ⟨rfl, he5⟩
 go_wp2_with fail
 refine (laws_heldIntS _ _ _ _ _ (oH.keep he5).rd (by omega) (by omega)).mono ?_
 rintro e x8 ⟨rfl, rfl⟩
 go_wp2_with fail
 go_ret
 exact ⟨rfl, hV4.call he5⟩
end Go.Proofs.YtcjpalhclgkjiaaDoor
