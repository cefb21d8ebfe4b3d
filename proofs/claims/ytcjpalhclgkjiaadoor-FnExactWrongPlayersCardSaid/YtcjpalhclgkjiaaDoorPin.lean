/- Contracts: what a player sends.
   Conditions: the player is valid. -/
import Derived.Test.YtcjpalhclgkjiaaDoorPim
namespace Go.Proofs.YtcjpalhclgkjiaaDoor
open Go.RowKit
set_option linter.unusedVariables false
def bodyL (a : Pl) : Nat → List Int
 | 0 => []
 | 1 => [secV a 0, secT a 0]
 | _ => [secV a 0, secT a 0, secV a 1, secT a 1]
set_option maxRecDepth 20000 in
theorem impl_body0 (a : Pl) (As Ak Ah : Option Addr) (ns cs nk ck nh ch : Nat) (hs : List Hd) (w : World) (ok : Ok a 0) (h : RdP w a As Ak Ah ns cs nk ck nh ch hs) :
  Calls Tryd.prog 94 #[.agg #[.int .i64 a.p, .int .i64 a.party, .int .i64 a.x, .int .i64 a.mask, .int .i64 a.delta, .slice As ns cs, .slice Ak nk ck, .int .i64 a.step, .slice Ah nh ch, .int .i64 a.status, .int .i64 a.out]] w fun e w' => ∃ A n c, e = .returned (.slice A n c) ∧ OwnI w.heap.size w' A n c (bodyP a) ∧ Bl w w' := by
 have hst : a.step = 0 := ok.step
 have hs0 : (a.step == 0) = true := by simp; omega
 have HS := Lib.hid hst
 have p2 := ok.p2
 have px := ok.x
 have pm := ok.mask
 have hR := Lib.hid (show bodyP a = [(a.x - a.mask) % a.p] by unfold bodyP; rw [if_pos hst]; rfl)
 clear hst
 go_enter Tryd.func94, Tryd.ntmps94
 go_wp2_with (go_at_call 45; refine (impl_mod _ _ _ (by omega) (by omega) (by omega) (by omega)).mono ?_; rintro e w2 ⟨rfl, rfl⟩)
 go_ret
 exact ⟨_, _, _, rfl, by rw [hR.out]; exact own_lit1 _ _ (by simp) (by first | with_reducible rfl | simp), Bl.a1⟩
set_option maxRecDepth 20000 in
theorem impl_body1 (a : Pl) (As Ak Ah : Option Addr) (ns cs nk ck nh ch : Nat) (hs : List Hd) (w : World) (ok : Ok a 1) (h : RdP w a As Ak Ah ns cs nk ck nh ch hs) :
  Calls Tryd.prog 94 #[.agg #[.int .i64 a.p, .int .i64 a.party, .int .i64 a.x, .int .i64 a.mask, .int .i64 a.delta, .slice As ns cs, .slice Ak nk ck, .int .i64 a.step, .slice Ah nh ch, .int .i64 a.status, .int .i64 a.out]] w fun e w' => ∃ A n c, e = .returned (.slice A n c) ∧ OwnI w.heap.size w' A n c (bodyP a) ∧ Bl w w' := by
 have hst : a.step = 1 := ok.step
 have hs0 : (a.step == 0) = false := by simp; omega
 have HS := Lib.hid hst
 have p2 := ok.p2
 have hR := Lib.hid (show bodyP a = bodyL a 2 by unfold bodyP; rw [if_neg (by omega), if_pos hst]; rfl)
 have HT := Lib.hid (fun (w' : World) (hb : Bl w w') => impl_terms1 a 1 As Ak Ah ns cs nk ck nh ch hs a.step w' HS.out ok (by omega) (h.keep hb))
 have HO0 := Lib.hid (fun (w' : World) (hb : Bl w w') => own_f0 a 1 As Ak Ah ns cs nk ck nh ch hs w' ok (h.keep hb))
 have HO1 := Lib.hid (fun (w' : World) (hb : Bl w w') => own_f1 a 1 As Ak Ah ns cs nk ck nh ch hs w' ok (h.keep hb))
 have hW : Bl w (w.alloc (.cells #[.int .i64 a.p, .int .i64 a.party, .int .i64 a.x, .int .i64 a.mask, .int .i64 a.delta, .slice As ns cs, .slice Ak nk ck, .int .i64 a.step, .slice Ah nh ch, .int .i64 a.status, .int .i64 a.out] 34)) := Bl.a2
 have hB : Blk (w.alloc (.cells #[.int .i64 a.p, .int .i64 a.party, .int .i64 a.x, .int .i64 a.mask, .int .i64 a.delta, .slice As ns cs, .slice Ak nk ck, .int .i64 a.step, .slice Ah nh ch, .int .i64 a.status, .int .i64 a.out] 34)) (w.heap.size) 34 #[.int .i64 a.p, .int .i64 a.party, .int .i64 a.x, .int .i64 a.mask, .int .i64 a.delta, .slice As ns cs, .slice Ak nk ck, .int .i64 a.step, .slice Ah nh ch, .int .i64 a.status, .int .i64 a.out] := (Blk.new w 34 #[.int .i64 a.p, .int .i64 a.party, .int .i64 a.x, .int .i64 a.mask, .int .i64 a.delta, .slice As ns cs, .slice Ak nk ck, .int .i64 a.step, .slice Ah nh ch, .int .i64 a.status, .int .i64 a.out] (g := w.heap.size))
 have hwr : ∀ w : World, OwnI w.heap.size (w.alloc (.cells #[] 3)) (some ⟨w.heap.size, 0, none⟩) 0 0 [] := own_made
 clear hst
 go_enter Tryd.func94, Tryd.ntmps94
 go_wp2_with (go_at_call 116; refine (HT.out _ Bl.a2).mono ?_; rintro e w1 ⟨g, rfl, hF, hgw, hb1⟩; have hown : OwnI (w.heap.size + 1) w1 (some ⟨w.heap.size + 1, 0, none⟩) 0 0 [] := (((own_made (w.alloc (.cells #[.int .i64 a.p, .int .i64 a.party, .int .i64 a.x, .int .i64 a.mask, .int .i64 a.delta, .slice As ns cs, .slice Ak nk ck, .int .i64 a.step, .slice Ah nh ch, .int .i64 a.status, .int .i64 a.out] 34))).mono (by simp)).keep hb1); replace hW : Bl w w1 := Bl.a2; replace hB := hB.kp hb1; (try clear B_l B_f B_0 B_1 B_2 B_3 B_4 B_5 B_6 B_7 B_8 B_9 B_10); obtain ⟨B_l, B_f, B_0, B_1, B_2, B_3, B_4, B_5, B_6, B_7, B_8, B_9, B_10⟩ := hB.l11; obtain ⟨F_l, -, F_0, F_1, F_2, F_3, F_4, F_5, F_6, F_7, F_8, F_9, F_10, F_11⟩ := hF.l12)
 go_loopw [25, 3] (fun i s wr => ∃ j : Int, 0 ≤ j ∧ j ≤ 2 ∧ i = .int .i64 j ∧ (∃ A c, s = .slice A (2 * j.toNat) c ∧ OwnI (w.heap.size + 1) wr A (2 * j.toNat) c (bodyL a j.toNat) ∧ ∀ q, A.map (·.block) = some q → q ≠ g) ∧ Bl w wr ∧ Blk wr (w.heap.size) 34 #[.int .i64 a.p, .int .i64 a.party, .int .i64 a.x, .int .i64 a.mask, .int .i64 a.delta, .slice As ns cs, .slice Ak nk ck, .int .i64 a.step, .slice Ah nh ch, .int .i64 a.status, .int .i64 a.out] ∧ Blk wr g 141 #[.int .i64 1, .int .i64 0, .int .i64 (-1), .int .i64 0, .int .i64 0, .int .i64 (msk a 0), .int .i64 0, .int .i64 1, .int .i64 0, .int .i64 (-1), .int .i64 0, .int .i64 (msk a 1)]) (fun i _ _ => 2 - (intOf i).toNat)
 case atStart => exact ⟨0, by omega, by omega, rfl, ⟨_, _, rfl, hown, by intro q hq; simp at hq hgw; omega⟩, hW, hB, hF⟩
 case round =>
  (try clear B_l B_f B_0 B_1 B_2 B_3 B_4 B_5 B_6 B_7 B_8 B_9 B_10)
  (try clear F_l F_0 F_1 F_2 F_3 F_4 F_5 F_6 F_7 F_8 F_9 F_10 F_11)
  clear hW hB hF hown hb1
  obtain ⟨j, hj0, hj, rfl, ⟨A, c, rfl, hown, hap⟩, hW, hB, hF⟩ := hrel
  obtain ⟨B_l, B_f, B_0, B_1, B_2, B_3, B_4, B_5, B_6, B_7, B_8, B_9, B_10⟩ := hB.l11
  have F_l := hF.lt
  have F_0 := hF.cell 0 _ rfl; have F_1 := hF.cell 1 _ rfl; have F_2 := hF.cell 2 _ rfl; have F_3 := hF.cell 3 _ rfl; have F_4 := hF.cell 4 _ rfl; have F_5 := hF.cell 5 _ rfl; have F_6 := hF.cell 6 _ rfl; have F_7 := hF.cell 7 _ rfl; have F_8 := hF.cell 8 _ rfl; have F_9 := hF.cell 9 _ rfl; have F_10 := hF.cell 10 _ rfl; have F_11 := hF.cell 11 _ rfl
  obtain rfl | rfl | rfl : j = 0 ∨ j = 1 ∨ j = 2 := by omega
  ·have hst2 := Lib.hid (show bodyL a (1 : Int).toNat = (bodyL a (0 : Int).toNat) ++ [(secV a 0), (secT a 0)] from rfl)
   have hle := hown.rd.le
   go_wp2_with (first | (go_at_call 117; refine (HO0.out _ Bl.a2).mono ?_; rintro e w1 ⟨rfl, hb1⟩; replace hown := (by first | exact hown.keep hb1 | exact (hown.alloc _).keep hb1 | exact ((hown.alloc _).alloc _).keep hb1); replace hW : Bl w w1 := Bl.a2; replace hB := hB.kp hb1; (try clear B_l B_f B_0 B_1 B_2 B_3 B_4 B_5 B_6 B_7 B_8 B_9 B_10); obtain ⟨B_l, B_f, B_0, B_1, B_2, B_3, B_4, B_5, B_6, B_7, B_8, B_9, B_10⟩ := hB.l11; replace hF := hF.kp hb1; (try clear F_l F_0 F_1 F_2 F_3 F_4 F_5 F_6 F_7 F_8 F_9 F_10 F_11); obtain ⟨F_l, -, F_0, F_1, F_2, F_3, F_4, F_5, F_6, F_7, F_8, F_9, F_10, F_11⟩ := hF.l12) | (at_builtin; refine ap_int rfl rfl rfl ((hown.alloc _).alloc _) rfl (rd_new2 _ _ _ _) (by omega) (by have := hW.sz; simp; omega) ?_; intro A2 c2 w2 hown2 hg2 hat2; have hsz := hW.sz))
   have hlow : ∀ k, A.map (·.block) = some k → w.heap.size + 1 ≤ k := fun k hk => (hown.blk k hk).1
   have hat3 := hat2
   go_roundw
   case rel => exact ⟨1, by omega, by omega, rfl, ⟨A2, c2, rfl, by rw [hst2.out]; exact hown2, fun q hq e => by
     rcases hat2 with h1 | h1
     ·exact hap q (h1 ▸ hq) e
     ·rw [h1] at hq; simp at hq; omega⟩, ((hW.alloc _).alloc _).grown hg2 (fun k hk => by have := hlow k hk; omega),
     Blk.grown ((hB.alloc _).alloc _) hg2 (fun e => by have := hlow _ e.symm; omega), Blk.grown ((hF.alloc _).alloc _) hg2 (fun e => hap _ e.symm rfl)⟩
   case measure => simp [intOf]
  ·have hst2 := Lib.hid (show bodyL a (2 : Int).toNat = (bodyL a (1 : Int).toNat) ++ [(secV a 1), (secT a 1)] from rfl)
   have hle := hown.rd.le
   go_wp2_with (first | (go_at_call 117; refine (HO1.out _ Bl.a2).mono ?_; rintro e w1 ⟨rfl, hb1⟩; replace hown := (by first | exact hown.keep hb1 | exact (hown.alloc _).keep hb1 | exact ((hown.alloc _).alloc _).keep hb1); replace hW : Bl w w1 := Bl.a2; replace hB := hB.kp hb1; (try clear B_l B_f B_0 B_1 B_2 B_3 B_4 B_5 B_6 B_7 B_8 B_9 B_10); obtain ⟨B_l, B_f, B_0, B_1, B_2, B_3, B_4, B_5, B_6, B_7, B_8, B_9, B_10⟩ := hB.l11; replace hF := hF.kp hb1; (try clear F_l F_0 F_1 F_2 F_3 F_4 F_5 F_6 F_7 F_8 F_9 F_10 F_11); obtain ⟨F_l, -, F_0, F_1, F_2, F_3, F_4, F_5, F_6, F_7, F_8, F_9, F_10, F_11⟩ := hF.l12) | (at_builtin; refine ap_int rfl rfl rfl ((hown.alloc _).alloc _) rfl (rd_new2 _ _ _ _) (by omega) (by have := hW.sz; simp; omega) ?_; intro A2 c2 w2 hown2 hg2 hat2; have hsz := hW.sz))
   have hlow : ∀ k, A.map (·.block) = some k → w.heap.size + 1 ≤ k := fun k hk => (hown.blk k hk).1
   have hat3 := hat2
   go_roundw
   case rel => exact ⟨2, by omega, by omega, rfl, ⟨A2, c2, rfl, by rw [hst2.out]; exact hown2, fun q hq e => by
     rcases hat2 with h1 | h1
     ·exact hap q (h1 ▸ hq) e
     ·rw [h1] at hq; simp at hq; omega⟩, ((hW.alloc _).alloc _).grown hg2 (fun k hk => by have := hlow k hk; omega),
     Blk.grown ((hB.alloc _).alloc _) hg2 (fun e => by have := hlow _ e.symm; omega), Blk.grown ((hF.alloc _).alloc _) hg2 (fun e => hap _ e.symm rfl)⟩
   case measure => simp [intOf]
  ·go_wp2
   go_ret
   exact ⟨A, _, c, rfl, by rw [hR.out]; exact hown.mono (by omega), Bl.a2⟩
set_option maxRecDepth 20000 in
theorem impl_body2 (a : Pl) (As Ak Ah : Option Addr) (ns cs nk ck nh ch : Nat) (hs : List Hd) (w : World) (ok : Ok a 2) (h : RdP w a As Ak Ah ns cs nk ck nh ch hs) :
  Calls Tryd.prog 94 #[.agg #[.int .i64 a.p, .int .i64 a.party, .int .i64 a.x, .int .i64 a.mask, .int .i64 a.delta, .slice As ns cs, .slice Ak nk ck, .int .i64 a.step, .slice Ah nh ch, .int .i64 a.status, .int .i64 a.out]] w fun e w' => ∃ A n c, e = .returned (.slice A n c) ∧ OwnI w.heap.size w' A n c (bodyP a) ∧ Bl w w' := by
 have hst : a.step = 2 := ok.step
 have hs0 : (a.step == 0) = false := by simp; omega
 have HS := Lib.hid hst
 have p2 := ok.p2
 have hR := Lib.hid (show bodyP a = [thV a, thT a] by unfold bodyP; rw [if_neg (by omega), if_neg (by omega)])
 have HT := Lib.hid (fun (w' : World) (hb : Bl w w') => impl_terms2 a 2 As Ak Ah ns cs nk ck nh ch hs a.step w' HS.out ok (by omega) (h.keep hb))
 have HO0 := Lib.hid (fun (w' : World) (hb : Bl w w') => own_th a 2 As Ak Ah ns cs nk ck nh ch hs w' ok (h.keep hb))
 have hW : Bl w (w.alloc (.cells #[.int .i64 a.p, .int .i64 a.party, .int .i64 a.x, .int .i64 a.mask, .int .i64 a.delta, .slice As ns cs, .slice Ak nk ck, .int .i64 a.step, .slice Ah nh ch, .int .i64 a.status, .int .i64 a.out] 34)) := Bl.a2
 have hB : Blk (w.alloc (.cells #[.int .i64 a.p, .int .i64 a.party, .int .i64 a.x, .int .i64 a.mask, .int .i64 a.delta, .slice As ns cs, .slice Ak nk ck, .int .i64 a.step, .slice Ah nh ch, .int .i64 a.status, .int .i64 a.out] 34)) (w.heap.size) 34 #[.int .i64 a.p, .int .i64 a.party, .int .i64 a.x, .int .i64 a.mask, .int .i64 a.delta, .slice As ns cs, .slice Ak nk ck, .int .i64 a.step, .slice Ah nh ch, .int .i64 a.status, .int .i64 a.out] := (Blk.new w 34 #[.int .i64 a.p, .int .i64 a.party, .int .i64 a.x, .int .i64 a.mask, .int .i64 a.delta, .slice As ns cs, .slice Ak nk ck, .int .i64 a.step, .slice Ah nh ch, .int .i64 a.status, .int .i64 a.out] (g := w.heap.size))
 have hwr : ∀ w : World, OwnI w.heap.size (w.alloc (.cells #[] 3)) (some ⟨w.heap.size, 0, none⟩) 0 0 [] := own_made
 clear hst
 go_enter Tryd.func94, Tryd.ntmps94
 go_wp2_with (go_at_call 116; refine (HT.out _ Bl.a2).mono ?_; rintro e w1 ⟨g, rfl, hF, hgw, hb1⟩; have hown : OwnI (w.heap.size + 1) w1 (some ⟨w.heap.size + 1, 0, none⟩) 0 0 [] := (((own_made (w.alloc (.cells #[.int .i64 a.p, .int .i64 a.party, .int .i64 a.x, .int .i64 a.mask, .int .i64 a.delta, .slice As ns cs, .slice Ak nk ck, .int .i64 a.step, .slice Ah nh ch, .int .i64 a.status, .int .i64 a.out] 34))).mono (by simp)).keep hb1); replace hW : Bl w w1 := Bl.a2; replace hB := hB.kp hb1; (try clear B_l B_f B_0 B_1 B_2 B_3 B_4 B_5 B_6 B_7 B_8 B_9 B_10); obtain ⟨B_l, B_f, B_0, B_1, B_2, B_3, B_4, B_5, B_6, B_7, B_8, B_9, B_10⟩ := hB.l11; obtain ⟨F_l, -, F_0, F_1, F_2, F_3, F_4, F_5⟩ := hF.l6)
 go_loopw [25, 3] (fun i s wr => ∃ j : Int, 0 ≤ j ∧ j ≤ 1 ∧ i = .int .i64 j ∧ (∃ A c, s = .slice A (2 * j.toNat) c ∧ OwnI (w.heap.size + 1) wr A (2 * j.toNat) c ((if j = 0 then [] else [thV a, thT a])) ∧ ∀ q, A.map (·.block) = some q → q ≠ g) ∧ Bl w wr ∧ Blk wr (w.heap.size) 34 #[.int .i64 a.p, .int .i64 a.party, .int .i64 a.x, .int .i64 a.mask, .int .i64 a.delta, .slice As ns cs, .slice Ak nk ck, .int .i64 a.step, .slice Ah nh ch, .int .i64 a.status, .int .i64 a.out] ∧ Blk wr g 141 #[.int .i64 0, .int .i64 0, .int .i64 (eS a), .int .i64 (dS a), .int .i64 1, .int .i64 (dS a * eS a)]) (fun i _ _ => 1 - (intOf i).toNat)
 case atStart => exact ⟨0, by omega, by omega, rfl, ⟨_, _, rfl, hown, by intro q hq; simp at hq hgw; omega⟩, hW, hB, hF⟩
 case round =>
  (try clear B_l B_f B_0 B_1 B_2 B_3 B_4 B_5 B_6 B_7 B_8 B_9 B_10)
  (try clear F_l F_0 F_1 F_2 F_3 F_4 F_5)
  clear hW hB hF hown hb1
  obtain ⟨j, hj0, hj, rfl, ⟨A, c, rfl, hown, hap⟩, hW, hB, hF⟩ := hrel
  obtain ⟨B_l, B_f, B_0, B_1, B_2, B_3, B_4, B_5, B_6, B_7, B_8, B_9, B_10⟩ := hB.l11
  have F_l := hF.lt
  have F_0 := hF.cell 0 _ rfl; have F_1 := hF.cell 1 _ rfl; have F_2 := hF.cell 2 _ rfl; have F_3 := hF.cell 3 _ rfl; have F_4 := hF.cell 4 _ rfl; have F_5 := hF.cell 5 _ rfl
  obtain rfl | rfl : j = 0 ∨ j = 1 := by omega
  ·have hst2 := Lib.hid (show (if (1 : Int) = 0 then [] else [thV a, thT a]) = ((if (0 : Int) = 0 then [] else [thV a, thT a])) ++ [(thV a), (thT a)] from rfl)
   have hle := hown.rd.le
   go_wp2_with (first | (go_at_call 117; refine (HO0.out _ Bl.a2).mono ?_; rintro e w1 ⟨rfl, hb1⟩; replace hown := (by first | exact hown.keep hb1 | exact (hown.alloc _).keep hb1 | exact ((hown.alloc _).alloc _).keep hb1); replace hW : Bl w w1 := Bl.a2; replace hB := hB.kp hb1; (try clear B_l B_f B_0 B_1 B_2 B_3 B_4 B_5 B_6 B_7 B_8 B_9 B_10); obtain ⟨B_l, B_f, B_0, B_1, B_2, B_3, B_4, B_5, B_6, B_7, B_8, B_9, B_10⟩ := hB.l11; replace hF := hF.kp hb1; (try clear F_l F_0 F_1 F_2 F_3 F_4 F_5); obtain ⟨F_l, -, F_0, F_1, F_2, F_3, F_4, F_5⟩ := hF.l6) | (at_builtin; refine ap_int rfl rfl rfl ((hown.alloc _).alloc _) rfl (rd_new2 _ _ _ _) (by omega) (by have := hW.sz; simp; omega) ?_; intro A2 c2 w2 hown2 hg2 hat2; have hsz := hW.sz))
   have hlow : ∀ k, A.map (·.block) = some k → w.heap.size + 1 ≤ k := fun k hk => (hown.blk k hk).1
   have hat3 := hat2
   go_roundw
   case rel => exact ⟨1, by omega, by omega, rfl, ⟨A2, c2, rfl, by rw [hst2.out]; exact hown2, fun q hq e => by
     rcases hat2 with h1 | h1
     ·exact hap q (h1 ▸ hq) e
     ·rw [h1] at hq; simp at hq; omega⟩, ((hW.alloc _).alloc _).grown hg2 (fun k hk => by have := hlow k hk; omega),
     Blk.grown ((hB.alloc _).alloc _) hg2 (fun e => by have := hlow _ e.symm; omega), Blk.grown ((hF.alloc _).alloc _) hg2 (fun e => hap _ e.symm rfl)⟩
   case measure => simp [intOf]
  ·go_wp2
   go_ret
   exact ⟨A, _, c, rfl, by rw [hR.out]; exact hown.mono (by omega), Bl.a2⟩
end Go.Proofs.YtcjpalhclgkjiaaDoor
