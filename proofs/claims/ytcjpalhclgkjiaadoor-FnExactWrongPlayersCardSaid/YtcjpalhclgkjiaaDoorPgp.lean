/- Contracts: valid players, two that can run, valid meddles.
   Conditions: the table of lengths holds what its text lays. -/
import Derived.Test.YtcjpalhclgkjiaaDoorPgo
namespace Go.Proofs.YtcjpalhclgkjiaaDoor
open Go.RowKit
set_option linter.unusedVariables false
theorem eq5 {n m : Nat} (h : n = m) {b : Bool} (hb : decide (n = 5) = b) : ((m : Int) == 5) = b := by
 subst h; rw [← hb, Bool.eq_iff_iff, beq_iff_eq, decide_eq_true_eq]; omega
theorem Tab.at_ {w : World} (h : Tab w) {k : Nat} (hk : k < 3) : w.cell? ⟨0, k, none⟩ = some (.int .i64 (bodyN k)) := by
 obtain rfl | rfl | rfl : k = 0 ∨ k = 1 ∨ k = 2 := by omega
 ·exact h.c0
 ·exact h.c1
 ·exact h.c2
theorem nq_f {x c : Int} (h : (x == c) = false) : ¬ x = c := by simpa using h
theorem nq_t {x c : Int} (h : (x == c) = true) : x = c := by simpa using h
theorem bn_f {x c : Int} (h : (x == c) = false) : (x != c) = true := by simp only [bne, h, Bool.not_false]
theorem bn_t {x c : Int} (h : (x == c) = true) : (x != c) = false := by simp only [bne, h, Bool.not_true]
theorem and_t {b c v : Bool} (h : b = true) (h2 : c = v) : (b && c) = v := by rw [h, h2]; rfl
theorem neg_t {b : Bool} (h : b = true) : (!b) = false := by rw [h]; rfl
theorem neg_f {b : Bool} (h : b = false) : (!b) = true := by rw [h]; rfl
theorem not_t {b : Bool} (h : (!b) = true) : b = false := by cases b; rfl; cases h
theorem not_f {b : Bool} (h : (!b) = false) : b = true := by cases b; cases h; rfl
theorem bodyN_le (k : Nat) : 1 ≤ bodyN k ∧ bodyN k ≤ 4 := by unfold bodyN; split; omega; split <;> omega
set_option maxHeartbeats 4000000 in
theorem impl_IsPlayer (a : Pl) (As Ak Ah : Option Addr) (ns cs nk ck nh ch : Nat) (hs : List Hd) (w : World) (hT : Tab w) (h : RdP w a As Ak Ah ns cs nk ck nh ch hs) :
  Calls Tryd.prog 65 #[.agg #[.int .i64 a.p, .int .i64 a.party, .int .i64 a.x, .int .i64 a.mask, .int .i64 a.delta, .slice As ns cs, .slice Ak nk ck, .int .i64 a.step, .slice Ah nh ch, .int .i64 a.status, .int .i64 a.out]] w fun e w' => e = .returned (.bool (plB a)) ∧ Bl w w' := by
 have hW : Bl w ((w.alloc (.cells #[.int .i64 a.p, .int .i64 a.party, .int .i64 a.x, .int .i64 a.mask, .int .i64 a.delta, .slice As ns cs, .slice Ak nk ck, .int .i64 a.step, .slice Ah nh ch, .int .i64 a.status, .int .i64 a.out] 34)).alloc (.cells #[.int .i64 a.p] 3)) := ((Bl.refl w).alloc _).alloc _
 have hB := (Blk.new w 34 #[.int .i64 a.p, .int .i64 a.party, .int .i64 a.x, .int .i64 a.mask, .int .i64 a.delta, .slice As ns cs, .slice Ak nk ck, .int .i64 a.step, .slice Ah nh ch, .int .i64 a.status, .int .i64 a.out]).alloc (.cells #[.int .i64 a.p] 3)
 have hP := Blk.new (w.alloc (.cells #[.int .i64 a.p, .int .i64 a.party, .int .i64 a.x, .int .i64 a.mask, .int .i64 a.delta, .slice As ns cs, .slice Ak nk ck, .int .i64 a.step, .slice Ah nh ch, .int .i64 a.status, .int .i64 a.out] 34)) 3 #[.int .i64 a.p] (g := w.heap.size + 1)
 have hns := Lib.hid h.sh.2
 have hnk := Lib.hid h.ks.length
 have hnh := Lib.hid h.hd.l_eq
 obtain ⟨hs1, hs2⟩ := h.sh.le
 obtain ⟨hk1, hk2⟩ := h.ks.le
 obtain ⟨hh1, hh2⟩ := h.hd.le
 have hL := Lib.hid (fun (w' : World) (g : Nat) (hg : w'.heap.size = g) => impl_areElements a.p (some ⟨g, 0, none⟩) 4 4 [a.x, a.mask, a.delta, a.out] _ (rd_new4 w' 3 a.x a.mask a.delta a.out hg))
 have hK := Lib.hid (fun (w' : World) (hb : Bl w w') => impl_areElements a.p Ak nk ck a.ks w' (h.ks.keep hb))
 have hS := Lib.hid (fun (w' : World) (hb : Bl w w') (hc : w'.cell? ⟨w.heap.size + 1, 0, none⟩ = some (.int .i64 a.p)) => slices_ContainsFunc_tg a.p (w.heap.size + 1) As ns cs a.sh w' hc (h.sh.keep hb))
 rcases e1 : (primeB a.p && allR [a.x, a.mask, a.delta, a.out] 0 (a.p - 1))
 ·have hR := Lib.hid (show plB a = false by unfold plB; rw [e1]; simp)
  go_enter Tryd.func65, Tryd.ntmps65
  go_wp2_with (first | (go_at_call 88; refine (hL.out _ _ (by first | with_reducible rfl | simp)).mono ?_; clear hL; rintro e w1 ⟨rfl, hb1⟩; replace hW : Bl w w1 := Bl.a1; replace hB := hB.kp hb1; replace hP := hP.kp hb1; (try clear B_l B_0 B_1 B_2 B_3 B_4 B_5 B_6 B_7 B_8 B_9 B_10 P_l P_0); obtain ⟨B_l, -, B_0, B_1, B_2, B_3, B_4, B_5, B_6, B_7, B_8, B_9, B_10⟩ := hB.l11; have P_l := hP.lt; have P_0 := hP.cell 0 _ rfl; rw [e1]) | (go_at_call 88; refine (hK.out _ Bl.a1).mono ?_; rintro e w1 ⟨rfl, hb1⟩; replace hW : Bl w w1 := Bl.a1; replace hB := hB.kp hb1; replace hP := hP.kp hb1; (try clear B_l B_0 B_1 B_2 B_3 B_4 B_5 B_6 B_7 B_8 B_9 B_10 P_l P_0); obtain ⟨B_l, -, B_0, B_1, B_2, B_3, B_4, B_5, B_6, B_7, B_8, B_9, B_10⟩ := hB.l11; have P_l := hP.lt; have P_0 := hP.cell 0 _ rfl) | (go_at_call 89; refine (impl_isBit _ _).mono ?_; rintro e w2 ⟨rfl, rfl⟩) | (go_at_call 49; refine (impl_within _ _ _ _).mono ?_; rintro e w2 ⟨rfl, rfl⟩) | (go_at_call 90; refine (hS.out _ Bl.a1 (by assumption)).mono ?_; rintro e w1 ⟨rfl, hb1⟩; replace hW : Bl w w1 := Bl.a1; replace hB := hB.kp hb1; replace hP := hP.kp hb1; (try clear B_l B_0 B_1 B_2 B_3 B_4 B_5 B_6 B_7 B_8 B_9 B_10 P_l P_0); obtain ⟨B_l, -, B_0, B_1, B_2, B_3, B_4, B_5, B_6, B_7, B_8, B_9, B_10⟩ := hB.l11; have P_l := hP.lt; have P_0 := hP.cell 0 _ rfl))
  go_ret
  exact ⟨ret_bool hR.out.symm, Bl.a1⟩
 have hpr : primeB a.p = true := by rw [Bool.and_eq_true] at e1; exact e1.1
 have hpb := primeB_bd hpr
 rcases e2 : inR a.party 0 1
 ·have hR := Lib.hid (show plB a = false by unfold plB; rw [e1, e2]; simp)
  go_enter Tryd.func65, Tryd.ntmps65
  go_wp2_with (first | (go_at_call 88; refine (hL.out _ _ (by first | with_reducible rfl | simp)).mono ?_; clear hL; rintro e w1 ⟨rfl, hb1⟩; replace hW : Bl w w1 := Bl.a1; replace hB := hB.kp hb1; replace hP := hP.kp hb1; (try clear B_l B_0 B_1 B_2 B_3 B_4 B_5 B_6 B_7 B_8 B_9 B_10 P_l P_0); obtain ⟨B_l, -, B_0, B_1, B_2, B_3, B_4, B_5, B_6, B_7, B_8, B_9, B_10⟩ := hB.l11; have P_l := hP.lt; have P_0 := hP.cell 0 _ rfl; rw [e1]) | (go_at_call 88; refine (hK.out _ Bl.a1).mono ?_; rintro e w1 ⟨rfl, hb1⟩; replace hW : Bl w w1 := Bl.a1; replace hB := hB.kp hb1; replace hP := hP.kp hb1; (try clear B_l B_0 B_1 B_2 B_3 B_4 B_5 B_6 B_7 B_8 B_9 B_10 P_l P_0); obtain ⟨B_l, -, B_0, B_1, B_2, B_3, B_4, B_5, B_6, B_7, B_8, B_9, B_10⟩ := hB.l11; have P_l := hP.lt; have P_0 := hP.cell 0 _ rfl) | (go_at_call 89; refine (impl_isBit _ _).mono ?_; rintro e w2 ⟨rfl, rfl⟩; rw [e2]) | (go_at_call 49; refine (impl_within _ _ _ _).mono ?_; rintro e w2 ⟨rfl, rfl⟩) | (go_at_call 90; refine (hS.out _ Bl.a1 (by assumption)).mono ?_; rintro e w1 ⟨rfl, hb1⟩; replace hW : Bl w w1 := Bl.a1; replace hB := hB.kp hb1; replace hP := hP.kp hb1; (try clear B_l B_0 B_1 B_2 B_3 B_4 B_5 B_6 B_7 B_8 B_9 B_10 P_l P_0); obtain ⟨B_l, -, B_0, B_1, B_2, B_3, B_4, B_5, B_6, B_7, B_8, B_9, B_10⟩ := hB.l11; have P_l := hP.lt; have P_0 := hP.cell 0 _ rfl))
  go_ret
  exact ⟨ret_bool hR.out.symm, Bl.a1⟩
 rcases e3 : !(a.delta == 0)
 ·have ie3 := not_f e3
  have hR := Lib.hid (show plB a = false by unfold plB; rw [e1, e2, e3]; simp)
  go_enter Tryd.func65, Tryd.ntmps65
  go_wp2_with (first | (go_at_call 88; refine (hL.out _ _ (by first | with_reducible rfl | simp)).mono ?_; clear hL; rintro e w1 ⟨rfl, hb1⟩; replace hW : Bl w w1 := Bl.a1; replace hB := hB.kp hb1; replace hP := hP.kp hb1; (try clear B_l B_0 B_1 B_2 B_3 B_4 B_5 B_6 B_7 B_8 B_9 B_10 P_l P_0); obtain ⟨B_l, -, B_0, B_1, B_2, B_3, B_4, B_5, B_6, B_7, B_8, B_9, B_10⟩ := hB.l11; have P_l := hP.lt; have P_0 := hP.cell 0 _ rfl; rw [e1]) | (go_at_call 88; refine (hK.out _ Bl.a1).mono ?_; rintro e w1 ⟨rfl, hb1⟩; replace hW : Bl w w1 := Bl.a1; replace hB := hB.kp hb1; replace hP := hP.kp hb1; (try clear B_l B_0 B_1 B_2 B_3 B_4 B_5 B_6 B_7 B_8 B_9 B_10 P_l P_0); obtain ⟨B_l, -, B_0, B_1, B_2, B_3, B_4, B_5, B_6, B_7, B_8, B_9, B_10⟩ := hB.l11; have P_l := hP.lt; have P_0 := hP.cell 0 _ rfl) | (go_at_call 89; refine (impl_isBit _ _).mono ?_; rintro e w2 ⟨rfl, rfl⟩; rw [e2]) | (go_at_call 49; refine (impl_within _ _ _ _).mono ?_; rintro e w2 ⟨rfl, rfl⟩) | (go_at_call 90; refine (hS.out _ Bl.a1 (by assumption)).mono ?_; rintro e w1 ⟨rfl, hb1⟩; replace hW : Bl w w1 := Bl.a1; replace hB := hB.kp hb1; replace hP := hP.kp hb1; (try clear B_l B_0 B_1 B_2 B_3 B_4 B_5 B_6 B_7 B_8 B_9 B_10 P_l P_0); obtain ⟨B_l, -, B_0, B_1, B_2, B_3, B_4, B_5, B_6, B_7, B_8, B_9, B_10⟩ := hB.l11; have P_l := hP.lt; have P_0 := hP.cell 0 _ rfl))
  go_ret
  exact ⟨ret_bool hR.out.symm, Bl.a1⟩
 have ie3 := not_t e3
 rcases e4 : decide (a.sh.length = 5)
 ·have ie4 := eq5 hns.out e4
  have je4 := bn_f ie4
  have ke4 := nq_f ie4
  have hR := Lib.hid (show plB a = false by unfold plB; rw [e1, e2, e3, e4]; simp)
  go_enter Tryd.func65, Tryd.ntmps65
  go_wp2_with (first | (go_at_call 88; refine (hL.out _ _ (by first | with_reducible rfl | simp)).mono ?_; clear hL; rintro e w1 ⟨rfl, hb1⟩; replace hW : Bl w w1 := Bl.a1; replace hB := hB.kp hb1; replace hP := hP.kp hb1; (try clear B_l B_0 B_1 B_2 B_3 B_4 B_5 B_6 B_7 B_8 B_9 B_10 P_l P_0); obtain ⟨B_l, -, B_0, B_1, B_2, B_3, B_4, B_5, B_6, B_7, B_8, B_9, B_10⟩ := hB.l11; have P_l := hP.lt; have P_0 := hP.cell 0 _ rfl; rw [e1]) | (go_at_call 88; refine (hK.out _ Bl.a1).mono ?_; rintro e w1 ⟨rfl, hb1⟩; replace hW : Bl w w1 := Bl.a1; replace hB := hB.kp hb1; replace hP := hP.kp hb1; (try clear B_l B_0 B_1 B_2 B_3 B_4 B_5 B_6 B_7 B_8 B_9 B_10 P_l P_0); obtain ⟨B_l, -, B_0, B_1, B_2, B_3, B_4, B_5, B_6, B_7, B_8, B_9, B_10⟩ := hB.l11; have P_l := hP.lt; have P_0 := hP.cell 0 _ rfl) | (go_at_call 89; refine (impl_isBit _ _).mono ?_; rintro e w2 ⟨rfl, rfl⟩; rw [e2]) | (go_at_call 49; refine (impl_within _ _ _ _).mono ?_; rintro e w2 ⟨rfl, rfl⟩) | (go_at_call 90; refine (hS.out _ Bl.a1 (by assumption)).mono ?_; rintro e w1 ⟨rfl, hb1⟩; replace hW : Bl w w1 := Bl.a1; replace hB := hB.kp hb1; replace hP := hP.kp hb1; (try clear B_l B_0 B_1 B_2 B_3 B_4 B_5 B_6 B_7 B_8 B_9 B_10 P_l P_0); obtain ⟨B_l, -, B_0, B_1, B_2, B_3, B_4, B_5, B_6, B_7, B_8, B_9, B_10⟩ := hB.l11; have P_l := hP.lt; have P_0 := hP.cell 0 _ rfl))
  go_ret
  exact ⟨ret_bool hR.out.symm, Bl.a1⟩
 have ie4 := eq5 hns.out e4
 have je4 := bn_t ie4
 have ke4 := nq_t ie4
 rcases e5 : decide (a.ks.length = 5)
 ·have ie5 := eq5 hnk.out e5
  have je5 := bn_f ie5
  have ke5 := nq_f ie5
  have hR := Lib.hid (show plB a = false by unfold plB; rw [e1, e2, e3, e4, e5]; simp)
  go_enter Tryd.func65, Tryd.ntmps65
  go_wp2_with (first | (go_at_call 88; refine (hL.out _ _ (by first | with_reducible rfl | simp)).mono ?_; clear hL; rintro e w1 ⟨rfl, hb1⟩; replace hW : Bl w w1 := Bl.a1; replace hB := hB.kp hb1; replace hP := hP.kp hb1; (try clear B_l B_0 B_1 B_2 B_3 B_4 B_5 B_6 B_7 B_8 B_9 B_10 P_l P_0); obtain ⟨B_l, -, B_0, B_1, B_2, B_3, B_4, B_5, B_6, B_7, B_8, B_9, B_10⟩ := hB.l11; have P_l := hP.lt; have P_0 := hP.cell 0 _ rfl; rw [e1]) | (go_at_call 88; refine (hK.out _ Bl.a1).mono ?_; rintro e w1 ⟨rfl, hb1⟩; replace hW : Bl w w1 := Bl.a1; replace hB := hB.kp hb1; replace hP := hP.kp hb1; (try clear B_l B_0 B_1 B_2 B_3 B_4 B_5 B_6 B_7 B_8 B_9 B_10 P_l P_0); obtain ⟨B_l, -, B_0, B_1, B_2, B_3, B_4, B_5, B_6, B_7, B_8, B_9, B_10⟩ := hB.l11; have P_l := hP.lt; have P_0 := hP.cell 0 _ rfl) | (go_at_call 89; refine (impl_isBit _ _).mono ?_; rintro e w2 ⟨rfl, rfl⟩; rw [e2]) | (go_at_call 49; refine (impl_within _ _ _ _).mono ?_; rintro e w2 ⟨rfl, rfl⟩) | (go_at_call 90; refine (hS.out _ Bl.a1 (by assumption)).mono ?_; rintro e w1 ⟨rfl, hb1⟩; replace hW : Bl w w1 := Bl.a1; replace hB := hB.kp hb1; replace hP := hP.kp hb1; (try clear B_l B_0 B_1 B_2 B_3 B_4 B_5 B_6 B_7 B_8 B_9 B_10 P_l P_0); obtain ⟨B_l, -, B_0, B_1, B_2, B_3, B_4, B_5, B_6, B_7, B_8, B_9, B_10⟩ := hB.l11; have P_l := hP.lt; have P_0 := hP.cell 0 _ rfl))
  go_ret
  exact ⟨ret_bool hR.out.symm, Bl.a1⟩
 have ie5 := eq5 hnk.out e5
 have je5 := bn_t ie5
 have ke5 := nq_t ie5
 rcases e6 : allR a.ks 0 (a.p - 1)
 ·have ie6 := and_t hpr e6
  have hR := Lib.hid (show plB a = false by unfold plB; rw [e1, e2, e3, e4, e5, e6]; simp)
  go_enter Tryd.func65, Tryd.ntmps65
  go_wp2_with (first | (go_at_call 88; refine (hL.out _ _ (by first | with_reducible rfl | simp)).mono ?_; clear hL; rintro e w1 ⟨rfl, hb1⟩; replace hW : Bl w w1 := Bl.a1; replace hB := hB.kp hb1; replace hP := hP.kp hb1; (try clear B_l B_0 B_1 B_2 B_3 B_4 B_5 B_6 B_7 B_8 B_9 B_10 P_l P_0); obtain ⟨B_l, -, B_0, B_1, B_2, B_3, B_4, B_5, B_6, B_7, B_8, B_9, B_10⟩ := hB.l11; have P_l := hP.lt; have P_0 := hP.cell 0 _ rfl; rw [e1]) | (go_at_call 88; refine (hK.out _ Bl.a1).mono ?_; rintro e w1 ⟨rfl, hb1⟩; replace hW : Bl w w1 := Bl.a1; replace hB := hB.kp hb1; replace hP := hP.kp hb1; (try clear B_l B_0 B_1 B_2 B_3 B_4 B_5 B_6 B_7 B_8 B_9 B_10 P_l P_0); obtain ⟨B_l, -, B_0, B_1, B_2, B_3, B_4, B_5, B_6, B_7, B_8, B_9, B_10⟩ := hB.l11; have P_l := hP.lt; have P_0 := hP.cell 0 _ rfl; rw [ie6]) | (go_at_call 89; refine (impl_isBit _ _).mono ?_; rintro e w2 ⟨rfl, rfl⟩; rw [e2]) | (go_at_call 49; refine (impl_within _ _ _ _).mono ?_; rintro e w2 ⟨rfl, rfl⟩) | (go_at_call 90; refine (hS.out _ Bl.a1 (by assumption)).mono ?_; rintro e w1 ⟨rfl, hb1⟩; replace hW : Bl w w1 := Bl.a1; replace hB := hB.kp hb1; replace hP := hP.kp hb1; (try clear B_l B_0 B_1 B_2 B_3 B_4 B_5 B_6 B_7 B_8 B_9 B_10 P_l P_0); obtain ⟨B_l, -, B_0, B_1, B_2, B_3, B_4, B_5, B_6, B_7, B_8, B_9, B_10⟩ := hB.l11; have P_l := hP.lt; have P_0 := hP.cell 0 _ rfl))
  go_ret
  exact ⟨ret_bool hR.out.symm, Bl.a1⟩
 have ie6 := and_t hpr e6
 rcases e7 : tgsB a.p a.sh
 ·have ie7 := neg_f e7
  have hR := Lib.hid (show plB a = false by unfold plB; rw [e1, e2, e3, e4, e5, e6, e7]; simp)
  go_enter Tryd.func65, Tryd.ntmps65
  go_wp2_with (first | (go_at_call 88; refine (hL.out _ _ (by first | with_reducible rfl | simp)).mono ?_; clear hL; rintro e w1 ⟨rfl, hb1⟩; replace hW : Bl w w1 := Bl.a1; replace hB := hB.kp hb1; replace hP := hP.kp hb1; (try clear B_l B_0 B_1 B_2 B_3 B_4 B_5 B_6 B_7 B_8 B_9 B_10 P_l P_0); obtain ⟨B_l, -, B_0, B_1, B_2, B_3, B_4, B_5, B_6, B_7, B_8, B_9, B_10⟩ := hB.l11; have P_l := hP.lt; have P_0 := hP.cell 0 _ rfl; rw [e1]) | (go_at_call 88; refine (hK.out _ Bl.a1).mono ?_; rintro e w1 ⟨rfl, hb1⟩; replace hW : Bl w w1 := Bl.a1; replace hB := hB.kp hb1; replace hP := hP.kp hb1; (try clear B_l B_0 B_1 B_2 B_3 B_4 B_5 B_6 B_7 B_8 B_9 B_10 P_l P_0); obtain ⟨B_l, -, B_0, B_1, B_2, B_3, B_4, B_5, B_6, B_7, B_8, B_9, B_10⟩ := hB.l11; have P_l := hP.lt; have P_0 := hP.cell 0 _ rfl; rw [ie6]) | (go_at_call 89; refine (impl_isBit _ _).mono ?_; rintro e w2 ⟨rfl, rfl⟩; rw [e2]) | (go_at_call 49; refine (impl_within _ _ _ _).mono ?_; rintro e w2 ⟨rfl, rfl⟩) | (go_at_call 90; refine (hS.out _ Bl.a1 (by assumption)).mono ?_; rintro e w1 ⟨rfl, hb1⟩; replace hW : Bl w w1 := Bl.a1; replace hB := hB.kp hb1; replace hP := hP.kp hb1; (try clear B_l B_0 B_1 B_2 B_3 B_4 B_5 B_6 B_7 B_8 B_9 B_10 P_l P_0); obtain ⟨B_l, -, B_0, B_1, B_2, B_3, B_4, B_5, B_6, B_7, B_8, B_9, B_10⟩ := hB.l11; have P_l := hP.lt; have P_0 := hP.cell 0 _ rfl; rw [ie7]))
  go_ret
  exact ⟨ret_bool hR.out.symm, Bl.a1⟩
 have ie7 := neg_t e7
 rcases e8 : inR a.step 0 3
 ·have hR := Lib.hid (show plB a = false by unfold plB; rw [e1, e2, e3, e4, e5, e6, e7, e8]; simp)
  go_enter Tryd.func65, Tryd.ntmps65
  go_wp2_with (first | (go_at_call 88; refine (hL.out _ _ (by first | with_reducible rfl | simp)).mono ?_; clear hL; rintro e w1 ⟨rfl, hb1⟩; replace hW : Bl w w1 := Bl.a1; replace hB := hB.kp hb1; replace hP := hP.kp hb1; (try clear B_l B_0 B_1 B_2 B_3 B_4 B_5 B_6 B_7 B_8 B_9 B_10 P_l P_0); obtain ⟨B_l, -, B_0, B_1, B_2, B_3, B_4, B_5, B_6, B_7, B_8, B_9, B_10⟩ := hB.l11; have P_l := hP.lt; have P_0 := hP.cell 0 _ rfl; rw [e1]) | (go_at_call 88; refine (hK.out _ Bl.a1).mono ?_; rintro e w1 ⟨rfl, hb1⟩; replace hW : Bl w w1 := Bl.a1; replace hB := hB.kp hb1; replace hP := hP.kp hb1; (try clear B_l B_0 B_1 B_2 B_3 B_4 B_5 B_6 B_7 B_8 B_9 B_10 P_l P_0); obtain ⟨B_l, -, B_0, B_1, B_2, B_3, B_4, B_5, B_6, B_7, B_8, B_9, B_10⟩ := hB.l11; have P_l := hP.lt; have P_0 := hP.cell 0 _ rfl; rw [ie6]) | (go_at_call 89; refine (impl_isBit _ _).mono ?_; rintro e w2 ⟨rfl, rfl⟩; rw [e2]) | (go_at_call 49; refine (impl_within _ _ _ _).mono ?_; rintro e w2 ⟨rfl, rfl⟩; rw [e8]) | (go_at_call 90; refine (hS.out _ Bl.a1 (by assumption)).mono ?_; rintro e w1 ⟨rfl, hb1⟩; replace hW : Bl w w1 := Bl.a1; replace hB := hB.kp hb1; replace hP := hP.kp hb1; (try clear B_l B_0 B_1 B_2 B_3 B_4 B_5 B_6 B_7 B_8 B_9 B_10 P_l P_0); obtain ⟨B_l, -, B_0, B_1, B_2, B_3, B_4, B_5, B_6, B_7, B_8, B_9, B_10⟩ := hB.l11; have P_l := hP.lt; have P_0 := hP.cell 0 _ rfl; rw [ie7]))
  go_ret
  exact ⟨ret_bool hR.out.symm, Bl.a1⟩
 rcases e9 : (a.hd.length : Int) == a.step
 ·have ie9 := by have q := e9; rw [hnh.out] at q; exact q
  have je9 := bn_f ie9
  have ke9 := nq_f ie9
  have hR := Lib.hid (show plB a = false by unfold plB; rw [e1, e2, e3, e4, e5, e6, e7, e8, e9]; simp)
  go_enter Tryd.func65, Tryd.ntmps65
  go_wp2_with (first | (go_at_call 88; refine (hL.out _ _ (by first | with_reducible rfl | simp)).mono ?_; clear hL; rintro e w1 ⟨rfl, hb1⟩; replace hW : Bl w w1 := Bl.a1; replace hB := hB.kp hb1; replace hP := hP.kp hb1; (try clear B_l B_0 B_1 B_2 B_3 B_4 B_5 B_6 B_7 B_8 B_9 B_10 P_l P_0); obtain ⟨B_l, -, B_0, B_1, B_2, B_3, B_4, B_5, B_6, B_7, B_8, B_9, B_10⟩ := hB.l11; have P_l := hP.lt; have P_0 := hP.cell 0 _ rfl; rw [e1]) | (go_at_call 88; refine (hK.out _ Bl.a1).mono ?_; rintro e w1 ⟨rfl, hb1⟩; replace hW : Bl w w1 := Bl.a1; replace hB := hB.kp hb1; replace hP := hP.kp hb1; (try clear B_l B_0 B_1 B_2 B_3 B_4 B_5 B_6 B_7 B_8 B_9 B_10 P_l P_0); obtain ⟨B_l, -, B_0, B_1, B_2, B_3, B_4, B_5, B_6, B_7, B_8, B_9, B_10⟩ := hB.l11; have P_l := hP.lt; have P_0 := hP.cell 0 _ rfl; rw [ie6]) | (go_at_call 89; refine (impl_isBit _ _).mono ?_; rintro e w2 ⟨rfl, rfl⟩; rw [e2]) | (go_at_call 49; refine (impl_within _ _ _ _).mono ?_; rintro e w2 ⟨rfl, rfl⟩; rw [e8]) | (go_at_call 90; refine (hS.out _ Bl.a1 (by assumption)).mono ?_; rintro e w1 ⟨rfl, hb1⟩; replace hW : Bl w w1 := Bl.a1; replace hB := hB.kp hb1; replace hP := hP.kp hb1; (try clear B_l B_0 B_1 B_2 B_3 B_4 B_5 B_6 B_7 B_8 B_9 B_10 P_l P_0); obtain ⟨B_l, -, B_0, B_1, B_2, B_3, B_4, B_5, B_6, B_7, B_8, B_9, B_10⟩ := hB.l11; have P_l := hP.lt; have P_0 := hP.cell 0 _ rfl; rw [ie7]))
  go_ret
  exact ⟨ret_bool hR.out.symm, Bl.a1⟩
 have ie9 := by have q := e9; rw [hnh.out] at q; exact q
 have je9 := bn_t ie9
 have ke9 := nq_t ie9
 have hst := inR_iff.1 e8
 have hstn : (nh : Int) = a.step := by rw [← hnh.out]; exact beq_iff_eq.1 e9
 go_enter Tryd.func65, Tryd.ntmps65
 go_wp2_with (first | (go_at_call 88; refine (hL.out _ _ (by first | with_reducible rfl | simp)).mono ?_; clear hL; rintro e w1 ⟨rfl, hb1⟩; replace hW : Bl w w1 := Bl.a1; replace hB := hB.kp hb1; replace hP := hP.kp hb1; (try clear B_l B_0 B_1 B_2 B_3 B_4 B_5 B_6 B_7 B_8 B_9 B_10 P_l P_0); obtain ⟨B_l, -, B_0, B_1, B_2, B_3, B_4, B_5, B_6, B_7, B_8, B_9, B_10⟩ := hB.l11; have P_l := hP.lt; have P_0 := hP.cell 0 _ rfl; rw [e1]) | (go_at_call 88; refine (hK.out _ Bl.a1).mono ?_; rintro e w1 ⟨rfl, hb1⟩; replace hW : Bl w w1 := Bl.a1; replace hB := hB.kp hb1; replace hP := hP.kp hb1; (try clear B_l B_0 B_1 B_2 B_3 B_4 B_5 B_6 B_7 B_8 B_9 B_10 P_l P_0); obtain ⟨B_l, -, B_0, B_1, B_2, B_3, B_4, B_5, B_6, B_7, B_8, B_9, B_10⟩ := hB.l11; have P_l := hP.lt; have P_0 := hP.cell 0 _ rfl; rw [ie6]) | (go_at_call 89; refine (impl_isBit _ _).mono ?_; rintro e w2 ⟨rfl, rfl⟩; rw [e2]) | (go_at_call 49; refine (impl_within _ _ _ _).mono ?_; rintro e w2 ⟨rfl, rfl⟩; rw [e8]) | (go_at_call 90; refine (hS.out _ Bl.a1 (by assumption)).mono ?_; rintro e w1 ⟨rfl, hb1⟩; replace hW : Bl w w1 := Bl.a1; replace hB := hB.kp hb1; replace hP := hP.kp hb1; (try clear B_l B_0 B_1 B_2 B_3 B_4 B_5 B_6 B_7 B_8 B_9 B_10 P_l P_0); obtain ⟨B_l, -, B_0, B_1, B_2, B_3, B_4, B_5, B_6, B_7, B_8, B_9, B_10⟩ := hB.l11; have P_l := hP.lt; have P_0 := hP.cell 0 _ rfl; rw [ie7]))
 go_loopw [71] (fun i wr => ∃ k : Nat, k ≤ nh ∧ i = .int .i64 k ∧ Hid (∀ j b, j < k → a.hd[j]? = some b → heardOne a.p j b = true) ∧ Bl w wr ∧ Blk wr w.heap.size 34 #[.int .i64 a.p, .int .i64 a.party, .int .i64 a.x, .int .i64 a.mask, .int .i64 a.delta, .slice As ns cs, .slice Ak nk ck, .int .i64 a.step, .slice Ah nh ch, .int .i64 a.status, .int .i64 a.out] ∧ Blk wr (w.heap.size + 1) 3 #[.int .i64 a.p]) (fun i _ => nh - (intOf i).toNat)
 case atStart => exact ⟨0, by omega, rfl, Lib.hid (by intro j b hj; omega), hW, hB, hP⟩
 case round =>
  clear hW hB hP
  (try clear B_l B_0 B_1 B_2 B_3 B_4 B_5 B_6 B_7 B_8 B_9 B_10 P_l P_0)
  obtain ⟨k, hk, rfl, hq, hW, hB, hP⟩ := hrel
  obtain ⟨B_l, -, B_0, B_1, B_2, B_3, B_4, B_5, B_6, B_7, B_8, B_9, B_10⟩ := hB.l11; have P_l := hP.lt; have P_0 := hP.cell 0 _ rfl
  have hTw := hT.keep hW
  by_cases hlt : k < nh
  ·obtain ⟨ad, x, l, rfl, hl, hc, hrow⟩ := (h.hd.keep hW).at_ hlt
   have HL := Lib.hid hl
   have hx := Lib.hid hrow.length
   clear hl
   obtain ⟨hx1, hx2⟩ := hrow.le
   have i1 : (k : Int) < nh := by omega
   have hk3 : k < 3 := by omega
   have hcT := hTw.at_ hk3
   have hbn := bodyN_le k
   rcases g1 : decide (l.length = bodyN k)
   ·have ig1 : ((x.n : Int) == (bodyN k : Int)) = false := by
     have q := of_decide_eq_false g1
     have q2 := hx.out
     simp only [beq_eq_false_iff_ne]; omega
    have jg1 := bn_f ig1
    have kg1 := nq_f ig1
    have hR := Lib.hid (show plB a = false by
     have q := heardB_not HL.out (show heardOne a.p k l = false by unfold heardOne; rw [g1]; rfl)
     unfold plB; rw [e1, e2, e3, e4, e5, e6, e7, e8, e9, q]; simp)
    clear g1
    go_wp2
    go_ret
    exact ⟨ret_bool hR.out.symm, Bl.a1⟩
   have ig1 : ((x.n : Int) == (bodyN k : Int)) = true := by
    have q := of_decide_eq_true g1
    have q2 := hx.out
    simp only [beq_iff_eq]; omega
   have jg1 := bn_t ig1
   have kg1 := nq_t ig1
   rcases g2 : allR l 0 (a.p - 1)
   ·have ig2 := and_t hpr g2
    have hR := Lib.hid (show plB a = false by
     have q := heardB_not HL.out (show heardOne a.p k l = false by unfold heardOne; rw [g1, g2]; rfl)
     unfold plB; rw [e1, e2, e3, e4, e5, e6, e7, e8, e9, q]; simp)
    clear g1
    go_wp2_with (first | (go_at_call 88; refine (impl_areElements a.p x.A x.n x.c l _ (hrow.keep Bl.a1)).mono ?_; rintro e w1 ⟨rfl, hb1⟩; replace hW : Bl w w1 := Bl.a1; replace hB := hB.kp hb1; replace hP := hP.kp hb1; (try clear B_l B_0 B_1 B_2 B_3 B_4 B_5 B_6 B_7 B_8 B_9 B_10 P_l P_0); obtain ⟨B_l, -, B_0, B_1, B_2, B_3, B_4, B_5, B_6, B_7, B_8, B_9, B_10⟩ := hB.l11; have P_l := hP.lt; have P_0 := hP.cell 0 _ rfl; rw [ig2]))
    go_ret
    exact ⟨ret_bool hR.out.symm, Bl.a1⟩
   ·have ig2 := and_t hpr g2
    have hst := Lib.hid (show ∀ j b, j < k + 1 → a.hd[j]? = some b → heardOne a.p j b = true by
     intro j b hj hb
     by_cases hjk : j = k
     ·subst hjk; rw [HL.out] at hb; injection hb with hb; subst hb; unfold heardOne; rw [g1, g2]; rfl
     ·exact hq.out j b (by omega) hb)
    clear g1
    go_wp2_with (first | (go_at_call 88; refine (impl_areElements a.p x.A x.n x.c l _ (hrow.keep Bl.a1)).mono ?_; rintro e w1 ⟨rfl, hb1⟩; replace hW : Bl w w1 := Bl.a1; replace hB := hB.kp hb1; replace hP := hP.kp hb1; (try clear B_l B_0 B_1 B_2 B_3 B_4 B_5 B_6 B_7 B_8 B_9 B_10 P_l P_0); obtain ⟨B_l, -, B_0, B_1, B_2, B_3, B_4, B_5, B_6, B_7, B_8, B_9, B_10⟩ := hB.l11; have P_l := hP.lt; have P_0 := hP.cell 0 _ rfl; rw [ig2]))
    go_roundw
    case rel => exact ⟨k + 1, by omega, by go_num, hst, hW, hB, hP⟩
    case measure => simp [intOf]; omega
  ·have he : k = nh := by omega
   have hR := Lib.hid (show plB a = endB a.step a.status a.out by
    have q := heardB_of (p := a.p) (LL := a.hd) (fun j b hb => hq.out j b (by rw [he, ← hnh.out]; exact (List.getElem?_eq_some_iff.1 hb).1) hb)
    unfold plB; rw [e1, e2, e3, e4, e5, e6, e7, e8, e9, q]; simp)
   rcases s3 : (a.step == 3)
   ·have hR2 := Lib.hid (show plB a = ((a.status == 0 || a.status == 2) && a.out == 0) by rw [hR.out]; unfold endB; rw [if_neg (nq_f s3)])
    rcases s4 : (a.status == 0)
    ·rcases s5 : (a.status == 2)
     ·go_wp2
      go_ret
      exact ⟨ret_bool (by rw [hR2.out, s4, s5]; rfl), Bl.a1⟩
     ·rcases s6 : (a.out == 0)
      all_goals go_wp2
      all_goals go_ret
      all_goals exact ⟨ret_bool (by rw [hR2.out, s4, s5, s6]; rfl), Bl.a1⟩
    ·rcases s6 : (a.out == 0)
     all_goals go_wp2
     all_goals go_ret
     all_goals exact ⟨ret_bool (by rw [hR2.out, s4, s6]; rfl), Bl.a1⟩
   ·have hR2 := Lib.hid (show plB a = (a.status == 1) by rw [hR.out]; unfold endB; rw [if_pos (nq_t s3)])
    rcases s4 : (a.status == 1)
    all_goals go_wp2
    all_goals go_ret
    all_goals exact ⟨ret_bool (by rw [hR2.out, s4]), Bl.a1⟩
set_option maxHeartbeats 4000000 in
theorem spec_ptGood (a : Pl) (As Ak Ah : Option Addr) (ns cs nk ck nh ch : Nat) (hs : List Hd) (w : World) (hT : Tab w) (h : RdP w a As Ak Ah ns cs nk ck nh ch hs) :
  Calls Tryd.prog 73 #[.agg #[.int .i64 a.p, .int .i64 a.party, .int .i64 a.x, .int .i64 a.mask, .int .i64 a.delta, .slice As ns cs, .slice Ak nk ck, .int .i64 a.step, .slice Ah nh ch, .int .i64 a.status, .int .i64 a.out]] w fun e w' => e = .returned (.bool (plB a)) ∧ Bl w w' := by
 have hW : Bl w ((w.alloc (.cells #[.int .i64 a.p, .int .i64 a.party, .int .i64 a.x, .int .i64 a.mask, .int .i64 a.delta, .slice As ns cs, .slice Ak nk ck, .int .i64 a.step, .slice Ah nh ch, .int .i64 a.status, .int .i64 a.out] 34))) := (Bl.refl w).alloc _
 have hB := (Blk.new w 34 #[.int .i64 a.p, .int .i64 a.party, .int .i64 a.x, .int .i64 a.mask, .int .i64 a.delta, .slice As ns cs, .slice Ak nk ck, .int .i64 a.step, .slice Ah nh ch, .int .i64 a.status, .int .i64 a.out])
 have hns := Lib.hid h.sh.2
 have hnk := Lib.hid h.ks.length
 have hnh := Lib.hid h.hd.l_eq
 obtain ⟨hs1, hs2⟩ := h.sh.le
 obtain ⟨hk1, hk2⟩ := h.ks.le
 obtain ⟨hh1, hh2⟩ := h.hd.le
 have hL := Lib.hid (fun (w' : World) => spec_l1In a.party 0 1 w')
 rcases e1 : (primeB a.p && allR [a.x, a.mask, a.delta, a.out] 0 (a.p - 1))
 ·have hR := Lib.hid (show plB a = false by unfold plB; rw [e1]; simp)
  go_enter Tryd.func73, Tryd.ntmps73
  go_wp2_with (first | (go_at_call 99; refine (spec_fpIn _ _ _ _ _ _ (rd_new4 _ _ _ _ _ _)).mono ?_; rintro e w2 ⟨rfl, rfl⟩; rw [e1]) | (go_at_call 100; refine (hL.out _).mono ?_; clear hL; rintro e w2 ⟨rfl, rfl⟩) | (go_at_call 100; refine (spec_l1In a.step 0 3 _).mono ?_; rintro e w2 ⟨rfl, rfl⟩) | (go_at_call 80; refine (spec_l1All _ _ _ _ _ _ _ (h.ks.keep Bl.a1)).mono ?_; rintro e w2 ⟨rfl, rfl⟩))
  go_ret
  exact ⟨ret_bool hR.out.symm, Bl.a1⟩
 have hpr : primeB a.p = true := by rw [Bool.and_eq_true] at e1; exact e1.1
 have hpb := primeB_bd hpr
 rcases e3 : !(a.delta == 0)
 ·have ie3 := not_f e3
  have hR := Lib.hid (show plB a = false by unfold plB; rw [e1, e3]; simp)
  go_enter Tryd.func73, Tryd.ntmps73
  go_wp2_with (first | (go_at_call 99; refine (spec_fpIn _ _ _ _ _ _ (rd_new4 _ _ _ _ _ _)).mono ?_; rintro e w2 ⟨rfl, rfl⟩; rw [e1]) | (go_at_call 100; refine (hL.out _).mono ?_; clear hL; rintro e w2 ⟨rfl, rfl⟩) | (go_at_call 100; refine (spec_l1In a.step 0 3 _).mono ?_; rintro e w2 ⟨rfl, rfl⟩) | (go_at_call 80; refine (spec_l1All _ _ _ _ _ _ _ (h.ks.keep Bl.a1)).mono ?_; rintro e w2 ⟨rfl, rfl⟩))
  go_ret
  exact ⟨ret_bool hR.out.symm, Bl.a1⟩
 have ie3 := not_t e3
 rcases e2 : inR a.party 0 1
 ·have hR := Lib.hid (show plB a = false by unfold plB; rw [e1, e3, e2]; simp)
  go_enter Tryd.func73, Tryd.ntmps73
  go_wp2_with (first | (go_at_call 99; refine (spec_fpIn _ _ _ _ _ _ (rd_new4 _ _ _ _ _ _)).mono ?_; rintro e w2 ⟨rfl, rfl⟩; rw [e1]) | (go_at_call 100; refine (hL.out _).mono ?_; clear hL; rintro e w2 ⟨rfl, rfl⟩; rw [e2]) | (go_at_call 100; refine (spec_l1In a.step 0 3 _).mono ?_; rintro e w2 ⟨rfl, rfl⟩) | (go_at_call 80; refine (spec_l1All _ _ _ _ _ _ _ (h.ks.keep Bl.a1)).mono ?_; rintro e w2 ⟨rfl, rfl⟩))
  go_ret
  exact ⟨ret_bool hR.out.symm, Bl.a1⟩
 rcases e4 : decide (a.sh.length = 5)
 ·have ie4 := eq5 hns.out e4
  have je4 := bn_f ie4
  have ke4 := nq_f ie4
  have hR := Lib.hid (show plB a = false by unfold plB; rw [e1, e3, e2, e4]; simp)
  go_enter Tryd.func73, Tryd.ntmps73
  go_wp2_with (first | (go_at_call 99; refine (spec_fpIn _ _ _ _ _ _ (rd_new4 _ _ _ _ _ _)).mono ?_; rintro e w2 ⟨rfl, rfl⟩; rw [e1]) | (go_at_call 100; refine (hL.out _).mono ?_; clear hL; rintro e w2 ⟨rfl, rfl⟩; rw [e2]) | (go_at_call 100; refine (spec_l1In a.step 0 3 _).mono ?_; rintro e w2 ⟨rfl, rfl⟩) | (go_at_call 80; refine (spec_l1All _ _ _ _ _ _ _ (h.ks.keep Bl.a1)).mono ?_; rintro e w2 ⟨rfl, rfl⟩))
  go_ret
  exact ⟨ret_bool hR.out.symm, Bl.a1⟩
 have ie4 := eq5 hns.out e4
 have je4 := bn_t ie4
 have ke4 := nq_t ie4
 rcases e5 : decide (a.ks.length = 5)
 ·have ie5 := eq5 hnk.out e5
  have je5 := bn_f ie5
  have ke5 := nq_f ie5
  have hR := Lib.hid (show plB a = false by unfold plB; rw [e1, e3, e2, e4, e5]; simp)
  go_enter Tryd.func73, Tryd.ntmps73
  go_wp2_with (first | (go_at_call 99; refine (spec_fpIn _ _ _ _ _ _ (rd_new4 _ _ _ _ _ _)).mono ?_; rintro e w2 ⟨rfl, rfl⟩; rw [e1]) | (go_at_call 100; refine (hL.out _).mono ?_; clear hL; rintro e w2 ⟨rfl, rfl⟩; rw [e2]) | (go_at_call 100; refine (spec_l1In a.step 0 3 _).mono ?_; rintro e w2 ⟨rfl, rfl⟩) | (go_at_call 80; refine (spec_l1All _ _ _ _ _ _ _ (h.ks.keep Bl.a1)).mono ?_; rintro e w2 ⟨rfl, rfl⟩))
  go_ret
  exact ⟨ret_bool hR.out.symm, Bl.a1⟩
 have ie5 := eq5 hnk.out e5
 have je5 := bn_t ie5
 have ke5 := nq_t ie5
 rcases e6 : allR a.ks 0 (a.p - 1)
 ·have ie6 := and_t hpr e6
  have hR := Lib.hid (show plB a = false by unfold plB; rw [e1, e3, e2, e4, e5, e6]; simp)
  go_enter Tryd.func73, Tryd.ntmps73
  go_wp2_with (first | (go_at_call 99; refine (spec_fpIn _ _ _ _ _ _ (rd_new4 _ _ _ _ _ _)).mono ?_; rintro e w2 ⟨rfl, rfl⟩; rw [e1]) | (go_at_call 100; refine (hL.out _).mono ?_; clear hL; rintro e w2 ⟨rfl, rfl⟩; rw [e2]) | (go_at_call 100; refine (spec_l1In a.step 0 3 _).mono ?_; rintro e w2 ⟨rfl, rfl⟩) | (go_at_call 80; refine (spec_l1All _ _ _ _ _ _ _ (h.ks.keep Bl.a1)).mono ?_; rintro e w2 ⟨rfl, rfl⟩; rw [e6]))
  go_ret
  exact ⟨ret_bool hR.out.symm, Bl.a1⟩
 have ie6 := and_t hpr e6
 rcases e8 : inR a.step 0 3
 ·have hR := Lib.hid (show plB a = false by unfold plB; rw [e1, e3, e2, e4, e5, e6, e8]; simp)
  go_enter Tryd.func73, Tryd.ntmps73
  go_wp2_with (first | (go_at_call 99; refine (spec_fpIn _ _ _ _ _ _ (rd_new4 _ _ _ _ _ _)).mono ?_; rintro e w2 ⟨rfl, rfl⟩; rw [e1]) | (go_at_call 100; refine (hL.out _).mono ?_; clear hL; rintro e w2 ⟨rfl, rfl⟩; rw [e2]) | (go_at_call 100; refine (spec_l1In a.step 0 3 _).mono ?_; rintro e w2 ⟨rfl, rfl⟩; rw [e8]) | (go_at_call 80; refine (spec_l1All _ _ _ _ _ _ _ (h.ks.keep Bl.a1)).mono ?_; rintro e w2 ⟨rfl, rfl⟩; rw [e6]))
  go_ret
  exact ⟨ret_bool hR.out.symm, Bl.a1⟩
 rcases e9 : (a.hd.length : Int) == a.step
 ·have ie9 := by have q := e9; rw [hnh.out] at q; exact q
  have je9 := bn_f ie9
  have ke9 := nq_f ie9
  have hR := Lib.hid (show plB a = false by unfold plB; rw [e1, e3, e2, e4, e5, e6, e8, e9]; simp)
  go_enter Tryd.func73, Tryd.ntmps73
  go_wp2_with (first | (go_at_call 99; refine (spec_fpIn _ _ _ _ _ _ (rd_new4 _ _ _ _ _ _)).mono ?_; rintro e w2 ⟨rfl, rfl⟩; rw [e1]) | (go_at_call 100; refine (hL.out _).mono ?_; clear hL; rintro e w2 ⟨rfl, rfl⟩; rw [e2]) | (go_at_call 100; refine (spec_l1In a.step 0 3 _).mono ?_; rintro e w2 ⟨rfl, rfl⟩; rw [e8]) | (go_at_call 80; refine (spec_l1All _ _ _ _ _ _ _ (h.ks.keep Bl.a1)).mono ?_; rintro e w2 ⟨rfl, rfl⟩; rw [e6]))
  go_ret
  exact ⟨ret_bool hR.out.symm, Bl.a1⟩
 have ie9 := by have q := e9; rw [hnh.out] at q; exact q
 have je9 := bn_t ie9
 have ke9 := nq_t ie9
 have hst := inR_iff.1 e8
 have hstn : (nh : Int) = a.step := by rw [← hnh.out]; exact beq_iff_eq.1 e9
 go_enter Tryd.func73, Tryd.ntmps73
 go_wp2_with (first | (go_at_call 99; refine (spec_fpIn _ _ _ _ _ _ (rd_new4 _ _ _ _ _ _)).mono ?_; rintro e w2 ⟨rfl, rfl⟩; rw [e1]) | (go_at_call 100; refine (hL.out _).mono ?_; clear hL; rintro e w2 ⟨rfl, rfl⟩; rw [e2]) | (go_at_call 100; refine (spec_l1In a.step 0 3 _).mono ?_; rintro e w2 ⟨rfl, rfl⟩; rw [e8]) | (go_at_call 80; refine (spec_l1All _ _ _ _ _ _ _ (h.ks.keep Bl.a1)).mono ?_; rintro e w2 ⟨rfl, rfl⟩; rw [e6]))
 go_loopw [69] (fun i wr => ∃ k : Nat, k ≤ ns ∧ i = .int .i64 k ∧ Hid (tgsB a.p (a.sh.take k) = true) ∧ Bl w wr ∧ Blk wr w.heap.size 34 #[.int .i64 a.p, .int .i64 a.party, .int .i64 a.x, .int .i64 a.mask, .int .i64 a.delta, .slice As ns cs, .slice Ak nk ck, .int .i64 a.step, .slice Ah nh ch, .int .i64 a.status, .int .i64 a.out]) (fun i _ => ns - (intOf i).toNat)
 case atStart => exact ⟨0, by omega, rfl, Lib.hid (by simp [tgsB]), Bl.a1, hB.alloc _⟩
 case round =>
  clear hW hB
  (try clear B_l B_0 B_1 B_2 B_3 B_4 B_5 B_6 B_7 B_8 B_9 B_10)
  obtain ⟨k, hk, rfl, hq, hW, hB⟩ := hrel
  obtain ⟨B_l, -, B_0, B_1, B_2, B_3, B_4, B_5, B_6, B_7, B_8, B_9, B_10⟩ := hB.l11
  by_cases hlt : k < ns
  ·obtain ⟨ad, x, y, rfl, hx, q0, q1⟩ := (h.sh.keep hW).at_ hlt
   have HX := Lib.hid hx
   clear hx
   have i1 : (k : Int) < ns := by omega
   rcases g1 : tgB a.p ⟨x, y⟩
   ·have hR := Lib.hid (show plB a = false by
     have q := tgsB_not HX.out g1
     unfold plB; rw [e1, e3, e2, e4, e5, e6, e8, e9, q]; simp)
    go_wp2_with (go_at_call 101; refine (spec_tgGood _ _ _ _).mono ?_; rintro e w1 ⟨rfl, hb1⟩; replace hW : Bl w w1 := Bl.a1; replace hB := hB.kp hb1; (try clear B_l B_0 B_1 B_2 B_3 B_4 B_5 B_6 B_7 B_8 B_9 B_10); obtain ⟨B_l, -, B_0, B_1, B_2, B_3, B_4, B_5, B_6, B_7, B_8, B_9, B_10⟩ := hB.l11; rw [g1])
    go_ret
    exact ⟨ret_bool hR.out.symm, Bl.a1⟩
   ·have hst := Lib.hid (tgsB_step hq.out HX.out g1)
    go_wp2_with (go_at_call 101; refine (spec_tgGood _ _ _ _).mono ?_; rintro e w1 ⟨rfl, hb1⟩; replace hW : Bl w w1 := Bl.a1; replace hB := hB.kp hb1; (try clear B_l B_0 B_1 B_2 B_3 B_4 B_5 B_6 B_7 B_8 B_9 B_10); obtain ⟨B_l, -, B_0, B_1, B_2, B_3, B_4, B_5, B_6, B_7, B_8, B_9, B_10⟩ := hB.l11; rw [g1])
    go_roundw
    case rel => exact ⟨k + 1, by omega, by go_num, hst, hW, hB⟩
    case measure => simp [intOf]; omega
  ·have he : k = ns := by omega
   have e7 : tgsB a.p a.sh = true := by
    have e := hq.out
    rwa [List.take_of_length_le (by rw [hns.out]; omega)] at e
   have i0 : ¬ (k : Int) < ns := by omega
   clear hq
   go_wp2
   go_loopw [82] (fun i wr => ∃ k : Nat, k ≤ nh ∧ i = .int .i64 k ∧ Hid (∀ j b, j < k → a.hd[j]? = some b → heardOne a.p j b = true) ∧ Bl w wr ∧ Blk wr w.heap.size 34 #[.int .i64 a.p, .int .i64 a.party, .int .i64 a.x, .int .i64 a.mask, .int .i64 a.delta, .slice As ns cs, .slice Ak nk ck, .int .i64 a.step, .slice Ah nh ch, .int .i64 a.status, .int .i64 a.out]) (fun i _ => nh - (intOf i).toNat)
   case atStart => exact ⟨0, by omega, rfl, Lib.hid (by intro j b hj; omega), hW, hB⟩
   case round =>
    clear hW hB
    (try clear B_l B_0 B_1 B_2 B_3 B_4 B_5 B_6 B_7 B_8 B_9 B_10)
    obtain ⟨k, hk, rfl, hq, hW, hB⟩ := hrel
    obtain ⟨B_l, -, B_0, B_1, B_2, B_3, B_4, B_5, B_6, B_7, B_8, B_9, B_10⟩ := hB.l11
    have hTw := hT.keep hW
    by_cases hlt : k < nh
    ·obtain ⟨ad, x, l, rfl, hl, hc, hrow⟩ := (h.hd.keep hW).at_ hlt
     have HL := Lib.hid hl
     have hx := Lib.hid hrow.length
     clear hl
     obtain ⟨hx1, hx2⟩ := hrow.le
     have i1 : (k : Int) < nh := by omega
     have hk3 : k < 3 := by omega
     have hcT := hTw.at_ hk3
     have hbn := bodyN_le k
     rcases g1 : decide (l.length = bodyN k)
     ·have ig1 : ((x.n : Int) == (bodyN k : Int)) = false := by
       have q := of_decide_eq_false g1
       have q2 := hx.out
       simp only [beq_eq_false_iff_ne]; omega
      have jg1 := bn_f ig1
      have kg1 := nq_f ig1
      have hR := Lib.hid (show plB a = false by
       have q := heardB_not HL.out (show heardOne a.p k l = false by unfold heardOne; rw [g1]; rfl)
       unfold plB; rw [e1, e3, e2, e4, e5, e6, e8, e9, e7, q]; simp)
      clear g1
      go_wp2_with (first | (go_at_call 79; refine (spec_ptLength k _ (by omega)).mono ?_; rintro e w1 ⟨rfl, hb1⟩; replace hW : Bl w w1 := Bl.a1; replace hB := hB.kp hb1; (try clear B_l B_0 B_1 B_2 B_3 B_4 B_5 B_6 B_7 B_8 B_9 B_10); obtain ⟨B_l, -, B_0, B_1, B_2, B_3, B_4, B_5, B_6, B_7, B_8, B_9, B_10⟩ := hB.l11))
      go_ret
      exact ⟨ret_bool hR.out.symm, Bl.a1⟩
     have ig1 : ((x.n : Int) == (bodyN k : Int)) = true := by
      have q := of_decide_eq_true g1
      have q2 := hx.out
      simp only [beq_iff_eq]; omega
     have jg1 := bn_t ig1
     have kg1 := nq_t ig1
     rcases g2 : allR l 0 (a.p - 1)
     ·skip
      have hR := Lib.hid (show plB a = false by
       have q := heardB_not HL.out (show heardOne a.p k l = false by unfold heardOne; rw [g1, g2]; rfl)
       unfold plB; rw [e1, e3, e2, e4, e5, e6, e8, e9, e7, q]; simp)
      clear g1
      go_wp2_with (first | (go_at_call 79; refine (spec_ptLength k _ (by omega)).mono ?_; rintro e w1 ⟨rfl, hb1⟩; replace hW : Bl w w1 := Bl.a1; replace hB := hB.kp hb1; (try clear B_l B_0 B_1 B_2 B_3 B_4 B_5 B_6 B_7 B_8 B_9 B_10); obtain ⟨B_l, -, B_0, B_1, B_2, B_3, B_4, B_5, B_6, B_7, B_8, B_9, B_10⟩ := hB.l11) | (go_at_call 80; refine (spec_l1All x.A x.n x.c l _ _ _ (hrow.keep Bl.a1)).mono ?_; rintro e w2 ⟨rfl, rfl⟩; rw [g2]))
      go_ret
      exact ⟨ret_bool hR.out.symm, Bl.a1⟩
     ·skip
      have hst := Lib.hid (show ∀ j b, j < k + 1 → a.hd[j]? = some b → heardOne a.p j b = true by
       intro j b hj hb
       by_cases hjk : j = k
       ·subst hjk; rw [HL.out] at hb; injection hb with hb; subst hb; unfold heardOne; rw [g1, g2]; rfl
       ·exact hq.out j b (by omega) hb)
      clear g1
      go_wp2_with (first | (go_at_call 79; refine (spec_ptLength k _ (by omega)).mono ?_; rintro e w1 ⟨rfl, hb1⟩; replace hW : Bl w w1 := Bl.a1; replace hB := hB.kp hb1; (try clear B_l B_0 B_1 B_2 B_3 B_4 B_5 B_6 B_7 B_8 B_9 B_10); obtain ⟨B_l, -, B_0, B_1, B_2, B_3, B_4, B_5, B_6, B_7, B_8, B_9, B_10⟩ := hB.l11) | (go_at_call 80; refine (spec_l1All x.A x.n x.c l _ _ _ (hrow.keep Bl.a1)).mono ?_; rintro e w2 ⟨rfl, rfl⟩; rw [g2]))
      go_roundw
      case rel => exact ⟨k + 1, by omega, by go_num, hst, hW, hB⟩
      case measure => simp [intOf]; omega
    ·have he : k = nh := by omega
     have hR := Lib.hid (show plB a = endB a.step a.status a.out by
      have q := heardB_of (p := a.p) (LL := a.hd) (fun j b hb => hq.out j b (by rw [he, ← hnh.out]; exact (List.getElem?_eq_some_iff.1 hb).1) hb)
      unfold plB; rw [e1, e3, e2, e4, e5, e6, e8, e9, e7, q]; simp)
     rcases s3 : (a.step == 3)
     ·have hR2 := Lib.hid (show plB a = ((a.status == 0 || a.status == 2) && a.out == 0) by rw [hR.out]; unfold endB; rw [if_neg (nq_f s3)])
      rcases s4 : (a.status == 0)
      ·rcases s5 : (a.status == 2)
       ·go_wp2
        go_ret
        exact ⟨ret_bool (by rw [hR2.out, s4, s5]; rfl), Bl.a1⟩
       ·rcases s6 : (a.out == 0)
        all_goals go_wp2
        all_goals go_ret
        all_goals exact ⟨ret_bool (by rw [hR2.out, s4, s5, s6]; rfl), Bl.a1⟩
      ·rcases s6 : (a.out == 0)
       all_goals go_wp2
       all_goals go_ret
       all_goals exact ⟨ret_bool (by rw [hR2.out, s4, s6]; rfl), Bl.a1⟩
     ·have hR2 := Lib.hid (show plB a = (a.status == 1) by rw [hR.out]; unfold endB; rw [if_pos (nq_t s3)])
      rcases s4 : (a.status == 1)
      all_goals go_wp2
      all_goals go_ret
      all_goals exact ⟨ret_bool (by rw [hR2.out, s4]), Bl.a1⟩
end Go.Proofs.YtcjpalhclgkjiaaDoor
