/- Contracts: two players that can run, valid meddles.
   Conditions: the table of lengths holds what its text lays. -/
import Derived.Test.YtcjpalhclgkjiaaDoorPgp
namespace Go.Proofs.YtcjpalhclgkjiaaDoor
open Go.RowKit
set_option linter.unusedVariables false
theorem plB_bds {a : Pl} (h : plB a = true) : 0 ≤ a.step ∧ a.step ≤ 3 ∧ 0 ≤ a.status ∧ a.status ≤ 2 := by
 simp only [plB, Bool.and_eq_true] at h
 obtain ⟨⟨⟨⟨⟨⟨⟨⟨⟨⟨⟨h1, h2⟩, h6⟩, h7⟩, h8⟩, h9⟩, h10⟩, h11⟩, h12⟩, h13⟩, h14⟩, h15⟩ := h
 have := inR_iff.1 h12
 refine ⟨this.1, this.2, ?_⟩
 unfold endB at h15
 split at h15
 ·simp only [beq_iff_eq] at h15; omega
 ·simp only [Bool.and_eq_true, Bool.or_eq_true, beq_iff_eq] at h15; omega
theorem mdB_k {p K A I V : Int} (h : inR K 1 4 = false) : mdB p ⟨K, A, I, V⟩ = false := by
 have := inR_not.1 h
 unfold mdB
 rw [if_neg (by dsimp only; omega)]
 have : inR K 2 4 = false := inR_not.2 (by omega)
 dsimp only; rw [this]; simp
set_option maxHeartbeats 4000000 in
theorem impl_areTwo (a b : Pl) (As1 Ak1 Ah1 : Option Addr) (ns1 cs1 nk1 ck1 nh1 ch1 : Nat) (hs1 : List Hd) (As2 Ak2 Ah2 : Option Addr) (ns2 cs2 nk2 ck2 nh2 ch2 : Nat) (hs2 : List Hd) (w : World) (hT : Tab w) (ha : RdP w a As1 Ak1 Ah1 ns1 cs1 nk1 ck1 nh1 ch1 hs1) (hb : RdP w b As2 Ak2 Ah2 ns2 cs2 nk2 ck2 nh2 ch2 hs2) :
  Calls Tryd.prog 48 #[.agg #[.int .i64 a.p, .int .i64 a.party, .int .i64 a.x, .int .i64 a.mask, .int .i64 a.delta, .slice As1 ns1 cs1, .slice Ak1 nk1 ck1, .int .i64 a.step, .slice Ah1 nh1 ch1, .int .i64 a.status, .int .i64 a.out], .agg #[.int .i64 b.p, .int .i64 b.party, .int .i64 b.x, .int .i64 b.mask, .int .i64 b.delta, .slice As2 ns2 cs2, .slice Ak2 nk2 ck2, .int .i64 b.step, .slice Ah2 nh2 ch2, .int .i64 b.status, .int .i64 b.out]] w fun e w' => e = .returned (.bool (twoB a b)) ∧ Bl w w' := by
 have hW : Bl w ((w.alloc (.cells #[.int .i64 a.p, .int .i64 a.party, .int .i64 a.x, .int .i64 a.mask, .int .i64 a.delta, .slice As1 ns1 cs1, .slice Ak1 nk1 ck1, .int .i64 a.step, .slice Ah1 nh1 ch1, .int .i64 a.status, .int .i64 a.out] 34)).alloc (.cells #[.int .i64 b.p, .int .i64 b.party, .int .i64 b.x, .int .i64 b.mask, .int .i64 b.delta, .slice As2 ns2 cs2, .slice Ak2 nk2 ck2, .int .i64 b.step, .slice Ah2 nh2 ch2, .int .i64 b.status, .int .i64 b.out] 34)) := ((Bl.refl w).alloc _).alloc _
 have hA := (Blk.new w 34 #[.int .i64 a.p, .int .i64 a.party, .int .i64 a.x, .int .i64 a.mask, .int .i64 a.delta, .slice As1 ns1 cs1, .slice Ak1 nk1 ck1, .int .i64 a.step, .slice Ah1 nh1 ch1, .int .i64 a.status, .int .i64 a.out]).alloc (.cells #[.int .i64 b.p, .int .i64 b.party, .int .i64 b.x, .int .i64 b.mask, .int .i64 b.delta, .slice As2 ns2 cs2, .slice Ak2 nk2 ck2, .int .i64 b.step, .slice Ah2 nh2 ch2, .int .i64 b.status, .int .i64 b.out] 34)
 have hB := Blk.new (w.alloc (.cells #[.int .i64 a.p, .int .i64 a.party, .int .i64 a.x, .int .i64 a.mask, .int .i64 a.delta, .slice As1 ns1 cs1, .slice Ak1 nk1 ck1, .int .i64 a.step, .slice Ah1 nh1 ch1, .int .i64 a.status, .int .i64 a.out] 34)) 34 #[.int .i64 b.p, .int .i64 b.party, .int .i64 b.x, .int .i64 b.mask, .int .i64 b.delta, .slice As2 ns2 cs2, .slice Ak2 nk2 ck2, .int .i64 b.step, .slice Ah2 nh2 ch2, .int .i64 b.status, .int .i64 b.out] (g := w.heap.size + 1)
 have c1 := Lib.hid (fun (w' : World) (hb' : Bl w w') => impl_IsPlayer a As1 Ak1 Ah1 ns1 cs1 nk1 ck1 nh1 ch1 hs1 w' (hT.keep hb') (ha.keep hb'))
 have c2 := Lib.hid (fun (w' : World) (hb' : Bl w w') => impl_IsPlayer b As2 Ak2 Ah2 ns2 cs2 nk2 ck2 nh2 ch2 hs2 w' (hT.keep hb') (hb.keep hb'))
 clear ha hb
 rcases e1 : plB a
 ·have hR := Lib.hid (show twoB a b = false by unfold twoB; rw [e1]; simp)
  go_enter Tryd.func48, Tryd.ntmps48
  go_wp2_with (first | (go_at_call 65; refine (c1.out _ Bl.a1).mono ?_; clear c1; rintro e w1 ⟨rfl, hb1⟩; replace hW : Bl w w1 := Bl.a1; replace hA := hA.kp hb1; replace hB := hB.kp hb1; (try clear A_l A_0 A_1 A_2 A_3 A_4 A_5 A_6 A_7 A_8 A_9 A_10 B_l B_0 B_1 B_2 B_3 B_4 B_5 B_6 B_7 B_8 B_9 B_10); obtain ⟨A_l, -, A_0, A_1, A_2, A_3, A_4, A_5, A_6, A_7, A_8, A_9, A_10⟩ := hA.l11; obtain ⟨B_l, -, B_0, B_1, B_2, B_3, B_4, B_5, B_6, B_7, B_8, B_9, B_10⟩ := hB.l11; rw [e1]) | (go_at_call 65; refine (c2.out _ Bl.a1).mono ?_; rintro e w1 ⟨rfl, hb1⟩; replace hW : Bl w w1 := Bl.a1; replace hA := hA.kp hb1; replace hB := hB.kp hb1; (try clear A_l A_0 A_1 A_2 A_3 A_4 A_5 A_6 A_7 A_8 A_9 A_10 B_l B_0 B_1 B_2 B_3 B_4 B_5 B_6 B_7 B_8 B_9 B_10); obtain ⟨A_l, -, A_0, A_1, A_2, A_3, A_4, A_5, A_6, A_7, A_8, A_9, A_10⟩ := hA.l11; obtain ⟨B_l, -, B_0, B_1, B_2, B_3, B_4, B_5, B_6, B_7, B_8, B_9, B_10⟩ := hB.l11))
  go_ret
  exact ⟨ret_bool hR.out.symm, Bl.a1⟩
 rcases e2 : plB b
 ·have hR := Lib.hid (show twoB a b = false by unfold twoB; rw [e1, e2]; simp)
  go_enter Tryd.func48, Tryd.ntmps48
  go_wp2_with (first | (go_at_call 65; refine (c1.out _ Bl.a1).mono ?_; clear c1; rintro e w1 ⟨rfl, hb1⟩; replace hW : Bl w w1 := Bl.a1; replace hA := hA.kp hb1; replace hB := hB.kp hb1; (try clear A_l A_0 A_1 A_2 A_3 A_4 A_5 A_6 A_7 A_8 A_9 A_10 B_l B_0 B_1 B_2 B_3 B_4 B_5 B_6 B_7 B_8 B_9 B_10); obtain ⟨A_l, -, A_0, A_1, A_2, A_3, A_4, A_5, A_6, A_7, A_8, A_9, A_10⟩ := hA.l11; obtain ⟨B_l, -, B_0, B_1, B_2, B_3, B_4, B_5, B_6, B_7, B_8, B_9, B_10⟩ := hB.l11; rw [e1]) | (go_at_call 65; refine (c2.out _ Bl.a1).mono ?_; rintro e w1 ⟨rfl, hb1⟩; replace hW : Bl w w1 := Bl.a1; replace hA := hA.kp hb1; replace hB := hB.kp hb1; (try clear A_l A_0 A_1 A_2 A_3 A_4 A_5 A_6 A_7 A_8 A_9 A_10 B_l B_0 B_1 B_2 B_3 B_4 B_5 B_6 B_7 B_8 B_9 B_10); obtain ⟨A_l, -, A_0, A_1, A_2, A_3, A_4, A_5, A_6, A_7, A_8, A_9, A_10⟩ := hA.l11; obtain ⟨B_l, -, B_0, B_1, B_2, B_3, B_4, B_5, B_6, B_7, B_8, B_9, B_10⟩ := hB.l11; rw [e2]))
  go_ret
  exact ⟨ret_bool hR.out.symm, Bl.a1⟩
 rcases e3 : a.p == b.p
 ·have hR := Lib.hid (show twoB a b = false by unfold twoB; rw [e1, e2, e3]; simp)
  go_enter Tryd.func48, Tryd.ntmps48
  go_wp2_with (first | (go_at_call 65; refine (c1.out _ Bl.a1).mono ?_; clear c1; rintro e w1 ⟨rfl, hb1⟩; replace hW : Bl w w1 := Bl.a1; replace hA := hA.kp hb1; replace hB := hB.kp hb1; (try clear A_l A_0 A_1 A_2 A_3 A_4 A_5 A_6 A_7 A_8 A_9 A_10 B_l B_0 B_1 B_2 B_3 B_4 B_5 B_6 B_7 B_8 B_9 B_10); obtain ⟨A_l, -, A_0, A_1, A_2, A_3, A_4, A_5, A_6, A_7, A_8, A_9, A_10⟩ := hA.l11; obtain ⟨B_l, -, B_0, B_1, B_2, B_3, B_4, B_5, B_6, B_7, B_8, B_9, B_10⟩ := hB.l11; rw [e1]) | (go_at_call 65; refine (c2.out _ Bl.a1).mono ?_; rintro e w1 ⟨rfl, hb1⟩; replace hW : Bl w w1 := Bl.a1; replace hA := hA.kp hb1; replace hB := hB.kp hb1; (try clear A_l A_0 A_1 A_2 A_3 A_4 A_5 A_6 A_7 A_8 A_9 A_10 B_l B_0 B_1 B_2 B_3 B_4 B_5 B_6 B_7 B_8 B_9 B_10); obtain ⟨A_l, -, A_0, A_1, A_2, A_3, A_4, A_5, A_6, A_7, A_8, A_9, A_10⟩ := hA.l11; obtain ⟨B_l, -, B_0, B_1, B_2, B_3, B_4, B_5, B_6, B_7, B_8, B_9, B_10⟩ := hB.l11; rw [e2]))
  go_ret
  exact ⟨ret_bool hR.out.symm, Bl.a1⟩
 rcases e4 : a.party == 0
 ·have hR := Lib.hid (show twoB a b = false by unfold twoB; rw [e1, e2, e3, e4]; simp)
  go_enter Tryd.func48, Tryd.ntmps48
  go_wp2_with (first | (go_at_call 65; refine (c1.out _ Bl.a1).mono ?_; clear c1; rintro e w1 ⟨rfl, hb1⟩; replace hW : Bl w w1 := Bl.a1; replace hA := hA.kp hb1; replace hB := hB.kp hb1; (try clear A_l A_0 A_1 A_2 A_3 A_4 A_5 A_6 A_7 A_8 A_9 A_10 B_l B_0 B_1 B_2 B_3 B_4 B_5 B_6 B_7 B_8 B_9 B_10); obtain ⟨A_l, -, A_0, A_1, A_2, A_3, A_4, A_5, A_6, A_7, A_8, A_9, A_10⟩ := hA.l11; obtain ⟨B_l, -, B_0, B_1, B_2, B_3, B_4, B_5, B_6, B_7, B_8, B_9, B_10⟩ := hB.l11; rw [e1]) | (go_at_call 65; refine (c2.out _ Bl.a1).mono ?_; rintro e w1 ⟨rfl, hb1⟩; replace hW : Bl w w1 := Bl.a1; replace hA := hA.kp hb1; replace hB := hB.kp hb1; (try clear A_l A_0 A_1 A_2 A_3 A_4 A_5 A_6 A_7 A_8 A_9 A_10 B_l B_0 B_1 B_2 B_3 B_4 B_5 B_6 B_7 B_8 B_9 B_10); obtain ⟨A_l, -, A_0, A_1, A_2, A_3, A_4, A_5, A_6, A_7, A_8, A_9, A_10⟩ := hA.l11; obtain ⟨B_l, -, B_0, B_1, B_2, B_3, B_4, B_5, B_6, B_7, B_8, B_9, B_10⟩ := hB.l11; rw [e2]))
  go_ret
  exact ⟨ret_bool hR.out.symm, Bl.a1⟩
 rcases e5 : b.party == 1
 ·have hR := Lib.hid (show twoB a b = false by unfold twoB; rw [e1, e2, e3, e4, e5]; simp)
  go_enter Tryd.func48, Tryd.ntmps48
  go_wp2_with (first | (go_at_call 65; refine (c1.out _ Bl.a1).mono ?_; clear c1; rintro e w1 ⟨rfl, hb1⟩; replace hW : Bl w w1 := Bl.a1; replace hA := hA.kp hb1; replace hB := hB.kp hb1; (try clear A_l A_0 A_1 A_2 A_3 A_4 A_5 A_6 A_7 A_8 A_9 A_10 B_l B_0 B_1 B_2 B_3 B_4 B_5 B_6 B_7 B_8 B_9 B_10); obtain ⟨A_l, -, A_0, A_1, A_2, A_3, A_4, A_5, A_6, A_7, A_8, A_9, A_10⟩ := hA.l11; obtain ⟨B_l, -, B_0, B_1, B_2, B_3, B_4, B_5, B_6, B_7, B_8, B_9, B_10⟩ := hB.l11; rw [e1]) | (go_at_call 65; refine (c2.out _ Bl.a1).mono ?_; rintro e w1 ⟨rfl, hb1⟩; replace hW : Bl w w1 := Bl.a1; replace hA := hA.kp hb1; replace hB := hB.kp hb1; (try clear A_l A_0 A_1 A_2 A_3 A_4 A_5 A_6 A_7 A_8 A_9 A_10 B_l B_0 B_1 B_2 B_3 B_4 B_5 B_6 B_7 B_8 B_9 B_10); obtain ⟨A_l, -, A_0, A_1, A_2, A_3, A_4, A_5, A_6, A_7, A_8, A_9, A_10⟩ := hA.l11; obtain ⟨B_l, -, B_0, B_1, B_2, B_3, B_4, B_5, B_6, B_7, B_8, B_9, B_10⟩ := hB.l11; rw [e2]))
  go_ret
  exact ⟨ret_bool hR.out.symm, Bl.a1⟩
 rcases e6 : a.step == 0
 ·have hR := Lib.hid (show twoB a b = false by unfold twoB; rw [e1, e2, e3, e4, e5, e6]; simp)
  go_enter Tryd.func48, Tryd.ntmps48
  go_wp2_with (first | (go_at_call 65; refine (c1.out _ Bl.a1).mono ?_; clear c1; rintro e w1 ⟨rfl, hb1⟩; replace hW : Bl w w1 := Bl.a1; replace hA := hA.kp hb1; replace hB := hB.kp hb1; (try clear A_l A_0 A_1 A_2 A_3 A_4 A_5 A_6 A_7 A_8 A_9 A_10 B_l B_0 B_1 B_2 B_3 B_4 B_5 B_6 B_7 B_8 B_9 B_10); obtain ⟨A_l, -, A_0, A_1, A_2, A_3, A_4, A_5, A_6, A_7, A_8, A_9, A_10⟩ := hA.l11; obtain ⟨B_l, -, B_0, B_1, B_2, B_3, B_4, B_5, B_6, B_7, B_8, B_9, B_10⟩ := hB.l11; rw [e1]) | (go_at_call 65; refine (c2.out _ Bl.a1).mono ?_; rintro e w1 ⟨rfl, hb1⟩; replace hW : Bl w w1 := Bl.a1; replace hA := hA.kp hb1; replace hB := hB.kp hb1; (try clear A_l A_0 A_1 A_2 A_3 A_4 A_5 A_6 A_7 A_8 A_9 A_10 B_l B_0 B_1 B_2 B_3 B_4 B_5 B_6 B_7 B_8 B_9 B_10); obtain ⟨A_l, -, A_0, A_1, A_2, A_3, A_4, A_5, A_6, A_7, A_8, A_9, A_10⟩ := hA.l11; obtain ⟨B_l, -, B_0, B_1, B_2, B_3, B_4, B_5, B_6, B_7, B_8, B_9, B_10⟩ := hB.l11; rw [e2]))
  go_ret
  exact ⟨ret_bool hR.out.symm, Bl.a1⟩
 rcases e7 : b.step == 0
 ·have hR := Lib.hid (show twoB a b = false by unfold twoB; rw [e1, e2, e3, e4, e5, e6, e7]; simp)
  go_enter Tryd.func48, Tryd.ntmps48
  go_wp2_with (first | (go_at_call 65; refine (c1.out _ Bl.a1).mono ?_; clear c1; rintro e w1 ⟨rfl, hb1⟩; replace hW : Bl w w1 := Bl.a1; replace hA := hA.kp hb1; replace hB := hB.kp hb1; (try clear A_l A_0 A_1 A_2 A_3 A_4 A_5 A_6 A_7 A_8 A_9 A_10 B_l B_0 B_1 B_2 B_3 B_4 B_5 B_6 B_7 B_8 B_9 B_10); obtain ⟨A_l, -, A_0, A_1, A_2, A_3, A_4, A_5, A_6, A_7, A_8, A_9, A_10⟩ := hA.l11; obtain ⟨B_l, -, B_0, B_1, B_2, B_3, B_4, B_5, B_6, B_7, B_8, B_9, B_10⟩ := hB.l11; rw [e1]) | (go_at_call 65; refine (c2.out _ Bl.a1).mono ?_; rintro e w1 ⟨rfl, hb1⟩; replace hW : Bl w w1 := Bl.a1; replace hA := hA.kp hb1; replace hB := hB.kp hb1; (try clear A_l A_0 A_1 A_2 A_3 A_4 A_5 A_6 A_7 A_8 A_9 A_10 B_l B_0 B_1 B_2 B_3 B_4 B_5 B_6 B_7 B_8 B_9 B_10); obtain ⟨A_l, -, A_0, A_1, A_2, A_3, A_4, A_5, A_6, A_7, A_8, A_9, A_10⟩ := hA.l11; obtain ⟨B_l, -, B_0, B_1, B_2, B_3, B_4, B_5, B_6, B_7, B_8, B_9, B_10⟩ := hB.l11; rw [e2]))
  go_ret
  exact ⟨ret_bool hR.out.symm, Bl.a1⟩
 rcases e8 : a.status == 0
 ·have hR := Lib.hid (show twoB a b = false by unfold twoB; rw [e1, e2, e3, e4, e5, e6, e7, e8]; simp)
  go_enter Tryd.func48, Tryd.ntmps48
  go_wp2_with (first | (go_at_call 65; refine (c1.out _ Bl.a1).mono ?_; clear c1; rintro e w1 ⟨rfl, hb1⟩; replace hW : Bl w w1 := Bl.a1; replace hA := hA.kp hb1; replace hB := hB.kp hb1; (try clear A_l A_0 A_1 A_2 A_3 A_4 A_5 A_6 A_7 A_8 A_9 A_10 B_l B_0 B_1 B_2 B_3 B_4 B_5 B_6 B_7 B_8 B_9 B_10); obtain ⟨A_l, -, A_0, A_1, A_2, A_3, A_4, A_5, A_6, A_7, A_8, A_9, A_10⟩ := hA.l11; obtain ⟨B_l, -, B_0, B_1, B_2, B_3, B_4, B_5, B_6, B_7, B_8, B_9, B_10⟩ := hB.l11; rw [e1]) | (go_at_call 65; refine (c2.out _ Bl.a1).mono ?_; rintro e w1 ⟨rfl, hb1⟩; replace hW : Bl w w1 := Bl.a1; replace hA := hA.kp hb1; replace hB := hB.kp hb1; (try clear A_l A_0 A_1 A_2 A_3 A_4 A_5 A_6 A_7 A_8 A_9 A_10 B_l B_0 B_1 B_2 B_3 B_4 B_5 B_6 B_7 B_8 B_9 B_10); obtain ⟨A_l, -, A_0, A_1, A_2, A_3, A_4, A_5, A_6, A_7, A_8, A_9, A_10⟩ := hA.l11; obtain ⟨B_l, -, B_0, B_1, B_2, B_3, B_4, B_5, B_6, B_7, B_8, B_9, B_10⟩ := hB.l11; rw [e2]))
  go_ret
  exact ⟨ret_bool hR.out.symm, Bl.a1⟩
 rcases e9 : b.status == 0
 ·have hR := Lib.hid (show twoB a b = false by unfold twoB; rw [e1, e2, e3, e4, e5, e6, e7, e8, e9]; simp)
  go_enter Tryd.func48, Tryd.ntmps48
  go_wp2_with (first | (go_at_call 65; refine (c1.out _ Bl.a1).mono ?_; clear c1; rintro e w1 ⟨rfl, hb1⟩; replace hW : Bl w w1 := Bl.a1; replace hA := hA.kp hb1; replace hB := hB.kp hb1; (try clear A_l A_0 A_1 A_2 A_3 A_4 A_5 A_6 A_7 A_8 A_9 A_10 B_l B_0 B_1 B_2 B_3 B_4 B_5 B_6 B_7 B_8 B_9 B_10); obtain ⟨A_l, -, A_0, A_1, A_2, A_3, A_4, A_5, A_6, A_7, A_8, A_9, A_10⟩ := hA.l11; obtain ⟨B_l, -, B_0, B_1, B_2, B_3, B_4, B_5, B_6, B_7, B_8, B_9, B_10⟩ := hB.l11; rw [e1]) | (go_at_call 65; refine (c2.out _ Bl.a1).mono ?_; rintro e w1 ⟨rfl, hb1⟩; replace hW : Bl w w1 := Bl.a1; replace hA := hA.kp hb1; replace hB := hB.kp hb1; (try clear A_l A_0 A_1 A_2 A_3 A_4 A_5 A_6 A_7 A_8 A_9 A_10 B_l B_0 B_1 B_2 B_3 B_4 B_5 B_6 B_7 B_8 B_9 B_10); obtain ⟨A_l, -, A_0, A_1, A_2, A_3, A_4, A_5, A_6, A_7, A_8, A_9, A_10⟩ := hA.l11; obtain ⟨B_l, -, B_0, B_1, B_2, B_3, B_4, B_5, B_6, B_7, B_8, B_9, B_10⟩ := hB.l11; rw [e2]))
  go_ret
  exact ⟨ret_bool hR.out.symm, Bl.a1⟩
 have hR := Lib.hid (show twoB a b = true by unfold twoB; rw [e1, e2, e3, e4, e5, e6, e7, e8, e9]; simp)
 go_enter Tryd.func48, Tryd.ntmps48
 go_wp2_with (first | (go_at_call 65; refine (c1.out _ Bl.a1).mono ?_; clear c1; rintro e w1 ⟨rfl, hb1⟩; replace hW : Bl w w1 := Bl.a1; replace hA := hA.kp hb1; replace hB := hB.kp hb1; (try clear A_l A_0 A_1 A_2 A_3 A_4 A_5 A_6 A_7 A_8 A_9 A_10 B_l B_0 B_1 B_2 B_3 B_4 B_5 B_6 B_7 B_8 B_9 B_10); obtain ⟨A_l, -, A_0, A_1, A_2, A_3, A_4, A_5, A_6, A_7, A_8, A_9, A_10⟩ := hA.l11; obtain ⟨B_l, -, B_0, B_1, B_2, B_3, B_4, B_5, B_6, B_7, B_8, B_9, B_10⟩ := hB.l11; rw [e1]) | (go_at_call 65; refine (c2.out _ Bl.a1).mono ?_; rintro e w1 ⟨rfl, hb1⟩; replace hW : Bl w w1 := Bl.a1; replace hA := hA.kp hb1; replace hB := hB.kp hb1; (try clear A_l A_0 A_1 A_2 A_3 A_4 A_5 A_6 A_7 A_8 A_9 A_10 B_l B_0 B_1 B_2 B_3 B_4 B_5 B_6 B_7 B_8 B_9 B_10); obtain ⟨A_l, -, A_0, A_1, A_2, A_3, A_4, A_5, A_6, A_7, A_8, A_9, A_10⟩ := hA.l11; obtain ⟨B_l, -, B_0, B_1, B_2, B_3, B_4, B_5, B_6, B_7, B_8, B_9, B_10⟩ := hB.l11; rw [e2]))
 go_ret
 exact ⟨ret_bool hR.out.symm, Bl.a1⟩
set_option maxHeartbeats 4000000 in
theorem spec_ptBoth (a b : Pl) (As1 Ak1 Ah1 : Option Addr) (ns1 cs1 nk1 ck1 nh1 ch1 : Nat) (hs1 : List Hd) (As2 Ak2 Ah2 : Option Addr) (ns2 cs2 nk2 ck2 nh2 ch2 : Nat) (hs2 : List Hd) (w : World) (hT : Tab w) (ha : RdP w a As1 Ak1 Ah1 ns1 cs1 nk1 ck1 nh1 ch1 hs1) (hb : RdP w b As2 Ak2 Ah2 ns2 cs2 nk2 ck2 nh2 ch2 hs2) :
  Calls Tryd.prog 52 #[.agg #[.int .i64 a.p, .int .i64 a.party, .int .i64 a.x, .int .i64 a.mask, .int .i64 a.delta, .slice As1 ns1 cs1, .slice Ak1 nk1 ck1, .int .i64 a.step, .slice Ah1 nh1 ch1, .int .i64 a.status, .int .i64 a.out], .agg #[.int .i64 b.p, .int .i64 b.party, .int .i64 b.x, .int .i64 b.mask, .int .i64 b.delta, .slice As2 ns2 cs2, .slice Ak2 nk2 ck2, .int .i64 b.step, .slice Ah2 nh2 ch2, .int .i64 b.status, .int .i64 b.out]] w fun e w' => e = .returned (.bool (twoB a b)) ∧ Bl w w' := by
 have hW : Bl w ((w.alloc (.cells #[.int .i64 a.p, .int .i64 a.party, .int .i64 a.x, .int .i64 a.mask, .int .i64 a.delta, .slice As1 ns1 cs1, .slice Ak1 nk1 ck1, .int .i64 a.step, .slice Ah1 nh1 ch1, .int .i64 a.status, .int .i64 a.out] 34)).alloc (.cells #[.int .i64 b.p, .int .i64 b.party, .int .i64 b.x, .int .i64 b.mask, .int .i64 b.delta, .slice As2 ns2 cs2, .slice Ak2 nk2 ck2, .int .i64 b.step, .slice Ah2 nh2 ch2, .int .i64 b.status, .int .i64 b.out] 34)) := ((Bl.refl w).alloc _).alloc _
 have hA := (Blk.new w 34 #[.int .i64 a.p, .int .i64 a.party, .int .i64 a.x, .int .i64 a.mask, .int .i64 a.delta, .slice As1 ns1 cs1, .slice Ak1 nk1 ck1, .int .i64 a.step, .slice Ah1 nh1 ch1, .int .i64 a.status, .int .i64 a.out]).alloc (.cells #[.int .i64 b.p, .int .i64 b.party, .int .i64 b.x, .int .i64 b.mask, .int .i64 b.delta, .slice As2 ns2 cs2, .slice Ak2 nk2 ck2, .int .i64 b.step, .slice Ah2 nh2 ch2, .int .i64 b.status, .int .i64 b.out] 34)
 have hB := Blk.new (w.alloc (.cells #[.int .i64 a.p, .int .i64 a.party, .int .i64 a.x, .int .i64 a.mask, .int .i64 a.delta, .slice As1 ns1 cs1, .slice Ak1 nk1 ck1, .int .i64 a.step, .slice Ah1 nh1 ch1, .int .i64 a.status, .int .i64 a.out] 34)) 34 #[.int .i64 b.p, .int .i64 b.party, .int .i64 b.x, .int .i64 b.mask, .int .i64 b.delta, .slice As2 ns2 cs2, .slice Ak2 nk2 ck2, .int .i64 b.step, .slice Ah2 nh2 ch2, .int .i64 b.status, .int .i64 b.out] (g := w.heap.size + 1)
 have c1 := Lib.hid (fun (w' : World) (hb' : Bl w w') => spec_ptGood a As1 Ak1 Ah1 ns1 cs1 nk1 ck1 nh1 ch1 hs1 w' (hT.keep hb') (ha.keep hb'))
 have c2 := Lib.hid (fun (w' : World) (hb' : Bl w w') => spec_ptGood b As2 Ak2 Ah2 ns2 cs2 nk2 ck2 nh2 ch2 hs2 w' (hT.keep hb') (hb.keep hb'))
 clear ha hb
 rcases e1 : plB a
 ·have hR := Lib.hid (show twoB a b = false by unfold twoB; rw [e1]; simp)
  go_enter Tryd.func52, Tryd.ntmps52
  go_wp2_with (first | (go_at_call 73; refine (c1.out _ Bl.a1).mono ?_; clear c1; rintro e w1 ⟨rfl, hb1⟩; replace hW : Bl w w1 := Bl.a1; replace hA := hA.kp hb1; replace hB := hB.kp hb1; (try clear A_l A_0 A_1 A_2 A_3 A_4 A_5 A_6 A_7 A_8 A_9 A_10 B_l B_0 B_1 B_2 B_3 B_4 B_5 B_6 B_7 B_8 B_9 B_10); obtain ⟨A_l, -, A_0, A_1, A_2, A_3, A_4, A_5, A_6, A_7, A_8, A_9, A_10⟩ := hA.l11; obtain ⟨B_l, -, B_0, B_1, B_2, B_3, B_4, B_5, B_6, B_7, B_8, B_9, B_10⟩ := hB.l11; rw [e1]) | (go_at_call 73; refine (c2.out _ Bl.a1).mono ?_; rintro e w1 ⟨rfl, hb1⟩; replace hW : Bl w w1 := Bl.a1; replace hA := hA.kp hb1; replace hB := hB.kp hb1; (try clear A_l A_0 A_1 A_2 A_3 A_4 A_5 A_6 A_7 A_8 A_9 A_10 B_l B_0 B_1 B_2 B_3 B_4 B_5 B_6 B_7 B_8 B_9 B_10); obtain ⟨A_l, -, A_0, A_1, A_2, A_3, A_4, A_5, A_6, A_7, A_8, A_9, A_10⟩ := hA.l11; obtain ⟨B_l, -, B_0, B_1, B_2, B_3, B_4, B_5, B_6, B_7, B_8, B_9, B_10⟩ := hB.l11))
  go_ret
  exact ⟨ret_bool hR.out.symm, Bl.a1⟩
 rcases e2 : plB b
 ·have hR := Lib.hid (show twoB a b = false by unfold twoB; rw [e1, e2]; simp)
  go_enter Tryd.func52, Tryd.ntmps52
  go_wp2_with (first | (go_at_call 73; refine (c1.out _ Bl.a1).mono ?_; clear c1; rintro e w1 ⟨rfl, hb1⟩; replace hW : Bl w w1 := Bl.a1; replace hA := hA.kp hb1; replace hB := hB.kp hb1; (try clear A_l A_0 A_1 A_2 A_3 A_4 A_5 A_6 A_7 A_8 A_9 A_10 B_l B_0 B_1 B_2 B_3 B_4 B_5 B_6 B_7 B_8 B_9 B_10); obtain ⟨A_l, -, A_0, A_1, A_2, A_3, A_4, A_5, A_6, A_7, A_8, A_9, A_10⟩ := hA.l11; obtain ⟨B_l, -, B_0, B_1, B_2, B_3, B_4, B_5, B_6, B_7, B_8, B_9, B_10⟩ := hB.l11; rw [e1]) | (go_at_call 73; refine (c2.out _ Bl.a1).mono ?_; rintro e w1 ⟨rfl, hb1⟩; replace hW : Bl w w1 := Bl.a1; replace hA := hA.kp hb1; replace hB := hB.kp hb1; (try clear A_l A_0 A_1 A_2 A_3 A_4 A_5 A_6 A_7 A_8 A_9 A_10 B_l B_0 B_1 B_2 B_3 B_4 B_5 B_6 B_7 B_8 B_9 B_10); obtain ⟨A_l, -, A_0, A_1, A_2, A_3, A_4, A_5, A_6, A_7, A_8, A_9, A_10⟩ := hA.l11; obtain ⟨B_l, -, B_0, B_1, B_2, B_3, B_4, B_5, B_6, B_7, B_8, B_9, B_10⟩ := hB.l11; rw [e2]))
  go_ret
  exact ⟨ret_bool hR.out.symm, Bl.a1⟩
 rcases e3 : a.p == b.p
 ·have hR := Lib.hid (show twoB a b = false by unfold twoB; rw [e1, e2, e3]; simp)
  go_enter Tryd.func52, Tryd.ntmps52
  go_wp2_with (first | (go_at_call 73; refine (c1.out _ Bl.a1).mono ?_; clear c1; rintro e w1 ⟨rfl, hb1⟩; replace hW : Bl w w1 := Bl.a1; replace hA := hA.kp hb1; replace hB := hB.kp hb1; (try clear A_l A_0 A_1 A_2 A_3 A_4 A_5 A_6 A_7 A_8 A_9 A_10 B_l B_0 B_1 B_2 B_3 B_4 B_5 B_6 B_7 B_8 B_9 B_10); obtain ⟨A_l, -, A_0, A_1, A_2, A_3, A_4, A_5, A_6, A_7, A_8, A_9, A_10⟩ := hA.l11; obtain ⟨B_l, -, B_0, B_1, B_2, B_3, B_4, B_5, B_6, B_7, B_8, B_9, B_10⟩ := hB.l11; rw [e1]) | (go_at_call 73; refine (c2.out _ Bl.a1).mono ?_; rintro e w1 ⟨rfl, hb1⟩; replace hW : Bl w w1 := Bl.a1; replace hA := hA.kp hb1; replace hB := hB.kp hb1; (try clear A_l A_0 A_1 A_2 A_3 A_4 A_5 A_6 A_7 A_8 A_9 A_10 B_l B_0 B_1 B_2 B_3 B_4 B_5 B_6 B_7 B_8 B_9 B_10); obtain ⟨A_l, -, A_0, A_1, A_2, A_3, A_4, A_5, A_6, A_7, A_8, A_9, A_10⟩ := hA.l11; obtain ⟨B_l, -, B_0, B_1, B_2, B_3, B_4, B_5, B_6, B_7, B_8, B_9, B_10⟩ := hB.l11; rw [e2]))
  go_ret
  exact ⟨ret_bool hR.out.symm, Bl.a1⟩
 rcases e4 : a.party == 0
 ·have hR := Lib.hid (show twoB a b = false by unfold twoB; rw [e1, e2, e3, e4]; simp)
  go_enter Tryd.func52, Tryd.ntmps52
  go_wp2_with (first | (go_at_call 73; refine (c1.out _ Bl.a1).mono ?_; clear c1; rintro e w1 ⟨rfl, hb1⟩; replace hW : Bl w w1 := Bl.a1; replace hA := hA.kp hb1; replace hB := hB.kp hb1; (try clear A_l A_0 A_1 A_2 A_3 A_4 A_5 A_6 A_7 A_8 A_9 A_10 B_l B_0 B_1 B_2 B_3 B_4 B_5 B_6 B_7 B_8 B_9 B_10); obtain ⟨A_l, -, A_0, A_1, A_2, A_3, A_4, A_5, A_6, A_7, A_8, A_9, A_10⟩ := hA.l11; obtain ⟨B_l, -, B_0, B_1, B_2, B_3, B_4, B_5, B_6, B_7, B_8, B_9, B_10⟩ := hB.l11; rw [e1]) | (go_at_call 73; refine (c2.out _ Bl.a1).mono ?_; rintro e w1 ⟨rfl, hb1⟩; replace hW : Bl w w1 := Bl.a1; replace hA := hA.kp hb1; replace hB := hB.kp hb1; (try clear A_l A_0 A_1 A_2 A_3 A_4 A_5 A_6 A_7 A_8 A_9 A_10 B_l B_0 B_1 B_2 B_3 B_4 B_5 B_6 B_7 B_8 B_9 B_10); obtain ⟨A_l, -, A_0, A_1, A_2, A_3, A_4, A_5, A_6, A_7, A_8, A_9, A_10⟩ := hA.l11; obtain ⟨B_l, -, B_0, B_1, B_2, B_3, B_4, B_5, B_6, B_7, B_8, B_9, B_10⟩ := hB.l11; rw [e2]))
  go_ret
  exact ⟨ret_bool hR.out.symm, Bl.a1⟩
 rcases e5 : b.party == 1
 ·have hR := Lib.hid (show twoB a b = false by unfold twoB; rw [e1, e2, e3, e4, e5]; simp)
  go_enter Tryd.func52, Tryd.ntmps52
  go_wp2_with (first | (go_at_call 73; refine (c1.out _ Bl.a1).mono ?_; clear c1; rintro e w1 ⟨rfl, hb1⟩; replace hW : Bl w w1 := Bl.a1; replace hA := hA.kp hb1; replace hB := hB.kp hb1; (try clear A_l A_0 A_1 A_2 A_3 A_4 A_5 A_6 A_7 A_8 A_9 A_10 B_l B_0 B_1 B_2 B_3 B_4 B_5 B_6 B_7 B_8 B_9 B_10); obtain ⟨A_l, -, A_0, A_1, A_2, A_3, A_4, A_5, A_6, A_7, A_8, A_9, A_10⟩ := hA.l11; obtain ⟨B_l, -, B_0, B_1, B_2, B_3, B_4, B_5, B_6, B_7, B_8, B_9, B_10⟩ := hB.l11; rw [e1]) | (go_at_call 73; refine (c2.out _ Bl.a1).mono ?_; rintro e w1 ⟨rfl, hb1⟩; replace hW : Bl w w1 := Bl.a1; replace hA := hA.kp hb1; replace hB := hB.kp hb1; (try clear A_l A_0 A_1 A_2 A_3 A_4 A_5 A_6 A_7 A_8 A_9 A_10 B_l B_0 B_1 B_2 B_3 B_4 B_5 B_6 B_7 B_8 B_9 B_10); obtain ⟨A_l, -, A_0, A_1, A_2, A_3, A_4, A_5, A_6, A_7, A_8, A_9, A_10⟩ := hA.l11; obtain ⟨B_l, -, B_0, B_1, B_2, B_3, B_4, B_5, B_6, B_7, B_8, B_9, B_10⟩ := hB.l11; rw [e2]))
  go_ret
  exact ⟨ret_bool hR.out.symm, Bl.a1⟩
 obtain ⟨x1, x2, x3, x4⟩ := plB_bds e1
 obtain ⟨y1, y2, y3, y4⟩ := plB_bds e2
 have hR := Lib.hid (show twoB a b = (a.step + b.step + a.status + b.status == 0) by
  unfold twoB; rw [e1, e2, e3, e4, e5, Bool.eq_iff_iff]
  simp only [Bool.true_and, Bool.and_eq_true, beq_iff_eq]; omega)
 rcases e6 : (a.step + b.step + a.status + b.status == 0)
 all_goals go_enter Tryd.func52, Tryd.ntmps52
 all_goals go_wp2_with (first | (go_at_call 73; refine (c1.out _ Bl.a1).mono ?_; clear c1; rintro e w1 ⟨rfl, hb1⟩; replace hW : Bl w w1 := Bl.a1; replace hA := hA.kp hb1; replace hB := hB.kp hb1; (try clear A_l A_0 A_1 A_2 A_3 A_4 A_5 A_6 A_7 A_8 A_9 A_10 B_l B_0 B_1 B_2 B_3 B_4 B_5 B_6 B_7 B_8 B_9 B_10); obtain ⟨A_l, -, A_0, A_1, A_2, A_3, A_4, A_5, A_6, A_7, A_8, A_9, A_10⟩ := hA.l11; obtain ⟨B_l, -, B_0, B_1, B_2, B_3, B_4, B_5, B_6, B_7, B_8, B_9, B_10⟩ := hB.l11; rw [e1]) | (go_at_call 73; refine (c2.out _ Bl.a1).mono ?_; rintro e w1 ⟨rfl, hb1⟩; replace hW : Bl w w1 := Bl.a1; replace hA := hA.kp hb1; replace hB := hB.kp hb1; (try clear A_l A_0 A_1 A_2 A_3 A_4 A_5 A_6 A_7 A_8 A_9 A_10 B_l B_0 B_1 B_2 B_3 B_4 B_5 B_6 B_7 B_8 B_9 B_10); obtain ⟨A_l, -, A_0, A_1, A_2, A_3, A_4, A_5, A_6, A_7, A_8, A_9, A_10⟩ := hA.l11; obtain ⟨B_l, -, B_0, B_1, B_2, B_3, B_4, B_5, B_6, B_7, B_8, B_9, B_10⟩ := hB.l11; rw [e2]))
 all_goals go_ret
 all_goals exact ⟨ret_bool (by rw [hR.out, e6]), Bl.a1⟩
end Go.Proofs.YtcjpalhclgkjiaaDoor
