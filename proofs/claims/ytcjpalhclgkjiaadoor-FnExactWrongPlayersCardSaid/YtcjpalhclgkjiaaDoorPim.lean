/- Contracts: the terms of a player, its shares of them and its keys for them.
   Conditions: the player is valid and has heard enough. -/
import Derived.Test.YtcjpalhclgkjiaaDoorPil
namespace Go.Proofs.YtcjpalhclgkjiaaDoor
open Go.RowKit
set_option linter.unusedVariables false
theorem run_fieldT0 (w : World) (v t : Int) : (Instr.field 93 (.agg #[.int .i64 v, .int .i64 t]) 0).run Tryd.prog w = .ok (.int .i64 v) w := by
 simp [Instr.field, run_underlying Tryd.underlying93, asAgg, go_sem]
section
variable {a : Pl} {k : Nat}
theorem shv_num (a : Pl) (i : Nat) : num (a.sh.map Tg.v) i = shv a i := by unfold num shv; rw [List.getElem?_map]; rcases a.sh[i]? with _ | y <;> rfl
theorem sht_num (a : Pl) (i : Nat) : num (a.sh.map Tg.t) i = sht a i := by unfold num sht; rw [List.getElem?_map]; rcases a.sh[i]? with _ | y <;> rfl
theorem dot5 (w0 w1 w2 w3 w4 : Int) (xs : List Int) : dotv [w0, w1, w2, w3, w4] xs 5 = w0 * num xs 0 + w1 * num xs 1 + w2 * num xs 2 + w3 * num xs 3 + w4 * num xs 4 := by
 simp [dotv, num]
theorem own_v0 (a : Pl) : (if0 a (msk a 0) + dotv [1, 0, -1, 0, 0] (a.sh.map Tg.v) 5) % a.p = secV a 0 := by
 rw [dot5]; simp only [shv_num]; unfold secV; refine congrArg (· % a.p) ?_; simp only [Nat.reduceAdd]; (try rw [show ((0 : Nat) : Int) = 0 from rfl]); (try rw [show ((1 : Nat) : Int) = 1 from rfl]); omega
theorem own_v1 (a : Pl) : (if0 a (msk a 1) + dotv [0, 1, 0, -1, 0] (a.sh.map Tg.v) 5) % a.p = secV a 1 := by
 rw [dot5]; simp only [shv_num]; unfold secV; refine congrArg (· % a.p) ?_; simp only [Nat.reduceAdd]; (try rw [show ((0 : Nat) : Int) = 0 from rfl]); (try rw [show ((1 : Nat) : Int) = 1 from rfl]); omega
theorem own_t0 (a : Pl) : dotv [1, 0, -1, 0, 0] (a.sh.map Tg.t) 5 % a.p = secT a 0 := by
 rw [dot5]; simp only [sht_num]; unfold secT; refine congrArg (· % a.p) ?_; simp only [Nat.reduceAdd]; omega
theorem own_t1 (a : Pl) : dotv [0, 1, 0, -1, 0] (a.sh.map Tg.t) 5 % a.p = secT a 1 := by
 rw [dot5]; simp only [sht_num]; unfold secT; refine congrArg (· % a.p) ?_; simp only [Nat.reduceAdd]; omega
theorem own_v2 (a : Pl) : (if0 a (dS a * eS a) + dotv [0, 0, eS a, dS a, 1] (a.sh.map Tg.v) 5) % a.p = thV a := by
 rw [dot5]; simp only [shv_num]; unfold thV; refine congrArg (· % a.p) ?_; omega
theorem own_t2 (a : Pl) : dotv [0, 0, eS a, dS a, 1] (a.sh.map Tg.t) 5 % a.p = thT a := by
 rw [dot5]; simp only [sht_num]; unfold thT; refine congrArg (· % a.p) ?_; omega
theorem key_0 (ok : Ok a k) : (dotv [1, 0, -1, 0, 0] a.ks 5 - if1 a (msk a 0 % a.p * a.delta)) % a.p = keyS a 0 := by
 rw [dot5, Int.emod_eq_of_lt (ok.msk 0).1 (ok.msk 0).2]; unfold keyS key; refine congrArg (· % a.p) ?_; simp only [Nat.reduceAdd]; (try rw [show ((0 : Nat) : Int) = 0 from rfl]); (try rw [show ((1 : Nat) : Int) = 1 from rfl]); omega
theorem key_1 (ok : Ok a k) : (dotv [0, 1, 0, -1, 0] a.ks 5 - if1 a (msk a 1 % a.p * a.delta)) % a.p = keyS a 1 := by
 rw [dot5, Int.emod_eq_of_lt (ok.msk 1).1 (ok.msk 1).2]; unfold keyS key; refine congrArg (· % a.p) ?_; simp only [Nat.reduceAdd]; (try rw [show ((0 : Nat) : Int) = 0 from rfl]); (try rw [show ((1 : Nat) : Int) = 1 from rfl]); omega
theorem key_2 (a : Pl) : (dotv [0, 0, eS a, dS a, 1] a.ks 5 - if1 a ((dS a * eS a) % a.p * a.delta)) % a.p = keyT a := by
 rw [dot5]; unfold keyT key; refine congrArg (· % a.p) ?_; omega
theorem w_first0 (i : Nat) : -252 ≤ num [1, 0, -1, 0, 0] i ∧ num [1, 0, -1, 0, 0] i ≤ 252 := num5 (P := fun x => -252 ≤ x ∧ x ≤ 252) 1 0 (-1) 0 0 (by omega) (by omega) i
theorem w_first1 (i : Nat) : -252 ≤ num [0, 1, 0, -1, 0] i ∧ num [0, 1, 0, -1, 0] i ≤ 252 := num5 (P := fun x => -252 ≤ x ∧ x ≤ 252) 0 1 0 (-1) 0 (by omega) (by omega) i
theorem w_third (ok : Ok a k) (i : Nat) : -252 ≤ num [0, 0, eS a, dS a, 1] i ∧ num [0, 0, eS a, dS a, 1] i ≤ 252 := by
 have := ok.eS; have := ok.dS; have := ok.p2
 exact num5 (P := fun x => -252 ≤ x ∧ x ≤ 252) 0 0 (eS a) (dS a) 1 (by omega) (by omega) i
theorem de_rng (ok : Ok a k) : -1000000 ≤ dS a * eS a ∧ dS a * eS a ≤ 1000000 := by
 have := ok.eS; have := ok.dS; have := ok.p2
 have := prod252 (dS a) (eS a) (by omega) (by omega) (by omega) (by omega)
 omega
theorem msk_rng (ok : Ok a k) (i : Int) : -1000000 ≤ msk a i ∧ msk a i ≤ 1000000 := by
 have := ok.msk i; have := ok.p2; omega
end
theorem own_f0 (a : Pl) (k : Nat) (As Ak Ah : Option Addr) (ns cs nk ck nh ch : Nat) (hs : List Hd) (w : World) (ok : Ok a k) (h : RdP w a As Ak Ah ns cs nk ck nh ch hs) :
  Calls Tryd.prog 117 #[.agg #[.int .i64 a.p, .int .i64 a.party, .int .i64 a.x, .int .i64 a.mask, .int .i64 a.delta, .slice As ns cs, .slice Ak nk ck, .int .i64 a.step, .slice Ah nh ch, .int .i64 a.status, .int .i64 a.out], .agg #[.int .i64 1, .int .i64 0, .int .i64 (-1), .int .i64 0, .int .i64 0, .int .i64 (msk a 0)]] w fun e w' => e = .returned (.agg #[.int .i64 (secV a 0), .int .i64 (secT a 0)]) ∧ Bl w w' := by
 have c := impl_own a k As Ak Ah ns cs nk ck nh ch hs (msk a 0) 1 0 (-1) 0 0 w ok h (msk_rng ok 0) (w_first0)
 rw [own_v0 a, own_t0 a] at c
 exact c
theorem own_f1 (a : Pl) (k : Nat) (As Ak Ah : Option Addr) (ns cs nk ck nh ch : Nat) (hs : List Hd) (w : World) (ok : Ok a k) (h : RdP w a As Ak Ah ns cs nk ck nh ch hs) :
  Calls Tryd.prog 117 #[.agg #[.int .i64 a.p, .int .i64 a.party, .int .i64 a.x, .int .i64 a.mask, .int .i64 a.delta, .slice As ns cs, .slice Ak nk ck, .int .i64 a.step, .slice Ah nh ch, .int .i64 a.status, .int .i64 a.out], .agg #[.int .i64 0, .int .i64 1, .int .i64 0, .int .i64 (-1), .int .i64 0, .int .i64 (msk a 1)]] w fun e w' => e = .returned (.agg #[.int .i64 (secV a 1), .int .i64 (secT a 1)]) ∧ Bl w w' := by
 have c := impl_own a k As Ak Ah ns cs nk ck nh ch hs (msk a 1) 0 1 0 (-1) 0 w ok h (msk_rng ok 1) (w_first1)
 rw [own_v1 a, own_t1 a] at c
 exact c
theorem own_th (a : Pl) (k : Nat) (As Ak Ah : Option Addr) (ns cs nk ck nh ch : Nat) (hs : List Hd) (w : World) (ok : Ok a k) (h : RdP w a As Ak Ah ns cs nk ck nh ch hs) :
  Calls Tryd.prog 117 #[.agg #[.int .i64 a.p, .int .i64 a.party, .int .i64 a.x, .int .i64 a.mask, .int .i64 a.delta, .slice As ns cs, .slice Ak nk ck, .int .i64 a.step, .slice Ah nh ch, .int .i64 a.status, .int .i64 a.out], .agg #[.int .i64 0, .int .i64 0, .int .i64 (eS a), .int .i64 (dS a), .int .i64 1, .int .i64 (dS a * eS a)]] w fun e w' => e = .returned (.agg #[.int .i64 (thV a), .int .i64 (thT a)]) ∧ Bl w w' := by
 have c := impl_own a k As Ak Ah ns cs nk ck nh ch hs (dS a * eS a) 0 0 (eS a) (dS a) 1 w ok h (de_rng ok) (w_third ok)
 rw [own_v2 a, own_t2 a] at c
 exact c
theorem key_f0 (a : Pl) (k : Nat) (As Ak Ah : Option Addr) (ns cs nk ck nh ch : Nat) (hs : List Hd) (w : World) (ok : Ok a k) (h : RdP w a As Ak Ah ns cs nk ck nh ch hs) :
  Calls Tryd.prog 126 #[.agg #[.int .i64 a.p, .int .i64 a.party, .int .i64 a.x, .int .i64 a.mask, .int .i64 a.delta, .slice As ns cs, .slice Ak nk ck, .int .i64 a.step, .slice Ah nh ch, .int .i64 a.status, .int .i64 a.out], .agg #[.int .i64 1, .int .i64 0, .int .i64 (-1), .int .i64 0, .int .i64 0, .int .i64 (msk a 0)]] w fun e w' => e = .returned (.int .i64 (keyS a 0)) ∧ Bl w w' := by
 have c := impl_keyOf a k As Ak Ah ns cs nk ck nh ch hs (msk a 0) 1 0 (-1) 0 0 w ok h (msk_rng ok 0) (w_first0)
 rw [key_0 ok] at c
 exact c
theorem key_f1 (a : Pl) (k : Nat) (As Ak Ah : Option Addr) (ns cs nk ck nh ch : Nat) (hs : List Hd) (w : World) (ok : Ok a k) (h : RdP w a As Ak Ah ns cs nk ck nh ch hs) :
  Calls Tryd.prog 126 #[.agg #[.int .i64 a.p, .int .i64 a.party, .int .i64 a.x, .int .i64 a.mask, .int .i64 a.delta, .slice As ns cs, .slice Ak nk ck, .int .i64 a.step, .slice Ah nh ch, .int .i64 a.status, .int .i64 a.out], .agg #[.int .i64 0, .int .i64 1, .int .i64 0, .int .i64 (-1), .int .i64 0, .int .i64 (msk a 1)]] w fun e w' => e = .returned (.int .i64 (keyS a 1)) ∧ Bl w w' := by
 have c := impl_keyOf a k As Ak Ah ns cs nk ck nh ch hs (msk a 1) 0 1 0 (-1) 0 w ok h (msk_rng ok 1) (w_first1)
 rw [key_1 ok] at c
 exact c
theorem key_th (a : Pl) (k : Nat) (As Ak Ah : Option Addr) (ns cs nk ck nh ch : Nat) (hs : List Hd) (w : World) (ok : Ok a k) (h : RdP w a As Ak Ah ns cs nk ck nh ch hs) :
  Calls Tryd.prog 126 #[.agg #[.int .i64 a.p, .int .i64 a.party, .int .i64 a.x, .int .i64 a.mask, .int .i64 a.delta, .slice As ns cs, .slice Ak nk ck, .int .i64 a.step, .slice Ah nh ch, .int .i64 a.status, .int .i64 a.out], .agg #[.int .i64 0, .int .i64 0, .int .i64 (eS a), .int .i64 (dS a), .int .i64 1, .int .i64 (dS a * eS a)]] w fun e w' => e = .returned (.int .i64 (keyT a)) ∧ Bl w w' := by
 have c := impl_keyOf a k As Ak Ah ns cs nk ck nh ch hs (dS a * eS a) 0 0 (eS a) (dS a) 1 w ok h (de_rng ok) (w_third ok)
 rw [key_2 a] at c
 exact c
set_option maxRecDepth 20000 in
set_option maxHeartbeats 1000000 in
theorem impl_terms1 (a : Pl) (k : Nat) (As Ak Ah : Option Addr) (ns cs nk ck nh ch : Nat) (hs : List Hd) (s : Int) (w : World) (hs1 : s = 1) (ok : Ok a k) (hk : 1 ≤ k) (h : RdP w a As Ak Ah ns cs nk ck nh ch hs) :
  Calls Tryd.prog 116 #[.agg #[.int .i64 a.p, .int .i64 a.party, .int .i64 a.x, .int .i64 a.mask, .int .i64 a.delta, .slice As ns cs, .slice Ak nk ck, .int .i64 a.step, .slice Ah nh ch, .int .i64 a.status, .int .i64 a.out], .int .i64 s] w fun e w' => ∃ g, e = .returned (.slice (some ⟨g, 0, none⟩) 2 2) ∧ Blk w' g 141 #[.int .i64 1, .int .i64 0, .int .i64 (-1), .int .i64 0, .int .i64 0, .int .i64 (msk a 0), .int .i64 0, .int .i64 1, .int .i64 0, .int .i64 (-1), .int .i64 0, .int .i64 (msk a 1)] ∧ w.heap.size ≤ g ∧ Bl w w' := by
 subst hs1
 have HM := Lib.hid (fun (w' : World) (hb : Bl w w') => impl_masked a k As Ak Ah ns cs nk ck nh ch hs w' ok hk (h.keep hb))
 go_enter Tryd.func116, Tryd.ntmps116
 go_wp2_with (go_at_call 123; refine (HM.out _ Bl.a2).mono ?_; rintro e w1 ⟨rfl, hb1⟩; have hbw : Bl w w1 := Bl.a2)
 go_ret
 exact ⟨_, rfl, Blk.new _ _ _, hbw.sz, Bl.a2⟩
set_option maxRecDepth 20000 in
set_option maxHeartbeats 4000000 in
theorem impl_terms2 (a : Pl) (k : Nat) (As Ak Ah : Option Addr) (ns cs nk ck nh ch : Nat) (hs : List Hd) (s : Int) (w : World) (hs1 : s = 2) (ok : Ok a k) (hk : 2 ≤ k) (h : RdP w a As Ak Ah ns cs nk ck nh ch hs) :
  Calls Tryd.prog 116 #[.agg #[.int .i64 a.p, .int .i64 a.party, .int .i64 a.x, .int .i64 a.mask, .int .i64 a.delta, .slice As ns cs, .slice Ak nk ck, .int .i64 a.step, .slice Ah nh ch, .int .i64 a.status, .int .i64 a.out], .int .i64 s] w fun e w' => ∃ g, e = .returned (.slice (some ⟨g, 0, none⟩) 1 1) ∧ Blk w' g 141 #[.int .i64 0, .int .i64 0, .int .i64 (eS a), .int .i64 (dS a), .int .i64 1, .int .i64 (dS a * eS a)] ∧ w.heap.size ≤ g ∧ Bl w w' := by
 subst hs1
 have p2 := ok.p2
 have b1 := ok.secV 0
 have b2 := ok.secV 1
 have b3 := ok.said_rng 1 0
 have b4 := ok.said_rng 1 2
 have b5 := de_rng ok
 have e1 : (secV a 0 + said a 1 0) % a.p = dS a := rfl
 have e2 : (secV a 1 + said a 1 2) % a.p = eS a := rfl
 have E1 := Lib.hid e1
 have E2 := Lib.hid e2
 clear e1 e2
 have HM := Lib.hid (fun (w' : World) (hb : Bl w w') => impl_masked a k As Ak Ah ns cs nk ck nh ch hs w' ok (by omega) (h.keep hb))
 have HO0 := Lib.hid (fun (w' : World) (hb : Bl w w') => own_f0 a k As Ak Ah ns cs nk ck nh ch hs w' ok (h.keep hb))
 have HO1 := Lib.hid (fun (w' : World) (hb : Bl w w') => own_f1 a k As Ak Ah ns cs nk ck nh ch hs w' ok (h.keep hb))
 obtain ⟨ad, ad0, c0, rfl, hn, q0, hc1, hc2, q1, q2⟩ := h.hear1 ok hk
 have Q0 := Lib.hid q0
 have Q1 := Lib.hid q1
 have Q2 := Lib.hid q2
 clear q0 q1 q2
 have hW : Bl w (w.alloc (.cells #[.int .i64 a.p, .int .i64 a.party, .int .i64 a.x, .int .i64 a.mask, .int .i64 a.delta, .slice As ns cs, .slice Ak nk ck, .int .i64 a.step, .slice (some ad) nh ch, .int .i64 a.status, .int .i64 a.out] 34)) := Bl.a2
 have hB : Blk (w.alloc (.cells #[.int .i64 a.p, .int .i64 a.party, .int .i64 a.x, .int .i64 a.mask, .int .i64 a.delta, .slice As ns cs, .slice Ak nk ck, .int .i64 a.step, .slice (some ad) nh ch, .int .i64 a.status, .int .i64 a.out] 34)) (w.heap.size) 34 #[.int .i64 a.p, .int .i64 a.party, .int .i64 a.x, .int .i64 a.mask, .int .i64 a.delta, .slice As ns cs, .slice Ak nk ck, .int .i64 a.step, .slice (some ad) nh ch, .int .i64 a.status, .int .i64 a.out] := (Blk.new w 34 #[.int .i64 a.p, .int .i64 a.party, .int .i64 a.x, .int .i64 a.mask, .int .i64 a.delta, .slice As ns cs, .slice Ak nk ck, .int .i64 a.step, .slice (some ad) nh ch, .int .i64 a.status, .int .i64 a.out] (g := w.heap.size))
 have z1 : IntKind.i64.wrap (secV a 0 + said a 1 0) = secV a 0 + said a 1 0 := IntWalk.i64_in _ (by omega)
 have z2 : IntKind.i64.wrap (secV a 1 + said a 1 2) = secV a 1 + said a 1 2 := IntWalk.i64_in _ (by omega)
 have z3 : IntKind.i64.wrap (dS a * eS a) = dS a * eS a := IntWalk.i64_in _ (by omega)
 have hfd := run_fieldT0
 go_enter Tryd.func116, Tryd.ntmps116
 go_wp2_with (go_at_call 123; refine (HM.out _ Bl.a2).mono ?_; rintro e w1 ⟨rfl, hb1⟩; replace hW : Bl w w1 := Bl.a2; replace hB := hB.kp hb1; (try clear B_l B_f B_0 B_1 B_2 B_3 B_4 B_5 B_6 B_7 B_8 B_9 B_10); obtain ⟨B_l, B_f, B_0, B_1, B_2, B_3, B_4, B_5, B_6, B_7, B_8, B_9, B_10⟩ := hB.l11)
 have hF : Blk (w1.alloc (.cells #[.int .i64 1, .int .i64 0, .int .i64 (-1), .int .i64 0, .int .i64 0, .int .i64 (msk a 0), .int .i64 0, .int .i64 1, .int .i64 0, .int .i64 (-1), .int .i64 0, .int .i64 (msk a 1)] 141)) w1.heap.size 141 #[.int .i64 1, .int .i64 0, .int .i64 (-1), .int .i64 0, .int .i64 0, .int .i64 (msk a 0), .int .i64 0, .int .i64 1, .int .i64 0, .int .i64 (-1), .int .i64 0, .int .i64 (msk a 1)] := Blk.new _ _ _
 replace hB := hB.alloc (.cells #[.int .i64 1, .int .i64 0, .int .i64 (-1), .int .i64 0, .int .i64 0, .int .i64 (msk a 0), .int .i64 0, .int .i64 1, .int .i64 0, .int .i64 (-1), .int .i64 0, .int .i64 (msk a 1)] 141)
 replace hW := hW.alloc (.cells #[.int .i64 1, .int .i64 0, .int .i64 (-1), .int .i64 0, .int .i64 0, .int .i64 (msk a 0), .int .i64 0, .int .i64 1, .int .i64 0, .int .i64 (-1), .int .i64 0, .int .i64 (msk a 1)] 141)
 have hgl : w.heap.size < w1.heap.size := B_l
 generalize w1.alloc (.cells #[.int .i64 1, .int .i64 0, .int .i64 (-1), .int .i64 0, .int .i64 0, .int .i64 (msk a 0), .int .i64 0, .int .i64 1, .int .i64 0, .int .i64 (-1), .int .i64 0, .int .i64 (msk a 1)] 141) = wz at hF hB hW ⊢
 generalize w1.heap.size = g at hF hgl ⊢
 clear hb1
 (try clear B_l B_f B_0 B_1 B_2 B_3 B_4 B_5 B_6 B_7 B_8 B_9 B_10)
 obtain ⟨B_l, B_f, B_0, B_1, B_2, B_3, B_4, B_5, B_6, B_7, B_8, B_9, B_10⟩ := hB.l11
 have F_l := hF.lt
 have F_0 := hF.cell 0 _ rfl; have F_1 := hF.cell 1 _ rfl; have F_2 := hF.cell 2 _ rfl; have F_3 := hF.cell 3 _ rfl; have F_4 := hF.cell 4 _ rfl; have F_5 := hF.cell 5 _ rfl; have F_6 := hF.cell 6 _ rfl; have F_7 := hF.cell 7 _ rfl; have F_8 := hF.cell 8 _ rfl; have F_9 := hF.cell 9 _ rfl; have F_10 := hF.cell 10 _ rfl; have F_11 := hF.cell 11 _ rfl
 have q0 := hW.cells Q0.out
 have q1 := hW.cells Q1.out
 have q2 := hW.cells Q2.out
 go_region_held3 (fun w' => w'.cell? ⟨w.heap.size, 0, none⟩ = some (.int .i64 a.p) ∧ w'.cell? ⟨w.heap.size, 1, none⟩ = some (.int .i64 a.party) ∧ w'.cell? ⟨w.heap.size, 2, none⟩ = some (.int .i64 a.x) ∧ w'.cell? ⟨w.heap.size, 3, none⟩ = some (.int .i64 a.mask) ∧ w'.cell? ⟨w.heap.size, 4, none⟩ = some (.int .i64 a.delta) ∧ w'.cell? ⟨w.heap.size, 5, none⟩ = some (.slice As ns cs) ∧ w'.cell? ⟨w.heap.size, 6, none⟩ = some (.slice Ak nk ck) ∧ w'.cell? ⟨w.heap.size, 7, none⟩ = some (.int .i64 a.step) ∧ w'.cell? ⟨w.heap.size, 8, none⟩ = some (.slice (some ad) nh ch) ∧ w'.cell? ⟨w.heap.size, 9, none⟩ = some (.int .i64 a.status) ∧ w'.cell? ⟨w.heap.size, 10, none⟩ = some (.int .i64 a.out) ∧ w'.cell? ⟨g, 0, none⟩ = some (.int .i64 1) ∧ w'.cell? ⟨g, 1, none⟩ = some (.int .i64 0) ∧ w'.cell? ⟨g, 2, none⟩ = some (.int .i64 (-1)) ∧ w'.cell? ⟨g, 3, none⟩ = some (.int .i64 0) ∧ w'.cell? ⟨g, 4, none⟩ = some (.int .i64 0) ∧ w'.cell? ⟨g, 5, none⟩ = some (.int .i64 (msk a 0)) ∧ w'.cell? ⟨ad.block, ad.off + 1, none⟩ = some (.slice (some ad0) 4 c0) ∧ w'.cell? ad0 = some (.int .i64 (said a 1 0)) ∧ w'.cell? ⟨ad0.block, ad0.off + 2, none⟩ = some (.int .i64 (said a 1 2))) (first | exact ⟨B_0, B_1, B_2, B_3, B_4, B_5, B_6, B_7, B_8, B_9, B_10, F_0, F_1, F_2, F_3, F_4, F_5, q0, q1, q2⟩ | go_keep) (first | (go_at_call 117; refine (HO0.out _ Bl.a2).mono ?_; rintro e w1 ⟨rfl, hb1⟩; replace hW : Bl w w1 := Bl.a2; replace hB := hB.kp hb1; (try clear B_l B_f B_0 B_1 B_2 B_3 B_4 B_5 B_6 B_7 B_8 B_9 B_10); obtain ⟨B_l, B_f, B_0, B_1, B_2, B_3, B_4, B_5, B_6, B_7, B_8, B_9, B_10⟩ := hB.l11; replace hF := hF.kp hb1; (try clear F_l F_0 F_1 F_2 F_3 F_4 F_5 F_6 F_7 F_8 F_9 F_10 F_11); obtain ⟨F_l, -, F_0, F_1, F_2, F_3, F_4, F_5, F_6, F_7, F_8, F_9, F_10, F_11⟩ := hF.l12; (try clear q0 q1 q2); have q0 := hW.cells Q0.out; have q1 := hW.cells Q1.out; have q2 := hW.cells Q2.out) | (go_at_call 45; refine (impl_mod _ _ _ (by omega) (by omega) (by omega) (by omega)).mono ?_; rintro e w2 ⟨rfl, rfl⟩))
 rw [E1.out]
 go_wp2
 have hgl2 : w.heap.size < g := hgl
 go_region_held3 (fun w' => w'.cell? ⟨w.heap.size, 0, none⟩ = some (.int .i64 a.p) ∧ w'.cell? ⟨w.heap.size, 1, none⟩ = some (.int .i64 a.party) ∧ w'.cell? ⟨w.heap.size, 2, none⟩ = some (.int .i64 a.x) ∧ w'.cell? ⟨w.heap.size, 3, none⟩ = some (.int .i64 a.mask) ∧ w'.cell? ⟨w.heap.size, 4, none⟩ = some (.int .i64 a.delta) ∧ w'.cell? ⟨w.heap.size, 5, none⟩ = some (.slice As ns cs) ∧ w'.cell? ⟨w.heap.size, 6, none⟩ = some (.slice Ak nk ck) ∧ w'.cell? ⟨w.heap.size, 7, none⟩ = some (.int .i64 a.step) ∧ w'.cell? ⟨w.heap.size, 8, none⟩ = some (.slice (some ad) nh ch) ∧ w'.cell? ⟨w.heap.size, 9, none⟩ = some (.int .i64 a.status) ∧ w'.cell? ⟨w.heap.size, 10, none⟩ = some (.int .i64 a.out) ∧ w'.cell? ⟨g, 6, none⟩ = some (.int .i64 0) ∧ w'.cell? ⟨g, 7, none⟩ = some (.int .i64 1) ∧ w'.cell? ⟨g, 8, none⟩ = some (.int .i64 0) ∧ w'.cell? ⟨g, 9, none⟩ = some (.int .i64 (-1)) ∧ w'.cell? ⟨g, 10, none⟩ = some (.int .i64 0) ∧ w'.cell? ⟨g, 11, none⟩ = some (.int .i64 (msk a 1)) ∧ w'.cell? ⟨ad.block, ad.off + 1, none⟩ = some (.slice (some ad0) 4 c0) ∧ w'.cell? ad0 = some (.int .i64 (said a 1 0)) ∧ w'.cell? ⟨ad0.block, ad0.off + 2, none⟩ = some (.int .i64 (said a 1 2))) (first | exact ⟨B_0, B_1, B_2, B_3, B_4, B_5, B_6, B_7, B_8, B_9, B_10, F_6, F_7, F_8, F_9, F_10, F_11, q0, q1, q2⟩ | go_keep) (first | (go_at_call 117; refine (HO1.out _ Bl.a2).mono ?_; rintro e w1 ⟨rfl, hb1⟩; replace hW : Bl w w1 := Bl.a2; replace hB := hB.kp hb1; (try clear B_l B_f B_0 B_1 B_2 B_3 B_4 B_5 B_6 B_7 B_8 B_9 B_10); obtain ⟨B_l, B_f, B_0, B_1, B_2, B_3, B_4, B_5, B_6, B_7, B_8, B_9, B_10⟩ := hB.l11; replace hF := hF.kp hb1; (try clear F_l F_0 F_1 F_2 F_3 F_4 F_5 F_6 F_7 F_8 F_9 F_10 F_11); obtain ⟨F_l, -, F_0, F_1, F_2, F_3, F_4, F_5, F_6, F_7, F_8, F_9, F_10, F_11⟩ := hF.l12; (try clear q0 q1 q2); have q0 := hW.cells Q0.out; have q1 := hW.cells Q1.out; have q2 := hW.cells Q2.out) | (go_at_call 45; refine (impl_mod _ _ _ (by omega) (by omega) (by omega) (by omega)).mono ?_; rintro e w2 ⟨rfl, rfl⟩))
 rw [E2.out]
 go_wp2
 go_ret
 exact ⟨_, rfl, Blk.new _ _ _, hW.sz, Bl.a2⟩
end Go.Proofs.YtcjpalhclgkjiaaDoor
