/- Contracts: a player's masked inputs, own shares and keys.
   Conditions: the player is valid. -/
import Derived.Test.YtcjpalhclgkjiaaDoorPik
namespace Go.Proofs.YtcjpalhclgkjiaaDoor
open Go.RowKit
set_option linter.unusedVariables false
section
variable {w : World} {a : Pl} {k : Nat} {As Ak Ah : Option Addr} {ns cs nk ck nh ch : Nat} {hs : List Hd}
theorem RdP.nh_eq (h : RdP w a As Ak Ah ns cs nk ck nh ch hs) (ok : Ok a k) : nh = k := h.hd.l_eq.symm.trans ok.hdn
theorem RdP.ns_eq (h : RdP w a As Ak Ah ns cs nk ck nh ch hs) (ok : Ok a k) : ns = 5 := h.sh.2.symm.trans ok.shn
theorem RdP.nk_eq (h : RdP w a As Ak Ah ns cs nk ck nh ch hs) (ok : Ok a k) : nk = 5 := h.ks.length.symm.trans ok.ksn
/-- What was heard in step i, by its cells. -/
theorem RdP.hear (h : RdP w a As Ak Ah ns cs nk ck nh ch hs) (ok : Ok a k) {i : Nat} (hi : i < k) : ∃ (ad ad0 : Addr) (n0 c0 : Nat) (b : List Int), Ah = some ad ∧ w.cell? (ad.add i) = some (.slice (some ad0) n0 c0) ∧ n0 = bodyN i ∧ n0 ≤ c0 ∧ c0 ≤ 9223372036854775807 ∧
  RdI w (some ad0) n0 c0 b ∧ a.hd[i]? = some b := by
 obtain ⟨ad, x, l, rfl, hl, hc, hr⟩ := h.hd.at_ (k := i) (by rw [h.nh_eq ok]; exact hi)
 have hx := (ok.hd i l hl).1
 have hn : x.n = bodyN i := hr.length.symm.trans hx
 have hb : 1 ≤ bodyN i := by unfold bodyN; split; omega; split <;> omega
 obtain ⟨ad0, e, _⟩ := hr.lit (by omega)
 obtain ⟨h1, h2⟩ := hr.le
 rw [e] at hc hr
 exact ⟨ad, ad0, x.n, x.c, l, rfl, hc, hn, h1, h2, hr, hl⟩
theorem RdP.hear0 (h : RdP w a As Ak Ah ns cs nk ck nh ch hs) (ok : Ok a k) (hk : 1 ≤ k) : ∃ (ad ad0 : Addr) (c0 : Nat), Ah = some ad ∧ (0 : Int) < nh ∧ w.cell? ad = some (.slice (some ad0) 1 c0) ∧ 1 ≤ c0 ∧ c0 ≤ 9223372036854775807 ∧ w.cell? ad0 = some (.int .i64 (said a 0 0)) := by
 obtain ⟨ad, ad0, n0, c0, b, e, hc, hn, h1, h2, hr, hl⟩ := h.hear ok (i := 0) (by omega)
 have hn : n0 = 1 := hn
 subst hn
 obtain ⟨ad1, e1, _, hz, _⟩ := hr.lit (by omega)
 injection e1 with e1
 subst e1
 have hnh := h.nh_eq ok
 refine ⟨ad, ad0, c0, e, by omega, hc, h1, h2, hz _ ?_⟩
 have hbl : b.length = 1 := hr.length
 unfold said num
 rw [hl, Option.getD_some, List.getElem?_eq_getElem (by omega), Option.getD_some]
theorem RdP.hear1 (h : RdP w a As Ak Ah ns cs nk ck nh ch hs) (ok : Ok a k) (hk : 2 ≤ k) : ∃ (ad ad0 : Addr) (c0 : Nat), Ah = some ad ∧ (1 : Int) < nh ∧ w.cell? ⟨ad.block, ad.off + 1, none⟩ = some (.slice (some ad0) 4 c0) ∧ 4 ≤ c0 ∧ c0 ≤ 9223372036854775807 ∧ w.cell? ad0 = some (.int .i64 (said a 1 0)) ∧
  w.cell? ⟨ad0.block, ad0.off + 2, none⟩ = some (.int .i64 (said a 1 2)) := by
 obtain ⟨ad, ad0, n0, c0, b, e, hc, hn, h1, h2, hr, hl⟩ := h.hear ok (i := 1) (by omega)
 have hn : n0 = 4 := hn
 subst hn
 obtain ⟨ad1, e1, _, hz, hz2⟩ := hr.lit (by omega)
 injection e1 with e1
 subst e1
 have hnh := h.nh_eq ok
 have hbl : b.length = 4 := hr.length
 rw [show ad.add 1 = ⟨ad.block, ad.off + 1, none⟩ by unfold Addr.add; rw [if_neg (by omega)]] at hc
 refine ⟨ad, ad0, c0, e, by omega, hc, h1, h2, hz _ ?_, hz2 2 _ (by omega) ?_⟩
 all_goals unfold said num
 all_goals rw [hl, Option.getD_some, List.getElem?_eq_getElem (by omega), Option.getD_some]
theorem sh_rng (ok : Ok a k) : (∀ i, -252 ≤ num (a.sh.map Tg.v) i ∧ num (a.sh.map Tg.v) i ≤ 252) ∧ ∀ i, -252 ≤ num (a.sh.map Tg.t) i ∧ num (a.sh.map Tg.t) i ≤ 252 := by
 have hp := ok.p2
 constructor
 all_goals intro i
 all_goals unfold num
 all_goals rw [List.getElem?_map]
 all_goals rcases hx : a.sh[i]? with _ | y
 ·simp
 ·have := ok.sh y (List.mem_of_getElem? hx); simp; omega
 ·simp
 ·have := ok.sh y (List.mem_of_getElem? hx); simp; omega
theorem ks_rng (ok : Ok a k) (i : Nat) : -252 ≤ num a.ks i ∧ num a.ks i ≤ 252 := by
 have hp := ok.p2
 have := ok.key_rng i
 unfold key at this
 omega
end
set_option maxRecDepth 20000 in
set_option maxHeartbeats 1000000 in
theorem impl_masked (a : Pl) (k : Nat) (As Ak Ah : Option Addr) (ns cs nk ck nh ch : Nat) (hs : List Hd) (w : World) (ok : Ok a k) (hk : 1 ≤ k) (h : RdP w a As Ak Ah ns cs nk ck nh ch hs) :
  Calls Tryd.prog 123 #[.agg #[.int .i64 a.p, .int .i64 a.party, .int .i64 a.x, .int .i64 a.mask, .int .i64 a.delta, .slice As ns cs, .slice Ak nk ck, .int .i64 a.step, .slice Ah nh ch, .int .i64 a.status, .int .i64 a.out]] w fun e w' => e = .returned (.tuple #[.int .i64 (msk a 0), .int .i64 (msk a 1)]) ∧ Bl w w' := by
 have p2 := ok.p2
 have px := ok.x
 have pm := ok.mask
 obtain ⟨ad, ad0, c0, rfl, hn, q0, hc1, hc2, q1⟩ := h.hear0 ok hk
 have hW : Bl w (w.alloc (.cells #[.int .i64 a.p, .int .i64 a.party, .int .i64 a.x, .int .i64 a.mask, .int .i64 a.delta, .slice As ns cs, .slice Ak nk ck, .int .i64 a.step, .slice (some ad) nh ch, .int .i64 a.status, .int .i64 a.out] 34)) := Bl.a2
 have hB : Blk (w.alloc (.cells #[.int .i64 a.p, .int .i64 a.party, .int .i64 a.x, .int .i64 a.mask, .int .i64 a.delta, .slice As ns cs, .slice Ak nk ck, .int .i64 a.step, .slice (some ad) nh ch, .int .i64 a.status, .int .i64 a.out] 34)) (w.heap.size) 34 #[.int .i64 a.p, .int .i64 a.party, .int .i64 a.x, .int .i64 a.mask, .int .i64 a.delta, .slice As ns cs, .slice Ak nk ck, .int .i64 a.step, .slice (some ad) nh ch, .int .i64 a.status, .int .i64 a.out] := (Blk.new w 34 #[.int .i64 a.p, .int .i64 a.party, .int .i64 a.x, .int .i64 a.mask, .int .i64 a.delta, .slice As ns cs, .slice Ak nk ck, .int .i64 a.step, .slice (some ad) nh ch, .int .i64 a.status, .int .i64 a.out] (g := w.heap.size))
 have q0 := hW.cells q0
 have q1 := hW.cells q1
 rcases ok.party with hp | hp
 ·have hpb : (a.party == 0) = true := by rw [hp]; rfl
  have e0 : msk a 0 = (a.x - a.mask) % a.p := by unfold msk; rw [if_pos hp]; rfl
  have e1 : msk a 1 = said a 0 0 := by unfold msk; rw [if_neg (by omega)]
  have E0 := Lib.hid e0
  have E1 := Lib.hid e1
  clear e0 e1 hp
  go_enter Tryd.func123, Tryd.ntmps123
  go_wp2_with (go_at_call 45; refine (impl_mod _ _ _ (by omega) (by omega) (by omega) (by omega)).mono ?_; rintro e w2 ⟨rfl, rfl⟩)
  go_quiet (fail)
  go_wp2
  go_ret2
  exact ⟨by rw [E0.out, E1.out]; rfl, Bl.a1⟩
 ·have hpb : (a.party == 0) = false := by rw [hp]; rfl
  have e0 : msk a 0 = said a 0 0 := by unfold msk; rw [if_neg (by omega)]
  have e1 : msk a 1 = (a.x - a.mask) % a.p := by unfold msk; rw [if_pos hp]; rfl
  have E0 := Lib.hid e0
  have E1 := Lib.hid e1
  clear e0 e1 hp
  go_enter Tryd.func123, Tryd.ntmps123
  go_wp2_with (go_at_call 45; refine (impl_mod _ _ _ (by omega) (by omega) (by omega) (by omega)).mono ?_; rintro e w2 ⟨rfl, rfl⟩)
  go_ret2
  exact ⟨by rw [E0.out, E1.out]; rfl, Bl.a1⟩
set_option maxRecDepth 20000 in
set_option maxHeartbeats 1000000 in
theorem impl_own (a : Pl) (k : Nat) (As Ak Ah : Option Addr) (ns cs nk ck nh ch : Nat) (hs : List Hd) (more x0 x1 x2 x3 x4 : Int) (w : World) (ok : Ok a k) (h : RdP w a As Ak Ah ns cs nk ck nh ch hs) (hm : -1000000 ≤ more ∧ more ≤ 1000000) (hw : ∀ i, -252 ≤ num [x0, x1, x2, x3, x4] i ∧ num [x0, x1, x2, x3, x4] i ≤ 252) :
  Calls Tryd.prog 117 #[.agg #[.int .i64 a.p, .int .i64 a.party, .int .i64 a.x, .int .i64 a.mask, .int .i64 a.delta, .slice As ns cs, .slice Ak nk ck, .int .i64 a.step, .slice Ah nh ch, .int .i64 a.status, .int .i64 a.out], .agg #[.int .i64 x0, .int .i64 x1, .int .i64 x2, .int .i64 x3, .int .i64 x4, .int .i64 more]] w
   fun e w' => e = .returned (.agg #[.int .i64 ((if0 a more + dotv [x0, x1, x2, x3, x4] (a.sh.map Tg.v) 5) % a.p), .int .i64 (dotv [x0, x1, x2, x3, x4] (a.sh.map Tg.t) 5 % a.p)]) ∧ Bl w w' := by
 have p2 := ok.p2
 obtain ⟨sv, st⟩ := sh_rng ok
 have hns := h.ns_eq ok
 generalize hqv : (if0 a more + dotv [x0, x1, x2, x3, x4] (a.sh.map Tg.v) 5) % a.p = qv
 generalize hqt : dotv [x0, x1, x2, x3, x4] (a.sh.map Tg.t) 5 % a.p = qt
 rcases ok.party with hp | hp
 ·have hpb : (a.party == 1) = false := by rw [hp]; rfl
  have HC := Lib.hid (fun (w' : World) (hb : Bl w w') => impl_combine a.p more x0 x1 x2 x3 x4 As ns cs a.sh w' (h.sh.keep hb) hns p2 (by omega) hw sv st)
  rw [show (more : Int) = if0 a more by unfold if0; rw [if_pos hp]] at HC
  rw [hqv, hqt, ← show (more : Int) = if0 a more by unfold if0; rw [if_pos hp]] at HC
  clear hqv hqt sv st hw hp hns
  have hW : Bl w (((w.alloc (.cells #[.int .i64 a.p, .int .i64 a.party, .int .i64 a.x, .int .i64 a.mask, .int .i64 a.delta, .slice As ns cs, .slice Ak nk ck, .int .i64 a.step, .slice Ah nh ch, .int .i64 a.status, .int .i64 a.out] 34)).alloc (.cells #[.int .i64 x0, .int .i64 x1, .int .i64 x2, .int .i64 x3, .int .i64 x4, .int .i64 more] 141)).alloc (.cells #[.int .i64 0, .int .i64 0] 93)) := Bl.a2
  have hB : Blk (((w.alloc (.cells #[.int .i64 a.p, .int .i64 a.party, .int .i64 a.x, .int .i64 a.mask, .int .i64 a.delta, .slice As ns cs, .slice Ak nk ck, .int .i64 a.step, .slice Ah nh ch, .int .i64 a.status, .int .i64 a.out] 34)).alloc (.cells #[.int .i64 x0, .int .i64 x1, .int .i64 x2, .int .i64 x3, .int .i64 x4, .int .i64 more] 141)).alloc (.cells #[.int .i64 0, .int .i64 0] 93)) (w.heap.size) 34 #[.int .i64 a.p, .int .i64 a.party, .int .i64 a.x, .int .i64 a.mask, .int .i64 a.delta, .slice As ns cs, .slice Ak nk ck, .int .i64 a.step, .slice Ah nh ch, .int .i64 a.status, .int .i64 a.out] := (((Blk.new w 34 #[.int .i64 a.p, .int .i64 a.party, .int .i64 a.x, .int .i64 a.mask, .int .i64 a.delta, .slice As ns cs, .slice Ak nk ck, .int .i64 a.step, .slice Ah nh ch, .int .i64 a.status, .int .i64 a.out] (g := w.heap.size)).alloc (.cells #[.int .i64 x0, .int .i64 x1, .int .i64 x2, .int .i64 x3, .int .i64 x4, .int .i64 more] 141)).alloc (.cells #[.int .i64 0, .int .i64 0] 93))
  have hT : Blk (((w.alloc (.cells #[.int .i64 a.p, .int .i64 a.party, .int .i64 a.x, .int .i64 a.mask, .int .i64 a.delta, .slice As ns cs, .slice Ak nk ck, .int .i64 a.step, .slice Ah nh ch, .int .i64 a.status, .int .i64 a.out] 34)).alloc (.cells #[.int .i64 x0, .int .i64 x1, .int .i64 x2, .int .i64 x3, .int .i64 x4, .int .i64 more] 141)).alloc (.cells #[.int .i64 0, .int .i64 0] 93)) (w.heap.size + 1) 141 #[.int .i64 x0, .int .i64 x1, .int .i64 x2, .int .i64 x3, .int .i64 x4, .int .i64 more] := ((Blk.new (w.alloc (.cells #[.int .i64 a.p, .int .i64 a.party, .int .i64 a.x, .int .i64 a.mask, .int .i64 a.delta, .slice As ns cs, .slice Ak nk ck, .int .i64 a.step, .slice Ah nh ch, .int .i64 a.status, .int .i64 a.out] 34)) 141 #[.int .i64 x0, .int .i64 x1, .int .i64 x2, .int .i64 x3, .int .i64 x4, .int .i64 more] (g := w.heap.size + 1)).alloc (.cells #[.int .i64 0, .int .i64 0] 93))
  have hR : Blk (((w.alloc (.cells #[.int .i64 a.p, .int .i64 a.party, .int .i64 a.x, .int .i64 a.mask, .int .i64 a.delta, .slice As ns cs, .slice Ak nk ck, .int .i64 a.step, .slice Ah nh ch, .int .i64 a.status, .int .i64 a.out] 34)).alloc (.cells #[.int .i64 x0, .int .i64 x1, .int .i64 x2, .int .i64 x3, .int .i64 x4, .int .i64 more] 141)).alloc (.cells #[.int .i64 0, .int .i64 0] 93)) (w.heap.size + 1 + 1) 93 #[.int .i64 0, .int .i64 0] := (Blk.new ((w.alloc (.cells #[.int .i64 a.p, .int .i64 a.party, .int .i64 a.x, .int .i64 a.mask, .int .i64 a.delta, .slice As ns cs, .slice Ak nk ck, .int .i64 a.step, .slice Ah nh ch, .int .i64 a.status, .int .i64 a.out] 34)).alloc (.cells #[.int .i64 x0, .int .i64 x1, .int .i64 x2, .int .i64 x3, .int .i64 x4, .int .i64 more] 141)) 93 #[.int .i64 0, .int .i64 0] (g := w.heap.size + 1 + 1))
  obtain ⟨B_l, B_f, B_0, B_1, B_2, B_3, B_4, B_5, B_6, B_7, B_8, B_9, B_10⟩ := hB.l11; obtain ⟨T_l, T_f, T_0, T_1, T_2, T_3, T_4, T_5⟩ := hT.l6; obtain ⟨R_l, R_f, R_0, R_1⟩ := hR.l2
  go_enter Tryd.func117, Tryd.ntmps117
  go_wp2_with (go_at_call 124; refine (HC.out _ Bl.a2).mono ?_; rintro e w1 ⟨rfl, hb1⟩; replace hW : Bl w w1 := Bl.a2; replace hR := hR.kp hb1; (try clear R_l R_f R_0 R_1); obtain ⟨R_l, R_f, R_0, R_1⟩ := hR.l2)
  have hbz : Bl w ((w1.setCell ⟨w.heap.size + 1 + 1, 0, none⟩ (.int .i64 qv)).setCell ⟨w.heap.size + 1 + 1, 1, none⟩ (.int .i64 qt)) := Bl.a2
  have hR2 : Blk ((w1.setCell ⟨w.heap.size + 1 + 1, 0, none⟩ (.int .i64 qv)).setCell ⟨w.heap.size + 1 + 1, 1, none⟩ (.int .i64 qt)) (w.heap.size + 1 + 1) 93 #[.int .i64 qv, .int .i64 qt] := (hR.set_ 0 _).set_ 1 _
  generalize ((w1.setCell ⟨w.heap.size + 1 + 1, 0, none⟩ (.int .i64 qv)).setCell ⟨w.heap.size + 1 + 1, 1, none⟩ (.int .i64 qt)) = wz at hbz hR2 ⊢
  have R2_0 := hR2.cell 0 _ rfl
  have R2_1 := hR2.cell 1 _ rfl
  refine bodyPost_ret (v := .agg #[.int .i64 qv, .int .i64 qt]) (by simp [results, Tryd.results117, go_sem, R2_0, R2_1]) rfl ⟨rfl, hbz⟩
 ·have hpb : (a.party == 1) = true := by rw [hp]; rfl
  have HC := Lib.hid (fun (w' : World) (hb : Bl w w') => impl_combine a.p 0 x0 x1 x2 x3 x4 As ns cs a.sh w' (h.sh.keep hb) hns p2 (by omega) hw sv st)
  rw [show (0 : Int) = if0 a more by unfold if0; rw [if_neg (by omega)]] at HC
  rw [hqv, hqt, ← show (0 : Int) = if0 a more by unfold if0; rw [if_neg (by omega)]] at HC
  clear hqv hqt sv st hw hp hns
  have hW : Bl w (((w.alloc (.cells #[.int .i64 a.p, .int .i64 a.party, .int .i64 a.x, .int .i64 a.mask, .int .i64 a.delta, .slice As ns cs, .slice Ak nk ck, .int .i64 a.step, .slice Ah nh ch, .int .i64 a.status, .int .i64 a.out] 34)).alloc (.cells #[.int .i64 x0, .int .i64 x1, .int .i64 x2, .int .i64 x3, .int .i64 x4, .int .i64 0] 141)).alloc (.cells #[.int .i64 0, .int .i64 0] 93)) := Bl.a2
  have hB : Blk (((w.alloc (.cells #[.int .i64 a.p, .int .i64 a.party, .int .i64 a.x, .int .i64 a.mask, .int .i64 a.delta, .slice As ns cs, .slice Ak nk ck, .int .i64 a.step, .slice Ah nh ch, .int .i64 a.status, .int .i64 a.out] 34)).alloc (.cells #[.int .i64 x0, .int .i64 x1, .int .i64 x2, .int .i64 x3, .int .i64 x4, .int .i64 0] 141)).alloc (.cells #[.int .i64 0, .int .i64 0] 93)) (w.heap.size) 34 #[.int .i64 a.p, .int .i64 a.party, .int .i64 a.x, .int .i64 a.mask, .int .i64 a.delta, .slice As ns cs, .slice Ak nk ck, .int .i64 a.step, .slice Ah nh ch, .int .i64 a.status, .int .i64 a.out] := (((Blk.new w 34 #[.int .i64 a.p, .int .i64 a.party, .int .i64 a.x, .int .i64 a.mask, .int .i64 a.delta, .slice As ns cs, .slice Ak nk ck, .int .i64 a.step, .slice Ah nh ch, .int .i64 a.status, .int .i64 a.out] (g := w.heap.size)).alloc (.cells #[.int .i64 x0, .int .i64 x1, .int .i64 x2, .int .i64 x3, .int .i64 x4, .int .i64 0] 141)).alloc (.cells #[.int .i64 0, .int .i64 0] 93))
  have hT : Blk (((w.alloc (.cells #[.int .i64 a.p, .int .i64 a.party, .int .i64 a.x, .int .i64 a.mask, .int .i64 a.delta, .slice As ns cs, .slice Ak nk ck, .int .i64 a.step, .slice Ah nh ch, .int .i64 a.status, .int .i64 a.out] 34)).alloc (.cells #[.int .i64 x0, .int .i64 x1, .int .i64 x2, .int .i64 x3, .int .i64 x4, .int .i64 0] 141)).alloc (.cells #[.int .i64 0, .int .i64 0] 93)) (w.heap.size + 1) 141 #[.int .i64 x0, .int .i64 x1, .int .i64 x2, .int .i64 x3, .int .i64 x4, .int .i64 0] := ((Blk.new (w.alloc (.cells #[.int .i64 a.p, .int .i64 a.party, .int .i64 a.x, .int .i64 a.mask, .int .i64 a.delta, .slice As ns cs, .slice Ak nk ck, .int .i64 a.step, .slice Ah nh ch, .int .i64 a.status, .int .i64 a.out] 34)) 141 #[.int .i64 x0, .int .i64 x1, .int .i64 x2, .int .i64 x3, .int .i64 x4, .int .i64 0] (g := w.heap.size + 1)).alloc (.cells #[.int .i64 0, .int .i64 0] 93))
  have hR : Blk (((w.alloc (.cells #[.int .i64 a.p, .int .i64 a.party, .int .i64 a.x, .int .i64 a.mask, .int .i64 a.delta, .slice As ns cs, .slice Ak nk ck, .int .i64 a.step, .slice Ah nh ch, .int .i64 a.status, .int .i64 a.out] 34)).alloc (.cells #[.int .i64 x0, .int .i64 x1, .int .i64 x2, .int .i64 x3, .int .i64 x4, .int .i64 0] 141)).alloc (.cells #[.int .i64 0, .int .i64 0] 93)) (w.heap.size + 1 + 1) 93 #[.int .i64 0, .int .i64 0] := (Blk.new ((w.alloc (.cells #[.int .i64 a.p, .int .i64 a.party, .int .i64 a.x, .int .i64 a.mask, .int .i64 a.delta, .slice As ns cs, .slice Ak nk ck, .int .i64 a.step, .slice Ah nh ch, .int .i64 a.status, .int .i64 a.out] 34)).alloc (.cells #[.int .i64 x0, .int .i64 x1, .int .i64 x2, .int .i64 x3, .int .i64 x4, .int .i64 0] 141)) 93 #[.int .i64 0, .int .i64 0] (g := w.heap.size + 1 + 1))
  obtain ⟨B_l, B_f, B_0, B_1, B_2, B_3, B_4, B_5, B_6, B_7, B_8, B_9, B_10⟩ := hB.l11; obtain ⟨T_l, T_f, T_0, T_1, T_2, T_3, T_4, T_5⟩ := hT.l6; obtain ⟨R_l, R_f, R_0, R_1⟩ := hR.l2
  go_enter Tryd.func117, Tryd.ntmps117
  go_wp2_with (go_at_call 124; refine (HC.out _ Bl.a2).mono ?_; rintro e w1 ⟨rfl, hb1⟩; replace hW : Bl w w1 := Bl.a2; replace hR := hR.kp hb1; (try clear R_l R_f R_0 R_1); obtain ⟨R_l, R_f, R_0, R_1⟩ := hR.l2)
  have hbz : Bl w ((w1.setCell ⟨w.heap.size + 1 + 1, 0, none⟩ (.int .i64 qv)).setCell ⟨w.heap.size + 1 + 1, 1, none⟩ (.int .i64 qt)) := Bl.a2
  have hR2 : Blk ((w1.setCell ⟨w.heap.size + 1 + 1, 0, none⟩ (.int .i64 qv)).setCell ⟨w.heap.size + 1 + 1, 1, none⟩ (.int .i64 qt)) (w.heap.size + 1 + 1) 93 #[.int .i64 qv, .int .i64 qt] := (hR.set_ 0 _).set_ 1 _
  generalize ((w1.setCell ⟨w.heap.size + 1 + 1, 0, none⟩ (.int .i64 qv)).setCell ⟨w.heap.size + 1 + 1, 1, none⟩ (.int .i64 qt)) = wz at hbz hR2 ⊢
  have R2_0 := hR2.cell 0 _ rfl
  have R2_1 := hR2.cell 1 _ rfl
  refine bodyPost_ret (v := .agg #[.int .i64 qv, .int .i64 qt]) (by simp [results, Tryd.results117, go_sem, R2_0, R2_1]) rfl ⟨rfl, hbz⟩
theorem impl_holds (p delta key v t : Int) (w : World) (hp : 2 ≤ p ∧ p ≤ 251) (hd : 0 ≤ delta ∧ delta < p) (hk : 0 ≤ key ∧ key < p) (hv : 0 ≤ v ∧ v < p) (ht : 0 ≤ t ∧ t < p) :
  Calls Tryd.prog 125 #[.int .i64 p, .int .i64 delta, .int .i64 key, .agg #[.int .i64 v, .int .i64 t]] w fun e w' => e = .returned (.bool (hold p delta key v t)) ∧ Bl w w' := by
 have b := prod252 v delta (by omega) (by omega) (by omega) (by omega)
 have e := hold_iff (delta := delta) (k := key) (v := v) ht
 go_enter Tryd.func125, Tryd.ntmps125
 go_wp2_with (go_at_call 45; refine (impl_mod _ _ _ (by omega) (by omega) (by omega) (by omega)).mono ?_; rintro e w2 ⟨rfl, rfl⟩)
 go_ret
 first | exact ⟨rfl, Bl.a1⟩ | exact ⟨ret_bool e, Bl.a1⟩
set_option maxRecDepth 20000 in
set_option maxHeartbeats 2000000 in
theorem impl_keyOf (a : Pl) (k : Nat) (As Ak Ah : Option Addr) (ns cs nk ck nh ch : Nat) (hs : List Hd) (more x0 x1 x2 x3 x4 : Int) (w : World) (ok : Ok a k) (h : RdP w a As Ak Ah ns cs nk ck nh ch hs) (hm : -1000000 ≤ more ∧ more ≤ 1000000) (hw : ∀ i, -252 ≤ num [x0, x1, x2, x3, x4] i ∧ num [x0, x1, x2, x3, x4] i ≤ 252) :
  Calls Tryd.prog 126 #[.agg #[.int .i64 a.p, .int .i64 a.party, .int .i64 a.x, .int .i64 a.mask, .int .i64 a.delta, .slice As ns cs, .slice Ak nk ck, .int .i64 a.step, .slice Ah nh ch, .int .i64 a.status, .int .i64 a.out], .agg #[.int .i64 x0, .int .i64 x1, .int .i64 x2, .int .i64 x3, .int .i64 x4, .int .i64 more]] w
   fun e w' => e = .returned (.int .i64 ((dotv [x0, x1, x2, x3, x4] a.ks 5 - if1 a (more % a.p * a.delta)) % a.p)) ∧ Bl w w' := by
 have p2 := ok.p2
 have pd := ok.delta
 have HV := Lib.hid (dotv_bd hw (ks_rng ok))
 have hnk := h.nk_eq ok
 subst hnk
 have mb := mod_rng more p2.1
 have pb := prod252 (more % a.p) a.delta (by omega) (by omega) (by omega) (by omega)
 obtain ⟨hk1, hk2⟩ := h.ks.le
 obtain ⟨ad, rfl, hadl, hz, hz2⟩ := h.ks.lit (by omega)
 have HK := Lib.hid (fun (i : Nat) (hi : i < 5) => ok.keyAt hi)
 have HZ := Lib.hid hz
 have HZ2 := Lib.hid hz2
 clear hz hz2
 have hW : Bl w ((w.alloc (.cells #[.int .i64 a.p, .int .i64 a.party, .int .i64 a.x, .int .i64 a.mask, .int .i64 a.delta, .slice As ns cs, .slice (some ad) 5 ck, .int .i64 a.step, .slice Ah nh ch, .int .i64 a.status, .int .i64 a.out] 34)).alloc (.cells #[.int .i64 x0, .int .i64 x1, .int .i64 x2, .int .i64 x3, .int .i64 x4, .int .i64 more] 141)) := Bl.a2
 have hB : Blk ((w.alloc (.cells #[.int .i64 a.p, .int .i64 a.party, .int .i64 a.x, .int .i64 a.mask, .int .i64 a.delta, .slice As ns cs, .slice (some ad) 5 ck, .int .i64 a.step, .slice Ah nh ch, .int .i64 a.status, .int .i64 a.out] 34)).alloc (.cells #[.int .i64 x0, .int .i64 x1, .int .i64 x2, .int .i64 x3, .int .i64 x4, .int .i64 more] 141)) (w.heap.size) 34 #[.int .i64 a.p, .int .i64 a.party, .int .i64 a.x, .int .i64 a.mask, .int .i64 a.delta, .slice As ns cs, .slice (some ad) 5 ck, .int .i64 a.step, .slice Ah nh ch, .int .i64 a.status, .int .i64 a.out] := ((Blk.new w 34 #[.int .i64 a.p, .int .i64 a.party, .int .i64 a.x, .int .i64 a.mask, .int .i64 a.delta, .slice As ns cs, .slice (some ad) 5 ck, .int .i64 a.step, .slice Ah nh ch, .int .i64 a.status, .int .i64 a.out] (g := w.heap.size)).alloc (.cells #[.int .i64 x0, .int .i64 x1, .int .i64 x2, .int .i64 x3, .int .i64 x4, .int .i64 more] 141))
 have hT : Blk ((w.alloc (.cells #[.int .i64 a.p, .int .i64 a.party, .int .i64 a.x, .int .i64 a.mask, .int .i64 a.delta, .slice As ns cs, .slice (some ad) 5 ck, .int .i64 a.step, .slice Ah nh ch, .int .i64 a.status, .int .i64 a.out] 34)).alloc (.cells #[.int .i64 x0, .int .i64 x1, .int .i64 x2, .int .i64 x3, .int .i64 x4, .int .i64 more] 141)) (w.heap.size + 1) 141 #[.int .i64 x0, .int .i64 x1, .int .i64 x2, .int .i64 x3, .int .i64 x4, .int .i64 more] := (Blk.new (w.alloc (.cells #[.int .i64 a.p, .int .i64 a.party, .int .i64 a.x, .int .i64 a.mask, .int .i64 a.delta, .slice As ns cs, .slice (some ad) 5 ck, .int .i64 a.step, .slice Ah nh ch, .int .i64 a.status, .int .i64 a.out] 34)) 141 #[.int .i64 x0, .int .i64 x1, .int .i64 x2, .int .i64 x3, .int .i64 x4, .int .i64 more] (g := w.heap.size + 1))
 obtain ⟨B_l, B_f, B_0, B_1, B_2, B_3, B_4, B_5, B_6, B_7, B_8, B_9, B_10⟩ := hB.l11; obtain ⟨T_l, T_f, T_0, T_1, T_2, T_3, T_4, T_5⟩ := hT.l6
 go_enter Tryd.func126, Tryd.ntmps126
 go_wp2
 go_loopw [10, 5] (fun i s wr => ∃ j : Int, 0 ≤ j ∧ j ≤ 5 ∧ i = .int .i64 j ∧ s = .int .i64 (dotv [x0, x1, x2, x3, x4] a.ks j.toNat) ∧ wr = ((w.alloc (.cells #[.int .i64 a.p, .int .i64 a.party, .int .i64 a.x, .int .i64 a.mask, .int .i64 a.delta, .slice As ns cs, .slice (some ad) 5 ck, .int .i64 a.step, .slice Ah nh ch, .int .i64 a.status, .int .i64 a.out] 34)).alloc (.cells #[.int .i64 x0, .int .i64 x1, .int .i64 x2, .int .i64 x3, .int .i64 x4, .int .i64 more] 141))) (fun i _ _ => 5 - (intOf i).toNat)
 case atStart => exact ⟨0, by omega, by omega, rfl, rfl, rfl⟩
 case round =>
  obtain ⟨j, hj0, hj, rfl, rfl, rfl⟩ := hrel
  obtain rfl | rfl | rfl | rfl | rfl | rfl : j = 0 ∨ j = 1 ∨ j = 2 ∨ j = 3 ∨ j = 4 ∨ j = 5 := by omega
  ·have hix := fun w => run_idx5 w #[.int .i64 x0, .int .i64 x1, .int .i64 x2, .int .i64 x3, .int .i64 x4] 0 _ (by omega) (by omega) rfl
   have q0 := hW.cells (HZ.out _ (HK.out 0 (by omega)))
   have kr := ks_rng ok 0
   have b3 : -252 ≤ x0 ∧ x0 ≤ 252 := hw 0
   have p1 := prod252 x0 (num a.ks 0) b3.1 b3.2 kr.1 kr.2
   have d1 := HV.out 0
   have S1 := Lib.hid (show dotv [x0, x1, x2, x3, x4] a.ks (1 : Int).toNat = dotv [x0, x1, x2, x3, x4] a.ks (0 : Int).toNat + x0 * num a.ks 0 from rfl)
   rw [show dotv [x0, x1, x2, x3, x4] a.ks 0 = dotv [x0, x1, x2, x3, x4] a.ks (0 : Int).toNat from rfl] at d1
   generalize dotv [x0, x1, x2, x3, x4] a.ks (0 : Int).toNat = q at d1 S1 ⊢
   have hkd : key a 0 = num a.ks 0 := rfl
   rw [hkd] at q0
   generalize num a.ks 0 = kv at q0 p1 S1
   go_wp2
   go_roundw
   case rel => exact ⟨1, by omega, by omega, rfl, by rw [S1.out], (by first | rfl | trivial)⟩
   case measure => simp [intOf]
  ·have hix := fun w => run_idx5 w #[.int .i64 x0, .int .i64 x1, .int .i64 x2, .int .i64 x3, .int .i64 x4] 1 _ (by omega) (by omega) rfl
   have q0 := hW.cells (HZ2.out 1 _ (by omega) (HK.out 1 (by omega)))
   have kr := ks_rng ok 1
   have b3 : -252 ≤ x1 ∧ x1 ≤ 252 := hw 1
   have p1 := prod252 x1 (num a.ks 1) b3.1 b3.2 kr.1 kr.2
   have d1 := HV.out 1
   have S1 := Lib.hid (show dotv [x0, x1, x2, x3, x4] a.ks (2 : Int).toNat = dotv [x0, x1, x2, x3, x4] a.ks (1 : Int).toNat + x1 * num a.ks 1 from rfl)
   rw [show dotv [x0, x1, x2, x3, x4] a.ks 1 = dotv [x0, x1, x2, x3, x4] a.ks (1 : Int).toNat from rfl] at d1
   generalize dotv [x0, x1, x2, x3, x4] a.ks (1 : Int).toNat = q at d1 S1 ⊢
   have hkd : key a 1 = num a.ks 1 := rfl
   rw [hkd] at q0
   generalize num a.ks 1 = kv at q0 p1 S1
   go_wp2
   go_roundw
   case rel => exact ⟨2, by omega, by omega, rfl, by rw [S1.out], (by first | rfl | trivial)⟩
   case measure => simp [intOf]
  ·have hix := fun w => run_idx5 w #[.int .i64 x0, .int .i64 x1, .int .i64 x2, .int .i64 x3, .int .i64 x4] 2 _ (by omega) (by omega) rfl
   have q0 := hW.cells (HZ2.out 2 _ (by omega) (HK.out 2 (by omega)))
   have kr := ks_rng ok 2
   have b3 : -252 ≤ x2 ∧ x2 ≤ 252 := hw 2
   have p1 := prod252 x2 (num a.ks 2) b3.1 b3.2 kr.1 kr.2
   have d1 := HV.out 2
   have S1 := Lib.hid (show dotv [x0, x1, x2, x3, x4] a.ks (3 : Int).toNat = dotv [x0, x1, x2, x3, x4] a.ks (2 : Int).toNat + x2 * num a.ks 2 from rfl)
   rw [show dotv [x0, x1, x2, x3, x4] a.ks 2 = dotv [x0, x1, x2, x3, x4] a.ks (2 : Int).toNat from rfl] at d1
   generalize dotv [x0, x1, x2, x3, x4] a.ks (2 : Int).toNat = q at d1 S1 ⊢
   have hkd : key a 2 = num a.ks 2 := rfl
   rw [hkd] at q0
   generalize num a.ks 2 = kv at q0 p1 S1
   go_wp2
   go_roundw
   case rel => exact ⟨3, by omega, by omega, rfl, by rw [S1.out], (by first | rfl | trivial)⟩
   case measure => simp [intOf]
  ·have hix := fun w => run_idx5 w #[.int .i64 x0, .int .i64 x1, .int .i64 x2, .int .i64 x3, .int .i64 x4] 3 _ (by omega) (by omega) rfl
   have q0 := hW.cells (HZ2.out 3 _ (by omega) (HK.out 3 (by omega)))
   have kr := ks_rng ok 3
   have b3 : -252 ≤ x3 ∧ x3 ≤ 252 := hw 3
   have p1 := prod252 x3 (num a.ks 3) b3.1 b3.2 kr.1 kr.2
   have d1 := HV.out 3
   have S1 := Lib.hid (show dotv [x0, x1, x2, x3, x4] a.ks (4 : Int).toNat = dotv [x0, x1, x2, x3, x4] a.ks (3 : Int).toNat + x3 * num a.ks 3 from rfl)
   rw [show dotv [x0, x1, x2, x3, x4] a.ks 3 = dotv [x0, x1, x2, x3, x4] a.ks (3 : Int).toNat from rfl] at d1
   generalize dotv [x0, x1, x2, x3, x4] a.ks (3 : Int).toNat = q at d1 S1 ⊢
   have hkd : key a 3 = num a.ks 3 := rfl
   rw [hkd] at q0
   generalize num a.ks 3 = kv at q0 p1 S1
   go_wp2
   go_roundw
   case rel => exact ⟨4, by omega, by omega, rfl, by rw [S1.out], (by first | rfl | trivial)⟩
   case measure => simp [intOf]
  ·have hix := fun w => run_idx5 w #[.int .i64 x0, .int .i64 x1, .int .i64 x2, .int .i64 x3, .int .i64 x4] 4 _ (by omega) (by omega) rfl
   have q0 := hW.cells (HZ2.out 4 _ (by omega) (HK.out 4 (by omega)))
   have kr := ks_rng ok 4
   have b3 : -252 ≤ x4 ∧ x4 ≤ 252 := hw 4
   have p1 := prod252 x4 (num a.ks 4) b3.1 b3.2 kr.1 kr.2
   have d1 := HV.out 4
   have S1 := Lib.hid (show dotv [x0, x1, x2, x3, x4] a.ks (5 : Int).toNat = dotv [x0, x1, x2, x3, x4] a.ks (4 : Int).toNat + x4 * num a.ks 4 from rfl)
   rw [show dotv [x0, x1, x2, x3, x4] a.ks 4 = dotv [x0, x1, x2, x3, x4] a.ks (4 : Int).toNat from rfl] at d1
   generalize dotv [x0, x1, x2, x3, x4] a.ks (4 : Int).toNat = q at d1 S1 ⊢
   have hkd : key a 4 = num a.ks 4 := rfl
   rw [hkd] at q0
   generalize num a.ks 4 = kv at q0 p1 S1
   go_wp2
   go_roundw
   case rel => exact ⟨5, by omega, by omega, rfl, by rw [S1.out], (by first | rfl | trivial)⟩
   case measure => simp [intOf]
  ·have d1 := HV.out 5
   rw [show dotv [x0, x1, x2, x3, x4] a.ks (5 : Int).toNat = dotv [x0, x1, x2, x3, x4] a.ks 5 from rfl]
   generalize hq : dotv [x0, x1, x2, x3, x4] a.ks 5 = q at d1 ⊢
   have HQ := Lib.hid hq
   clear hq
   rcases ok.party with hp | hp
   ·have hpb : (a.party == 1) = false := by rw [hp]; rfl
    have E0 := Lib.hid (show if1 a (more % a.p * a.delta) = 0 by unfold if1; rw [if_neg (by omega)])
    go_wp2_with (go_at_call 45; refine (impl_mod _ _ _ (by omega) (by omega) (by omega) (by omega)).mono ?_; rintro e w2 ⟨rfl, rfl⟩)
    go_ret
    exact ⟨ret_int (by rw [E0.out, Int.sub_zero, HQ.out]), Bl.a1⟩
   ·have hpb : (a.party == 1) = true := by rw [hp]; rfl
    have E0 := Lib.hid (show if1 a (more % a.p * a.delta) = more % a.p * a.delta by unfold if1; rw [if_pos hp])
    go_wp2
    go_region_held3 (fun w' => w'.cell? ⟨w.heap.size, 0, none⟩ = some (.int .i64 a.p) ∧ w'.cell? ⟨w.heap.size, 4, none⟩ = some (.int .i64 a.delta) ∧ w'.cell? ⟨w.heap.size + 1, 5, none⟩ = some (.int .i64 more)) (first | exact ⟨B_0, B_4, T_5⟩ | go_keep) (first | (go_at_call 45; refine (impl_mod _ _ _ (by omega) (by omega) (by omega) (by omega)).mono ?_; rintro e w2 ⟨rfl, rfl⟩))
    go_wp2_with (go_at_call 45; refine (impl_mod _ _ _ (by omega) (by omega) (by omega) (by omega)).mono ?_; rintro e w2 ⟨rfl, rfl⟩)
    go_ret
    exact ⟨ret_int (by rw [E0.out, HQ.out]), Bl.a1⟩
end Go.Proofs.YtcjpalhclgkjiaaDoor
