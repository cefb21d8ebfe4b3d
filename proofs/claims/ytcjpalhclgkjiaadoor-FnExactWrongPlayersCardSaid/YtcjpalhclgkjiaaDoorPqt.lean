/- Contracts: marking the slices of a player; only the player's own blocks turn.
   Conditions: none. -/
import Derived.Test.YtcjpalhclgkjiaaDoorPqm
namespace Go.Proofs.YtcjpalhclgkjiaaDoor
open Go.RowKit
set_option linter.unusedVariables false
theorem total_bd {M : Nat} : ∀ {LL : List (List Int)}, (∀ (i : Nat) (l : List Int), LL[i]? = some l → l.length ≤ M) → total LL ≤ LL.length * M
 | [], _ => by simp [total]
 | l :: LL, h => by
  have h1 := h 0 l rfl
  have h2 := total_bd (LL := LL) (fun i x hx => h (i + 1) x (by simpa using hx))
  simp only [total, List.length_cons]
  rw [Nat.add_mul]
  omega
theorem RdI.gp_ {P : Nat → Prop} {w w' : World} {A : Option Addr} {n c : Nat} {l : List Int} (h : RdI w A n c l) (hg : Gp P w w') (hA : ∀ k, A.map (·.block) = some k → ¬ P k) : RdI w' A n c l := Rd.gp h hg hA
theorem RdP.rows {w : World} {a : Pl} {As Ak Ah : Option Addr} {ns cs nk ck nh ch M : Nat} {hs : List Hd} (h : RdP w a As Ak Ah ns cs nk ck nh ch hs) (hn : ∀ (i : Nat) (x : Hd), hs[i]? = some x → x.n ≤ M) (i : Nat) (l : List Int) (hl : a.hd[i]? = some l) : l.length ≤ M := by
 obtain ⟨x, hx⟩ : ∃ x, hs[i]? = some x := ⟨_, List.getElem?_eq_getElem (by rw [h.hd.len]; exact (List.getElem?_eq_some_iff.1 hl).1)⟩
 have h1 := (h.hd.row i x l hx hl).length
 have h2 := hn i x hx
 omega
set_option maxHeartbeats 4000000 in
theorem laws_markIntSSg {base : Nat} {P : Nat → Prop} (A : Option Addr) (n c : Nat) (hs : List Hd) (LL : List (List Int)) (k : Int) (w : World) (h : OwnSS base w A n c hs LL) (hk : 0 ≤ k) (hk2 : k + total LL ≤ 4000000000000000000) (hP : ∀ (i : Nat) (x : Hd), hs[i]? = some x → ∀ q, x.blk = some q → P q) :
  Calls Tryd.prog 44 #[.slice A n c, .int .i64 k] w fun e w' => e = .returned (.int .i64 (k + total LL)) ∧ Gp P w w' := by
 obtain ⟨hle1, hle2⟩ := h.le
 have hll := Lib.hid h.l_eq
 have hT := Lib.hid (fun i => total_le (LL := LL) i)
 have HP := Lib.hid hP
 clear hP
 go_enter Tryd.func44, Tryd.ntmps44
 go_wp2
 go_loopw [1, 5] (fun q i wr => ∃ j, j ≤ n ∧ i = .int .i64 (j : Nat) ∧ q = .int .i64 (k + total (LL.take j)) ∧ OwnSS base wr A n c hs (markSS k LL j) ∧ Hid (Gp P w wr)) (fun _ i _ => n - (intOf i).toNat)
 case atStart => exact ⟨0, by omega, rfl, by simp [total], by rw [markSS_zero]; exact h, Lib.hid (Gp.refl P w)⟩
 case round =>
  obtain ⟨j, hj, rfl, rfl, hown, hB⟩ := hrel
  by_cases hlt : j < n
  ·obtain ⟨g, x, y, rfl, hx, hy, hbg, hgl, kc, hfr, hro⟩ := hown.cell hlt
   have HX := Lib.hid hx
   obtain ⟨y0, hly⟩ : ∃ y0, LL[j]? = some y0 := ⟨_, List.getElem?_eq_getElem (show j < LL.length by rw [hll.out]; exact hlt)⟩
   have hy2 := hy
   rw [markSS_get (by rw [hll.out]; exact hlt), if_neg (by omega), hly] at hy2
   injection hy2 with hy2
   subst hy2
   have hst := Lib.hid (markSS_step (k := k) hly)
   have htt := Lib.hid (total_take hly)
   have hnx := Lib.hid hro.length
   have t1 := hT.out j
   have t2 := hT.out (j + 1)
   rw [htt.out] at t2
   have hnn : y0.length = x.n := hro.length
   clear hx hy hly
   change y0.length = x.n at hnx
   go_wp2_with (go_at_call 20; refine (laws_markIntS _ _ _ _ _ _ _ hro (by omega) (by omega)).mono ?_; rintro e w1 ⟨rfl, hm1, hg1⟩)
   go_roundw
   case rel =>
    have hout : OwnSS base w1 (some ⟨g, 0, none⟩) n c hs (markSS k LL (j + 1)) := by
     rw [← hst.out, hnn]
     have hp := hown.rowed hlt HX.out hm1 hg1
     exact hp
    exact ⟨j + 1, by omega, by go_num, by rw [htt.out, hnn]; congr 1; omega, hout, Lib.hid (hB.out.grown hg1 (fun q hq => .inl (HP.out j x HX.out q hq)))⟩
   case measure => simp [intOf]; omega
  ·have he : j = n := by omega
   subst he
   have hte := Lib.hid (show total (LL.take j) = total LL by rw [← hll.out, List.take_length])
   go_wp2
   go_ret
   exact ⟨by rw [hte.out]; rfl, hB.out⟩
set_option maxRecDepth 20000 in
set_option maxHeartbeats 2000000 in
theorem laws_markPlayer (a : Pl) (As Ak Ah : Option Addr) (ns cs nk ck nh ch : Nat) (hs : List Hd) (base T N : Nat) (k : Int) (w : World) (h : OwnP base T w a As Ak Ah ns cs nk ck nh ch hs) (hu : UnderP N As Ak Ah hs) (hN : N ≤ w.heap.size) (hn : ns ≤ 1048576 ∧ nk ≤ 1048576 ∧ nh ≤ 1048576 ∧ ∀ (i : Nat) (l : List Int), a.hd[i]? = some l → l.length ≤ 1048576) (hk : 0 ≤ k) (hk2 : k ≤ 1000000000000000000) :
  Calls Tryd.prog 18 #[.agg #[.int .i64 a.p, .int .i64 a.party, .int .i64 a.x, .int .i64 a.mask, .int .i64 a.delta, .slice As ns cs, .slice Ak nk ck, .int .i64 a.step, .slice Ah nh ch, .int .i64 a.status, .int .i64 a.out], .int .i64 k] w fun e w' => ∃ k' : Int, e = .returned (.int .i64 k') ∧ k ≤ k' ∧ k' ≤ k + 1200000000000 ∧ Gp (fun q => base ≤ q ∧ q < N) w w' := by
 obtain ⟨n1, n2, n3, n4⟩ := hn
 have htot : total a.hd ≤ 1099511627776 := by
  have h1 := total_bd (M := 1048576) (LL := a.hd) n4
  have h2 := h.hd.l_eq
  have h3 : a.hd.length * 1048576 ≤ 1048576 * 1048576 := Nat.mul_le_mul_right _ (by omega)
  omega
 clear n4
 have hW : Bl w (w.alloc (.cells #[.int .i64 a.p, .int .i64 a.party, .int .i64 a.x, .int .i64 a.mask, .int .i64 a.delta, .slice As ns cs, .slice Ak nk ck, .int .i64 a.step, .slice Ah nh ch, .int .i64 a.status, .int .i64 a.out] 34)) := Bl.a3
 have hB : Blk (w.alloc (.cells #[.int .i64 a.p, .int .i64 a.party, .int .i64 a.x, .int .i64 a.mask, .int .i64 a.delta, .slice As ns cs, .slice Ak nk ck, .int .i64 a.step, .slice Ah nh ch, .int .i64 a.status, .int .i64 a.out] 34)) (w.heap.size) 34 #[.int .i64 a.p, .int .i64 a.party, .int .i64 a.x, .int .i64 a.mask, .int .i64 a.delta, .slice As ns cs, .slice Ak nk ck, .int .i64 a.step, .slice Ah nh ch, .int .i64 a.status, .int .i64 a.out] := (Blk.new w 34 #[.int .i64 a.p, .int .i64 a.party, .int .i64 a.x, .int .i64 a.mask, .int .i64 a.delta, .slice As ns cs, .slice Ak nk ck, .int .i64 a.step, .slice Ah nh ch, .int .i64 a.status, .int .i64 a.out] (g := w.heap.size))
 obtain ⟨B_l, B_f, B_0, B_1, B_2, B_3, B_4, B_5, B_6, B_7, B_8, B_9, B_10⟩ := hB.l11
 have G0 : Gp (fun q => base ≤ q ∧ q < N) w (w.alloc (.cells #[.int .i64 a.p, .int .i64 a.party, .int .i64 a.x, .int .i64 a.mask, .int .i64 a.delta, .slice As ns cs, .slice Ak nk ck, .int .i64 a.step, .slice Ah nh ch, .int .i64 a.status, .int .i64 a.out] 34)) := Gp.of_bl hW
 have h' := h.keep hW
 go_enter Tryd.func18, Tryd.ntmps18
 go_wp2_with fail
 refine (laws_markTaggedS As ns cs base a.sh k _ h'.sh hk (by omega)).mono ?_
 rintro e w1 ⟨rfl, ht1, hg1⟩
 have G1 : Gp (fun q => base ≤ q ∧ q < N) (w.alloc (.cells #[.int .i64 a.p, .int .i64 a.party, .int .i64 a.x, .int .i64 a.mask, .int .i64 a.delta, .slice As ns cs, .slice Ak nk ck, .int .i64 a.step, .slice Ah nh ch, .int .i64 a.status, .int .i64 a.out] 34)) w1 := Gp.of_grown hg1 (fun q hq => ⟨(h'.sh.blk q hq).1, hu.s q hq⟩)
 have ks1 := h'.ks.grownR hg1 (fun q hq e => h'.lsk q e hq)
 have hd1 := h'.hd.grownLow hg1 h'.ls
 replace hB := hB.gp G1 (fun hh => by omega)
 (try clear B_l B_f B_0 B_1 B_2 B_3 B_4 B_5 B_6 B_7 B_8 B_9 B_10)
 clear hg1 ht1
 obtain ⟨B_l, B_f, B_0, B_1, B_2, B_3, B_4, B_5, B_6, B_7, B_8, B_9, B_10⟩ := hB.l11
 go_wp2_with fail
 refine (laws_markIntS Ak nk ck base a.ks _ _ ks1 (by omega) (by omega)).mono ?_
 rintro e w2 ⟨rfl, ht2, hg2⟩
 have G2 : Gp (fun q => base ≤ q ∧ q < N) w1 w2 := Gp.of_grown hg2 (fun q hq => ⟨(h'.ks.blk q hq).1, hu.k q hq⟩)
 have hd2 := hd1.grownLow hg2 h'.lk
 replace hB := hB.gp G2 (fun hh => by omega)
 (try clear B_l B_f B_0 B_1 B_2 B_3 B_4 B_5 B_6 B_7 B_8 B_9 B_10)
 clear hg2 ht2
 obtain ⟨B_l, B_f, B_0, B_1, B_2, B_3, B_4, B_5, B_6, B_7, B_8, B_9, B_10⟩ := hB.l11
 go_wp2_with fail
 have hbt := h'.bT
 refine (laws_markIntSSg (P := fun q => base ≤ q ∧ q < N) Ah nh ch hs a.hd _ _ hd2 (by omega) (by omega) (fun i x hx q hq => ⟨Nat.le_trans hbt (h'.hd.above.2 i x hx q hq), hu.h.2 i x hx q hq⟩)).mono ?_
 rintro e w3 ⟨rfl, G3⟩
 go_wp2_with fail
 go_ret
 exact ⟨_, rfl, by omega, by omega, G0.trans (G1.trans (G2.trans G3))⟩
end Go.Proofs.YtcjpalhclgkjiaaDoor
