/- A run of two players, its rounds as plain data and in memory.
   Conditions: none. -/
import Derived.Test.YtcjpalhclgkjiaaDoorPgx
import Derived.Test.YtcjpalhclgkjiaaDoorPgm
import Derived.Test.YtcjpalhclgkjiaaDoorPju
namespace Go.Proofs.YtcjpalhclgkjiaaDoor
open Go.RowKit
set_option linter.unusedVariables false
theorem impl_body (a : Pl) (k : Nat) (As Ak Ah : Option Addr) (ns cs nk ck nh ch : Nat) (hs : List Hd) (w : World) (hk : k ≤ 2) (ok : Ok a k) (h : RdP w a As Ak Ah ns cs nk ck nh ch hs) :
  Calls Tryd.prog 94 #[.agg #[.int .i64 a.p, .int .i64 a.party, .int .i64 a.x, .int .i64 a.mask, .int .i64 a.delta, .slice As ns cs, .slice Ak nk ck, .int .i64 a.step, .slice Ah nh ch, .int .i64 a.status, .int .i64 a.out]] w
   fun e w' => ∃ A n c, e = .returned (.slice A n c) ∧ OwnI w.heap.size w' A n c (bodyP a) ∧ Bl w w' := by
 obtain rfl | rfl | rfl : k = 0 ∨ k = 1 ∨ k = 2 := by omega
 ·exact impl_body0 a As Ak Ah ns cs nk ck nh ch hs w ok h
 ·exact impl_body1 a As Ak Ah ns cs nk ck nh ch hs w ok h
 ·exact impl_body2 a As Ak Ah ns cs nk ck nh ch hs w ok h
/-- What is taken of the messages that both players send in a round. -/
def tkA (l : List Md) (r : Rn) : Ms := takenP r.a.p l ((r.sent.length : Nat) : Int) (msgP r.a) (r.sent[r.sent.length - 2]?.getD ⟨0, 0, []⟩)
def tkB (l : List Md) (r : Rn) : Ms := takenP r.a.p l ((r.sent.length : Nat) + 1 : Int) (msgP r.b) (r.sent[r.sent.length - 1]?.getD ⟨0, 0, []⟩)
theorem stepR_eq (l : List Md) (r : Rn) : stepR l r = ⟨takeP r.a (tkB l r), takeP r.b (tkA l r), r.sent ++ [msgP r.a, msgP r.b], r.taken ++ [tkA l r, tkB l r]⟩ := rfl
theorem runR_stop {l : List Md} {r : Rn} (h : runsR r = false) : ∀ f, runR l f r = r := by
 intro f
 cases f with
 | zero => rfl
 | succ f => unfold runR; rw [h]; rfl
theorem runR_next {l : List Md} {r : Rn} (h : runsR r = true) (f : Nat) : runR l (f + 1) r = runR l f (stepR l r) := by
 rw [runR]; rw [h]; rfl
theorem take_p (a : Pl) (m : Ms) : (takeP a m).p = a.p ∧ (takeP a m).party = a.party ∧ (takeP a m).sh.length = a.sh.length := by
 unfold takeP; split <;> exact ⟨rfl, rfl, rfl⟩
/-- Whether a player was stopped by a message. -/
theorem take_status {a : Pl} {m : Ms} (h0 : a.status = 0) : ((takeP a m).status == 2) = !accP a m := by
 cases h : accP a m
 ·rw [take_n h]; rfl
 ·by_cases h2 : a.step = 2
  ·rw [take_y2 h h2]; rfl
  ·rw [take_y h h2]; simp only [h0]; rfl
theorem take_on {a : Pl} {m : Ms} (h0 : a.status = 0) (h : accP a m = true) (h2 : ¬ a.step = 2) : (takeP a m).status = 0 := by rw [take_y h h2]; exact h0
theorem take_off {a : Pl} {m : Ms} (h : accP a m = false) : (takeP a m).status = 2 := by rw [take_n h]
theorem runs_iff {ra rb : Pl} {s t : List Ms} : runsR ⟨ra, rb, s, t⟩ = true ↔ ra.status = 0 ∧ rb.status = 0 := by simp [runsR]
/-- The start of a run. -/
theorem two_facts {a b : Pl} (h : twoB a b = true) : Ok a 0 ∧ Ok b 0 ∧ b.p = a.p ∧ a.party = 0 ∧ b.party = 1 ∧ a.status = 0 ∧ b.status = 0 := by
 simp only [twoB, Bool.and_eq_true, beq_iff_eq] at h
 obtain ⟨⟨⟨⟨⟨⟨⟨⟨h1, h2⟩, h3⟩, h4⟩, h5⟩, h6⟩, h7⟩, h8⟩, h9⟩ := h
 exact ⟨plB_ok h1 h6, plB_ok h2 h7, h3.symm, h4, h5, h8, h9⟩
/-- A run at the beginning of round q. -/
structure RunQ (a b : Pl) (l : List Md) (q : Nat) (ra rb : Pl) (sent taken : List Ms) : Prop where
 eq : runM a b l = runR l (3 - q) ⟨ra, rb, sent, taken⟩
 on : q ≤ 2 → Ok ra q ∧ Ok rb q ∧ ra.status = 0 ∧ rb.status = 0
 pa : ra.party = 0
 pb : rb.party = 1
 qa : ra.p = a.p
 qb : rb.p = a.p
 ls : sent.length = 2 * q
 lt : taken.length = 2 * q
theorem RunQ.start {a b : Pl} {l : List Md} (h : twoB a b = true) : RunQ a b l 0 a b [] [] := by
 obtain ⟨h1, h2, h3, h4, h5, h6, h7⟩ := two_facts h
 exact ⟨rfl, fun _ => ⟨h1, h2, h6, h7⟩, h4, h5, rfl, h3, rfl, rfl⟩
section
variable {a b : Pl} {l : List Md} {q : Nat} {ra rb : Pl} {sent taken : List Ms}
theorem RunQ.step (h : RunQ a b l q ra rb sent taken) (hq : q ≤ 2) : runM a b l = runR l (3 - (q + 1)) ⟨takeP ra (tkB l ⟨ra, rb, sent, taken⟩), takeP rb (tkA l ⟨ra, rb, sent, taken⟩), sent ++ [msgP ra, msgP rb], taken ++ [tkA l ⟨ra, rb, sent, taken⟩, tkB l ⟨ra, rb, sent, taken⟩]⟩ := by
 obtain ⟨_, _, h3, h4⟩ := h.on hq
 rw [h.eq, show 3 - q = (3 - (q + 1)) + 1 by omega, runR_next (runs_iff.2 ⟨h3, h4⟩), stepR_eq]
/-- Both go on. -/
theorem RunQ.next (h : RunQ a b l q ra rb sent taken) (hq : q ≤ 2) (h1 : accP ra (tkB l ⟨ra, rb, sent, taken⟩) = true) (h2 : accP rb (tkA l ⟨ra, rb, sent, taken⟩) = true) :
  RunQ a b l (q + 1) (takeP ra (tkB l ⟨ra, rb, sent, taken⟩)) (takeP rb (tkA l ⟨ra, rb, sent, taken⟩)) (sent ++ [msgP ra, msgP rb]) (taken ++ [tkA l ⟨ra, rb, sent, taken⟩, tkB l ⟨ra, rb, sent, taken⟩]) := by
 obtain ⟨o1, o2, s1, s2⟩ := h.on hq
 have p1 := take_p ra (tkB l ⟨ra, rb, sent, taken⟩)
 have p2 := take_p rb (tkA l ⟨ra, rb, sent, taken⟩)
 refine ⟨h.step hq, fun h3 => ⟨o1.took h1, o2.took h2, take_on s1 h1 ?_, take_on s2 h2 ?_⟩, p1.2.1.trans h.pa, p2.2.1.trans h.pb, p1.1.trans h.qa, p2.1.trans h.qb, ?_, ?_⟩
 ·have := o1.step; omega
 ·have := o2.step; omega
 ·rw [List.length_append, h.ls]; simp; omega
 ·rw [List.length_append, h.lt]; simp; omega
/-- One was stopped. -/
theorem RunQ.stop (h : RunQ a b l q ra rb sent taken) (hq : q ≤ 2) (h1 : accP ra (tkB l ⟨ra, rb, sent, taken⟩) = false ∨ accP rb (tkA l ⟨ra, rb, sent, taken⟩) = false) :
  runM a b l = ⟨takeP ra (tkB l ⟨ra, rb, sent, taken⟩), takeP rb (tkA l ⟨ra, rb, sent, taken⟩), sent ++ [msgP ra, msgP rb], taken ++ [tkA l ⟨ra, rb, sent, taken⟩, tkB l ⟨ra, rb, sent, taken⟩]⟩ := by
 rw [h.step hq, runR_stop]
 rw [Bool.eq_false_iff]
 intro hc
 obtain ⟨c1, c2⟩ := runs_iff.1 hc
 rcases h1 with h1 | h1
 ·rw [take_off h1] at c1; omega
 ·rw [take_off h1] at c2; omega
theorem RunQ.done (h : RunQ a b l 3 ra rb sent taken) : runM a b l = ⟨ra, rb, sent, taken⟩ := h.eq
theorem RunQ.msgs (h : RunQ a b l q ra rb sent taken) (hq : q ≤ 2) : ((msgP ra).b.length = bodyN q ∧ ∀ y ∈ (msgP ra).b, 0 ≤ y ∧ y < a.p) ∧ ((msgP rb).b.length = bodyN q ∧ ∀ y ∈ (msgP rb).b, 0 ≤ y ∧ y < a.p) := by
 obtain ⟨o1, o2, _, _⟩ := h.on hq
 have b1 := o1.body hq
 have b2 := o2.body hq
 rw [h.qa] at b1
 rw [h.qb] at b2
 exact ⟨b1, b2⟩
end
/-- Messages in memory: headers that read as these, their bodies in blocks that Q holds of. -/
def RdL (w : World) (L : List Hm) (ms : List Ms) (Q : Nat → Prop) : Prop := ∀ (i : Nat) (m : Ms), ms[i]? = some m → ∃ x : Hm, L[i]? = some x ∧ RdM w x m ∧ ∀ k, x.blk = some k → Q k
theorem RdL.gp {P : Nat → Prop} {w w' : World} {L : List Hm} {ms : List Ms} {Q : Nat → Prop} (h : RdL w L ms Q) (hg : Gp P w w') (hq : ∀ k, Q k → ¬ P k) : RdL w' L ms Q := fun i m hm => by
 obtain ⟨x, h1, h2, h3⟩ := h i m hm
 exact ⟨x, h1, h2.gp hg (fun k hk => hq k (h3 k hk)), h3⟩
theorem RdL.keep {w w' : World} {L : List Hm} {ms : List Ms} {Q : Nat → Prop} (h : RdL w L ms Q) (hb : Bl w w') : RdL w' L ms Q := fun i m hm => by
 obtain ⟨x, h1, h2, h3⟩ := h i m hm
 exact ⟨x, h1, h2.keep hb, h3⟩
theorem RdL.mono {w : World} {L : List Hm} {ms : List Ms} {Q R : Nat → Prop} (h : RdL w L ms Q) (hq : ∀ k, Q k → R k) : RdL w L ms R := fun i m hm => by
 obtain ⟨x, h1, h2, h3⟩ := h i m hm
 exact ⟨x, h1, h2, fun k hk => hq k (h3 k hk)⟩
theorem RdL.nil (w : World) (L : List Hm) (Q : Nat → Prop) : RdL w L [] Q := fun i m hm => by simp at hm
/-- Two headers more. -/
theorem RdL.two {w : World} {L : List Hm} {ms : List Ms} {Q : Nat → Prop} {x y : Hm} {m o : Ms} (h : RdL w L ms Q) (hx0 : L[ms.length]? = some x) (hy0 : L[ms.length + 1]? = some y) (hx : RdM w x m) (hy : RdM w y o) (qx : ∀ k, x.blk = some k → Q k) (qy : ∀ k, y.blk = some k → Q k) :
  RdL w L (ms ++ [m, o]) Q := fun i u hu => by
 rcases Nat.lt_trichotomy i ms.length with hi | hi | hi
 ·rw [List.getElem?_append_left hi] at hu
  exact h i u hu
 ·subst hi
  rw [List.getElem?_append_right (Nat.le_refl _), Nat.sub_self] at hu
  injection hu with hu
  subst hu
  exact ⟨x, hx0, hx, qx⟩
 ·have hi2 : i = ms.length + 1 := by
   have := (List.getElem?_eq_some_iff.1 hu).1
   simp at this; omega
  subst hi2
  rw [List.getElem?_append_right (by omega), show ms.length + 1 - ms.length = 1 by omega] at hu
  injection hu with hu
  subst hu
  exact ⟨y, hy0, hy, qy⟩
theorem RdM.lt {w : World} {h : Hm} {m : Ms} (r : RdM w h m) (hn : 0 < h.n) : ∀ k, h.blk = some k → k < w.heap.size := fun k hk => by
 obtain ⟨ad, e, hl, _⟩ := r.b.at0 hn
 unfold Hm.blk at hk
 rw [e] at hk
 injection hk with hk
 rw [← hk]; exact hl
theorem RdM.gpW {P : Nat → Prop} {w w' : World} {h : Hm} {m : Ms} (r : RdM w h m) (hg : Gp P w w') (hn : 0 < h.n → ∀ k, h.blk = some k → ¬ P k) : RdM w' h m :=
 ⟨r.f, r.s, r.b.len, r.b.cap, r.b.max, fun h0 => (Rd.gp r.b hg (hn h0)).at0 h0⟩
/-- Messages in memory: the same, of bodies that are not empty. -/
def RdW (w : World) (L : List Hm) (ms : List Ms) (Q : Nat → Prop) : Prop := ∀ (i : Nat) (m : Ms), ms[i]? = some m → ∃ x : Hm, L[i]? = some x ∧ RdM w x m ∧ (0 < x.n → ∀ k, x.blk = some k → Q k)
theorem RdW.gp {P : Nat → Prop} {w w' : World} {L : List Hm} {ms : List Ms} {Q : Nat → Prop} (h : RdW w L ms Q) (hg : Gp P w w') (hq : ∀ k, Q k → ¬ P k) : RdW w' L ms Q := fun i m hm => by
 obtain ⟨x, h1, h2, h3⟩ := h i m hm
 exact ⟨x, h1, h2.gpW hg (fun hn k hk => hq k (h3 hn k hk)), h3⟩
theorem RdW.keep {w w' : World} {L : List Hm} {ms : List Ms} {Q : Nat → Prop} (h : RdW w L ms Q) (hb : Bl w w') : RdW w' L ms Q := fun i m hm => by
 obtain ⟨x, h1, h2, h3⟩ := h i m hm
 exact ⟨x, h1, h2.keep hb, h3⟩
theorem RdW.mono {w : World} {L : List Hm} {ms : List Ms} {Q R : Nat → Prop} (h : RdW w L ms Q) (hq : ∀ k, k < w.heap.size → Q k → R k) : RdW w L ms R := fun i m hm => by
 obtain ⟨x, h1, h2, h3⟩ := h i m hm
 refine ⟨x, h1, h2, fun hn k hk => hq k ?_ (h3 hn k hk)⟩
 obtain ⟨ad, e, hl, _⟩ := h2.b.at0 hn
 unfold Hm.blk at hk
 rw [e] at hk
 injection hk with hk
 rw [← hk]; exact hl
theorem RdW.nil (w : World) (L : List Hm) (Q : Nat → Prop) : RdW w L [] Q := fun i m hm => by simp at hm
/-- Two headers more. -/
theorem RdW.two {w : World} {L : List Hm} {ms : List Ms} {Q : Nat → Prop} {x y : Hm} {m o : Ms} (h : RdW w L ms Q) (hx0 : L[ms.length]? = some x) (hy0 : L[ms.length + 1]? = some y) (hx : RdM w x m) (hy : RdM w y o) (qx : 0 < x.n → ∀ k, x.blk = some k → Q k) (qy : 0 < y.n → ∀ k, y.blk = some k → Q k) :
  RdW w L (ms ++ [m, o]) Q := fun i u hu => by
 rcases Nat.lt_trichotomy i ms.length with hi | hi | hi
 ·rw [List.getElem?_append_left hi] at hu
  exact h i u hu
 ·subst hi
  rw [List.getElem?_append_right (Nat.le_refl _), Nat.sub_self] at hu
  injection hu with hu
  subst hu
  exact ⟨x, hx0, hx, qx⟩
 ·have hi2 : i = ms.length + 1 := by
   have := (List.getElem?_eq_some_iff.1 hu).1
   simp at this; omega
  subst hi2
  rw [List.getElem?_append_right (by omega), show ms.length + 1 - ms.length = 1 by omega] at hu
  injection hu with hu
  subst hu
  exact ⟨y, hy0, hy, qy⟩
section
variable {ops : Array Oper} {rest : List Oper} {o : Oper} {a : Act} {Q : Exit → Act → World → Prop} {w : World}
theorem msg_info : (Tryd.prog.info? 87).map (fun i => (i.zero, i.size, i.bytes)) = some (some (.agg #[.int .i64 0, .int .i64 0, .slice none 0 0]), 3, 40) := by kernel_rfl
/-- append of messages. -/
theorem ap_ms (hgd : o.guard = none) {s x : Operand} (ho : o.op = .call { callee := .builtin .append, args := #[s, x], argTypes := #[60, 60] })
  {base n c m d : Nat} {A B : Option Addr} {xs ys : List Value} (hs : a.eval s = .slice A n c) (hown : OwnV 87 3 base w A n c xs) (hx : a.eval x = .slice B m d) (hr : Rd w 3 B m d ys) (h1 : ∀ u ∈ ys, u.oneCell' = true)
  (hb : n + m ≤ 3000000) (hbase : base ≤ w.heap.size)
  (h : ∀ A' c' w', OwnV 87 3 base w' A' (n + m) c' (xs ++ ys) → w.grownBy w' (A.map (·.block)) → (A'.map (·.block) = A.map (·.block) ∨ A'.map (·.block) = some w.heap.size) → wpList Tryd.prog ops Q rest (a.put o.dst (.slice A' (n + m) c')) w') : wpList Tryd.prog ops Q (o :: rest) a w := by
 obtain ⟨i0, hi, hz0, hz1, hz2⟩ := info_parts msg_info
 obtain ⟨A', c', w', hrun, h2, h3, h4⟩ := run_append_any (P := Tryd.prog) w base 60 o.type 87 i0 _ 3 40 Tryd.underlying60 hi hz0 hz1 hz2 rfl (by decide)
  (.slice A n c) n xs hown B m d ys hr h1 (by simp only [maxLen]; omega) (by omega) hbase
 rw [ownBlock_slice] at h3 h4
 refine wpList_plain hgd fun K hK => ?_
 unfold Oper.wp execOp
 simp only [ho, resolve, invoke, builtin, Sem.run_bind, Sem.run_pure, Result.andThen_ok, List.map_toArray, List.map_cons, List.map_nil, hs, hx, hrun]
 exact hK _ _ (h A' c' w' h2 h3 h4)
end
/-- A literal slice of n messages. -/
theorem rd_msgs (w : World) (cs : Array Value) (n : Nat) (hn : cs.size = n * 3) (hm : n ≤ 1000) {g : Nat} (hg : w.heap.size = g := by first | with_reducible rfl | simp) : Rd (w.alloc (.cells cs 87)) 3 (some ⟨g, 0, none⟩) n n cs.toList := by
 subst hg
 refine ⟨by simpa using hn, Nat.le_refl _, by simp only [maxLen]; omega, fun _ => ⟨_, rfl, by simp, fun j u hu => ?_⟩⟩
 have hadd : (⟨w.heap.size, 0, none⟩ : Addr).add j = ⟨w.heap.size, j, none⟩ := by unfold Addr.add; split <;> simp_all
 rw [hadd, cell_of_row _ w.heap.size j cs 87 (0, 0) (heap_alloc_new w _)]
 simpa using hu
end Go.Proofs.YtcjpalhclgkjiaaDoor
/- What holds in memory during a run of two players.
   Conditions: none. -/
namespace Go.Proofs.YtcjpalhclgkjiaaDoor
open Go.RowKit
set_option linter.unusedVariables false
/-- The slices of a player. -/
structure Sl where
 As : Option Addr
 Ak : Option Addr
 Ah : Option Addr
 ns : Nat
 cs : Nat
 nk : Nat
 ck : Nat
 nh : Nat
 ch : Nat
 hs : List Hd
def OwnS (base T : Nat) (w : World) (a : Pl) (s : Sl) : Prop := OwnP base T w a s.As s.Ak s.Ah s.ns s.cs s.nk s.ck s.nh s.ch s.hs
def UnderS (N : Nat) (s : Sl) : Prop := UnderP N s.As s.Ak s.Ah s.hs
def cellsP (a : Pl) (s : Sl) : Array Value := #[.int .i64 a.p, .int .i64 a.party, .int .i64 a.x, .int .i64 a.mask, .int .i64 a.delta, .slice s.As s.ns s.cs, .slice s.Ak s.nk s.ck, .int .i64 a.step, .slice s.Ah s.nh s.ch, .int .i64 a.status, .int .i64 a.out]
def valP (a : Pl) (s : Sl) : Value := .agg (cellsP a s)
def zeroP : Array Value := #[.int .i64 0, .int .i64 0, .int .i64 0, .int .i64 0, .int .i64 0, .slice none 0 0, .slice none 0 0, .int .i64 0, .slice none 0 0, .int .i64 0, .int .i64 0]
/-- Blocks of the call's own that are not the list of messages. -/
def Qn (base N : Nat) (A : Option Addr) (k : Nat) : Prop := base ≤ k ∧ k < N ∧ A.map (·.block) ≠ some k
structure RC (g0 gs gt : Nat) (W0 we wr : World) (ra rb : Pl) (sent taken : List Ms) (L M : List Hm) (s1 s2 : Sl) (B1 T1 N1 T2 N2 : Nat) (A : Option Addr) : Prop where
 bA : Blk wr g0 34 (cellsP ra s1)
 bB : Blk wr (g0 + 1) 34 (cellsP rb s2)
 bR : Blk wr (g0 + 1 + 1) 34 zeroP
 bT : Blk wr (g0 + 1 + 1 + 1) 34 zeroP
 hS : Blk wr gs 101 (six L)
 hT : Blk wr gt 101 (six M)
 gs0 : gs < g0
 gt0 : gt < g0
 L6 : L.length = 6
 M6 : M.length = 6
 sn : RdL wr L sent (Qn (g0 + 4) wr.heap.size A)
 tk : RdW wr M taken (Qn (g0 + 4) wr.heap.size A)
 o1 : OwnS B1 T1 wr ra s1
 u1 : UnderS N1 s1
 o2 : OwnS N1 T2 wr rb s2
 u2 : UnderS N2 s2
 b1 : g0 + 4 ≤ B1
 b2 : B1 ≤ N1
 b3 : N1 ≤ N2
 b4 : N2 ≤ wr.heap.size
 hA : ∀ k, A.map (·.block) = some k → g0 + 4 ≤ k ∧ (k < B1 ∨ N2 ≤ k)
 aw : ∀ k, A.map (·.block) = some k → k < wr.heap.size
 wb : Bl W0 wr
 gp : Gp (Two gs gt) we wr
 z0 : we.heap.size = g0
 z1 : W0.heap.size ≤ gs ∧ W0.heap.size ≤ gt
section
variable {g0 gs gt : Nat} {W0 we wr wx : World} {ra rb : Pl} {sent taken : List Ms} {L M : List Hm} {s1 s2 : Sl} {B1 T1 N1 T2 N2 : Nat} {A : Option Addr}
theorem RdL.set_ge {w : World} {L : List Hm} {ms : List Ms} {Q : Nat → Prop} (h : RdL w L ms Q) {i : Nat} (hi : ms.length ≤ i) (x : Hm) : RdL w (L.set i x) ms Q := fun j m hm => by
 obtain ⟨z, h1, h2, h3⟩ := h j m hm
 have := (List.getElem?_eq_some_iff.1 hm).1
 exact ⟨z, by rw [List.getElem?_set_ne (by omega)]; exact h1, h2, h3⟩
theorem RdW.set_ge {w : World} {L : List Hm} {ms : List Ms} {Q : Nat → Prop} (h : RdW w L ms Q) {i : Nat} (hi : ms.length ≤ i) (x : Hm) : RdW w (L.set i x) ms Q := fun j m hm => by
 obtain ⟨z, h1, h2, h3⟩ := h j m hm
 have := (List.getElem?_eq_some_iff.1 hm).1
 exact ⟨z, by rw [List.getElem?_set_ne (by omega)]; exact h1, h2, h3⟩
theorem RC.bl (h : RC g0 gs gt W0 we wr ra rb sent taken L M s1 s2 B1 T1 N1 T2 N2 A) (hb : Bl wr wx) : RC g0 gs gt W0 we wx ra rb sent taken L M s1 s2 B1 T1 N1 T2 N2 A :=
 ⟨h.bA.keep hb, h.bB.keep hb, h.bR.keep hb, h.bT.keep hb, h.hS.keep hb, h.hT.keep hb, h.gs0, h.gt0, h.L6, h.M6,
  (h.sn.keep hb).mono (fun k q => ⟨q.1, Nat.lt_of_lt_of_le q.2.1 hb.sz, q.2.2⟩), (h.tk.keep hb).mono (fun k _ q => ⟨q.1, Nat.lt_of_lt_of_le q.2.1 hb.sz, q.2.2⟩),
  OwnP.keep h.o1 hb, h.u1, OwnP.keep h.o2 hb, h.u2, h.b1, h.b2, h.b3, Nat.le_trans h.b4 hb.sz, h.hA, fun k hk => Nat.lt_of_lt_of_le (h.aw k hk) hb.sz, h.wb.call hb, h.gp.call hb, h.z0, h.z1⟩
/-- The list of messages has grown. -/
theorem RC.app {A' : Option Addr} (h : RC g0 gs gt W0 we wr ra rb sent taken L M s1 s2 B1 T1 N1 T2 N2 A) (hg : wr.grownBy wx (A.map (·.block))) (ha : A'.map (·.block) = A.map (·.block) ∨ A'.map (·.block) = some wr.heap.size) (hl : ∀ k, A'.map (·.block) = some k → k < wx.heap.size) :
  RC g0 gs gt W0 we wx ra rb sent taken L M s1 s2 B1 T1 N1 T2 N2 A' := by
 have hgs := h.gs0
 have hgt := h.gt0
 have hz := h.z0
 have hsz := hg.size
 have hgp : Gp (fun k => A.map (·.block) = some k) wr wx := Gp.of_grown hg (fun k e => e)
 have nb : ∀ k, k < g0 + 4 → ¬ A.map (·.block) = some k := fun k hk e => by have := (h.hA k e).1; omega
 have hq : ∀ k, Qn (g0 + 4) wr.heap.size A k → Qn (g0 + 4) wx.heap.size A' k := fun k q => ⟨q.1, Nat.lt_of_lt_of_le q.2.1 hsz, fun e => by
  rcases ha with e2 | e2
  ·exact q.2.2 (e2 ▸ e)
  ·rw [e2] at e; injection e with e; have := q.2.1; omega⟩
 refine ⟨h.bA.gp hgp (nb _ (by omega)), h.bB.gp hgp (nb _ (by omega)), h.bR.gp hgp (nb _ (by omega)), h.bT.gp hgp (nb _ (by omega)), h.hS.gp hgp (nb _ (by omega)), h.hT.gp hgp (nb _ (by omega)), hgs, hgt, h.L6, h.M6,
  (h.sn.gp hgp (fun k q e => q.2.2 e)).mono hq, (h.tk.gp hgp (fun k q e => q.2.2 e)).mono (fun k _ q => hq k q),
  OwnP.gp h.o1 h.u1 hgp (fun k e => by have := (h.hA k e).2; have := h.b3; omega), h.u1, OwnP.gp h.o2 h.u2 hgp (fun k e => by have := (h.hA k e).2; have := h.b2; omega), h.u2, h.b1, h.b2, h.b3, Nat.le_trans h.b4 hsz, fun k e => ?_, hl,
  h.wb.gp hgp (fun k e => by have := (h.hA k e).1; have := h.z1.1; omega), h.gp.grown hg (fun k e => .inr (by have := (h.hA k e).1; omega)), hz, h.z1⟩
 rcases ha with e2 | e2
 ·exact h.hA k (e2 ▸ e)
 ·rw [e2] at e; injection e with e
  have := h.b4; have := h.b1; have := h.b2; have := h.b3
  omega
/-- A message was changed. -/
theorem RC.two (h : RC g0 gs gt W0 we wr ra rb sent taken L M s1 s2 B1 T1 N1 T2 N2 A) {i : Nat} (hi : sent.length ≤ i) (hj : taken.length ≤ i) {x y : Hm} (hS' : Blk wx gs 101 (six (L.set i x))) (hT' : Blk wx gt 101 (six (M.set i y))) (hg : Gp (Two gs gt) wr wx) :
  RC g0 gs gt W0 we wx ra rb sent taken (L.set i x) (M.set i y) s1 s2 B1 T1 N1 T2 N2 A := by
 have hgs := h.gs0
 have hgt := h.gt0
 have hsz := hg.size
 have nb : ∀ k, g0 ≤ k → ¬ Two gs gt k := fun k hk e => by rcases e with e | e <;> omega
 have hb1 := h.b1
 have hb2 := h.b2
 refine ⟨h.bA.gp hg (nb _ (by omega)), h.bB.gp hg (nb _ (by omega)), h.bR.gp hg (nb _ (by omega)), h.bT.gp hg (nb _ (by omega)), hS', hT', hgs, hgt, by rw [List.length_set]; exact h.L6, by rw [List.length_set]; exact h.M6,
  ((h.sn.gp hg (fun k q => nb k (by have := q.1; omega))).mono (fun k q => ⟨q.1, Nat.lt_of_lt_of_le q.2.1 hsz, q.2.2⟩)).set_ge hi x, ((h.tk.gp hg (fun k q => nb k (by have := q.1; omega))).mono (fun k _ q => ⟨q.1, Nat.lt_of_lt_of_le q.2.1 hsz, q.2.2⟩)).set_ge hj y,
  OwnP.gp h.o1 h.u1 hg (fun k e => by rcases e with e | e <;> omega), h.u1, OwnP.gp h.o2 h.u2 hg (fun k e => by rcases e with e | e <;> omega), h.u2, h.b1, h.b2, h.b3, Nat.le_trans h.b4 hsz, h.hA, fun k hk => Nat.lt_of_lt_of_le (h.aw k hk) hsz,
  h.wb.gp hg (fun k e => by have := h.z1; rcases e with e | e <;> omega), h.gp.trans hg, h.z0, h.z1⟩
/-- Both players have taken, and are stored. -/
theorem RC.round {ra' rb' : Pl} {sent' taken' : List Ms} {s1' s2' : Sl} {B1' T1' N1' T2' : Nat} (h : RC g0 gs gt W0 we wr ra rb sent taken L M s1 s2 B1 T1 N1 T2 N2 A) (sn' : RdL wr L sent' (Qn (g0 + 4) wr.heap.size A)) (tk' : RdW wr M taken' (Qn (g0 + 4) wr.heap.size A))
  (o1' : OwnS B1' T1' wr ra' s1') (u1' : UnderS N1' s1') (o2' : OwnS N1' T2' wr rb' s2') (b1' : g0 + 4 ≤ B1') (b2' : B1' ≤ N1') (b3' : N1' ≤ wr.heap.size) (hA' : ∀ k, A.map (·.block) = some k → k < B1') :
  RC g0 gs gt W0 we ((wr.setRow g0 (cellsP ra' s1')).setRow (g0 + 1) (cellsP rb' s2')) ra' rb' sent' taken' L M s1' s2' B1' T1' N1' T2' wr.heap.size A := by
 have hg : Gp (fun k => k = g0 ∨ k = g0 + 1) wr ((wr.setRow g0 (cellsP ra' s1')).setRow (g0 + 1) (cellsP rb' s2')) :=
  (Gp.of_grown (setRow_grown wr g0 _) (fun k e => by injection e with e; exact .inl e.symm)).grown (setRow_grown _ (g0 + 1) _) (fun k e => by injection e with e; exact .inl (.inr e.symm))
 have hsz : ((wr.setRow g0 (cellsP ra' s1')).setRow (g0 + 1) (cellsP rb' s2')).heap.size = wr.heap.size := by simp
 have hgs := h.gs0
 have hgt := h.gt0
 have nb : ∀ k, g0 + 4 ≤ k → ¬ (k = g0 ∨ k = g0 + 1) := fun k hk e => by omega
 refine ⟨(Blk.row (cs' := cellsP ra' s1') h.bA).farRow (by omega), Blk.row (h.bB.farRow (by omega)), (h.bR.farRow (by omega)).farRow (by omega), (h.bT.farRow (by omega)).farRow (by omega), h.hS.gp hg (by omega), h.hT.gp hg (by omega), hgs, hgt, h.L6, h.M6,
  by rw [hsz]; exact sn'.gp hg (fun k q => nb k q.1), by rw [hsz]; exact tk'.gp hg (fun k q => nb k q.1),
  OwnP.gp o1' u1' hg (fun k e => by omega), u1', OwnP.gp o2' (OwnP.under o2') hg (fun k e => by omega), OwnP.under o2', b1', b2', b3', by rw [hsz]; exact Nat.le_refl _, fun k e => ⟨(h.hA k e).1, .inl (hA' k e)⟩, by rw [hsz]; exact h.aw,
  h.wb.gp hg (fun k e => by have := h.z1; omega), (h.gp.grown (setRow_grown wr g0 _) (fun k e => by injection e with e; right; have := h.z0; omega)).grown (setRow_grown _ (g0 + 1) _) (fun k e => by injection e with e; right; have := h.z0; omega), h.z0, h.z1⟩
/-- The start: both players copied and stored. -/
theorem RC.start {csA csB : Array Value} (bA : Blk wr g0 34 csA) (bB : Blk wr (g0 + 1) 34 csB) (bR : Blk wr (g0 + 1 + 1) 34 zeroP) (bT : Blk wr (g0 + 1 + 1 + 1) 34 zeroP) (hS : Blk wr gs 101 (six L)) (hT : Blk wr gt 101 (six M))
  (gs0 : gs < g0) (gt0 : gt < g0) (L6 : L.length = 6) (M6 : M.length = 6) (o1 : OwnS B1 T1 wr ra s1) (u1 : UnderS N1 s1) (o2 : OwnS N1 T2 wr rb s2) (b1 : g0 + 4 ≤ B1) (b2 : B1 ≤ N1) (b3 : N1 ≤ wr.heap.size) (wb : Bl W0 wr) (gp : Gp (Two gs gt) we wr) (z0 : we.heap.size = g0) (z1 : W0.heap.size ≤ gs ∧ W0.heap.size ≤ gt) :
  RC g0 gs gt W0 we ((wr.setRow g0 (cellsP ra s1)).setRow (g0 + 1) (cellsP rb s2)) ra rb [] [] L M s1 s2 B1 T1 N1 T2 wr.heap.size none := by
 have hg : Gp (fun k => k = g0 ∨ k = g0 + 1) wr ((wr.setRow g0 (cellsP ra s1)).setRow (g0 + 1) (cellsP rb s2)) :=
  (Gp.of_grown (setRow_grown wr g0 _) (fun k e => by injection e with e; exact .inl e.symm)).grown (setRow_grown _ (g0 + 1) _) (fun k e => by injection e with e; exact .inl (.inr e.symm))
 have hsz : ((wr.setRow g0 (cellsP ra s1)).setRow (g0 + 1) (cellsP rb s2)).heap.size = wr.heap.size := by simp
 refine ⟨(Blk.row (cs' := cellsP ra s1) bA).farRow (by omega), Blk.row (bB.farRow (by omega)), (bR.farRow (by omega)).farRow (by omega), (bT.farRow (by omega)).farRow (by omega), hS.gp hg (by omega), hT.gp hg (by omega), gs0, gt0, L6, M6,
  RdL.nil _ _ _, RdW.nil _ _ _, OwnP.gp o1 u1 hg (fun k e => by omega), u1, OwnP.gp o2 (OwnP.under o2) hg (fun k e => by omega), OwnP.under o2, b1, b2, b3, by rw [hsz]; exact Nat.le_refl _, (fun k e => by cases e), (fun k e => by cases e),
  wb.gp hg (fun k e => by omega), (gp.grown (setRow_grown wr g0 _) (fun k e => by injection e with e; right; omega)).grown (setRow_grown _ (g0 + 1) _) (fun k e => by injection e with e; right; omega), z0, z1⟩
theorem alloc_grown (w : World) (o : Obj) (row : Option Nat) : w.grownBy (w.alloc o) row := by
 have h := (Bl.refl w).alloc o
 exact ⟨h.os, h.tape, h.output, h.size, fun k hk _ => h.block k hk⟩
/-- The end: both results stored. -/
theorem RC.fin (h : RC g0 gs gt W0 we wr ra rb sent taken L M s1 s2 B1 T1 N1 T2 N2 A) {x y : Array Value} (hb : Bl ((wr.setRow (g0 + 1 + 1) x).setRow (g0 + 1 + 1 + 1) y) wx) :
  OwnS B1 T1 wx ra s1 ∧ UnderS N1 s1 ∧ OwnS N1 T2 wx rb s2 ∧ we.heap.size ≤ B1 ∧ B1 ≤ N1 ∧ M.length = 6 ∧ Blk wx gt 101 (six M) ∧ RdW wx M taken (fun _ => True) ∧ Gp (Two gs gt) we wx := by
 have hg : Gp (fun k => k = g0 + 1 + 1 ∨ k = g0 + 1 + 1 + 1) wr wx :=
  ((Gp.of_grown (setRow_grown wr (g0 + 1 + 1) _) (fun k e => by injection e with e; exact .inl e.symm)).grown (setRow_grown _ (g0 + 1 + 1 + 1) _) (fun k e => by injection e with e; exact .inl (.inr e.symm))).call hb
 have hgt := h.gt0
 have hb1 := h.b1
 have hb2 := h.b2
 have hz := h.z0
 exact ⟨OwnP.gp h.o1 h.u1 hg (fun k e => by omega), h.u1, OwnP.gp h.o2 h.u2 hg (fun k e => by omega), by omega, h.b2, h.M6, h.hT.gp hg (by omega), (h.tk.gp hg (fun k q e => by have := q.1; omega)).mono (fun _ _ _ => trivial),
  ((h.gp.grown (setRow_grown wr (g0 + 1 + 1) _) (fun k e => by injection e with e; right; omega)).grown (setRow_grown _ (g0 + 1 + 1 + 1) _) (fun k e => by injection e with e; right; omega)).call hb⟩
end
end Go.Proofs.YtcjpalhclgkjiaaDoor
