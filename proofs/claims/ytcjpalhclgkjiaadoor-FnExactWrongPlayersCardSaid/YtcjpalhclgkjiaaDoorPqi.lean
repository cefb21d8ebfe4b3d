/- What holds in memory during the reference's run of two players.
   Conditions: none. -/
import Derived.Test.YtcjpalhclgkjiaaDoorPqe
import Derived.Test.YtcjpalhclgkjiaaDoorPkhG
namespace Go.Proofs.YtcjpalhclgkjiaaDoor
open Go.RowKit
set_option linter.unusedVariables false
theorem RdTg.gp {P : Nat → Prop} {w w' : World} {A : Option Addr} {n c : Nat} {l : List Tg} (h : RdTg w A n c l) (hg : Gp P w w') (hA : ∀ k, A.map (·.block) = some k → ¬ P k) : RdTg w' A n c l := ⟨Rd.gp h.1 hg hA, h.2⟩
theorem RdSS.gp {P : Nat → Prop} {w w' : World} {A : Option Addr} {n c : Nat} {hs : List Hd} {LL : List (List Int)} (h : RdSS w A n c hs LL) (hg : Gp P w w') (hA : ∀ k, A.map (·.block) = some k → ¬ P k) (hR : ∀ (i : Nat) (x : Hd), hs[i]? = some x → ∀ k, x.blk = some k → ¬ P k) : RdSS w' A n c hs LL :=
 ⟨Rd.gp h.hd hg hA, h.len, fun i x l h1 h2 => Rd.gp (h.row i x l h1 h2) hg (hR i x h1)⟩
def RdPS (w : World) (a : Pl) (s : Sl) : Prop := RdP w a s.As s.Ak s.Ah s.ns s.cs s.nk s.ck s.nh s.ch s.hs
def InS (Q : Nat → Prop) (s : Sl) : Prop := InP Q s.As s.Ak s.Ah s.hs
theorem InP.mono {Q R : Nat → Prop} {As Ak Ah : Option Addr} {hs : List Hd} (h : InP Q As Ak Ah hs) (hq : ∀ k, Q k → R k) : InP R As Ak Ah hs := ⟨fun k e => hq k (h.s k e), fun k e => hq k (h.k k e), fun k e => hq k (h.h k e), fun i x hx k e => hq k (h.r i x hx k e)⟩
theorem UnderP.inP {N : Nat} {As Ak Ah : Option Addr} {hs : List Hd} (h : UnderP N As Ak Ah hs) : InP (fun k => k < N) As Ak Ah hs := ⟨h.s, h.k, h.h.1, h.h.2⟩
theorem RdPS.gp {P : Nat → Prop} {w w' : World} {a : Pl} {s : Sl} (h : RdPS w a s) (hg : Gp P w w') (hi : InS (fun k => ¬ P k) s) : RdPS w' a s :=
 ⟨RdTg.gp h.sh hg hi.s, Rd.gp h.ks hg hi.k, RdSS.gp h.hd hg hi.h hi.r⟩
/-- Blocks that are neither the four boxes nor the two lists. -/
def Qs (g0 N : Nat) (A At : Option Addr) (k : Nat) : Prop := (k < g0 ∨ g0 + 4 ≤ k) ∧ k < N ∧ A.map (·.block) ≠ some k ∧ At.map (·.block) ≠ some k
structure RS (g0 : Nat) (we wr : World) (ra rb : Pl) (sent taken : List Ms) (L M : List Hm) (s1 s2 : Sl) (A At : Option Addr) (n c nt ct : Nat) : Prop where
 bA : Blk wr g0 34 (cellsP ra s1)
 bB : Blk wr (g0 + 1) 34 (cellsP rb s2)
 bR : Blk wr (g0 + 1 + 1) 34 zeroP
 bT : Blk wr (g0 + 1 + 1 + 1) 34 zeroP
 oS : OwnV 87 3 (g0 + 4) wr A n c (encs Hm.enc L)
 lS : L.length = n
 oT : OwnV 87 3 (g0 + 4) wr At nt ct (encs Hm.enc M)
 lT : M.length = nt
 sn : RdL wr L sent (Qs g0 wr.heap.size A At)
 tk : RdW wr M taken (Qs g0 wr.heap.size A At)
 r1 : RdPS wr ra s1
 i1 : InS (Qs g0 wr.heap.size A At) s1
 r2 : RdPS wr rb s2
 i2 : InS (Qs g0 wr.heap.size A At) s2
 ap : ∀ k, A.map (·.block) = some k → At.map (·.block) ≠ some k
 wb : Bl we wr
 z0 : we.heap.size = g0
section
variable {g0 : Nat} {we wr wx : World} {ra rb : Pl} {sent taken : List Ms} {L M : List Hm} {s1 s2 : Sl} {A At : Option Addr} {n c nt ct : Nat}
theorem Qs.up {N N' k : Nat} (h : Qs g0 N A At k) (hn : N ≤ N') : Qs g0 N' A At k := ⟨h.1, Nat.lt_of_lt_of_le h.2.1 hn, h.2.2⟩
theorem RS.bl (h : RS g0 we wr ra rb sent taken L M s1 s2 A At n c nt ct) (hb : Bl wr wx) : RS g0 we wx ra rb sent taken L M s1 s2 A At n c nt ct :=
 ⟨h.bA.keep hb, h.bB.keep hb, h.bR.keep hb, h.bT.keep hb, OwnV.keep h.oS hb, h.lS, OwnV.keep h.oT hb, h.lT, (h.sn.keep hb).mono (fun k q => q.up hb.sz), (h.tk.keep hb).mono (fun k _ q => q.up hb.sz),
  RdP.keep h.r1 hb, InP.mono h.i1 (fun k q => q.up hb.sz), RdP.keep h.r2 hb, InP.mono h.i2 (fun k q => q.up hb.sz), h.ap, h.wb.call hb, h.z0⟩
/-- What is sent has grown by two. -/
theorem RS.send {A' : Option Addr} {c' : Nat} {x y : Hm} {m o : Ms} (h : RS g0 we wr ra rb sent taken L M s1 s2 A At n c nt ct) (hl : sent.length = n) (hg : wr.grownBy wx (A.map (·.block))) (ha : A'.map (·.block) = A.map (·.block) ∨ A'.map (·.block) = some wr.heap.size)
  (ho : OwnV 87 3 (g0 + 4) wx A' (n + 2) c' (encs Hm.enc L ++ (x.enc ++ y.enc))) (hx : RdM wr x m) (hy : RdM wr y o) (qx : ∀ k, x.blk = some k → Qs g0 wr.heap.size A At k) (qy : ∀ k, y.blk = some k → Qs g0 wr.heap.size A At k) :
  RS g0 we wx ra rb (sent ++ [m, o]) taken (L ++ [x, y]) M s1 s2 A' At (n + 2) c' nt ct := by
 have hsz := hg.size
 have hgp : Gp (fun k => A.map (·.block) = some k) wr wx := Gp.of_grown hg (fun k e => e)
 have nb : ∀ k, k < g0 + 4 → ¬ A.map (·.block) = some k := fun k hk e => by have := (OwnV.blk h.oS k e).1; omega
 have hq : ∀ k, Qs g0 wr.heap.size A At k → Qs g0 wx.heap.size A' At k := fun k q => ⟨q.1, Nat.lt_of_lt_of_le q.2.1 hsz, fun e => by
  rcases ha with e2 | e2
  ·exact q.2.2.1 (e2 ▸ e)
  ·rw [e2] at e; injection e with e; have := q.2.1; omega, q.2.2.2⟩
 have nQ : ∀ k, Qs g0 wr.heap.size A At k → ¬ A.map (·.block) = some k := fun k q e => q.2.2.1 e
 refine ⟨h.bA.gp hgp (nb _ (by omega)), h.bB.gp hgp (nb _ (by omega)), h.bR.gp hgp (nb _ (by omega)), h.bT.gp hgp (nb _ (by omega)), ?_, by rw [List.length_append, h.lS]; rfl, OwnV.gp h.oT hgp (fun k e e2 => h.ap k e2 e), h.lT,
  ?_, (h.tk.gp hgp nQ).mono (fun k _ q => hq k q), RdPS.gp h.r1 hgp (InP.mono h.i1 nQ), InP.mono h.i1 hq, RdPS.gp h.r2 hgp (InP.mono h.i2 nQ), InP.mono h.i2 hq, fun k e e2 => ?_, h.wb.gp hgp (fun k e => by have := (OwnV.blk h.oS k e).1; have := h.z0; omega), h.z0⟩
 ·rw [encs_append, show encs Hm.enc [x, y] = x.enc ++ y.enc by simp [encs]]; exact ho
 ·have h1 : RdL wx (L ++ [x, y]) sent (Qs g0 wx.heap.size A' At) := fun i u hu => by
   obtain ⟨z, h1, h2, h3⟩ := h.sn i u hu
   exact ⟨z, by rw [List.getElem?_append_left (List.getElem?_eq_some_iff.1 h1).1]; exact h1, h2.gp hgp (fun k hk => nQ k (h3 k hk)), fun k hk => hq k (h3 k hk)⟩
  have e1 : L.length = sent.length := h.lS.trans hl.symm
  exact h1.two (by rw [← e1, List.getElem?_append_right (Nat.le_refl _), Nat.sub_self]; rfl) (by rw [← e1, List.getElem?_append_right (by omega), show L.length + 1 - L.length = 1 by omega]; rfl) (hx.gp hgp (fun k hk => nQ k (qx k hk))) (hy.gp hgp (fun k hk => nQ k (qy k hk))) (fun k hk => hq k (qx k hk)) (fun k hk => hq k (qy k hk))
 ·rcases ha with e3 | e3
  ·exact h.ap k (e3 ▸ e) e2
  ·rw [e3] at e; injection e with e; have := (OwnV.blk h.oT k e2).2; omega
/-- What is taken has grown by two. -/
theorem RS.take {A' : Option Addr} {c' : Nat} {x y : Hm} {m o : Ms} (h : RS g0 we wr ra rb sent taken L M s1 s2 A At n c nt ct) (hl : taken.length = nt) (hg : wr.grownBy wx (At.map (·.block))) (ha : A'.map (·.block) = At.map (·.block) ∨ A'.map (·.block) = some wr.heap.size)
  (ho : OwnV 87 3 (g0 + 4) wx A' (nt + 2) c' (encs Hm.enc M ++ (x.enc ++ y.enc))) (hx : RdM wr x m) (hy : RdM wr y o) (qx : 0 < x.n → ∀ k, x.blk = some k → Qs g0 wr.heap.size A At k) (qy : 0 < y.n → ∀ k, y.blk = some k → Qs g0 wr.heap.size A At k) :
  RS g0 we wx ra rb sent (taken ++ [m, o]) L (M ++ [x, y]) s1 s2 A A' n c (nt + 2) c' := by
 have hsz := hg.size
 have hgp : Gp (fun k => At.map (·.block) = some k) wr wx := Gp.of_grown hg (fun k e => e)
 have nb : ∀ k, k < g0 + 4 → ¬ At.map (·.block) = some k := fun k hk e => by have := (OwnV.blk h.oT k e).1; omega
 have hq : ∀ k, Qs g0 wr.heap.size A At k → Qs g0 wx.heap.size A A' k := fun k q => ⟨q.1, Nat.lt_of_lt_of_le q.2.1 hsz, q.2.2.1, fun e => by
  rcases ha with e2 | e2
  ·exact q.2.2.2 (e2 ▸ e)
  ·rw [e2] at e; injection e with e; have := q.2.1; omega⟩
 have nQ : ∀ k, Qs g0 wr.heap.size A At k → ¬ At.map (·.block) = some k := fun k q e => q.2.2.2 e
 refine ⟨h.bA.gp hgp (nb _ (by omega)), h.bB.gp hgp (nb _ (by omega)), h.bR.gp hgp (nb _ (by omega)), h.bT.gp hgp (nb _ (by omega)), OwnV.gp h.oS hgp (fun k e e2 => h.ap k e e2), h.lS, ?_, by rw [List.length_append, h.lT]; rfl,
  (h.sn.gp hgp nQ).mono hq, ?_, RdPS.gp h.r1 hgp (InP.mono h.i1 nQ), InP.mono h.i1 hq, RdPS.gp h.r2 hgp (InP.mono h.i2 nQ), InP.mono h.i2 hq, fun k e e2 => ?_, h.wb.gp hgp (fun k e => by have := (OwnV.blk h.oT k e).1; have := h.z0; omega), h.z0⟩
 ·rw [encs_append, show encs Hm.enc [x, y] = x.enc ++ y.enc by simp [encs]]; exact ho
 ·have h1 : RdW wx (M ++ [x, y]) taken (Qs g0 wx.heap.size A A') := fun i u hu => by
   obtain ⟨z, h1, h2, h3⟩ := h.tk i u hu
   exact ⟨z, by rw [List.getElem?_append_left (List.getElem?_eq_some_iff.1 h1).1]; exact h1, h2.gpW hgp (fun hn k hk => nQ k (h3 hn k hk)), fun hn k hk => hq k (h3 hn k hk)⟩
  have e1 : M.length = taken.length := h.lT.trans hl.symm
  exact h1.two (by rw [← e1, List.getElem?_append_right (Nat.le_refl _), Nat.sub_self]; rfl) (by rw [← e1, List.getElem?_append_right (by omega), show M.length + 1 - M.length = 1 by omega]; rfl) (hx.gpW hgp (fun hn k hk => nQ k (qx hn k hk))) (hy.gpW hgp (fun hn k hk => nQ k (qy hn k hk))) (fun hn k hk => hq k (qx hn k hk)) (fun hn k hk => hq k (qy hn k hk))
 ·rcases ha with e3 | e3
  ·exact h.ap k e (e3 ▸ e2)
  ·rw [e3] at e2; injection e2 with e2; have := (OwnV.blk h.oS k e).2; omega
/-- The first player is stored anew. -/
theorem RS.setA {ra' : Pl} {s1' : Sl} (h : RS g0 we wr ra rb sent taken L M s1 s2 A At n c nt ct) (hr : RdPS wr ra' s1') (hi : InS (Qs g0 wr.heap.size A At) s1') :
  RS g0 we (wr.setRow g0 (cellsP ra' s1')) ra' rb sent taken L M s1' s2 A At n c nt ct := by
 have hgp : Gp (fun k => k = g0) wr (wr.setRow g0 (cellsP ra' s1')) := Gp.of_grown (setRow_grown wr g0 _) (fun k e => by injection e with e; exact e.symm)
 have hsz : (wr.setRow g0 (cellsP ra' s1')).heap.size = wr.heap.size := by simp
 have nQ : ∀ k, Qs g0 wr.heap.size A At k → ¬ k = g0 := fun k q e => by have := q.1; omega
 refine ⟨Blk.row h.bA, h.bB.farRow (by omega), h.bR.farRow (by omega), h.bT.farRow (by omega), OwnV.gp h.oS hgp (fun k e e2 => by have := (OwnV.blk h.oS k e).1; omega), h.lS, OwnV.gp h.oT hgp (fun k e e2 => by have := (OwnV.blk h.oT k e).1; omega), h.lT,
  by rw [hsz]; exact h.sn.gp hgp nQ, by rw [hsz]; exact h.tk.gp hgp nQ, RdPS.gp hr hgp (InP.mono hi nQ), by rw [hsz]; exact hi, RdPS.gp h.r2 hgp (InP.mono h.i2 nQ), by rw [hsz]; exact h.i2, h.ap, h.wb.gp hgp (fun k e => by have := h.z0; omega), h.z0⟩
/-- The second player is stored anew. -/
theorem RS.setB {rb' : Pl} {s2' : Sl} (h : RS g0 we wr ra rb sent taken L M s1 s2 A At n c nt ct) (hr : RdPS wr rb' s2') (hi : InS (Qs g0 wr.heap.size A At) s2') :
  RS g0 we (wr.setRow (g0 + 1) (cellsP rb' s2')) ra rb' sent taken L M s1 s2' A At n c nt ct := by
 have hgp : Gp (fun k => k = g0 + 1) wr (wr.setRow (g0 + 1) (cellsP rb' s2')) := Gp.of_grown (setRow_grown wr (g0 + 1) _) (fun k e => by injection e with e; exact e.symm)
 have hsz : (wr.setRow (g0 + 1) (cellsP rb' s2')).heap.size = wr.heap.size := by simp
 have nQ : ∀ k, Qs g0 wr.heap.size A At k → ¬ k = g0 + 1 := fun k q e => by have := q.1; omega
 refine ⟨h.bA.farRow (by omega), Blk.row h.bB, h.bR.farRow (by omega), h.bT.farRow (by omega), OwnV.gp h.oS hgp (fun k e e2 => by have := (OwnV.blk h.oS k e).1; omega), h.lS, OwnV.gp h.oT hgp (fun k e e2 => by have := (OwnV.blk h.oT k e).1; omega), h.lT,
  by rw [hsz]; exact h.sn.gp hgp nQ, by rw [hsz]; exact h.tk.gp hgp nQ, RdPS.gp h.r1 hgp (InP.mono h.i1 nQ), by rw [hsz]; exact h.i1, RdPS.gp hr hgp (InP.mono hi nQ), by rw [hsz]; exact hi, h.ap, h.wb.gp hgp (fun k e => by have := h.z0; omega), h.z0⟩
end
/-- Lists of a player that are short. -/
structure Sm (a : Pl) : Prop where
 s : a.sh.length ≤ 1000
 k : a.ks.length ≤ 1000
 h : a.hd.length ≤ 1000
 b : ∀ l ∈ a.hd, l.length ≤ 1000
theorem Ok.small {a : Pl} {k : Nat} (ok : Ok a k) (hk : k ≤ 3) : Sm a := ⟨by rw [ok.shn]; omega, by rw [ok.ksn]; omega, by rw [ok.hdn]; omega, fun l hl => by
 obtain ⟨i, hi⟩ := List.mem_iff_getElem?.1 hl
 have := (ok.hd i l hi).1
 have := bodyN_le i
 omega⟩
theorem Ok.small_take {a : Pl} {k : Nat} (ok : Ok a k) (hk : k ≤ 2) (m : Ms) : Sm (takeP a m) := by
 cases h : accP a m
 ·rw [take_n h]
  have := ok.small (by omega)
  exact ⟨this.s, this.k, this.h, this.b⟩
 ·exact (ok.took h).small (by omega)
/-- A round of two players: they go on, or the run is over. -/
theorem RunQ.round {a b : Pl} {l : List Md} {q : Nat} {ra rb : Pl} {sent taken : List Ms} (h : RunQ a b l q ra rb sent taken) (hq : q ≤ 2) :
  (q + 1 ≤ 2 ∧ RunQ a b l (q + 1) (takeP ra (tkB l ⟨ra, rb, sent, taken⟩)) (takeP rb (tkA l ⟨ra, rb, sent, taken⟩)) (sent ++ [msgP ra, msgP rb]) (taken ++ [tkA l ⟨ra, rb, sent, taken⟩, tkB l ⟨ra, rb, sent, taken⟩])) ∨
  (runM a b l = ⟨takeP ra (tkB l ⟨ra, rb, sent, taken⟩), takeP rb (tkA l ⟨ra, rb, sent, taken⟩), sent ++ [msgP ra, msgP rb], taken ++ [tkA l ⟨ra, rb, sent, taken⟩, tkB l ⟨ra, rb, sent, taken⟩]⟩ ∧
   ¬ ((takeP ra (tkB l ⟨ra, rb, sent, taken⟩)).status = 0 ∧ (takeP rb (tkA l ⟨ra, rb, sent, taken⟩)).status = 0)) := by
 obtain ⟨o1, o2, st1, st2⟩ := h.on hq
 cases h1 : accP ra (tkB l ⟨ra, rb, sent, taken⟩)
 ·refine .inr ⟨h.stop hq (.inl h1), fun hc => ?_⟩
  have := take_off h1; omega
 cases h2 : accP rb (tkA l ⟨ra, rb, sent, taken⟩)
 ·refine .inr ⟨h.stop hq (.inr h2), fun hc => ?_⟩
  have := take_off h2; omega
 have hn := h.next hq h1 h2
 by_cases h3 : q + 1 ≤ 2
 ·exact .inl ⟨h3, hn⟩
 ·have e : q = 2 := by omega
  subst e
  refine .inr ⟨hn.done, fun hc => ?_⟩
  have e1 := o1.step
  rw [take_y2 h1 e1] at hc
  simp at hc
end Go.Proofs.YtcjpalhclgkjiaaDoor
