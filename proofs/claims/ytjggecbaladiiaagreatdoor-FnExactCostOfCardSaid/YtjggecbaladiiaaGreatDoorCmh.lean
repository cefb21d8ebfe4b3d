/- The memory of a compiler between two lines: its maker, its rows, its readers.
   Conditions: none. -/
import Derived.Test.YtjggecbaladiiaaGreatDoorCmg
import Derived.Test.YtjggecbaladiiaaGreatDoorPsc
namespace Go.Proofs.YtjggecbaladiiaaGreatDoor
open Go.RowKit
set_option linter.unusedVariables false
def Hd.vl (h : Hd) : Value := .slice h.A h.n h.c
theorem OwnV.kept_ {e size base : Nat} {w w' : World} {A : Option Addr} {n c : Nat} {xs : List Value} (h : OwnV e size base w A n c xs) (hb : ∀ k, A.map (·.block) = some k → k < w.heap.size → w'.heap[k]? = w.heap[k]?) : OwnV e size base w' A n c xs := by
  refine ⟨h.1, ?_⟩
  rcases h.2 with h0 | ⟨g, cap, cur, h1, h2, h3, h4⟩
  · exact .inl h0
  · have e : A.map (·.block) = some g := by injection h1 with h1; rw [h1]; rfl
    exact .inr ⟨g, cap, cur, h1, h2, (hb g e (Array.getElem?_eq_some_iff.1 h3).1).trans h3, h4⟩
theorem RdI.kept_ {w w' : World} {S : Option Addr} {m c : Nat} {l : List Int} (h : RdI w S m c l) (hs : w.heap.size ≤ w'.heap.size) (hb : ∀ k, S.map (·.block) = some k → k < w.heap.size → w'.heap[k]? = w.heap[k]?) : RdI w' S m c l := by
  refine ⟨h.len, h.cap, h.max, fun hn => ?_⟩
  obtain ⟨ad, e, hl, hc⟩ := h.at0 hn
  refine ⟨ad, e, Nat.lt_of_lt_of_le hl hs, fun j u hu => ?_⟩
  exact (World.cell?_of_block (a := ad.add j) (by rw [block_of_add]; exact hb ad.block (by rw [e]; rfl) hl)).trans (hc j u hu)
/-- The blocks that a compiler turns, all apart. -/
def mts (x : Nat) (A B WA EA : Option Addr) (bT bO : Nat) : List (Option Nat) := [some x, A.map (·.block), B.map (·.block), WA.map (·.block), EA.map (·.block), some bT, some bO]
def Apt (l : List (Option Nat)) : Prop := ∀ (i j : Nat) (q : Nat), l[i]? = some (some q) → l[j]? = some (some q) → i = j
theorem Apt.set_ {l : List (Option Nat)} {T : Nat} (h : Apt l) (hT : ∀ m ∈ l, ∀ q, m = some q → q < T) (i : Nat) {m : Option Nat} (hm : l[i]? = some m ∨ ∀ q, m = some q → T ≤ q) : Apt (l.set i m) := by
  have key : ∀ (a b q : Nat), (l.set i m)[a]? = some (some q) → (l.set i m)[b]? = some (some q) → a = i → b ≠ i → False := fun a b q ha hb hai hbi => by
    subst hai
    rw [List.getElem?_set_ne (Ne.symm hbi)] at hb
    have hlt : a < l.length := by
      have := (List.getElem?_eq_some_iff.1 ha).1
      rwa [List.length_set] at this
    rw [List.getElem?_set_self hlt] at ha
    injection ha with ha
    rcases hm with hm | hm
    · exact hbi (h b a q hb (by rw [hm, ha]))
    · have := hm q ha
      have := hT _ (List.mem_of_getElem? hb) q rfl
      omega
  intro a b q ha hb
  by_cases hai : a = i <;> by_cases hbi : b = i
  · omega
  · exact (key a b q ha hb hai hbi).elim
  · exact (key b a q hb ha hbi hai).elim
  · rw [List.getElem?_set_ne (Ne.symm hai)] at ha
    rw [List.getElem?_set_ne (Ne.symm hbi)] at hb
    exact h a b q ha hb
/-- A row that is read and not turned. -/
structure Rr (w : World) (T : Nat) (ms : List (Option Nat)) (h : Hd) (l : List Int) : Prop where
  rd : RdI w h.A h.n h.c l
  ap : ∀ q, h.blk = some q → q < T ∧ ∀ m ∈ ms, m ≠ some q
/-- What no line turns: the types of three blocks, the world at the start, the blocks, the inputs. -/
structure Cq where
  T : TypeId
  TB : TypeId
  TO : TypeId
  w0 : World
  x : Nat
  base : Nat
  bT : Nat
  bO : Nat
  a : Int
  b : Int
def Cq.mts (Q : Cq) (A B WA EA : Option Addr) : List (Option Nat) := Go.Proofs.YtjggecbaladiiaaGreatDoor.mts Q.x A B WA EA Q.bT Q.bO
structure Cs (Q : Cq) (w : World) (Tm : Nat) (g : List Gt) (ol : List Int) (n0 n1 : Int) (n : Nat) (A B : Option Addr) (d : Nat) (WA : Option Addr) (wc : Nat) (hs : List Hd) (EA : Option Addr) (ke ec : Nat) (el : List Int) (ov : Array Value) (rs : List (Hd × List Int)) : Prop where
  me : ME Q.T ⟨Q.x, Q.base, Q.a, Q.b, B, ol.length, d, ol⟩ w n g A
  wi : OwnV 27 1 Q.w0.heap.size w WA hs.length wc (hs.map Hd.vl)
  en : OwnI Q.w0.heap.size w EA ke ec el
  nx : Blk w Q.bT Q.TB #[.int .i64 n0, .int .i64 n1]
  ou : Blk w Q.bO Q.TO ov
  ap : Apt (mts Q.x A B WA EA Q.bT Q.bO)
  lo : ∀ m ∈ mts Q.x A B WA EA Q.bT Q.bO, ∀ q, m = some q → Q.w0.heap.size ≤ q ∧ q < Tm
  rr : ∀ p ∈ rs, Rr w Tm (mts Q.x A B WA EA Q.bT Q.bO) p.1 p.2
  bl : Bl Q.w0 w
  tm : Tm ≤ w.heap.size
section
variable {Q : Cq} {w w' : World} {Tm : Nat} {g : List Gt} {ol : List Int} {n0 n1 : Int} {n : Nat} {A B : Option Addr} {d : Nat} {WA : Option Addr} {wc : Nat} {hs : List Hd} {EA : Option Addr} {ke ec : Nat} {el : List Int} {ov : Array Value} {rs : List (Hd × List Int)}
theorem Cs.keep (h : Cs Q w Tm g ol n0 n1 n A B d WA wc hs EA ke ec el ov rs) (hb : Bl w w') : Cs Q w' Tm g ol n0 n1 n A B d WA wc hs EA ke ec el ov rs :=
  ⟨h.me.keep hb, h.wi.keep hb, h.en.keep hb, h.nx.keep hb, h.ou.keep hb, h.ap, h.lo, fun p hp => ⟨(h.rr p hp).rd.keep hb, (h.rr p hp).ap⟩, h.bl.call hb, Nat.le_trans h.tm hb.size⟩
theorem Cs.raise (h : Cs Q w Tm g ol n0 n1 n A B d WA wc hs EA ke ec el ov rs) : Cs Q w w.heap.size g ol n0 n1 n A B d WA wc hs EA ke ec el ov rs :=
  ⟨h.me, h.wi, h.en, h.nx, h.ou, h.ap, fun m hm q hq => ⟨(h.lo m hm q hq).1, Nat.lt_of_lt_of_le (h.lo m hm q hq).2 h.tm⟩, fun p hp => ⟨(h.rr p hp).rd, fun q hq => ⟨Nat.lt_of_lt_of_le ((h.rr p hp).ap q hq).1 h.tm, ((h.rr p hp).ap q hq).2⟩⟩, h.bl, Nat.le_refl _⟩
theorem Cs.at_ (h : Cs Q w Tm g ol n0 n1 n A B d WA wc hs EA ke ec el ov rs) (i : Nat) {m : Option Nat} (hm : (mts Q.x A B WA EA Q.bT Q.bO)[i]? = some m) {j : Nat} {m' : Option Nat} (hm' : (mts Q.x A B WA EA Q.bT Q.bO)[j]? = some m') (hij : i ≠ j) : ∀ q, m = some q → m' ≠ some q := fun q e e' => hij (h.ap i j q (by rw [hm, e]) (by rw [hm', e']))
/-- A row beyond all of these grows. -/
theorem Cs.other {row : Option Nat} (h : Cs Q w Tm g ol n0 n1 n A B d WA wc hs EA ke ec el ov rs) (hg : w.grownBy w' row) (hr : ∀ q, row = some q → Tm ≤ q) : Cs Q w' Tm g ol n0 n1 n A B d WA wc hs EA ke ec el ov rs := by
  have key : ∀ q, q < Tm → w'.heap[q]? = w.heap[q]? := fun q hq => hg.block q (Nat.lt_of_lt_of_le hq h.tm) (fun e => by have := hr q e.symm; omega)
  have hx := (h.lo (some Q.x) (by simp [mts]) Q.x rfl)
  refine ⟨h.me.grown hg (fun q e => ⟨?_, ?_, ?_⟩), h.wi.kept_ (fun q e _ => key q (h.lo _ (by simp [mts]) q e).2), own_blk h.en (fun q e _ => key q (h.lo _ (by simp [mts]) q e).2), (key Q.bT (h.lo (some Q.bT) (by simp [mts]) Q.bT rfl).2).trans h.nx, (key Q.bO (h.lo (some Q.bO) (by simp [mts]) Q.bO rfl).2).trans h.ou, h.ap, h.lo, fun p hp => ⟨(h.rr p hp).rd.kept_ hg.size (fun q e _ => key q ((h.rr p hp).ap q e).1), (h.rr p hp).ap⟩, h.bl.grown hg (fun q e => by have := hr q e; omega), Nat.le_trans h.tm hg.size⟩
  · have := hr q e; show q ≠ Q.x; omega
  · intro e2; have := hr q e; have := (h.lo _ (by simp [mts]) q e2).2; omega
  · intro e2; have := hr q e; have := (h.lo (B.map (·.block)) (by simp [mts]) q e2).2; omega
/-- Gates are made. -/
theorem Cs.gates {g' : List Gt} {n' : Nat} {A' : Option Addr} (h : Cs Q w Tm g ol n0 n1 n A B d WA wc hs EA ke ec el ov rs) (hm : ME Q.T ⟨Q.x, Q.base, Q.a, Q.b, B, ol.length, d, ol⟩ w' n' g' A') (hf : Fm w w' Q.x A A') :
    Cs Q w' w'.heap.size g' ol n0 n1 n' A' B d WA wc hs EA ke ec el ov rs := by
  have h1 := h.lo
  have key : ∀ (i : Nat) (m : Option Nat), (mts Q.x A B WA EA Q.bT Q.bO)[i]? = some m → i ≠ 0 → i ≠ 1 → ∀ q, m = some q → q < w.heap.size → w'.heap[q]? = w.heap[q]? := fun i m hi h0 h2 q e hq => by
    refine hf.kept q hq (fun e2 => h0 (h.ap i 0 q (by rw [hi, e]) (by rw [e2]; rfl))) (fun e2 => h2 (h.ap i 1 q (by rw [hi, e]) (by rw [← e2]; rfl)))
  have hT := h.tm
  have hz := hf.size
  have hA : (mts Q.x A B WA EA Q.bT Q.bO).set 1 (A'.map (·.block)) = mts Q.x A' B WA EA Q.bT Q.bO := rfl
  have hA' : ∀ q, A'.map (·.block) = some q → Q.w0.heap.size ≤ q ∧ q < w'.heap.size := fun q e => by
    have := (hm.at_ q e).2
    rcases hf.row with e2 | ⟨k, e2, hk⟩
    · exact ⟨(h1 _ (by simp [mts]) q (e2.symm.trans e)).1, this⟩
    · have := e2.symm.trans e; injection this with this
      have := h.bl.sz
      exact ⟨by omega, by omega⟩
  refine ⟨hm, h.wi.kept_ (fun q e hq => key 3 _ rfl (by decide) (by decide) q e hq), own_blk h.en (fun q e hq => key 4 _ rfl (by decide) (by decide) q e hq), (key 5 _ rfl (by decide) (by decide) Q.bT rfl h.nx.lt).trans h.nx, (key 6 _ rfl (by decide) (by decide) Q.bO rfl h.ou.lt).trans h.ou, ?_, ?_, fun p hp => ⟨?_, fun q e => ⟨?_, fun m hm2 e2 => ?_⟩⟩, Below.trans h.bl (Below.mono hf.low (h1 (some Q.x) (by simp [mts]) Q.x rfl).1), Nat.le_refl _⟩
  · rw [← hA]
    refine h.ap.set_ (T := w.heap.size) (fun m hm q e => Nat.lt_of_lt_of_le (h1 m hm q e).2 hT) 1 ?_
    rcases hf.row with e | ⟨k, e, hk⟩
    · exact .inl (by rw [e]; rfl)
    · exact .inr fun q e2 => by have := e.symm.trans e2; injection this with this; omega
  · intro m hm2 q e
    simp only [mts, List.mem_cons, List.not_mem_nil, or_false] at hm2
    rcases hm2 with rfl | rfl | rfl | rfl | rfl | rfl | rfl
    · have := h1 (some Q.x) (by simp [mts]) q e; omega
    · exact hA' q e
    · have := h1 (B.map (·.block)) (by simp [mts]) q e; omega
    · have := h1 (WA.map (·.block)) (by simp [mts]) q e; omega
    · have := h1 (EA.map (·.block)) (by simp [mts]) q e; omega
    · have := h1 (some Q.bT) (by simp [mts]) q e; omega
    · have := h1 (some Q.bO) (by simp [mts]) q e; omega
  · refine (h.rr p hp).rd.fm (fun q e => ⟨fun e2 => ((h.rr p hp).ap q e).2 (some Q.x) (by simp [mts]) (by rw [e2]), fun e2 => ((h.rr p hp).ap q e).2 _ (by simp [mts]) e2⟩) hf
  · have := ((h.rr p hp).ap q e).1; omega
  · have hq := (h.rr p hp).ap q e
    simp only [mts, List.mem_cons, List.not_mem_nil, or_false] at hm2
    rcases hm2 with rfl | rfl | rfl | rfl | rfl | rfl | rfl
    · exact hq.2 _ (by simp [mts]) e2
    · rcases hf.row with e3 | ⟨k, e3, hk⟩
      · exact hq.2 (A.map (·.block)) (by simp [mts]) (e3.symm.trans e2)
      · have := e3.symm.trans e2; injection this with this; omega
    · exact hq.2 (B.map (·.block)) (by simp [mts]) e2
    · exact hq.2 (WA.map (·.block)) (by simp [mts]) e2
    · exact hq.2 (EA.map (·.block)) (by simp [mts]) e2
    · exact hq.2 _ (by simp [mts]) e2
    · exact hq.2 _ (by simp [mts]) e2
/-- One more row is read. -/
theorem Cs.read {p : Hd × List Int} (h : Cs Q w Tm g ol n0 n1 n A B d WA wc hs EA ke ec el ov rs) (hp : Rr w Tm (mts Q.x A B WA EA Q.bT Q.bO) p.1 p.2) : Cs Q w Tm g ol n0 n1 n A B d WA wc hs EA ke ec el ov (rs ++ [p]) :=
  ⟨h.me, h.wi, h.en, h.nx, h.ou, h.ap, h.lo, fun q hq => by
    rcases List.mem_append.1 hq with hq | hq
    · exact h.rr q hq
    · rw [List.mem_singleton] at hq; subst hq; exact hp, h.bl, h.tm⟩
/-- A fresh row is read. -/
theorem Cs.fresh {S : Option Addr} {m c : Nat} {l : List Int} (h : Cs Q w Tm g ol n0 n1 n A B d WA wc hs EA ke ec el ov rs) (ho : OwnI Tm w S m c l) : Cs Q w w.heap.size g ol n0 n1 n A B d WA wc hs EA ke ec el ov (rs ++ [(⟨S, m, c⟩, l)]) := by
  refine h.raise.read ⟨ho.rd, fun q e => ⟨(ho.blk q e).2, fun mm hm e2 => ?_⟩⟩
  have := (h.lo mm hm q e2).2
  have := (ho.blk q e).1
  omega
/-- The next number of an input is stored. -/
theorem Cs.next0 (h : Cs Q w Tm g ol n0 n1 n A B d WA wc hs EA ke ec el ov rs) (v : Int) : Cs Q (w.setCell ⟨Q.bT, 0, none⟩ (.int .i64 v)) Tm g ol v n1 n A B d WA wc hs EA ke ec el ov rs := by
  have hg := grownBy_setCell w Q.bT 0 (.int .i64 v)
  have key : ∀ q, q < w.heap.size → q ≠ Q.bT → (w.setCell ⟨Q.bT, 0, none⟩ (.int .i64 v)).heap[q]? = w.heap[q]? := fun q hq hne => hg.block q hq (fun e => by injection e with e; exact hne e)
  have hb : ∀ (i : Nat) (m : Option Nat), (mts Q.x A B WA EA Q.bT Q.bO)[i]? = some m → i ≠ 5 → ∀ q, m = some q → q ≠ Q.bT := fun i m hi h5 q e e2 => h5 (h.ap i 5 q (by rw [hi, e]) (by rw [e2]; rfl))
  refine ⟨h.me.grown hg (fun q e => ?_), h.wi.kept_ (fun q e hq => key q hq (hb 3 _ rfl (by decide) q e)), own_blk h.en (fun q e hq => key q hq (hb 4 _ rfl (by decide) q e)), h.nx.set_ 0 _, (key Q.bO h.ou.lt (hb 6 _ rfl (by decide) Q.bO rfl)).trans h.ou, h.ap, h.lo, fun p hp => ⟨(h.rr p hp).rd.kept_ hg.size (fun q e hq => key q hq (fun e2 => ((h.rr p hp).ap q e).2 (some Q.bT) (by simp [mts]) (by rw [e2]))), (h.rr p hp).ap⟩, h.bl.setCell (h.lo (some Q.bT) (by simp [mts]) Q.bT rfl).1 _, by simpa [World.setCell] using h.tm⟩
  injection e with e
  subst e
  exact ⟨fun e => hb 0 _ rfl (by decide) Q.x rfl e.symm, fun e => hb 1 _ rfl (by decide) _ e rfl, fun e => hb 2 _ rfl (by decide) _ e rfl⟩
theorem Cs.next1 (h : Cs Q w Tm g ol n0 n1 n A B d WA wc hs EA ke ec el ov rs) (v : Int) : Cs Q (w.setCell ⟨Q.bT, 1, none⟩ (.int .i64 v)) Tm g ol n0 v n A B d WA wc hs EA ke ec el ov rs := by
  have hg := grownBy_setCell w Q.bT 1 (.int .i64 v)
  have key : ∀ q, q < w.heap.size → q ≠ Q.bT → (w.setCell ⟨Q.bT, 1, none⟩ (.int .i64 v)).heap[q]? = w.heap[q]? := fun q hq hne => hg.block q hq (fun e => by injection e with e; exact hne e)
  have hb : ∀ (i : Nat) (m : Option Nat), (mts Q.x A B WA EA Q.bT Q.bO)[i]? = some m → i ≠ 5 → ∀ q, m = some q → q ≠ Q.bT := fun i m hi h5 q e e2 => h5 (h.ap i 5 q (by rw [hi, e]) (by rw [e2]; rfl))
  refine ⟨h.me.grown hg (fun q e => ?_), h.wi.kept_ (fun q e hq => key q hq (hb 3 _ rfl (by decide) q e)), own_blk h.en (fun q e hq => key q hq (hb 4 _ rfl (by decide) q e)), h.nx.set_ 1 _, (key Q.bO h.ou.lt (hb 6 _ rfl (by decide) Q.bO rfl)).trans h.ou, h.ap, h.lo, fun p hp => ⟨(h.rr p hp).rd.kept_ hg.size (fun q e hq => key q hq (fun e2 => ((h.rr p hp).ap q e).2 (some Q.bT) (by simp [mts]) (by rw [e2]))), (h.rr p hp).ap⟩, h.bl.setCell (h.lo (some Q.bT) (by simp [mts]) Q.bT rfl).1 _, by simpa [World.setCell] using h.tm⟩
  injection e with e
  subst e
  exact ⟨fun e => hb 0 _ rfl (by decide) Q.x rfl e.symm, fun e => hb 1 _ rfl (by decide) _ e rfl, fun e => hb 2 _ rfl (by decide) _ e rfl⟩
/-- A value is stored in the block of the outcome. -/
theorem Cs.store (h : Cs Q w Tm g ol n0 n1 n A B d WA wc hs EA ke ec el ov rs) (i : Nat) (v : Value) : Cs Q (w.setCell ⟨Q.bO, i, none⟩ v) Tm g ol n0 n1 n A B d WA wc hs EA ke ec el (ov.setIfInBounds i v) rs := by
  have hg := grownBy_setCell w Q.bO i v
  have key : ∀ q, q < w.heap.size → q ≠ Q.bO → (w.setCell ⟨Q.bO, i, none⟩ v).heap[q]? = w.heap[q]? := fun q hq hne => hg.block q hq (fun e => by injection e with e; exact hne e)
  have hb : ∀ (i : Nat) (m : Option Nat), (mts Q.x A B WA EA Q.bT Q.bO)[i]? = some m → i ≠ 6 → ∀ q, m = some q → q ≠ Q.bO := fun i m hi h5 q e e2 => h5 (h.ap i 6 q (by rw [hi, e]) (by rw [e2]; rfl))
  refine ⟨h.me.grown hg (fun q e => ?_), h.wi.kept_ (fun q e hq => key q hq (hb 3 _ rfl (by decide) q e)), own_blk h.en (fun q e hq => key q hq (hb 4 _ rfl (by decide) q e)), (key Q.bT h.nx.lt (hb 5 _ rfl (by decide) Q.bT rfl)).trans h.nx, h.ou.set_ i v, h.ap, h.lo, fun p hp => ⟨(h.rr p hp).rd.kept_ hg.size (fun q e hq => key q hq (fun e2 => ((h.rr p hp).ap q e).2 (some Q.bO) (by simp [mts]) (by rw [e2]))), (h.rr p hp).ap⟩, h.bl.setCell (h.lo (some Q.bO) (by simp [mts]) Q.bO rfl).1 _, by simpa [World.setCell] using h.tm⟩
  injection e with e
  subst e
  exact ⟨fun e => hb 0 _ rfl (by decide) Q.x rfl e.symm, fun e => hb 1 _ rfl (by decide) _ e rfl, fun e => hb 2 _ rfl (by decide) _ e rfl⟩
/-- What a row's growing leaves of the others: i is its place among the blocks that are turned. -/
theorem Cs.row_ {i : Nat} {m m' : Option Nat} (h : Cs Q w Tm g ol n0 n1 n A B d WA wc hs EA ke ec el ov rs) (hg : w.grownBy w' m) (hi : (mts Q.x A B WA EA Q.bT Q.bO)[i]? = some m) (hat : m' = m ∨ m' = some w.heap.size) (hlt : ∀ q, m' = some q → q < w'.heap.size) :
    (∀ (j : Nat) (u : Option Nat), (mts Q.x A B WA EA Q.bT Q.bO)[j]? = some u → j ≠ i → ∀ q, u = some q → q < w.heap.size → w'.heap[q]? = w.heap[q]?) ∧ Apt ((mts Q.x A B WA EA Q.bT Q.bO).set i m') ∧ (∀ u ∈ (mts Q.x A B WA EA Q.bT Q.bO).set i m', ∀ q, u = some q → Q.w0.heap.size ≤ q ∧ q < w'.heap.size) ∧
      (∀ p ∈ rs, Rr w' w'.heap.size ((mts Q.x A B WA EA Q.bT Q.bO).set i m') p.1 p.2) ∧ Bl Q.w0 w' := by
  have hT := h.tm
  have hz := hg.size
  have hmm : m ∈ mts Q.x A B WA EA Q.bT Q.bO := List.mem_of_getElem? hi
  have hset : ∀ u ∈ (mts Q.x A B WA EA Q.bT Q.bO).set i m', u = m' ∨ u ∈ mts Q.x A B WA EA Q.bT Q.bO := fun u hu => by
    obtain ⟨j, hj⟩ := List.getElem?_of_mem hu
    by_cases hji : j = i
    · subst hji
      have := (List.getElem?_eq_some_iff.1 hi).1
      rw [List.getElem?_set_self this] at hj
      injection hj with hj
      exact .inl hj.symm
    · rw [List.getElem?_set_ne (Ne.symm hji)] at hj
      exact .inr (List.mem_of_getElem? hj)
  refine ⟨fun j u hj hji q e hq => hg.block q hq (fun e2 => hji (h.ap j i q (by rw [hj, e]) (by rw [hi, ← e2]))), ?_, fun u hu q e => ?_, fun p hp => ⟨(h.rr p hp).rd.kept_ hz (fun q e hq => hg.block q hq (fun e2 => ((h.rr p hp).ap q e).2 m hmm e2.symm)), fun q e => ⟨?_, fun u hu e2 => ?_⟩⟩, h.bl.grown hg (fun q e => (h.lo m hmm q e).1)⟩
  · refine h.ap.set_ (T := w.heap.size) (fun u hu q e => Nat.lt_of_lt_of_le (h.lo u hu q e).2 hT) i ?_
    rcases hat with e | e
    · exact .inl (by rw [e]; exact hi)
    · exact .inr fun q e2 => by have := e.symm.trans e2; injection this with this; omega
  · rcases hset u hu with e1 | e1
    · subst e1
      refine ⟨?_, hlt q e⟩
      rcases hat with e2 | e2
      · exact (h.lo m hmm q (e2.symm.trans e)).1
      · have := e2.symm.trans e; injection this with this
        have := h.bl.sz
        omega
    · have := h.lo u e1 q e; omega
  · have := ((h.rr p hp).ap q e).1; omega
  · have hq := (h.rr p hp).ap q e
    rcases hset u hu with e1 | e1
    · subst e1
      rcases hat with e3 | e3
      · exact hq.2 m hmm (e3.symm.trans e2)
      · have := e3.symm.trans e2; injection this with this; omega
    · exact hq.2 u e1 e2
/-- The wires of a line are kept. -/
theorem Cs.pushW {WA' : Option Addr} {wc' : Nat} {y : Hd} (h : Cs Q w Tm g ol n0 n1 n A B d WA wc hs EA ke ec el ov rs) (ho : OwnV 27 1 Q.w0.heap.size w' WA' (hs.length + 1) wc' (hs.map Hd.vl ++ [y.vl])) (hg : w.grownBy w' (WA.map (·.block))) (hat : WA'.map (·.block) = WA.map (·.block) ∨ WA'.map (·.block) = some w.heap.size) :
    Cs Q w' w'.heap.size g ol n0 n1 n A B d WA' wc' (hs ++ [y]) EA ke ec el ov rs := by
  obtain ⟨h1, h2, h3, h4, h5⟩ := h.row_ (i := 3) hg rfl hat (fun q e => (ho.blk q e).2)
  exact ⟨h.me.grown hg (fun q e => ⟨fun e2 => h.at_ 3 rfl (j := 0) rfl (by decide) q e (by rw [e2]), fun e2 => h.at_ 3 rfl (j := 1) rfl (by decide) q e e2, fun e2 => h.at_ 3 rfl (j := 2) rfl (by decide) q e e2⟩), by rw [List.length_append, List.map_append]; exact ho, own_blk h.en (fun q e hq => h1 4 _ rfl (by decide) q e hq), (h1 5 _ rfl (by decide) Q.bT rfl h.nx.lt).trans h.nx, (h1 6 _ rfl (by decide) Q.bO rfl h.ou.lt).trans h.ou, h2, h3, h4, h5, Nat.le_refl _⟩
/-- The number of gates behind a line is kept. -/
theorem Cs.pushE {EA' : Option Addr} {ke' ec' : Nat} {el' : List Int} (h : Cs Q w Tm g ol n0 n1 n A B d WA wc hs EA ke ec el ov rs) (ho : OwnI Q.w0.heap.size w' EA' ke' ec' el') (hg : w.grownBy w' (EA.map (·.block))) (hat : EA'.map (·.block) = EA.map (·.block) ∨ EA'.map (·.block) = some w.heap.size) :
    Cs Q w' w'.heap.size g ol n0 n1 n A B d WA wc hs EA' ke' ec' el' ov rs := by
  obtain ⟨h1, h2, h3, h4, h5⟩ := h.row_ (i := 4) hg rfl hat (fun q e => (ho.blk q e).2)
  exact ⟨h.me.grown hg (fun q e => ⟨fun e2 => h.at_ 4 rfl (j := 0) rfl (by decide) q e (by rw [e2]), fun e2 => h.at_ 4 rfl (j := 1) rfl (by decide) q e e2, fun e2 => h.at_ 4 rfl (j := 2) rfl (by decide) q e e2⟩), h.wi.kept_ (fun q e hq => h1 3 _ rfl (by decide) q e hq), ho, (h1 5 _ rfl (by decide) Q.bT rfl h.nx.lt).trans h.nx, (h1 6 _ rfl (by decide) Q.bO rfl h.ou.lt).trans h.ou, h2, h3, h4, h5, Nat.le_refl _⟩
/-- Outs are appended, and stored in the maker. -/
theorem Cs.outs {B' : Option Addr} {d' : Nat} {l : List Int} (h : Cs Q w Tm g ol n0 n1 n A B d WA wc hs EA ke ec el ov rs) (ho : OwnI Q.base w' B' (ol ++ l).length d' (ol ++ l)) (hg : w.grownBy w' (B.map (·.block))) (hat : B'.map (·.block) = B.map (·.block) ∨ B'.map (·.block) = some w.heap.size) :
    Cs Q (w'.setCell ⟨Q.x, 3, none⟩ (.slice B' (ol ++ l).length d')) w'.heap.size g (ol ++ l) n0 n1 n A B' d' WA wc hs EA ke ec el ov rs := by
  obtain ⟨h1, h2, h3, h4, h5⟩ := h.row_ (i := 2) hg rfl hat (fun q e => (ho.blk q e).2)
  obtain ⟨hN, ⟨c, hB, hgs⟩, hos, hfar, hap, htop, ha, hb⟩ := h.me
  dsimp only at hB hgs hos hfar hap htop ha hb
  have hg2 := grownBy_setCell w' Q.x 3 (.slice B' (ol ++ l).length d')
  have hne : ∀ (j : Nat) (u : Option Nat), ((mts Q.x A B WA EA Q.bT Q.bO).set 2 (B'.map (·.block)))[j]? = some u → j ≠ 0 → ∀ q, u = some q → q ≠ Q.x := fun j u hj h0 q e e2 => h0 (h2 j 0 q (by rw [hj, e]) (by rw [e2]; rfl))
  have key : ∀ (j : Nat) (u : Option Nat), ((mts Q.x A B WA EA Q.bT Q.bO).set 2 (B'.map (·.block)))[j]? = some u → (mts Q.x A B WA EA Q.bT Q.bO)[j]? = some u → j ≠ 0 → j ≠ 2 → ∀ q, u = some q → q < w.heap.size → (w'.setCell ⟨Q.x, 3, none⟩ (.slice B' (ol ++ l).length d')).heap[q]? = w.heap[q]? := fun j u hj hj2 h0 h2' q e hq =>
    (hg2.block q (Nat.lt_of_lt_of_le hq hg.size) (fun e2 => by injection e2 with e2; exact hne j u hj h0 q e e2)).trans (h1 j u hj2 h2' q e hq)
  have hx := h3 (some Q.x) (by simp [mts]) Q.x rfl
  have hxB : w'.heap[Q.x]? = w.heap[Q.x]? := h1 0 _ rfl (by decide) Q.x rfl hB.lt
  have hA1 : OwnG Q.base w' A n c g := hgs.grown hg (fun q hq e => hap q.block (by rw [hq]; rfl) e.symm)
  refine ⟨⟨hN, ⟨c, ?_, ?_⟩, ?_, hfar, fun q e e2 => ?_, ?_, ha, hb⟩, h.wi.kept_ (fun q e hq => key 3 _ rfl rfl (by decide) (by decide) q e hq), own_blk h.en (fun q e hq => key 4 _ rfl rfl (by decide) (by decide) q e hq), (key 5 _ rfl rfl (by decide) (by decide) Q.bT rfl h.nx.lt).trans h.nx, (key 6 _ rfl rfl (by decide) (by decide) Q.bO rfl h.ou.lt).trans h.ou, h2, h3, fun p hp => ⟨(h4 p hp).rd.kept_ hg2.size (fun q e hq => hg2.block q hq (fun e2 => by injection e2 with e2; exact ((h4 p hp).ap q e).2 (some Q.x) (by simp [mts]) (by rw [e2]))), (h4 p hp).ap⟩, h5.setCell hx.1 _, by simp [World.setCell]⟩
  · have hB1 : Blk w' Q.x Q.T #[.int .i64 Q.a, .int .i64 Q.b, .slice A n c, .slice B ol.length d] := hxB.trans hB
    exact hB1.set_ 3 (.slice B' (ol ++ l).length d')
  · exact hA1.low hfar _
  · exact ho.low hfar _
  · exact (by decide : (1 : Nat) ≠ 2) (h2 1 2 q (by rw [← e]; rfl) (by rw [← e2]; rfl))
  · have := hg.size; dsimp only; simp [World.setCell]; omega
end
section
variable {ops : Array Oper} {rest : List Oper} {o : Oper} {a : Act} {Q : Exit → Act → World → Prop} {w : World}
theorem ints_info : (Tryz.prog.info? 27).map (fun i => (i.zero, i.size, i.bytes)) = some (some (.slice none 0 0), 1, 24) := by kernel_rfl
theorem rd_hd1 (w : World) (x : Hd) {g : Nat} (hg : w.heap.size = g := by first | with_reducible rfl | simp) : Rd (w.alloc (.cells #[.slice x.A x.n x.c] 27)) 1 (some ⟨g, 0, none⟩) 1 1 [x.vl] := rd_new w #[.slice x.A x.n x.c] 27 (by simp [maxLen]) hg
/-- append of a slice of numbers onto a row of the call's own. -/
theorem ap_hdv (hgd : o.guard = none) {s x : Operand} (ho : o.op = .call { callee := .builtin .append, args := #[s, x], argTypes := #[57, 57] })
    {base n c d : Nat} {A B : Option Addr} {hs : List Hd} {y : Hd} (hs_ : a.eval s = .slice A n c) (hown : OwnV 27 1 base w A n c (hs.map Hd.vl)) (hx : a.eval x = .slice B 1 d) (hr : Rd w 1 B 1 d [y.vl])
    (hb : n + 1 ≤ 3000000) (hbase : base ≤ w.heap.size)
    (h : ∀ A' c' w', OwnV 27 1 base w' A' (n + 1) c' (hs.map Hd.vl ++ [y.vl]) → w.grownBy w' (A.map (·.block)) → (A'.map (·.block) = A.map (·.block) ∨ A'.map (·.block) = some w.heap.size) → wpList Tryz.prog ops Q rest (a.put o.dst (.slice A' (n + 1) c')) w') : wpList Tryz.prog ops Q (o :: rest) a w := by
  obtain ⟨i0, hi, hz0, hz1, hz2⟩ := info_parts ints_info
  obtain ⟨A', c', w', hrun, h2, h3, h4⟩ := run_append_any (P := Tryz.prog) w base 57 o.type 27 i0 _ 1 24 Tryz.underlying57 hi hz0 hz1 hz2 rfl (by decide)
    (.slice A n c) n (hs.map Hd.vl) hown B 1 d [y.vl] hr (fun u hu => by rw [List.mem_singleton] at hu; subst hu; rfl) (by simp only [maxLen]; omega) (by omega) hbase
  rw [ownBlock_slice] at h3 h4
  refine wpList_plain hgd fun K hK => ?_
  unfold Oper.wp execOp
  simp only [ho, resolve, invoke, builtin, Sem.run_bind, Sem.run_pure, Result.andThen_ok, List.map_toArray, List.map_cons, List.map_nil, hs_, hx, hrun]
  exact hK _ _ (h A' c' w' h2 h3 h4)
end
/-- append of a slice of numbers onto a row of the call's own, in a drawn region. -/
theorem ap_hdv_step {ops : Array Oper} {o : Oper} {a : Act} {w : World} {K : Act → World → Prop} {Q : Exit → Act → World → Prop} {E : Prop} (hgd : o.guard = none) {s x : Operand} (ho : o.op = .call { callee := .builtin .append, args := #[s, x], argTypes := #[57, 57] })
    {base n c d : Nat} {A B : Option Addr} {hs : List Hd} {y : Hd} (hs_ : a.eval s = .slice A n c) (hown : OwnV 27 1 base w A n c (hs.map Hd.vl)) (hx : a.eval x = .slice B 1 d) (hr : Rd w 1 B 1 d [y.vl])
    (hb : n + 1 ≤ 3000000) (hbase : base ≤ w.heap.size)
    (h : ∀ A' c' w', OwnV 27 1 base w' A' (n + 1) c' (hs.map Hd.vl ++ [y.vl]) → w.grownBy w' (A.map (·.block)) → (A'.map (·.block) = A.map (·.block) ∨ A'.map (·.block) = some w.heap.size) → K (a.put o.dst (.slice A' (n + 1) c')) w') : if Region.wanted o (yielded ops a.tmps) = true then Oper.wp Tryz.prog o a w K Q else E := by
  obtain ⟨i0, hi, hz0, hz1, hz2⟩ := info_parts ints_info
  obtain ⟨A', c', w', hrun, h2, h3, h4⟩ := run_append_any (P := Tryz.prog) w base 57 o.type 27 i0 _ 1 24 Tryz.underlying57 hi hz0 hz1 hz2 rfl (by decide)
    (.slice A n c) n (hs.map Hd.vl) hown B 1 d [y.vl] hr (fun u hu => by rw [List.mem_singleton] at hu; subst hu; rfl) (by simp only [maxLen]; omega) (by omega) hbase
  rw [ownBlock_slice] at h3 h4
  have hw : Region.wanted o (yielded ops a.tmps) = true := by simp [Region.wanted, hgd]
  rw [if_pos hw]
  unfold Oper.wp execOp
  simp only [ho, resolve, invoke, builtin, Sem.run_bind, Sem.run_pure, Result.andThen_ok, List.map_toArray, List.map_cons, List.map_nil, hs_, hx, hrun]
  exact h A' c' w' h2 h3 h4
end Go.Proofs.YtjggecbaladiiaaGreatDoor
