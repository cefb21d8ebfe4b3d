/- Rows of structs: a slice whose elements have several cells, read, made, and written element by element.
   Conditions: none. -/
import Derived.Test.YtjggecbaladiiaaGreatDoorMrk
namespace Go.Proofs.YtjggecbaladiiaaGreatDoor
open Go.RowKit
set_option linter.unusedVariables false
/-- A slice with n elements of type e (size cells each) in a block of its own, from block 'base' on, with the cells xs. -/
def OwnV (e size base : Nat) (w : World) (A : Option Addr) (n c : Nat) (xs : List Value) : Prop := w.ownsRow base e size (.slice A n c) n xs
section
variable {w w' : World} {e size base n c : Nat} {A : Option Addr} {xs : List Value}
theorem OwnV.rd (h : OwnV e size base w A n c xs) : Rd w size A n c xs := Rd.of_own h
theorem OwnV.nil (e size base : Nat) (w : World) : OwnV e size base w none 0 0 [] := World.ownsRow_nil w base _ size
theorem OwnV.alloc (h : OwnV e size base w A n c xs) (o : Obj) : OwnV e size base (w.alloc o) A n c xs := World.ownsRow.alloc h o
theorem OwnV.keep (h : OwnV e size base w A n c xs) (hb : Bl w w') : OwnV e size base w' A n c xs :=
  World.ownsRow.kept (row := none) h ⟨hb.os, hb.tape, hb.output, hb.size, fun k hk _ => hb.block k hk⟩ (by cases hv : Value.ownBlock (.slice A n c) <;> simp)
theorem OwnV.grown {row : Option Nat} (h : OwnV e size base w A n c xs) (hg : w.grownBy w' row) (hne : A.map (·.block) = none ∨ A.map (·.block) ≠ row) : OwnV e size base w' A n c xs :=
  World.ownsRow.kept h hg (by rw [ownBlock_slice]; exact hne)
theorem OwnV.mono {base' : Nat} (h : OwnV e size base w A n c xs) (hb : base' ≤ base) : OwnV e size base' w A n c xs := by
  refine ⟨h.1, ?_⟩
  rcases h.2 with h | ⟨g, cap, cur, h1, h2, h3⟩
  · exact .inl h
  · exact .inr ⟨g, cap, cur, h1, by omega, h3⟩
theorem OwnV.blk (h : OwnV e size base w A n c xs) : ∀ k, A.map (·.block) = some k → base ≤ k ∧ k < w.heap.size := by
  intro k hk
  exact World.ownsRow.lt h k (by rw [ownBlock_slice]; exact hk)
theorem OwnV.form (h : OwnV e size base w A n c xs) (hn : 0 < n) : ∃ g, A = some ⟨g, 0, none⟩ ∧ base ≤ g ∧ g < w.heap.size ∧ (∀ k u, xs[k]? = some u → w.cell? ⟨g, k, none⟩ = some u) ∧ ∀ k, w.frozen? ⟨g, k, none⟩ = false := by
  rcases h.2 with ⟨_, h0⟩ | ⟨g, cap, cur, hv, hg, hh, hc, hm, hs, ht⟩
  · omega
  · injection hv with h1 h2 h3
    refine ⟨g, h1, hg, (Array.getElem?_eq_some_iff.1 hh).1, fun k u hx => ?_, fun k => by simp [World.frozen?, hh]⟩
    have hcell := World.ownsRow.cells (g := g) h (by rw [h1]; rfl) k u hx
    have hadd : (⟨g, 0, none⟩ : Addr).add k = ⟨g, k, none⟩ := by unfold Addr.add; split <;> simp_all
    rwa [hadd] at hcell
theorem OwnV.set_ {g : Nat} (h : OwnV e size base w (some ⟨g, 0, none⟩) n c xs) (k : Nat) (u : Value) (hk : k < n * size) : OwnV e size base (w.setCell ⟨g, k, none⟩ u) (some ⟨g, 0, none⟩) n c (xs.set k u) := by
  rcases h.2 with ⟨hv, _⟩ | ⟨g', cap, cur, hv, hg, hh, hc, hm, hs, ht⟩
  · cases hv
  · injection hv with h1 h2 h3
    injection h1 with h1
    have hgg : g = g' := by injection h1
    subst hgg
    subst h3
    refine ⟨by simpa using h.1, .inr ⟨g, c, cur.setIfInBounds k u, rfl, hg, ?_, hc, hm, by simpa using hs, ?_⟩⟩
    · simp [World.setCell, Array.getElem?_modify, hh]
    · rw [Array.toList_setIfInBounds, List.take_set, ht]
end
/-- Consecutive cells are set. -/
def putAt (xs : List Value) (i : Nat) : List Value → List Value
  | [] => xs
  | u :: us => putAt (xs.set i u) (i + 1) us
/-- The cells of a list of structs. -/
def encs {α : Type} (enc : α → List Value) (l : List α) : List Value := l.flatMap enc
section
variable {α : Type} {enc : α → List Value} {size : Nat}
theorem encs_cons (enc : α → List Value) (x : α) (l : List α) : encs enc (x :: l) = enc x ++ encs enc l := by simp [encs]
theorem encs_append (enc : α → List Value) (l l' : List α) : encs enc (l ++ l') = encs enc l ++ encs enc l' := by simp [encs]
theorem encs_length (h : ∀ x, (enc x).length = size) (l : List α) : (encs enc l).length = l.length * size := by
  induction l with
  | nil => simp [encs]
  | cons x l ih => rw [encs_cons, List.length_append, ih, h, List.length_cons, Nat.add_mul]; omega
theorem encs_get (h : ∀ x, (enc x).length = size) : ∀ (l : List α) (k j : Nat) (x : α), l[k]? = some x → j < size → (encs enc l)[k * size + j]? = (enc x)[j]?
  | [], k, j, x, hk, _ => by simp at hk
  | y :: l, 0, j, x, hk, hj => by
    simp at hk; subst hk
    rw [encs_cons, Nat.zero_mul, Nat.zero_add, List.getElem?_append_left (by rw [h]; exact hj)]
  | y :: l, k + 1, j, x, hk, hj => by
    rw [encs_cons, List.getElem?_append_right (by rw [h, Nat.add_mul]; omega), h]
    rw [show (k + 1) * size + j - size = k * size + j by rw [Nat.add_mul]; omega]
    exact encs_get h l k j x (by simpa using hk) hj
theorem putAt_append_left (us : List Value) : ∀ (a b : List Value) (i : Nat), putAt (a ++ b) (a.length + i) us = a ++ putAt b i us := by
  induction us with
  | nil => intro a b i; rfl
  | cons u us ih =>
    intro a b i
    show putAt ((a ++ b).set (a.length + i) u) (a.length + i + 1) us = a ++ putAt (b.set i u) (i + 1) us
    rw [List.set_append_right _ _ (by omega), show a.length + i - a.length = i by omega, Nat.add_assoc]
    exact ih a (b.set i u) (i + 1)
theorem putAt_zero : ∀ (us a b : List Value), us.length = a.length → putAt (a ++ b) 0 us = us ++ b
  | [], a, b, h => by
    have : a = [] := List.eq_nil_of_length_eq_zero (by simpa using h.symm)
    subst this; rfl
  | u :: us, [], b, h => by simp at h
  | u :: us, y :: a, b, h => by
    show putAt (((y :: a) ++ b).set 0 u) 1 us = _
    have h1 := putAt_append_left us [u] (a ++ b) 0
    simp only [List.length_singleton, Nat.add_zero, List.singleton_append] at h1
    rw [List.cons_append, List.set_cons_zero, h1, putAt_zero us a b (by simpa using h)]
    rfl
theorem putAt_encs (h : ∀ x, (enc x).length = size) : ∀ (l : List α) (k : Nat) (x : α), k < l.length → putAt (encs enc l) (k * size) (enc x) = encs enc (l.set k x)
  | [], k, x, hk => by simp at hk
  | y :: l, 0, x, _ => by
    rw [encs_cons, List.set_cons_zero, encs_cons, Nat.zero_mul]
    exact putAt_zero _ _ _ (by rw [h, h])
  | y :: l, k + 1, x, hk => by
    rw [encs_cons, List.set_cons_succ, encs_cons, show (k + 1) * size = (enc y).length + k * size by rw [h, Nat.add_mul]; omega, putAt_append_left]
    rw [putAt_encs h l k x (by simpa using hk)]
/-- A slice of structs reads as the list l: its k-th element. -/
theorem Rd.elem {w : World} {A : Option Addr} {n c : Nat} {l : List α} (hs : ∀ x, (enc x).length = size) (h : Rd w size A n c (encs enc l)) (hl : l.length = n) {k : Nat} (hk : k < n) :
    ∃ ad x, A = some ad ∧ ad.block < w.heap.size ∧ l[k]? = some x ∧ ∀ j u, j < size → (enc x)[j]? = some u → w.cell? ((ad.add (k * size)).add j) = some u := by
  obtain ⟨ad, e, hb, hc⟩ := h.at0 (by omega)
  have hkl : k < l.length := by omega
  refine ⟨ad, l[k], e, hb, List.getElem?_eq_getElem hkl, fun j u hj hu => ?_⟩
  rw [add_of_add]
  exact hc _ u (by rw [encs_get hs l k j _ (List.getElem?_eq_getElem hkl) hj]; exact hu)
end
/-- The first j elements, the others still zero. -/
def filled {α : Type} (z : α) (l : List α) (j : Nat) : List α := l.take j ++ List.replicate (l.length - j) z
theorem filled_zero {α : Type} (z : α) (l : List α) : filled z l 0 = List.replicate l.length z := by simp [filled]
theorem filled_all {α : Type} (z : α) (l : List α) (n : Nat) (h : l.length = n) : filled z l n = l := by subst h; simp [filled]
theorem filled_length {α : Type} (z : α) (l : List α) (j : Nat) (h : j ≤ l.length) : (filled z l j).length = l.length := by simp [filled]; omega
theorem filled_step {α : Type} (z : α) (l : List α) (j : Nat) (x : α) (hx : l[j]? = some x) : (filled z l j).set j x = filled z l (j + 1) := by
  obtain ⟨hj, hv⟩ := List.getElem?_eq_some_iff.1 hx
  unfold filled
  rw [List.set_append_right _ _ (by simp; omega), show j - (l.take j).length = 0 by simp; omega, show l.length - j = (l.length - (j + 1)) + 1 by omega, List.replicate_succ, List.set_cons_zero,
    List.take_add_one, hx]
  simp
end Go.Proofs.YtjggecbaladiiaaGreatDoor
