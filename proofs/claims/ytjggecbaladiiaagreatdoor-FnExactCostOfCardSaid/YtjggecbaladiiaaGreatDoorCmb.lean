/- Gadgets as plain data: the gates they append and the wires they return.
   Conditions: none. -/
import Derived.Test.YtjggecbaladiiaaGreatDoorCma
namespace Go.Proofs.YtjggecbaladiiaaGreatDoor
open Go.RowKit
set_option linter.unusedVariables false
/-- Sums: the gates so far, the wires, the carry. -/
def addS (t : Int) (la lb : List Int) (g : List Gt) : Nat → List Gt × List Int × Int
  | 0 => (g, [], -1)
  | k + 1 =>
    let s := addS t la lb g k
    let a := la.getD k 0
    let b := lb.getD k 0
    let n := s.1.length
    if k = 0 then (s.1 ++ [⟨0, a, b⟩] ++ [⟨1, a, b⟩], s.2.1 ++ [wn t n], wn t (n + 1))
    else (s.1 ++ [⟨0, a, s.2.2⟩] ++ [⟨0, b, s.2.2⟩] ++ [⟨0, wn t n, b⟩] ++ [⟨1, wn t n, wn t (n + 1)⟩] ++ [⟨0, wn t (n + 1 + 1 + 1), s.2.2⟩], s.2.1 ++ [wn t (n + 1 + 1)], wn t (n + 1 + 1 + 1 + 1))
/-- Differences. -/
def subS (t : Int) (la lb : List Int) (g : List Gt) : Nat → List Gt × List Int × Int
  | 0 => (g, [], -1)
  | k + 1 =>
    let s := subS t la lb g k
    let a := la.getD k 0
    let b := lb.getD k 0
    let n := s.1.length
    if k = 0 then (s.1 ++ [⟨0, a, b⟩] ++ [⟨2, a, 0⟩] ++ [⟨1, wn t (n + 1), b⟩], s.2.1 ++ [wn t n], wn t (n + 1 + 1))
    else (s.1 ++ [⟨0, a, s.2.2⟩] ++ [⟨0, b, s.2.2⟩] ++ [⟨0, wn t n, b⟩] ++ [⟨2, wn t n, 0⟩] ++ [⟨1, wn t (n + 1 + 1 + 1), wn t (n + 1)⟩] ++ [⟨0, wn t (n + 1 + 1 + 1 + 1), s.2.2⟩], s.2.1 ++ [wn t (n + 1 + 1)], wn t (n + 1 + 1 + 1 + 1 + 1))
/-- Which digits are equal. -/
def eqA (t : Int) (la lb : List Int) (g : List Gt) : Nat → List Gt × List Int
  | 0 => (g, [])
  | k + 1 =>
    let s := eqA t la lb g k
    let n := s.1.length
    (s.1 ++ [⟨0, la.getD k 0, lb.getD k 0⟩] ++ [⟨2, wn t n, 0⟩], s.2 ++ [wn t (n + 1)])
/-- All of them. -/
def eqB (t : Int) (l : List Int) (g : List Gt) : Nat → List Gt × Int
  | 0 => (g, l.getD 0 0)
  | j + 1 =>
    let s := eqB t l g j
    (s.1 ++ [⟨1, s.2, l.getD (1 + j) 0⟩], wn t s.1.length)
def eqS (t : Int) (la lb : List Int) (g : List Gt) (N : Nat) : List Gt × Int := eqB t (eqA t la lb g N).2 (eqA t la lb g N).1 (N - 1)
/-- Choices. -/
def pickS (t v : Int) (la lb : List Int) (g : List Gt) : Nat → List Gt × List Int
  | 0 => (g, [])
  | k + 1 =>
    let s := pickS t v la lb g k
    let n := s.1.length
    (s.1 ++ [⟨0, la.getD k 0, lb.getD k 0⟩] ++ [⟨1, v, wn t n⟩] ++ [⟨0, wn t (n + 1), lb.getD k 0⟩], s.2 ++ [wn t (n + 1 + 1)])
/-- A row of a product. -/
def andS (t : Int) (la : List Int) (v : Int) (g : List Gt) : Nat → List Gt × List Int
  | 0 => (g, [])
  | k + 1 =>
    let s := andS t la v g k
    (s.1 ++ [⟨1, la.getD k 0, v⟩], s.2 ++ [wn t s.1.length])
/-- Digits turned. -/
def notS (t : Int) (la : List Int) (g : List Gt) : Nat → List Gt × List Int
  | 0 => (g, [])
  | k + 1 =>
    let s := notS t la g k
    (s.1 ++ [⟨2, la.getD k 0, 0⟩], s.2 ++ [wn t s.1.length])
/-- Digit by digit: 0 both, 1 one of them, 2 any. -/
def bitS (op : Nat) (t : Int) (la lb : List Int) (g : List Gt) : Nat → List Gt × List Int
  | 0 => (g, [])
  | k + 1 =>
    let s := bitS op t la lb g k
    let a := la.getD k 0
    let b := lb.getD k 0
    let n := s.1.length
    if op = 0 then (s.1 ++ [⟨1, a, b⟩], s.2 ++ [wn t n])
    else if op = 1 then (s.1 ++ [⟨0, a, b⟩], s.2 ++ [wn t n])
    else (s.1 ++ [⟨0, a, b⟩] ++ [⟨1, a, b⟩] ++ [⟨0, wn t n, wn t (n + 1)⟩], s.2 ++ [wn t (n + 1 + 1)])
/-- A product, as the program makes it. -/
def mulS (t : Int) (la lb : List Int) (N : Nat) (g : List Gt) : Nat → List Gt × List Int
  | 0 => (g, [])
  | k + 1 =>
    let s := mulS t la lb N g k
    let n := s.1.length
    let g1 := if k = 1 then s.1 ++ [⟨3, 0, 0⟩] ++ [⟨2, wn t n, 0⟩] else s.1
    let rest := if k = 1 then s.2.drop k ++ [wn t (n + 1)] else s.2.drop k
    let r := andS t la (lb.getD k 0) g1 N
    if k = 0 then r
    else
      let d := addS t rest r.2 r.1 N
      (d.1, s.2.take k ++ d.2.1 ++ [d.2.2])
/-- A product, as the reference makes it. -/
def mulT (t : Int) (la lb : List Int) (N : Nat) (g : List Gt) : Nat → List Gt × List Int × List Int
  | 0 => (g, [], [])
  | k + 1 =>
    let s := mulT t la lb N g k
    let n := s.1.length
    let g1 := if k = 1 then s.1 ++ [⟨3, 0, 0⟩] ++ [⟨2, wn t n, 0⟩] else s.1
    let rest := if k = 1 then s.2.2 ++ [wn t (n + 1)] else s.2.2
    let r := andS t la (lb.getD k 0) g1 N
    if k = 0 then (r.1, r.2.take 1, r.2.drop 1)
    else
      let d := addS t rest r.2 r.1 N
      (d.1, s.2.1 ++ [(d.2.1 ++ [d.2.2]).getD 0 0], (d.2.1 ++ [d.2.2]).drop 1)
section
variable {t : Int} {la lb : List Int} {g g1 : List Gt} {l1 : List Int} {cv va vb v : Int} {k n1 : Nat}
theorem addS_0 (h : addS t la lb g k = (g1, l1, cv)) (hn : g1.length = n1) (ha : la[k]? = some va) (hb : lb[k]? = some vb) (hk : k = 0) :
    addS t la lb g (k + 1) = (g1 ++ [⟨0, va, vb⟩] ++ [⟨1, va, vb⟩], l1 ++ [wn t n1], wn t (n1 + 1)) := by
  simp only [addS, h, hn, List.getD_eq_getElem?_getD, ha, hb, Option.getD_some, if_pos hk]
theorem addS_s (h : addS t la lb g k = (g1, l1, cv)) (hn : g1.length = n1) (ha : la[k]? = some va) (hb : lb[k]? = some vb) (hk : ¬ k = 0) :
    addS t la lb g (k + 1) = (g1 ++ [⟨0, va, cv⟩] ++ [⟨0, vb, cv⟩] ++ [⟨0, wn t n1, vb⟩] ++ [⟨1, wn t n1, wn t (n1 + 1)⟩] ++ [⟨0, wn t (n1 + 1 + 1 + 1), cv⟩], l1 ++ [wn t (n1 + 1 + 1)], wn t (n1 + 1 + 1 + 1 + 1)) := by
  simp only [addS, h, hn, List.getD_eq_getElem?_getD, ha, hb, Option.getD_some, if_neg hk]
theorem subS_0 (h : subS t la lb g k = (g1, l1, cv)) (hn : g1.length = n1) (ha : la[k]? = some va) (hb : lb[k]? = some vb) (hk : k = 0) :
    subS t la lb g (k + 1) = (g1 ++ [⟨0, va, vb⟩] ++ [⟨2, va, 0⟩] ++ [⟨1, wn t (n1 + 1), vb⟩], l1 ++ [wn t n1], wn t (n1 + 1 + 1)) := by
  simp only [subS, h, hn, List.getD_eq_getElem?_getD, ha, hb, Option.getD_some, if_pos hk]
theorem subS_s (h : subS t la lb g k = (g1, l1, cv)) (hn : g1.length = n1) (ha : la[k]? = some va) (hb : lb[k]? = some vb) (hk : ¬ k = 0) :
    subS t la lb g (k + 1) = (g1 ++ [⟨0, va, cv⟩] ++ [⟨0, vb, cv⟩] ++ [⟨0, wn t n1, vb⟩] ++ [⟨2, wn t n1, 0⟩] ++ [⟨1, wn t (n1 + 1 + 1 + 1), wn t (n1 + 1)⟩] ++ [⟨0, wn t (n1 + 1 + 1 + 1 + 1), cv⟩], l1 ++ [wn t (n1 + 1 + 1)], wn t (n1 + 1 + 1 + 1 + 1 + 1)) := by
  simp only [subS, h, hn, List.getD_eq_getElem?_getD, ha, hb, Option.getD_some, if_neg hk]
theorem addS_len1 (t : Int) (la lb : List Int) (g : List Gt) (k : Nat) : (addS t la lb g k).1.length ≤ g.length + 7 * k := by
  induction k with
  | zero => simp [addS]
  | succ k ih =>
    simp only [addS]
    split <;> (simp only [List.length_append, List.length_singleton]; omega)
theorem addS_len (h : addS t la lb g k = (g1, l1, cv)) : g1.length ≤ g.length + 7 * k := by
  have := addS_len1 t la lb g k
  rw [h] at this
  exact this
theorem eqA_s (h : eqA t la lb g k = (g1, l1)) (hn : g1.length = n1) (ha : la[k]? = some va) (hb : lb[k]? = some vb) :
    eqA t la lb g (k + 1) = (g1 ++ [⟨0, va, vb⟩] ++ [⟨2, wn t n1, 0⟩], l1 ++ [wn t (n1 + 1)]) := by
  simp only [eqA, h, hn, List.getD_eq_getElem?_getD, ha, hb, Option.getD_some]
theorem eqB_s {l : List Int} (h : eqB t l g k = (g1, cv)) (hn : g1.length = n1) (ha : l[1 + k]? = some va) : eqB t l g (k + 1) = (g1 ++ [⟨1, cv, va⟩], wn t n1) := by
  simp only [eqB, h, hn, List.getD_eq_getElem?_getD, ha, Option.getD_some]
theorem pickS_s (h : pickS t v la lb g k = (g1, l1)) (hn : g1.length = n1) (ha : la[k]? = some va) (hb : lb[k]? = some vb) :
    pickS t v la lb g (k + 1) = (g1 ++ [⟨0, va, vb⟩] ++ [⟨1, v, wn t n1⟩] ++ [⟨0, wn t (n1 + 1), vb⟩], l1 ++ [wn t (n1 + 1 + 1)]) := by
  simp only [pickS, h, hn, List.getD_eq_getElem?_getD, ha, hb, Option.getD_some]
theorem andS_s (h : andS t la v g k = (g1, l1)) (hn : g1.length = n1) (ha : la[k]? = some va) : andS t la v g (k + 1) = (g1 ++ [⟨1, va, v⟩], l1 ++ [wn t n1]) := by
  simp only [andS, h, hn, List.getD_eq_getElem?_getD, ha, Option.getD_some]
theorem notS_s (h : notS t la g k = (g1, l1)) (hn : g1.length = n1) (ha : la[k]? = some va) : notS t la g (k + 1) = (g1 ++ [⟨2, va, 0⟩], l1 ++ [wn t n1]) := by
  simp only [notS, h, hn, List.getD_eq_getElem?_getD, ha, Option.getD_some]
theorem bitS_0 (h : bitS 0 t la lb g k = (g1, l1)) (hn : g1.length = n1) (ha : la[k]? = some va) (hb : lb[k]? = some vb) :
    bitS 0 t la lb g (k + 1) = (g1 ++ [⟨1, va, vb⟩], l1 ++ [wn t n1]) := by
  simp only [bitS, h, hn, List.getD_eq_getElem?_getD, ha, hb, Option.getD_some, ↓reduceIte]
theorem bitS_1 (h : bitS 1 t la lb g k = (g1, l1)) (hn : g1.length = n1) (ha : la[k]? = some va) (hb : lb[k]? = some vb) :
    bitS 1 t la lb g (k + 1) = (g1 ++ [⟨0, va, vb⟩], l1 ++ [wn t n1]) := by
  simp only [bitS, h, hn, List.getD_eq_getElem?_getD, ha, hb, Option.getD_some, ↓reduceIte, if_neg (show ¬ (1 : Nat) = 0 by decide)]
theorem bitS_2 (h : bitS 2 t la lb g k = (g1, l1)) (hn : g1.length = n1) (ha : la[k]? = some va) (hb : lb[k]? = some vb) :
    bitS 2 t la lb g (k + 1) = (g1 ++ [⟨0, va, vb⟩] ++ [⟨1, va, vb⟩] ++ [⟨0, wn t n1, wn t (n1 + 1)⟩], l1 ++ [wn t (n1 + 1 + 1)]) := by
  simp only [bitS, h, hn, List.getD_eq_getElem?_getD, ha, hb, Option.getD_some, if_neg (show ¬ (2 : Nat) = 0 by decide), if_neg (show ¬ (2 : Nat) = 1 by decide)]
end
end Go.Proofs.YtjggecbaladiiaaGreatDoor
