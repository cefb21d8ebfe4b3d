/- The circuit of a program as plain data: line by line.
   Conditions: none. -/
import Derived.Test.YtjggecbaladiiaaGreatDoorCmb
import Derived.Test.YtjggecbaladiiaaGreatDoorPss
namespace Go.Proofs.YtjggecbaladiiaaGreatDoor
open Go.RowKit
set_option linter.unusedVariables false
/-- What a product is to a maker. -/
abbrev Mul := Int → List Int → List Int → List Gt → Nat → List Gt × List Int
def mulI : Mul := fun t la lb g N => mulS t la lb N g N
def mulR : Mul := fun t la lb g N => ((mulT t la lb N g N).1, (mulT t la lb N g N).2.1 ++ (mulT t la lb N g N).2.2)
/-- The gates and the wires of an operation. -/
def twoS (mul : Mul) (t : Int) (op : ByteArray) (la lb : List Int) (g : List Gt) : List Gt × List Int :=
  let N := la.length
  if op = ⟨#[43]⟩ then ((addS t la lb g N).1, (addS t la lb g N).2.1)
  else if op = ⟨#[45]⟩ then ((subS t la lb g N).1, (subS t la lb g N).2.1)
  else if op = ⟨#[60]⟩ then ((subS t la lb g N).1, [(subS t la lb g N).2.2])
  else if op = ⟨#[61]⟩ then ((eqS t la lb g N).1, [(eqS t la lb g N).2])
  else if op = ⟨#[42]⟩ then
    let p := mul t la lb g N
    if N = 1 then (p.1 ++ [⟨3, 0, 0⟩] ++ [⟨2, wn t p.1.length, 0⟩], p.2 ++ [wn t (p.1.length + 1)]) else p
  else if op = ⟨#[38]⟩ then bitS 0 t la lb g N
  else if op = ⟨#[94]⟩ then bitS 1 t la lb g N
  else bitS 2 t la lb g N
/-- The gates and the wires of a line behind its parts' wires. -/
def lineS (mul : Mul) (t : Int) (x : Ln) (P : List (List Int)) (g : List Gt) : List Gt × List Int :=
  if x.k = 2 then (g ++ [⟨3, 0, 0⟩] ++ [⟨2, wn t g.length, 0⟩], (bitL x.vl x.wd.toNat).map fun b => wn t (g.length + 1) - b)
  else if x.k = 3 then twoS mul t x.op (P.getD 0 []) (P.getD 1 []) g
  else if x.k = 4 then notS t (P.getD 0 []) g (P.getD 0 []).length
  else if x.k = 5 then pickS t ((P.getD 0 []).getD 0 0) (P.getD 1 []) (P.getD 2 []) g (P.getD 1 []).length
  else (g, P.getD 0 [])
/-- All that is made behind some lines. -/
structure Cp where
  g : List Gt
  ol : List Int
  W : List (List Int)
  n0 : Int
  n1 : Int
def rngL (f : Int) (N : Nat) : List Int := (List.range N).map fun i : Nat => f + (i : Int)
def prtW (pre : List Ln) (W : List (List Int)) (ps : List ByteArray) : List (List Int) := ps.map fun s => W.getD (fndL pre s).toNat []
def cpN (mul : Mul) (t : Int) (pre : List Ln) (s : Cp) (x : Ln) : Cp :=
  if x.k = 1 then
    if x.pt = 0 then ⟨s.g, s.ol, s.W ++ [rngL s.n0 x.wd.toNat], s.n0 + x.wd, s.n1⟩ else ⟨s.g, s.ol, s.W ++ [rngL s.n1 x.wd.toNat], s.n0, s.n1 + x.wd⟩
  else
    let r := lineS mul t x (prtW pre s.W x.ps) s.g
    ⟨r.1, if x.k = 6 then s.ol ++ r.2 else s.ol, s.W ++ [r.2], s.n0, s.n1⟩
/-- The state behind the first k lines. -/
def cpR (mul : Mul) (t a : Int) (L : List Ln) : Nat → Cp
  | 0 => ⟨[], [], [], 0, a⟩
  | k + 1 => match L[k]? with
    | none => cpR mul t a L k
    | some x => cpN mul t (L.take k) (cpR mul t a L k) x
def in0 (L : List Ln) : Int := (insL L 0).sum
def in1 (L : List Ln) : Int := (insL L 1).sum
def cpL (mul : Mul) (L : List Ln) (k : Nat) : Cp := cpR mul (in0 L + in1 L) (in0 L) L k
theorem cpL_step {mul : Mul} {L : List Ln} {k : Nat} {x : Ln} (h : L[k]? = some x) : cpL mul L (k + 1) = cpN mul (in0 L + in1 L) (L.take k) (cpL mul L k) x := by
  show cpR _ _ _ _ (k + 1) = _
  rw [cpR, h]; rfl
/-- The wires are as many as the widths say, the gates not too many, the inputs within a hundred. -/
def okC (mul : Mul) (L : List Ln) (ws : List Int) : Bool := decide (0 ≤ in0 L ∧ in0 L ≤ 100) && decide (0 ≤ in1 L ∧ in1 L ≤ 100) && (List.range (L.length + 1)).all fun k =>
  let s := cpL mul L k
  decide (s.g.length ≤ 300) && decide (s.ol.length ≤ 100) && decide (s.W.map (fun l => (l.length : Int)) = ws.take k) && decide (0 ≤ s.n0 ∧ s.n0 ≤ 200 ∧ 0 ≤ s.n1 ∧ s.n1 ≤ 200) && s.g.all fun y => decide (y.k = 0 ∨ y.k = 1 ∨ y.k = 2 ∨ y.k = 3)
structure OkC (mul : Mul) (L : List Ln) (ws : List Int) (k : Nat) : Prop where
  g : (cpL mul L k).g.length ≤ 300
  o : (cpL mul L k).ol.length ≤ 100
  w : (cpL mul L k).W.map (fun l => (l.length : Int)) = ws.take k
  n0 : 0 ≤ (cpL mul L k).n0 ∧ (cpL mul L k).n0 ≤ 200
  n1 : 0 ≤ (cpL mul L k).n1 ∧ (cpL mul L k).n1 ≤ 200
  kd : ∀ y ∈ (cpL mul L k).g, y.k = 0 ∨ y.k = 1 ∨ y.k = 2 ∨ y.k = 3
theorem okC_at {mul : Mul} {L : List Ln} {ws : List Int} (h : okC mul L ws = true) {k : Nat} (hk : k ≤ L.length) : OkC mul L ws k := by
  unfold okC at h
  simp only [Bool.and_eq_true, List.all_eq_true, List.mem_range, decide_eq_true_eq] at h
  obtain ⟨⟨⟨⟨h1, h2⟩, h3⟩, h4⟩, h5⟩ := h.2 k (by omega)
  exact ⟨h1, h2, h3, ⟨h4.1, h4.2.1⟩, h4.2.2, h5⟩
theorem okC_in {mul : Mul} {L : List Ln} {ws : List Int} (h : okC mul L ws = true) : (0 ≤ in0 L ∧ in0 L ≤ 100) ∧ (0 ≤ in1 L ∧ in1 L ≤ 100) := by
  unfold okC at h
  simp only [Bool.and_eq_true, decide_eq_true_eq] at h
  exact h.1
theorem OkC.len {mul : Mul} {L : List Ln} {ws : List Int} {k q : Nat} (h : OkC mul L ws k) (hw : ws.length = L.length) (hk : k ≤ L.length) (hq : q < k) : ∃ l, (cpL mul L k).W[q]? = some l ∧ (l.length : Int) = ws.getD q 0 := by
  have h1 : (cpL mul L k).W.length = k := by have := congrArg List.length h.w; rw [List.length_map, List.length_take] at this; omega
  refine ⟨_, List.getElem?_eq_getElem (by omega), ?_⟩
  have h2 : ((cpL mul L k).W.map (fun l => (l.length : Int)))[q]? = (ws.take k)[q]? := by rw [h.w]
  rw [List.getElem?_map, List.getElem?_eq_getElem (by omega), List.getElem?_take_of_lt hq] at h2
  rw [List.getD_eq_getElem?_getD, ← h2]
  rfl
theorem OkC.wl {mul : Mul} {L : List Ln} {ws : List Int} {k : Nat} (h : OkC mul L ws k) (hw : ws.length = L.length) (hk : k ≤ L.length) : (cpL mul L k).W.length = k := by
  have := congrArg List.length h.w; rw [List.length_map, List.length_take] at this; omega
end Go.Proofs.YtjggecbaladiiaaGreatDoor
