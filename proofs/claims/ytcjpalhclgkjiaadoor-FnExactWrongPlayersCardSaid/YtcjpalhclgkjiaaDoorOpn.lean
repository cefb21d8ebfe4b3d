/- Opening arguments that are slices: of numbers, of structs whose fields have one cell each.
   Conditions: none. -/
import Derived.Test.YtcjpalhclgkjiaaDoorFrame
import Derived.Test.YtcjpalhclgkjiaaDoorBaseG
import Derived.Deep.Slices
namespace Go.Proofs.YtcjpalhclgkjiaaDoor
open Go.ChangeShapes Go.WideShapes Go.ChangeAt Go.RowKit Go.Deep
set_option linter.unusedVariables false
section
variable {H : Type} {enc : TypeId × Value → H} {P : Program} {w : World} {base : Nat} {spare : Nat → Bool} {held : Bool}
theorem open_slice_fields {t e : TypeId} {fs : Array Field} {fuel : Nat} {cs : List Value} {x : DataW H × List MemPlace} (ht : P.underlying t = some (.slice e)) (he : P.underlying e = some (.struct fs))
  (hone : oneCellFields P fs = true) (hC : P.cellsOf e = fs.size) (h : DataW.trod enc P w base spare held fuel t cs = some x) :
  cs = [.slice none 0 0] ∨
  ∃ (a : Addr) (len cap : Nat), cs = [.slice (some a) len cap] ∧ len ≤ cap ∧ cap ≤ maxLen ∧
   ∀ i, i < len → ∀ (j : Nat) (f : Field), fs[j]? = some f → ∃ (v : Value) (y : DataW H × List MemPlace) (n : Nat), w.cell? (a.add (i * fs.size + j)) = some v ∧ DataW.trod enc P w base spare held n f.type [v] = some y := by
 rcases open_slice ht h with h0 | ⟨a, len, cap, m, n, D, Pl, hcs, hb, hl, hm, hmm, hx, hi⟩
 ·exact .inl h0.1
 ·refine .inr ⟨a, len, cap, hcs, hl, hm, fun i hil => ?_⟩
  have him : i < m := by rw [hmm]; split <;> omega
  obtain ⟨cs', hc, ht'⟩ := hi i him
  rw [hC] at hc
  obtain ⟨ys, n', hn', hy, hlen, hyl, hf⟩ := DataW.trod_struct he ht'
  obtain ⟨_, hcl, hat⟩ := World.cells?_some hc
  intro j f hj
  obtain ⟨ho, hk⟩ := hone_of hone j f hj
  have hjl : j < fs.size := (Array.getElem?_eq_some_iff.1 hj).1
  have hcell := hat j hjl
  have hv : cs'[j]? = some (cs'[j]'(by omega)) := List.getElem?_eq_getElem (by omega)
  have h1 := hf j f hj
  rw [ho, hk] at h1
  have hone' : (cs'.drop j).take 1 = [cs'[j]'(by omega)] := by
   rw [List.drop_eq_getElem_cons (by omega)]
   rfl
  rw [hone'] at h1
  have hys : ys[j]? = some (ys[j]'(by omega)) := List.getElem?_eq_getElem (by omega)
  refine ⟨_, _, n', ?_, h1.trans hys⟩
  rw [← Go.Deep.add_add, hcell, hv]
end
theorem choose_list {α : Type} {p : Nat → α → Prop} : ∀ n : Nat, (∀ i, i < n → ∃ x, p i x) → ∃ l : List α, l.length = n ∧ ∀ (i : Nat) (x : α), l[i]? = some x → p i x
 | 0, _ => ⟨[], rfl, fun i x h => by simp at h⟩
 | n + 1, h => by
  obtain ⟨l, hl, hp⟩ := choose_list n (fun i hi => h i (by omega))
  obtain ⟨x, hx⟩ := h n (by omega)
  refine ⟨l ++ [x], by simp [hl], fun i y hy => ?_⟩
  rw [List.getElem?_append] at hy
  split at hy
  ·exact hp i y hy
  ·rename_i hge
   have : i = n := by
    rcases Nat.lt_or_ge (i - l.length) 1 with h1 | h1
    ·omega
    ·rw [List.getElem?_eq_none (by simpa using h1)] at hy; cases hy
   subst this
   simp [hl] at hy
   subst hy
   exact hx
/-- Cells element by element make a reading. -/
theorem rd_of_elems {α : Type} {enc : α → List Value} {size : Nat} (hs : ∀ x, (enc x).length = size) (hp : 0 < size) {w : World} {a : Addr} {n c : Nat} {l : List α} (hl : l.length = n) (hc : n ≤ c) (hm : c ≤ maxLen)
  (h : ∀ (i : Nat) (x : α), l[i]? = some x → ∀ j u, (enc x)[j]? = some u → w.cell? (a.add (i * size + j)) = some u) : Rd w size (some a) n c (encs enc l) := by
 have hcell : ∀ q u, (encs enc l)[q]? = some u → w.cell? (a.add q) = some u := by
  intro q u hu
  have hq : q < n * size := by
   rcases Nat.lt_or_ge q (n * size) with h1 | h1
   ·exact h1
   ·rw [List.getElem?_eq_none (by rw [encs_length hs, hl]; exact h1)] at hu; cases hu
  have hk : q / size < l.length := by rw [hl]; exact (Nat.div_lt_iff_lt_mul hp).2 hq
  have hj : q % size < size := Nat.mod_lt _ hp
  have e2 : q / size * size + q % size = q := by rw [Nat.mul_comm]; exact Nat.div_add_mod q size
  have e1 := encs_get hs l (q / size) (q % size) _ (List.getElem?_eq_getElem hk) hj
  rw [e2, hu] at e1
  have := h (q / size) _ (List.getElem?_eq_getElem hk) (q % size) u e1.symm
  rwa [e2] at this
 refine ⟨by rw [encs_length hs, hl], hc, hm, fun hn => ⟨a, rfl, ?_, hcell⟩⟩
 have h0 : (encs enc l)[0]? = some ((encs enc l)[0]'(by rw [encs_length hs, hl]; exact Nat.mul_pos hn hp)) := List.getElem?_eq_getElem _
 have := World.block_lt_of_cell? w _ (hcell 0 _ h0)
 rwa [block_of_add] at this
end Go.Proofs.YtcjpalhclgkjiaaDoor
