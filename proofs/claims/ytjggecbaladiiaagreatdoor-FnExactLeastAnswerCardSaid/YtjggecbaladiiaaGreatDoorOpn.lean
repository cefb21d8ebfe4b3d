/- Opening arguments that are slices: of numbers, of structs whose fields have one cell each.
   Conditions: none. -/
import Derived.Test.YtjggecbaladiiaaGreatDoorFrame
import Derived.Test.YtjggecbaladiiaaGreatDoorRow
import Derived.Deep.Slices
namespace Go.Proofs.YtjggecbaladiiaaGreatDoor
open Go.ChangeShapes Go.WideShapes Go.ChangeAt Go.RowKit Go.Deep
set_option linter.unusedVariables false
section
variable {H : Type} {enc : TypeId × Value → H} {P : Program} {w : World} {base : Nat} {spare : Nat → Bool} {held : Bool}
theorem open_slice_fields {t e : TypeId} {fs : Array Field} {fuel : Nat} {cs : List Value} {x : DataW H × List MemPlace} (ht : P.underlying t = some (.slice e)) (he : P.underlying e = some (.struct fs))
    (hone : oneCellFields P fs = true) (hC : P.cellsOf e = fs.size) (h : DataW.trod enc P w base spare held fuel t cs = some x) :
    cs = [.slice none 0 0] ∨
    ∃ (a : Addr) (len cap : Nat), cs = [.slice (some a) len cap] ∧ len ≤ cap ∧ cap ≤ maxLen ∧
      ∀ i, i < len → ∀ (j : Nat) (f : Field), fs[j]? = some f → ∃ (v : Value) (y : DataW H × List MemPlace) (n : Nat), w.cell? (a.add (i * fs.size + j)) = some v ∧ DataW.trod enc P w base spare held n f.type [v] = some y := by
  rcases open_slice ht h with h0 | ⟨a, len, cap, m, n, D, Pl, hcs, hb, hl, hm, hmm, hx, hi⟩
  · exact .inl h0.1
  · refine .inr ⟨a, len, cap, hcs, hl, hm, fun i hil => ?_⟩
    have him : i < m := by rw [hmm]; split <;> omega
    obtain ⟨cs', hc, ht'⟩ := hi i him
    rw [hC] at hc
    obtain ⟨ys, n', hn', hy, hlen, hyl, hf⟩ := DataW.trod_struct he ht'
    obtain ⟨_, hcl, hat⟩ := World.cells?_some hc
    intro j f hj
    obtain ⟨ho, hk⟩ := hone_of hone j f hj
    have hjl : j < fs.size := (Array.getElem?_eq_some_iff.1 hj).1
    have hcell := hat j hjl
    have hv : cs'[j]? = some (cs'[j]'(by omega)) := List.getElem?_eq_getElem (by omega)
    have h1 := hf j f hj
    rw [ho, hk] at h1
    have hone' : (cs'.drop j).take 1 = [cs'[j]'(by omega)] := by
      rw [List.drop_eq_getElem_cons (by omega)]
      rfl
    rw [hone'] at h1
    have hys : ys[j]? = some (ys[j]'(by omega)) := List.getElem?_eq_getElem (by omega)
    refine ⟨_, _, n', ?_, h1.trans hys⟩
    rw [← Go.Deep.add_add, hcell, hv]
end
theorem choose_list {α : Type} {p : Nat → α → Prop} : ∀ n : Nat, (∀ i, i < n → ∃ x, p i x) → ∃ l : List α, l.length = n ∧ ∀ (i : Nat) (x : α), l[i]? = some x → p i x
  | 0, _ => ⟨[], rfl, fun i x h => by simp at h⟩
  | n + 1, h => by
    obtain ⟨l, hl, hp⟩ := choose_list n (fun i hi => h i (by omega))
    obtain ⟨x, hx⟩ := h n (by omega)
    refine ⟨l ++ [x], by simp [hl], fun i y hy => ?_⟩
    rw [List.getElem?_append] at hy
    split at hy
    · exact hp i y hy
    · rename_i hge
      have : i = n := by
        rcases Nat.lt_or_ge (i - l.length) 1 with h1 | h1
        · omega
        · rw [List.getElem?_eq_none (by simpa using h1)] at hy; cases hy
      subst this
      simp [hl] at hy
      subst hy
      exact hx
/-- Cells element by element make a reading. -/
theorem rd_of_elems {α : Type} {enc : α → List Value} {size : Nat} (hs : ∀ x, (enc x).length = size) (hp : 0 < size) {w : World} {a : Addr} {n c : Nat} {l : List α} (hl : l.length = n) (hc : n ≤ c) (hm : c ≤ maxLen)
    (h : ∀ (i : Nat) (x : α), l[i]? = some x → ∀ j u, (enc x)[j]? = some u → w.cell? (a.add (i * size + j)) = some u) : Rd w size (some a) n c (encs enc l) := by
  have hcell : ∀ q u, (encs enc l)[q]? = some u → w.cell? (a.add q) = some u := by
    intro q u hu
    have hq : q < n * size := by
      rcases Nat.lt_or_ge q (n * size) with h1 | h1
      · exact h1
      · rw [List.getElem?_eq_none (by rw [encs_length hs, hl]; exact h1)] at hu; cases hu
    have hk : q / size < l.length := by rw [hl]; exact (Nat.div_lt_iff_lt_mul hp).2 hq
    have hj : q % size < size := Nat.mod_lt _ hp
    have e2 : q / size * size + q % size = q := by rw [Nat.mul_comm]; exact Nat.div_add_mod q size
    have e1 := encs_get hs l (q / size) (q % size) _ (List.getElem?_eq_getElem hk) hj
    rw [e2, hu] at e1
    have := h (q / size) _ (List.getElem?_eq_getElem hk) (q % size) u e1.symm
    rwa [e2] at this
  refine ⟨by rw [encs_length hs, hl], hc, hm, fun hn => ⟨a, rfl, ?_, hcell⟩⟩
  have h0 : (encs enc l)[0]? = some ((encs enc l)[0]'(by rw [encs_length hs, hl]; exact Nat.mul_pos hn hp)) := List.getElem?_eq_getElem _
  have := World.block_lt_of_cell? w _ (hcell 0 _ h0)
  rwa [block_of_add] at this
set_option maxRecDepth 20000 in
theorem open_ints_ {H : Type} {enc : TypeId × Value → H} {w : World} {base : Nat} {spare : Nat → Bool} {held : Bool} {r : Reach} {b0 : Nat} {v : Value} {d : DataW H} {p : List MemPlace}
    (hv : Value.okWide Tryz.prog w r b0 27 v) (h : DataW.Trod enc Tryz.prog w base spare held 27 v d p) : ∃ A n c l, v = .slice A n c ∧ RdI w A n c l ∧ ∀ x ∈ l, Fit x := by
  obtain ⟨fuel, hf⟩ := h
  obtain ⟨A, n, c, rfl⟩ := okWide_slice Tryz.underlying27 hv
  rcases open_ints Tryz.underlying27 Tryz.underlying3 (by kernel_rfl) hf with ⟨hcs, hx⟩ | ⟨a, len', cap', zs, hcs, _, hl, hm, hz, hx, hcell, hwz⟩
  · simp [Value.cells] at hcs
    obtain ⟨rfl, rfl, rfl⟩ := hcs
    exact ⟨none, 0, 0, [], rfl, RdI.nil w, by simp⟩
  · simp [Value.cells] at hcs
    obtain ⟨rfl, rfl, rfl⟩ := hcs
    have hlz : n ≤ zs.length := by rw [hz]; split <;> omega
    have hlt : (zs.take n).length = n := by rw [List.length_take]; omega
    have hc2 : ∀ (j : Nat) (u : Value), (ints (zs.take n))[j]? = some u → w.cell? (a.add j) = some u := by
      intro j u hu
      rw [ints_get] at hu
      obtain ⟨y, hy, rfl⟩ := Option.map_eq_some_iff.1 hu
      rw [List.getElem?_take] at hy
      split at hy
      · have hj : j < zs.length := by omega
        rw [hcell j hj, List.getD_eq_getElem?_getD, hy]; rfl
      · cases hy
    refine ⟨some a, n, c, zs.take n, rfl, ⟨by simp [hlt], hl, hm, fun hn => ⟨a, rfl, ?_, hc2⟩⟩, fun x hx => fit_of_wf (hwz x (List.mem_of_mem_take hx))⟩
    have h0 : (ints (zs.take n))[0]? = some ((ints (zs.take n))[0]'(by rw [ints_length, hlt]; exact hn)) := List.getElem?_eq_getElem _
    have := World.block_lt_of_cell? w _ (hc2 0 _ h0)
    rwa [block_of_add] at this
end Go.Proofs.YtjggecbaladiiaaGreatDoor
