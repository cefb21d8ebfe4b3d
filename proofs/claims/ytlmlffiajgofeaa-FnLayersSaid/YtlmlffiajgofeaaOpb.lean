/- Opening an argument that is a slice of bytes.
   Conditions: none. -/
import Derived.Test.YtlmlffiajgofeaaOpn
import Derived.Test.YtlmlffiajgofeaaCur
namespace Go.Proofs.Ytlmlffiajgofeaa
open Go.ChangeShapes Go.WideShapes Go.ChangeAt Go.RowKit Go.Deep
set_option linter.unusedVariables false
theorem bytes_length (l : List Int) : (bytes l).length = l.length := by simp [bytes]
theorem byte_of_wf {n : Int} (h : (Lit.int .u8 n).wf = true) : 0 ≤ n ∧ n < 256 := by
  simp [Lit.wf, IntKind.min, IntKind.max, IntKind.signed, IntKind.bits] at h
  omega
set_option maxRecDepth 20000 in
theorem open_bytes_ {H : Type} {enc : TypeId × Value → H} {w : World} {base : Nat} {spare : Nat → Bool} {held : Bool} {r : Reach} {b0 : Nat} {v : Value} {d : DataW H} {p : List MemPlace}
    (hv : Value.okWide Try.prog w r b0 22 v) (h : DataW.Trod enc Try.prog w base spare held 22 v d p) : ∃ A n c l, v = .slice A n c ∧ RdB w A n c l := by
  obtain ⟨fuel, hf⟩ := h
  obtain ⟨A, n, c, rfl⟩ := okWide_slice Try.underlying22 hv
  rcases open_ints Try.underlying22 Try.underlying5 (by kernel_rfl) hf with ⟨hcs, hx⟩ | ⟨a, len', cap', zs, hcs, _, hl, hm, hz, hx, hcell, hwz⟩
  · simp [Value.cells] at hcs
    obtain ⟨rfl, rfl, rfl⟩ := hcs
    exact ⟨none, 0, 0, [], rfl, Rd.nil w 1, by simp⟩
  · simp [Value.cells] at hcs
    obtain ⟨rfl, rfl, rfl⟩ := hcs
    have hlz : n ≤ zs.length := by rw [hz]; split <;> omega
    have hlt : (zs.take n).length = n := by rw [List.length_take]; omega
    have hc2 : ∀ (j : Nat) (u : Value), (bytes (zs.take n))[j]? = some u → w.cell? (a.add j) = some u := by
      intro j u hu
      unfold bytes at hu
      rw [List.getElem?_map] at hu
      obtain ⟨y, hy, rfl⟩ := Option.map_eq_some_iff.1 hu
      rw [List.getElem?_take] at hy
      split at hy
      · have hj : j < zs.length := by omega
        rw [hcell j hj, List.getD_eq_getElem?_getD, hy]; rfl
      · cases hy
    refine ⟨some a, n, c, zs.take n, rfl, ⟨by rw [bytes_length, hlt, Nat.mul_one], hl, hm, fun hn => ⟨a, rfl, ?_, hc2⟩⟩, fun x hx => byte_of_wf (hwz x (List.mem_of_mem_take hx))⟩
    have h0 : (bytes (zs.take n))[0]? = some ((bytes (zs.take n))[0]'(by rw [bytes_length, hlt]; exact hn)) := List.getElem?_eq_getElem _
    have := World.block_lt_of_cell? w _ (hc2 0 _ h0)
    rwa [block_of_add] at this
end Go.Proofs.Ytlmlffiajgofeaa
