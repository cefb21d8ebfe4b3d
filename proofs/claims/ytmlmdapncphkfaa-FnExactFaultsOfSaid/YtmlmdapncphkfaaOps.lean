/- Opening an argument that is a slice of sealed values.
   Conditions: none. -/
import Derived.Test.YtmlmdapncphkfaaOpn
import Derived.Test.YtmlmdapncphkfaaSls
namespace Go.Proofs.Ytmlmdapncphkfaa
open Go.ChangeShapes Go.WideShapes Go.ChangeAt Go.RowKit Go.Deep
set_option linter.unusedVariables false
theorem open_seas {H : Type} {enc : TypeId × Value → H} {w : World} {base : Nat} {spare : Nat → Bool} {held : Bool} {r : Reach} {b0 : Nat} {v : Value} {d : DataW H} {p : List MemPlace}
    (hv : Value.okWide Try.prog w r b0 51 v) (h : DataW.Trod enc Try.prog w base spare held 51 v d p) : ∃ A n c l, v = .slice A n c ∧ RdS w A n c l := by
  obtain ⟨fuel, hf⟩ := h
  obtain ⟨A, n, c, rfl⟩ := okWide_slice Try.underlying51 hv
  rcases open_slice_fields Try.underlying51 Try.underlying29 (by kernel_rfl) (by kernel_rfl) hf with hcs | ⟨a, len, cap, hcs, hl, hm, he⟩
  · simp [Value.cells] at hcs
    obtain ⟨rfl, rfl, rfl⟩ := hcs
    exact ⟨none, 0, 0, [], rfl, Rd.nil w 5, rfl⟩
  · simp [Value.cells] at hcs
    obtain ⟨rfl, rfl, rfl⟩ := hcs
    obtain ⟨l, hll, hp⟩ := choose_list (p := fun i (x : Sea) => ∀ j u, x.enc[j]? = some u → w.cell? (a.add (i * 5 + j)) = some u) n (by
      intro i hi
      obtain ⟨v0, y0, n0, c0, t0⟩ := he i hi 0 _ rfl
      obtain ⟨v1, y1, n1, c1, t1⟩ := he i hi 1 _ rfl
      obtain ⟨v2, y2, n2, c2, t2⟩ := he i hi 2 _ rfl
      obtain ⟨v3, y3, n3, c3, t3⟩ := he i hi 3 _ rfl
      obtain ⟨v4, y4, n4, c4, t4⟩ := he i hi 4 _ rfl
      obtain ⟨x0, q0, _, _⟩ := DataW.trod_int Try.underlying3 t0
      obtain ⟨x1, q1, _, _⟩ := DataW.trod_int Try.underlying3 t1
      obtain ⟨x2, q2, _, _⟩ := DataW.trod_int Try.underlying3 t2
      obtain ⟨x3, q3, _, _⟩ := DataW.trod_int Try.underlying3 t3
      obtain ⟨x4, q4, _⟩ := DataW.trod_bool Try.underlying4 t4
      simp at q0 q1 q2 q3 q4
      subst q0 q1 q2 q3 q4
      refine ⟨⟨x0, x1, x2, x3, x4⟩, fun j u hu => ?_⟩
      match j, hu with
      | 0, hu => simp [Sea.enc] at hu; subst hu; exact c0
      | 1, hu => simp [Sea.enc] at hu; subst hu; exact c1
      | 2, hu => simp [Sea.enc] at hu; subst hu; exact c2
      | 3, hu => simp [Sea.enc] at hu; subst hu; exact c3
      | 4, hu => simp [Sea.enc] at hu; subst hu; exact c4
      | j + 5, hu => simp [Sea.enc] at hu)
    exact ⟨some a, n, c, l, rfl, rd_of_elems Sea.enc_len (by omega) hll hl hm hp, hll⟩
end Go.Proofs.Ytmlmdapncphkfaa
