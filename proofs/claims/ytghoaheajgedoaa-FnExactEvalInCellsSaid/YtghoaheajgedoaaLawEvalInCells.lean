/- The law FnExactEvalInCells answers true for every input, and its arguments read afterwards as they read before.
   Conditions: those of the given row, no more. -/
import Derived.Test.YtghoaheajgedoaaFrame
import Derived.Test.YtghoaheajgedoaaEvw
namespace Go.Proofs.Ytghoaheajgedoaa.fnExactEvalInCells
open Go.ChangeShapes Go.WideShapes Go.ChangeAt Go.RowKit
set_option linter.unusedVariables false
set_option maxRecDepth 100000 in
theorem step {H : Type} {enc : TypeId × Value → H} (W : World) (base : Nat) (args : Array Value) (ds : List (DataW H)) (before : List MemPlace)
    (hval : ∀ (j : Nat) t v, Try.f13.params[j]? = some t → args[j]? = some v → Value.okWide Try.prog W .any base t v)
    (hA : DataW.TrodAll enc Try.prog W 0 (fun _ => true) true Try.f13.params.toList args.toList ds before) :
    Calls Try.prog 13 args W fun e W' => e = .returned (.bool true) ∧ Bl W W' := by
  rw [Try.params13] at hA hval
  obtain ⟨v0, vs0, d0, ds0, p0, q0, hargs, rfl, rfl, h0, r0⟩ := trodAll_cons hA
  obtain ⟨v1, vs1, d1, ds1, p1, q1, rfl, rfl, rfl, h1, r1⟩ := trodAll_cons r0
  obtain ⟨v2, vs2, d2, ds2, p2, q2, rfl, rfl, rfl, h2, r2⟩ := trodAll_cons r1
  obtain ⟨v3, vs3, d3, ds3, p3, q3, rfl, rfl, rfl, h3, r3⟩ := trodAll_cons r2
  obtain ⟨rfl, rfl, rfl⟩ := trodAll_nil r3
  obtain rfl : args = #[v0, v1, v2, v3] := by cases args; simp_all
  obtain ⟨x0, y0, A0, n0, c0, gl0, B0, m0, e0, ol0, rfl, w0⟩ := open_circuit (hval 0 25 v0 rfl rfl) h0
  obtain ⟨A1, n1, c1, l1, rfl, w1⟩ := open_ints_ (hval 1 23 v1 rfl rfl) h1
  obtain ⟨A2, n2, c2, l2, rfl, w2⟩ := open_ints_ (hval 2 23 v2 rfl rfl) h2
  obtain ⟨A3, n3, c3, l3, rfl, w3⟩ := open_ints_ (hval 3 23 v3 rfl rfl) h3
  exact law_EvalInCells x0 y0 A0 B0 n0 c0 m0 e0 A1 n1 c1 l1 A2 n2 c2 l2 A3 n3 c3 l3 gl0 ol0 W w0 w1.1 w2.1 w3.1
set_option maxRecDepth 100000 in
theorem lifted (os : Os) (started : os.Started) (H : Type) (enc : TypeId × Value → H) :
    ReturnsInHanded {} Try.checked os 13 .any (Rows.fnExactEvalInCellsSpec.pre6 enc Try.prog Try.f13 Rows.fnExactEvalInCellsRow.domain false) (Rows.fnExactEvalInCellsSpec.post enc Try.prog Try.f13 false true false false) := by
  refine law_lifted os started H enc (by kernel_rfl) Try.func13 rfl
    (ChangeSpec.witness6 (enc := enc) (C := Try.checked) false ⟨#[], #[.agg #[.int .i64 0, .int .i64 0, .slice none 0 0, .slice none 0 0], .slice none 0 0, .slice none 0 0, .slice none 0 0], []⟩ 8 (by kernel_rfl) (by kernel_rfl) (by kernel_rfl) (by kernel_rfl)) rfl ?_ ?_ ?_
  · intro t ht
    rw [Try.params13] at ht
    simp only [List.mem_cons, List.not_mem_nil, or_false] at ht
    rcases ht with rfl | rfl | rfl | rfl <;> exact ⟨by kernel_rfl, of_decide_eq_true (by kernel_rfl)⟩
  · intro ds hd
    have hd' : ds.length = 4 := hd
    match ds, hd' with
    | [d0, d1, d2, d3], _ => rfl
  · exact fun W base args ds before hval hA => step W base args ds before hval hA
theorem over : Rows.fnExactEvalInCellsRow.holds Try.pinned (OpenSpec.ofChange Rows.fnExactEvalInCellsSpec) :=
  OpenClaim.holds_of_wide 13 Try.f13 rfl rfl rfl rfl rfl rfl rfl ⟨rfl, rfl, rfl, rfl, rfl⟩ rfl rfl rfl rfl rfl (by kernel_rfl) Try.func13 (by kernel_rfl)
    (of_decide_eq_true (by kernel_rfl)) (by unfold Func.isWrapper; first | (rw [if_pos (by decide +kernel)]; kernel_rfl) | (rw [if_neg (by decide +kernel)]; exact ⟨rfl, rfl⟩))
    (fun os started H enc _ => lifted os started H enc)
/-- The statement. -/
theorem proved : Rows.FnExactEvalInCellsSaid :=
  over
#print axioms proved
end Go.Proofs.Ytghoaheajgedoaa.fnExactEvalInCells
