/- The law FnExactAndLayers answers true for every input, and its arguments read afterwards as they read before.
   Conditions: those of the given row, no more. -/
import Derived.Test.YtghoaheajgedoaaFrame
import Derived.Test.YtghoaheajgedoaaAly
namespace Go.Proofs.Ytghoaheajgedoaa.fnExactAndLayers
open Go.ChangeShapes Go.WideShapes Go.ChangeAt Go.RowKit
set_option linter.unusedVariables false
set_option maxRecDepth 100000 in
theorem step {H : Type} {enc : TypeId × Value → H} (W : World) (base : Nat) (args : Array Value) (ds : List (DataW H)) (before : List MemPlace)
    (hval : ∀ (j : Nat) t v, Try.f7.params[j]? = some t → args[j]? = some v → Value.okWide Try.prog W .any base t v)
    (hA : DataW.TrodAll enc Try.prog W 0 (fun _ => true) true Try.f7.params.toList args.toList ds before) :
    Calls Try.prog 7 args W fun e W' => e = .returned (.bool true) ∧ Bl W W' := by
  rw [Try.params7] at hA hval
  obtain ⟨v0, vs0, d0, ds0, p0, q0, hargs, rfl, rfl, h0, r0⟩ := trodAll_cons hA
  obtain ⟨rfl, rfl, rfl⟩ := trodAll_nil r0
  obtain rfl : args = #[v0] := by cases args; simp_all
  obtain ⟨x0, y0, A0, n0, c0, gl0, B0, m0, e0, ol0, rfl, w0⟩ := open_circuit (hval 0 25 v0 rfl rfl) h0
  exact law_AndLayers x0 y0 A0 B0 n0 c0 m0 e0 gl0 ol0 W w0
set_option maxRecDepth 100000 in
theorem lifted (os : Os) (started : os.Started) (H : Type) (enc : TypeId × Value → H) :
    ReturnsInHanded {} Try.checked os 7 .any (Rows.fnExactAndLayersSpec.pre6 enc Try.prog Try.f7 Rows.fnExactAndLayersRow.domain false) (Rows.fnExactAndLayersSpec.post enc Try.prog Try.f7 false true false false) := by
  refine law_lifted os started H enc (by kernel_rfl) Try.func7 rfl
    (ChangeSpec.witness6 (enc := enc) (C := Try.checked) false ⟨#[], #[.agg #[.int .i64 0, .int .i64 0, .slice none 0 0, .slice none 0 0]], []⟩ 8 (by kernel_rfl) (by kernel_rfl) (by kernel_rfl) (by kernel_rfl)) rfl ?_ ?_ ?_
  · intro t ht
    rw [Try.params7] at ht
    simp only [List.mem_cons, List.not_mem_nil, or_false] at ht
    rcases ht with rfl <;> exact ⟨by kernel_rfl, of_decide_eq_true (by kernel_rfl)⟩
  · intro ds hd
    have hd' : ds.length = 1 := hd
    match ds, hd' with
    | [d0], _ => rfl
  · exact fun W base args ds before hval hA => step W base args ds before hval hA
theorem over : Rows.fnExactAndLayersRow.holds Try.pinned (OpenSpec.ofChange Rows.fnExactAndLayersSpec) :=
  OpenClaim.holds_of_wide 7 Try.f7 rfl rfl rfl rfl rfl rfl rfl ⟨rfl, rfl, rfl, rfl, rfl⟩ rfl rfl rfl rfl rfl (by kernel_rfl) Try.func7 (by kernel_rfl)
    (of_decide_eq_true (by kernel_rfl)) (by unfold Func.isWrapper; first | (rw [if_pos (by decide +kernel)]; kernel_rfl) | (rw [if_neg (by decide +kernel)]; exact ⟨rfl, rfl⟩))
    (fun os started H enc _ => lifted os started H enc)
/-- The statement. -/
theorem proved : Rows.FnExactAndLayersSaid :=
  over
#print axioms proved
end Go.Proofs.Ytghoaheajgedoaa.fnExactAndLayers
