/- Contracts of comparing, marking and asking again a slice of numbers.
   Conditions: the slices read as lists; what is marked lies in a block of its own. -/
import Derived.Test.YtlmlffiajgofeaaBase
namespace Go.Proofs.Ytlmlffiajgofeaa
open Go.RowKit
set_option linter.unusedVariables false
theorem Bl.of_drewN (w : World) (n : Nat) : Bl w (w.drewN n) := (Bl.refl w).drewN n
theorem drewN_two (w : World) (a b : Nat) : (w.drewN a).drewN b = w.drewN (a + b) := by first | exact World.drewN_drewN w a b | exact World.drewN_drewN ..
theorem take_eq_step {l l' : List Int} {k : Nat} {x : Int} (h : l.take k = l'.take k) (hx : l[k]? = some x) (hy : l'[k]? = some x) : l.take (k + 1) = l'.take (k + 1) := by
  rw [List.take_add_one, List.take_add_one, h, hx, hy]
theorem ne_of_get {l l' : List Int} {k : Nat} {x y : Int} (hx : l[k]? = some x) (hy : l'[k]? = some y) (h : x ≠ y) : l ≠ l' := by
  rintro rfl; rw [hx] at hy; injection hy; contradiction
theorem eq_of_takes {l l' : List Int} {k : Nat} (h : l.take k = l'.take k) (h1 : l.length ≤ k) (h2 : l'.length ≤ k) : l = l' := by
  rwa [List.take_of_length_le h1, List.take_of_length_le h2] at h
end Go.Proofs.Ytlmlffiajgofeaa
