/- The costs of the dozen programs as data.
   Conditions: none. -/
import Derived.Test.YtjggecbaladiiaaGreatDoorCmp
import Derived.Test.YtjggecbaladiiaaGreatDoorCmk
import Derived.Test.YtjggecbaladiiaaGreatDoorPss
namespace Go.Proofs.YtjggecbaladiiaaGreatDoor
open Go.RowKit
set_option linter.unusedVariables false
def cosN (a b : Int) : Int := if pgB a b then ((cpL mulI (pgR a b) (pgR a b).length).g.length : Nat) else 0
def cosA (a b : Int) : Int := if pgB a b then (kN 1 (cpL mulI (pgR a b) (pgR a b).length).g (cpL mulI (pgR a b) (pgR a b).length).g.length : Nat) else 0
def okK (k : Nat) (w : Int) : Bool := okC mulI (pgL k w) (wsD (pgL k w)) && okC mulR (pgL k w) (wsD (pgL k w)) && okS (pgL k w) && decide ((cpL mulI (pgL k w) (pgL k w).length).g = (cpL mulR (pgL k w) (pgL k w).length).g)
set_option maxRecDepth 100000 in
theorem okK_all : ∀ k, k < 12 → okK k 1 = true ∧ okK k 2 = true ∧ okK k 3 = true ∧ okK k 4 = true := by decide +kernel
theorem pg_okc {k : Nat} {w : Int} (hk : k < 12) (hw : inR w 1 4 = true) : okC mulI (pgL k w) (wsD (pgL k w)) = true ∧ okC mulR (pgL k w) (wsD (pgL k w)) = true ∧ okS (pgL k w) = true ∧ (cpL mulI (pgL k w) (pgL k w).length).g = (cpL mulR (pgL k w) (pgL k w).length).g := by
  have h : okK k w = true := by
    have h1 := inR_iff.1 hw
    obtain ⟨a, b, c, d⟩ := okK_all k hk
    rcases (by omega : w = 1 ∨ w = 2 ∨ w = 3 ∨ w = 4) with rfl | rfl | rfl | rfl <;> assumption
  unfold okK at h
  simp only [Bool.and_eq_true, decide_eq_true_eq] at h
  exact ⟨h.1.1.1, h.1.1.2, h.1.2, h.2⟩
end Go.Proofs.YtjggecbaladiiaaGreatDoor
