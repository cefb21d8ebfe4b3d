/-
  DERIVED. GIVEN WITH THE SEED: THE CARDS: each row of YtdndkkaacfbkkaaDoorRows.lean that lists a variable, with what it lists TIED to the program's text (the seventh form; the later family's looks); each row that meets fmt, with fmt's text TOLD by the authors' own Lean function (tested against real Go, not proved from fmt's source: count such statements apart). THE CARD IS WHAT COUNTS. Prove the row's statement (the work); the ties are given (YtdndkkaacfbkkaaDoorTie.lean); close each card by the builder's one call (the guide's Derived/Test/ToyasCard.lean, 'card_holds'). Laid BY PROGRAM, IN A SANDBOX (cutbox-door.mjs). By AI agents, Wed Nov 11 2026. No macro, syntax, notation, axiom, sorry.
-/
import Derived.Test.YtdndkkaacfbkkaaDoorRows
import GoSem.ClaimSeven
namespace Go.Proofs.YtdndkkaacfbkkaaDoor
namespace Rows

/-- THE TIED CARD OF 'laws.FnExactProgramFor'. -/
def fnExactProgramForCard : Claim7 := { stood := { row := fnExactProgramForRow, standIns := [], harness := (true, "af89ee47e80d36d8171eeedcddcf5d005ee5f1b52ceec404d8d35f9558c567e2"), looks := true }, kinds := [], alts := [], laidByText := true, laidKinds := [.data, .data, .data, .data, .sentinel, .sentinel, .listed, .data, .pinned], laidTests := true, laidLooks := .later }
def FnExactProgramForCardSaid : Prop := Claim7.holds Tryd.pinned (.plain (OpenSpec.ofChange fnExactProgramForSpec)) fnExactProgramForCard

/-- THE SECOND FORM's CARD OF 'laws.FnExactProgramFor'. -/
def fnExactProgramForUptoCard : Claim7 := { stood := { row := fnExactProgramForUptoRow, standIns := [], harness := (true, "af89ee47e80d36d8171eeedcddcf5d005ee5f1b52ceec404d8d35f9558c567e2"), looks := true }, kinds := [], alts := [], laidByText := true, laidKinds := [.data, .data, .data, .data, .sentinel, .sentinel, .listed, .data, .pinned], laidTests := true, laidLooks := .later }
def FnExactProgramForUptoCardSaid : Prop := Claim7.holds Tryd.pinned (.plain (OpenSpec.upto fnExactProgramForSpec)) fnExactProgramForUptoCard
end Rows
end Go.Proofs.YtdndkkaacfbkkaaDoor
