/-
  DERIVED. GIVEN WITH THE SEED: THE CARDS: each row of YtdndkkaacfbkkaaGreatDoorRows.lean that lists a variable, with what it lists TIED to the program's text (the seventh form; the later family's looks); each row that meets fmt, with fmt's text TOLD by the authors' own Lean function (tested against real Go, not proved from fmt's source: count such statements apart). THE CARD IS WHAT COUNTS. Prove the row's statement (the work); the ties are given (YtdndkkaacfbkkaaGreatDoorTie.lean); close each card by the builder's one call (the guide's Derived/Test/ToyasCard.lean, 'card_holds'). Laid BY PROGRAM, IN A SANDBOX (cutbox-door.mjs). By AI agents, Wed Nov 11 2026. No macro, syntax, notation, axiom, sorry.
-/
import Derived.Test.YtdndkkaacfbkkaaGreatDoorRows
import GoSem.ClaimSeven
namespace Go.Proofs.YtdndkkaacfbkkaaGreatDoor
namespace Rows

/-- THE TIED CARD OF 'laws.FnExactExpectedFor'. -/
def fnExactExpectedForCard : Claim7 := { stood := { row := fnExactExpectedForRow, standIns := [], harness := (true, "c8d9c515b49b40cb3c381f33997bf8319d6f671982cc8051f401b855bfb6e004"), looks := true }, kinds := [], alts := [], laidByText := true, laidKinds := [.data, .data, .data, .data, .sentinel, .sentinel, .listed, .data, .pinned], laidTests := true, laidLooks := .later }
def FnExactExpectedForCardSaid : Prop := Claim7.holds Tryz.pinned (.plain (OpenSpec.ofChange fnExactExpectedForSpec)) fnExactExpectedForCard

/-- THE TIED CARD OF 'laws.FnExactRunNumbered'. -/
def fnExactRunNumberedCard : Claim7 := { stood := { row := fnExactRunNumberedRow, standIns := [], harness := (true, "c8d9c515b49b40cb3c381f33997bf8319d6f671982cc8051f401b855bfb6e004"), looks := true }, kinds := [], alts := [], laidByText := true, laidKinds := [.data, .data, .data, .data, .sentinel, .sentinel, .listed, .data, .pinned], laidTests := true, laidLooks := .later }
def FnExactRunNumberedCardSaid : Prop := Claim7.holds Tryz.pinned (.plain (OpenSpec.ofChange fnExactRunNumberedSpec)) fnExactRunNumberedCard

/-- THE TIED CARD OF 'laws.FnExactLeastAnswer'. -/
def fnExactLeastAnswerCard : Claim7 := { stood := { row := fnExactLeastAnswerRow, standIns := [], harness := (true, "c8d9c515b49b40cb3c381f33997bf8319d6f671982cc8051f401b855bfb6e004"), looks := true }, kinds := [], alts := [], laidByText := true, laidKinds := [.data, .data, .data, .data, .sentinel, .sentinel, .listed, .data, .pinned], laidTests := true, laidLooks := .later }
def FnExactLeastAnswerCardSaid : Prop := Claim7.holds Tryz.pinned (.plain (OpenSpec.ofChange fnExactLeastAnswerSpec)) fnExactLeastAnswerCard

/-- THE TIED CARD OF 'laws.FnExactCostOf'. -/
def fnExactCostOfCard : Claim7 := { stood := { row := fnExactCostOfRow, standIns := [], harness := (true, "c8d9c515b49b40cb3c381f33997bf8319d6f671982cc8051f401b855bfb6e004"), looks := true }, kinds := [], alts := [], laidByText := true, laidKinds := [.data, .data, .data, .data, .sentinel, .sentinel, .listed, .data, .pinned], laidTests := true, laidLooks := .later }
def FnExactCostOfCardSaid : Prop := Claim7.holds Tryz.pinned (.plain (OpenSpec.ofChange fnExactCostOfSpec)) fnExactCostOfCard

/-- THE TIED CARD OF 'laws.FnExactWidestFor'. -/
def fnExactWidestForCard : Claim7 := { stood := { row := fnExactWidestForRow, standIns := [], harness := (true, "c8d9c515b49b40cb3c381f33997bf8319d6f671982cc8051f401b855bfb6e004"), looks := true }, kinds := [], alts := [], laidByText := true, laidKinds := [.data, .data, .data, .data, .sentinel, .sentinel, .listed, .data, .pinned], laidTests := true, laidLooks := .later }
def FnExactWidestForCardSaid : Prop := Claim7.holds Tryz.pinned (.plain (OpenSpec.ofChange fnExactWidestForSpec)) fnExactWidestForCard

/-- THE SECOND FORM's CARD OF 'laws.FnExactExpectedFor'. -/
def fnExactExpectedForUptoCard : Claim7 := { stood := { row := fnExactExpectedForUptoRow, standIns := [], harness := (true, "c8d9c515b49b40cb3c381f33997bf8319d6f671982cc8051f401b855bfb6e004"), looks := true }, kinds := [], alts := [], laidByText := true, laidKinds := [.data, .data, .data, .data, .sentinel, .sentinel, .listed, .data, .pinned], laidTests := true, laidLooks := .later }
def FnExactExpectedForUptoCardSaid : Prop := Claim7.holds Tryz.pinned (.plain (OpenSpec.upto fnExactExpectedForSpec)) fnExactExpectedForUptoCard

/-- THE SECOND FORM's CARD OF 'laws.FnExactRunNumbered'. -/
def fnExactRunNumberedUptoCard : Claim7 := { stood := { row := fnExactRunNumberedUptoRow, standIns := [], harness := (true, "c8d9c515b49b40cb3c381f33997bf8319d6f671982cc8051f401b855bfb6e004"), looks := true }, kinds := [], alts := [], laidByText := true, laidKinds := [.data, .data, .data, .data, .sentinel, .sentinel, .listed, .data, .pinned], laidTests := true, laidLooks := .later }
def FnExactRunNumberedUptoCardSaid : Prop := Claim7.holds Tryz.pinned (.plain (OpenSpec.upto fnExactRunNumberedSpec)) fnExactRunNumberedUptoCard

/-- THE SECOND FORM's CARD OF 'laws.FnExactLeastAnswer'. -/
def fnExactLeastAnswerUptoCard : Claim7 := { stood := { row := fnExactLeastAnswerUptoRow, standIns := [], harness := (true, "c8d9c515b49b40cb3c381f33997bf8319d6f671982cc8051f401b855bfb6e004"), looks := true }, kinds := [], alts := [], laidByText := true, laidKinds := [.data, .data, .data, .data, .sentinel, .sentinel, .listed, .data, .pinned], laidTests := true, laidLooks := .later }
def FnExactLeastAnswerUptoCardSaid : Prop := Claim7.holds Tryz.pinned (.plain (OpenSpec.upto fnExactLeastAnswerSpec)) fnExactLeastAnswerUptoCard

/-- THE SECOND FORM's CARD OF 'laws.FnExactCostOf'. -/
def fnExactCostOfUptoCard : Claim7 := { stood := { row := fnExactCostOfUptoRow, standIns := [], harness := (true, "c8d9c515b49b40cb3c381f33997bf8319d6f671982cc8051f401b855bfb6e004"), looks := true }, kinds := [], alts := [], laidByText := true, laidKinds := [.data, .data, .data, .data, .sentinel, .sentinel, .listed, .data, .pinned], laidTests := true, laidLooks := .later }
def FnExactCostOfUptoCardSaid : Prop := Claim7.holds Tryz.pinned (.plain (OpenSpec.upto fnExactCostOfSpec)) fnExactCostOfUptoCard

/-- THE SECOND FORM's CARD OF 'laws.FnExactWidestFor'. -/
def fnExactWidestForUptoCard : Claim7 := { stood := { row := fnExactWidestForUptoRow, standIns := [], harness := (true, "c8d9c515b49b40cb3c381f33997bf8319d6f671982cc8051f401b855bfb6e004"), looks := true }, kinds := [], alts := [], laidByText := true, laidKinds := [.data, .data, .data, .data, .sentinel, .sentinel, .listed, .data, .pinned], laidTests := true, laidLooks := .later }
def FnExactWidestForUptoCardSaid : Prop := Claim7.holds Tryz.pinned (.plain (OpenSpec.upto fnExactWidestForSpec)) fnExactWidestForUptoCard
end Rows
end Go.Proofs.YtdndkkaacfbkkaaGreatDoor
