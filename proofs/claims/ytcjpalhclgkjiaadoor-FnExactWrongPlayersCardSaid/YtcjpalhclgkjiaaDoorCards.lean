/-
  DERIVED. GIVEN WITH THE SEED: THE CARDS: each row of YtcjpalhclgkjiaaDoorRows.lean that lists a variable, with what it lists TIED to the program's text (the seventh form; the later family's looks); each row that meets fmt, with fmt's text TOLD by the authors' own Lean function (tested against real Go, not proved from fmt's source: count such statements apart). THE CARD IS WHAT COUNTS. Prove the row's statement (the work); the ties are given (YtcjpalhclgkjiaaDoorTie.lean); close each card by the builder's one call (the guide's Derived/Test/ToyasCard.lean, 'card_holds'). Laid BY PROGRAM, IN A SANDBOX (cutbox-door.mjs). By AI agents, Wed Nov 11 2026. No macro, syntax, notation, axiom, sorry.
-/
import Derived.Test.YtcjpalhclgkjiaaDoorRows
import GoSem.ClaimSeven
namespace Go.Proofs.YtcjpalhclgkjiaaDoor
namespace Rows

/-- THE TIED CARD OF 'laws.FnExactStatusesFor'. -/
def fnExactStatusesForCard : Claim7 := { stood := { row := fnExactStatusesForRow, standIns := [], harness := (true, "2202e9e76b1d9bfea136862f34da36a6005ba0e724796aa347bd0eca26eb1b53"), looks := false }, kinds := [], alts := [], laidByText := true, laidKinds := [.data], laidTests := true, laidLooks := .later }
def FnExactStatusesForCardSaid : Prop := Claim7.holds Tryd.pinned (.plain (OpenSpec.ofChange fnExactStatusesForSpec)) fnExactStatusesForCard

/-- THE TIED CARD OF 'laws.FnExactUnreachedMeddles'. -/
def fnExactUnreachedMeddlesCard : Claim7 := { stood := { row := fnExactUnreachedMeddlesRow, standIns := [], harness := (true, "2202e9e76b1d9bfea136862f34da36a6005ba0e724796aa347bd0eca26eb1b53"), looks := false }, kinds := [], alts := [], laidByText := true, laidKinds := [.data], laidTests := true, laidLooks := .later }
def FnExactUnreachedMeddlesCardSaid : Prop := Claim7.holds Tryd.pinned (.plain (OpenSpec.ofChange fnExactUnreachedMeddlesSpec)) fnExactUnreachedMeddlesCard

/-- THE TIED CARD OF 'laws.FnExactWrongPlayers'. -/
def fnExactWrongPlayersCard : Claim7 := { stood := { row := fnExactWrongPlayersRow, standIns := [], harness := (true, "2202e9e76b1d9bfea136862f34da36a6005ba0e724796aa347bd0eca26eb1b53"), looks := false }, kinds := [], alts := [], laidByText := true, laidKinds := [.data], laidTests := true, laidLooks := .later }
def FnExactWrongPlayersCardSaid : Prop := Claim7.holds Tryd.pinned (.plain (OpenSpec.ofChange fnExactWrongPlayersSpec)) fnExactWrongPlayersCard

/-- THE TIED CARD OF 'laws.FnSilent'. -/
def fnSilentCard : Claim7 := { stood := { row := fnSilentRow, standIns := [], harness := (true, "2202e9e76b1d9bfea136862f34da36a6005ba0e724796aa347bd0eca26eb1b53"), looks := false }, kinds := [], alts := [], laidByText := true, laidKinds := [.data], laidTests := true, laidLooks := .later }
def FnSilentCardSaid : Prop := Claim7.holds Tryd.pinned (.plain (OpenSpec.ofChange fnSilentSpec)) fnSilentCard

/-- THE SECOND FORM's CARD OF 'laws.FnExactStatusesFor'. -/
def fnExactStatusesForUptoCard : Claim7 := { stood := { row := fnExactStatusesForUptoRow, standIns := [], harness := (true, "2202e9e76b1d9bfea136862f34da36a6005ba0e724796aa347bd0eca26eb1b53"), looks := false }, kinds := [], alts := [], laidByText := true, laidKinds := [.data], laidTests := true, laidLooks := .later }
def FnExactStatusesForUptoCardSaid : Prop := Claim7.holds Tryd.pinned (.plain (OpenSpec.upto fnExactStatusesForSpec)) fnExactStatusesForUptoCard

/-- THE SECOND FORM's CARD OF 'laws.FnExactUnreachedMeddles'. -/
def fnExactUnreachedMeddlesUptoCard : Claim7 := { stood := { row := fnExactUnreachedMeddlesUptoRow, standIns := [], harness := (true, "2202e9e76b1d9bfea136862f34da36a6005ba0e724796aa347bd0eca26eb1b53"), looks := false }, kinds := [], alts := [], laidByText := true, laidKinds := [.data], laidTests := true, laidLooks := .later }
def FnExactUnreachedMeddlesUptoCardSaid : Prop := Claim7.holds Tryd.pinned (.plain (OpenSpec.upto fnExactUnreachedMeddlesSpec)) fnExactUnreachedMeddlesUptoCard

/-- THE SECOND FORM's CARD OF 'laws.FnExactWrongPlayers'. -/
def fnExactWrongPlayersUptoCard : Claim7 := { stood := { row := fnExactWrongPlayersUptoRow, standIns := [], harness := (true, "2202e9e76b1d9bfea136862f34da36a6005ba0e724796aa347bd0eca26eb1b53"), looks := false }, kinds := [], alts := [], laidByText := true, laidKinds := [.data], laidTests := true, laidLooks := .later }
def FnExactWrongPlayersUptoCardSaid : Prop := Claim7.holds Tryd.pinned (.plain (OpenSpec.upto fnExactWrongPlayersSpec)) fnExactWrongPlayersUptoCard

/-- THE SECOND FORM's CARD OF 'laws.FnSilent'. -/
def fnSilentUptoCard : Claim7 := { stood := { row := fnSilentUptoRow, standIns := [], harness := (true, "2202e9e76b1d9bfea136862f34da36a6005ba0e724796aa347bd0eca26eb1b53"), looks := false }, kinds := [], alts := [], laidByText := true, laidKinds := [.data], laidTests := true, laidLooks := .later }
def FnSilentUptoCardSaid : Prop := Claim7.holds Tryd.pinned (.plain (OpenSpec.upto fnSilentSpec)) fnSilentUptoCard
end Rows
end Go.Proofs.YtcjpalhclgkjiaaDoor
