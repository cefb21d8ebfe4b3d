/-
  DERIVED. GIVEN WITH THE SEED: THE CARDS: each row of YtjggecbaladiiaaGreatDoorRows.lean that lists a variable, with what it lists TIED to the program's text (the seventh form; the later family's looks); each row that meets fmt, with fmt's text TOLD by the authors' own Lean function (tested against real Go, not proved from fmt's source: count such statements apart). THE CARD IS WHAT COUNTS. Prove the row's statement (the work); the ties are given (YtjggecbaladiiaaGreatDoorTie.lean); close each card by the builder's one call (the guide's Derived/Test/ToyasCard.lean, 'card_holds'). Laid BY PROGRAM, IN A SANDBOX (cutbox-door.mjs). By AI agents, Wed Nov 11 2026. No macro, syntax, notation, axiom, sorry.
-/
import Derived.Test.YtjggecbaladiiaaGreatDoorRows
import GoSem.ClaimSeven
namespace Go.Proofs.YtjggecbaladiiaaGreatDoor
namespace Rows

/-- THE TIED CARD OF 'laws.FnExactCostOf'. -/
def fnExactCostOfCard : Claim7 := { stood := { row := fnExactCostOfRow, standIns := [], harness := (true, "aa90064d21ea812ca15530606abdb7466c8f2659bbb0963e3413557c154450f8"), looks := true }, kinds := [], alts := [], laidByText := true, laidKinds := [.data, .data, .data, .data, .sentinel, .sentinel, .listed, .data, .pinned], laidTests := true, laidLooks := .later }
def FnExactCostOfCardSaid : Prop := Claim7.holds Tryz.pinned (.plain (OpenSpec.ofChange fnExactCostOfSpec)) fnExactCostOfCard

/-- THE TIED CARD OF 'laws.FnExactWidestFor'. -/
def fnExactWidestForCard : Claim7 := { stood := { row := fnExactWidestForRow, standIns := [], harness := (true, "aa90064d21ea812ca15530606abdb7466c8f2659bbb0963e3413557c154450f8"), looks := true }, kinds := [], alts := [], laidByText := true, laidKinds := [.data, .data, .data, .data, .sentinel, .sentinel, .listed, .data, .pinned], laidTests := true, laidLooks := .later }
def FnExactWidestForCardSaid : Prop := Claim7.holds Tryz.pinned (.plain (OpenSpec.ofChange fnExactWidestForSpec)) fnExactWidestForCard

/-- THE TIED CARD OF 'laws.FnExactLeastAnswer'. -/
def fnExactLeastAnswerCard : Claim7 := { stood := { row := fnExactLeastAnswerRow, standIns := [], harness := (true, "aa90064d21ea812ca15530606abdb7466c8f2659bbb0963e3413557c154450f8"), looks := true }, kinds := [], alts := [], laidByText := true, laidKinds := [.data, .data, .data, .data, .sentinel, .sentinel, .listed, .data, .pinned], laidTests := true, laidLooks := .later }
def FnExactLeastAnswerCardSaid : Prop := Claim7.holds Tryz.pinned (.plain (OpenSpec.ofChange fnExactLeastAnswerSpec)) fnExactLeastAnswerCard

/-- THE TIED CARD OF 'laws.FnExactSimplerCost'. -/
def fnExactSimplerCostCard : Claim7 := { stood := { row := fnExactSimplerCostRow, standIns := [], harness := (true, "aa90064d21ea812ca15530606abdb7466c8f2659bbb0963e3413557c154450f8"), looks := true }, kinds := [], alts := [], laidByText := true, laidKinds := [.data, .data, .data, .data, .sentinel, .sentinel, .listed, .data, .pinned], laidTests := true, laidLooks := .later }
def FnExactSimplerCostCardSaid : Prop := Claim7.holds Tryz.pinned (.plain (OpenSpec.ofChange fnExactSimplerCostSpec)) fnExactSimplerCostCard

/-- THE TIED CARD OF 'laws.FnPrograms'. -/
def fnProgramsCard : Claim7 := { stood := { row := fnProgramsRow, standIns := [], harness := (true, "aa90064d21ea812ca15530606abdb7466c8f2659bbb0963e3413557c154450f8"), looks := true }, kinds := [], alts := [], laidByText := true, laidKinds := [.data, .data, .data, .data, .sentinel, .sentinel, .listed, .data, .pinned], laidTests := true, laidLooks := .later }
def FnProgramsCardSaid : Prop := Claim7.holds Tryz.pinned (.plain (OpenSpec.ofChange fnProgramsSpec)) fnProgramsCard

/-- THE TIED CARD OF 'laws.FnCosts'. -/
def fnCostsCard : Claim7 := { stood := { row := fnCostsRow, standIns := [], harness := (true, "aa90064d21ea812ca15530606abdb7466c8f2659bbb0963e3413557c154450f8"), looks := true }, kinds := [], alts := [], laidByText := true, laidKinds := [.data, .data, .data, .data, .sentinel, .sentinel, .listed, .data, .pinned], laidTests := true, laidLooks := .later }
def FnCostsCardSaid : Prop := Claim7.holds Tryz.pinned (.plain (OpenSpec.ofChange fnCostsSpec)) fnCostsCard

/-- THE SECOND FORM's CARD OF 'laws.FnExactCostOf'. -/
def fnExactCostOfUptoCard : Claim7 := { stood := { row := fnExactCostOfUptoRow, standIns := [], harness := (true, "aa90064d21ea812ca15530606abdb7466c8f2659bbb0963e3413557c154450f8"), looks := true }, kinds := [], alts := [], laidByText := true, laidKinds := [.data, .data, .data, .data, .sentinel, .sentinel, .listed, .data, .pinned], laidTests := true, laidLooks := .later }
def FnExactCostOfUptoCardSaid : Prop := Claim7.holds Tryz.pinned (.plain (OpenSpec.upto fnExactCostOfSpec)) fnExactCostOfUptoCard

/-- THE SECOND FORM's CARD OF 'laws.FnExactWidestFor'. -/
def fnExactWidestForUptoCard : Claim7 := { stood := { row := fnExactWidestForUptoRow, standIns := [], harness := (true, "aa90064d21ea812ca15530606abdb7466c8f2659bbb0963e3413557c154450f8"), looks := true }, kinds := [], alts := [], laidByText := true, laidKinds := [.data, .data, .data, .data, .sentinel, .sentinel, .listed, .data, .pinned], laidTests := true, laidLooks := .later }
def FnExactWidestForUptoCardSaid : Prop := Claim7.holds Tryz.pinned (.plain (OpenSpec.upto fnExactWidestForSpec)) fnExactWidestForUptoCard

/-- THE SECOND FORM's CARD OF 'laws.FnExactLeastAnswer'. -/
def fnExactLeastAnswerUptoCard : Claim7 := { stood := { row := fnExactLeastAnswerUptoRow, standIns := [], harness := (true, "aa90064d21ea812ca15530606abdb7466c8f2659bbb0963e3413557c154450f8"), looks := true }, kinds := [], alts := [], laidByText := true, laidKinds := [.data, .data, .data, .data, .sentinel, .sentinel, .listed, .data, .pinned], laidTests := true, laidLooks := .later }
def FnExactLeastAnswerUptoCardSaid : Prop := Claim7.holds Tryz.pinned (.plain (OpenSpec.upto fnExactLeastAnswerSpec)) fnExactLeastAnswerUptoCard

/-- THE SECOND FORM's CARD OF 'laws.FnExactSimplerCost'. -/
def fnExactSimplerCostUptoCard : Claim7 := { stood := { row := fnExactSimplerCostUptoRow, standIns := [], harness := (true, "aa90064d21ea812ca15530606abdb7466c8f2659bbb0963e3413557c154450f8"), looks := true }, kinds := [], alts := [], laidByText := true, laidKinds := [.data, .data, .data, .data, .sentinel, .sentinel, .listed, .data, .pinned], laidTests := true, laidLooks := .later }
def FnExactSimplerCostUptoCardSaid : Prop := Claim7.holds Tryz.pinned (.plain (OpenSpec.upto fnExactSimplerCostSpec)) fnExactSimplerCostUptoCard

/-- THE SECOND FORM's CARD OF 'laws.FnPrograms'. -/
def fnProgramsUptoCard : Claim7 := { stood := { row := fnProgramsUptoRow, standIns := [], harness := (true, "aa90064d21ea812ca15530606abdb7466c8f2659bbb0963e3413557c154450f8"), looks := true }, kinds := [], alts := [], laidByText := true, laidKinds := [.data, .data, .data, .data, .sentinel, .sentinel, .listed, .data, .pinned], laidTests := true, laidLooks := .later }
def FnProgramsUptoCardSaid : Prop := Claim7.holds Tryz.pinned (.plain (OpenSpec.upto fnProgramsSpec)) fnProgramsUptoCard

/-- THE SECOND FORM's CARD OF 'laws.FnCosts'. -/
def fnCostsUptoCard : Claim7 := { stood := { row := fnCostsUptoRow, standIns := [], harness := (true, "aa90064d21ea812ca15530606abdb7466c8f2659bbb0963e3413557c154450f8"), looks := true }, kinds := [], alts := [], laidByText := true, laidKinds := [.data, .data, .data, .data, .sentinel, .sentinel, .listed, .data, .pinned], laidTests := true, laidLooks := .later }
def FnCostsUptoCardSaid : Prop := Claim7.holds Tryz.pinned (.plain (OpenSpec.upto fnCostsSpec)) fnCostsUptoCard
end Rows
end Go.Proofs.YtjggecbaladiiaaGreatDoor
