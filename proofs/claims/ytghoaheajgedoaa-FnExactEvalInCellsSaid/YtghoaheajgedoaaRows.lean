/-
  No cell of these rows narrows 'for every input' (looked for: loops, veiled, ifaces, maps, wideKeys, modest, calm, conditions, laid).
  DERIVED. THE GIVEN ROWS OF THIS SEAT. 11 by the template 'for every input the law returns true; each argument reads behind the call as it read before'; 0 by the template 'total and deterministic' (their statements: YtghoaheajgedoaaTotals.lean).
  GIVEN WITH THE SEED: the statements are not yours to turn. If you find one false, say at which input.
  Laid BY PROGRAM, IN A SANDBOX (cutbox-rows.mjs): the forced cells as the released guide's own fill.sh prints them over the translation eadd84ef59aab70f… (all of the seat's roots in one cut). By AI agents, Wed Nov 11 2026. No macro, syntax, notation, axiom, sorry.
-/
import Derived.Test.YtghoaheajgedoaaChecked
import GoSem.Claim
import GoSem.ClaimJoined
import GoSem.ClaimMapViews
import Derived.JoinedTies
import Derived.KernelRfl
namespace Go.Proofs.Ytghoaheajgedoaa
/- THE CELL 'sum', in the pinned program and in every row, IS THE sha256 OF THE DUMP (.gsa) THAT YtghoaheajgedoaaProg.lean LOADS. Nothing in Lean hashes anything: it is a label: what it is worth is what the hold of that sum in a sandbox is worth. -/
noncomputable def Try.pinned : Pinned := { name := "ytghoaheajgedoaa", sum := "eadd84ef59aab70f8807c747c80ccbe6776da0cfe1c423cb58aa6f9faa6634fd", checked := Try.checked }
namespace Rows
def none {H : Type} : Left H := { results := [], args := [] }

/-- 'laws.FnExactRoundsNeeded': WHATEVER THE INPUT: true; the input reads as it did. -/
def fnExactRoundsNeededSpec : ChangeSpec := { name := "fnExactRoundsNeeded", fn := fun _ => fun
  | [d] => { results := [.lit (.bool true)], args := [d] }
  | _ => none }
def fnExactRoundsNeededRow : OpenClaim := { program := "ytghoaheajgedoaa", sum := "eadd84ef59aab70f8807c747c80ccbe6776da0cfe1c423cb58aa6f9faa6634fd", func := "loop.example/g00877/laws.FnExactRoundsNeeded", spec := "fnExactRoundsNeeded", unfollowed := true, recurses := true, apart := false }
def FnExactRoundsNeededSaid : Prop := fnExactRoundsNeededRow.holds Try.pinned (OpenSpec.ofChange fnExactRoundsNeededSpec)

/-- ITS FALSE NEIGHBOUR: 'it returns false'. Refute it at one input. -/
def fnExactRoundsNeededWrong : ChangeSpec := { name := "fnExactRoundsNeeded", fn := fun _ => fun
  | [d] => { results := [.lit (.bool false)], args := [d] }
  | _ => none }
def FnExactRoundsNeededWrongFalsely : Prop := fnExactRoundsNeededRow.holds Try.pinned (OpenSpec.ofChange fnExactRoundsNeededWrong)

/-- 'laws.FnExactLateInputs': WHATEVER THE INPUT: true; the input reads as it did. -/
def fnExactLateInputsSpec : ChangeSpec := { name := "fnExactLateInputs", fn := fun _ => fun
  | [d] => { results := [.lit (.bool true)], args := [d] }
  | _ => none }
def fnExactLateInputsRow : OpenClaim := { program := "ytghoaheajgedoaa", sum := "eadd84ef59aab70f8807c747c80ccbe6776da0cfe1c423cb58aa6f9faa6634fd", func := "loop.example/g00877/laws.FnExactLateInputs", spec := "fnExactLateInputs", unfollowed := true, recurses := true, apart := false }
def FnExactLateInputsSaid : Prop := fnExactLateInputsRow.holds Try.pinned (OpenSpec.ofChange fnExactLateInputsSpec)

/-- ITS FALSE NEIGHBOUR: 'it returns false'. Refute it at one input. -/
def fnExactLateInputsWrong : ChangeSpec := { name := "fnExactLateInputs", fn := fun _ => fun
  | [d] => { results := [.lit (.bool false)], args := [d] }
  | _ => none }
def FnExactLateInputsWrongFalsely : Prop := fnExactLateInputsRow.holds Try.pinned (OpenSpec.ofChange fnExactLateInputsWrong)

/-- 'laws.FnExactRoundsOf': WHATEVER THE INPUT: true; the input reads as it did. -/
def fnExactRoundsOfSpec : ChangeSpec := { name := "fnExactRoundsOf", fn := fun _ => fun
  | [d] => { results := [.lit (.bool true)], args := [d] }
  | _ => none }
def fnExactRoundsOfRow : OpenClaim := { program := "ytghoaheajgedoaa", sum := "eadd84ef59aab70f8807c747c80ccbe6776da0cfe1c423cb58aa6f9faa6634fd", func := "loop.example/g00877/laws.FnExactRoundsOf", spec := "fnExactRoundsOf", unfollowed := true, recurses := true, apart := false }
def FnExactRoundsOfSaid : Prop := fnExactRoundsOfRow.holds Try.pinned (OpenSpec.ofChange fnExactRoundsOfSpec)

/-- ITS FALSE NEIGHBOUR: 'it returns false'. Refute it at one input. -/
def fnExactRoundsOfWrong : ChangeSpec := { name := "fnExactRoundsOf", fn := fun _ => fun
  | [d] => { results := [.lit (.bool false)], args := [d] }
  | _ => none }
def FnExactRoundsOfWrongFalsely : Prop := fnExactRoundsOfRow.holds Try.pinned (OpenSpec.ofChange fnExactRoundsOfWrong)

/-- 'laws.FnExactLastUses': WHATEVER THE INPUT: true; the input reads as it did. -/
def fnExactLastUsesSpec : ChangeSpec := { name := "fnExactLastUses", fn := fun _ => fun
  | [d] => { results := [.lit (.bool true)], args := [d] }
  | _ => none }
def fnExactLastUsesRow : OpenClaim := { program := "ytghoaheajgedoaa", sum := "eadd84ef59aab70f8807c747c80ccbe6776da0cfe1c423cb58aa6f9faa6634fd", func := "loop.example/g00877/laws.FnExactLastUses", spec := "fnExactLastUses", unfollowed := true, recurses := true, apart := false }
def FnExactLastUsesSaid : Prop := fnExactLastUsesRow.holds Try.pinned (OpenSpec.ofChange fnExactLastUsesSpec)

/-- ITS FALSE NEIGHBOUR: 'it returns false'. Refute it at one input. -/
def fnExactLastUsesWrong : ChangeSpec := { name := "fnExactLastUses", fn := fun _ => fun
  | [d] => { results := [.lit (.bool false)], args := [d] }
  | _ => none }
def FnExactLastUsesWrongFalsely : Prop := fnExactLastUsesRow.holds Try.pinned (OpenSpec.ofChange fnExactLastUsesWrong)

/-- 'laws.FnExactAndLayers': WHATEVER THE INPUT: true; the input reads as it did. -/
def fnExactAndLayersSpec : ChangeSpec := { name := "fnExactAndLayers", fn := fun _ => fun
  | [d] => { results := [.lit (.bool true)], args := [d] }
  | _ => none }
def fnExactAndLayersRow : OpenClaim := { program := "ytghoaheajgedoaa", sum := "eadd84ef59aab70f8807c747c80ccbe6776da0cfe1c423cb58aa6f9faa6634fd", func := "loop.example/g00877/laws.FnExactAndLayers", spec := "fnExactAndLayers", unfollowed := true, recurses := true, apart := false }
def FnExactAndLayersSaid : Prop := fnExactAndLayersRow.holds Try.pinned (OpenSpec.ofChange fnExactAndLayersSpec)

/-- ITS FALSE NEIGHBOUR: 'it returns false'. Refute it at one input. -/
def fnExactAndLayersWrong : ChangeSpec := { name := "fnExactAndLayers", fn := fun _ => fun
  | [d] => { results := [.lit (.bool false)], args := [d] }
  | _ => none }
def FnExactAndLayersWrongFalsely : Prop := fnExactAndLayersRow.holds Try.pinned (OpenSpec.ofChange fnExactAndLayersWrong)

/-- 'laws.FnExactGreatestLive': WHATEVER THE INPUT: true; the input reads as it did. -/
def fnExactGreatestLiveSpec : ChangeSpec := { name := "fnExactGreatestLive", fn := fun _ => fun
  | [d] => { results := [.lit (.bool true)], args := [d] }
  | _ => none }
def fnExactGreatestLiveRow : OpenClaim := { program := "ytghoaheajgedoaa", sum := "eadd84ef59aab70f8807c747c80ccbe6776da0cfe1c423cb58aa6f9faa6634fd", func := "loop.example/g00877/laws.FnExactGreatestLive", spec := "fnExactGreatestLive", unfollowed := true, recurses := true, apart := false }
def FnExactGreatestLiveSaid : Prop := fnExactGreatestLiveRow.holds Try.pinned (OpenSpec.ofChange fnExactGreatestLiveSpec)

/-- ITS FALSE NEIGHBOUR: 'it returns false'. Refute it at one input. -/
def fnExactGreatestLiveWrong : ChangeSpec := { name := "fnExactGreatestLive", fn := fun _ => fun
  | [d] => { results := [.lit (.bool false)], args := [d] }
  | _ => none }
def FnExactGreatestLiveWrongFalsely : Prop := fnExactGreatestLiveRow.holds Try.pinned (OpenSpec.ofChange fnExactGreatestLiveWrong)

/-- 'laws.FnExactLiveCounts': WHATEVER THE INPUT: true; the input reads as it did. -/
def fnExactLiveCountsSpec : ChangeSpec := { name := "fnExactLiveCounts", fn := fun _ => fun
  | [d] => { results := [.lit (.bool true)], args := [d] }
  | _ => none }
def fnExactLiveCountsRow : OpenClaim := { program := "ytghoaheajgedoaa", sum := "eadd84ef59aab70f8807c747c80ccbe6776da0cfe1c423cb58aa6f9faa6634fd", func := "loop.example/g00877/laws.FnExactLiveCounts", spec := "fnExactLiveCounts", unfollowed := true, recurses := true, apart := false }
def FnExactLiveCountsSaid : Prop := fnExactLiveCountsRow.holds Try.pinned (OpenSpec.ofChange fnExactLiveCountsSpec)

/-- ITS FALSE NEIGHBOUR: 'it returns false'. Refute it at one input. -/
def fnExactLiveCountsWrong : ChangeSpec := { name := "fnExactLiveCounts", fn := fun _ => fun
  | [d] => { results := [.lit (.bool false)], args := [d] }
  | _ => none }
def FnExactLiveCountsWrongFalsely : Prop := fnExactLiveCountsRow.holds Try.pinned (OpenSpec.ofChange fnExactLiveCountsWrong)

/-- 'laws.FnExactIsCellPlan': WHATEVER THE INPUT: true; the input reads as it did. -/
def fnExactIsCellPlanSpec : ChangeSpec := { name := "fnExactIsCellPlan", fn := fun _ => fun
  | [d1, d2] => { results := [.lit (.bool true)], args := [d1, d2] }
  | _ => none }
def fnExactIsCellPlanRow : OpenClaim := { program := "ytghoaheajgedoaa", sum := "eadd84ef59aab70f8807c747c80ccbe6776da0cfe1c423cb58aa6f9faa6634fd", func := "loop.example/g00877/laws.FnExactIsCellPlan", spec := "fnExactIsCellPlan", unfollowed := true, recurses := true, apart := false }
def FnExactIsCellPlanSaid : Prop := fnExactIsCellPlanRow.holds Try.pinned (OpenSpec.ofChange fnExactIsCellPlanSpec)

/-- ITS FALSE NEIGHBOUR: 'it returns false'. Refute it at one input. -/
def fnExactIsCellPlanWrong : ChangeSpec := { name := "fnExactIsCellPlan", fn := fun _ => fun
  | [d1, d2] => { results := [.lit (.bool false)], args := [d1, d2] }
  | _ => none }
def FnExactIsCellPlanWrongFalsely : Prop := fnExactIsCellPlanRow.holds Try.pinned (OpenSpec.ofChange fnExactIsCellPlanWrong)

/-- 'laws.FnExactCellsNeeded': WHATEVER THE INPUT: true; the input reads as it did. -/
def fnExactCellsNeededSpec : ChangeSpec := { name := "fnExactCellsNeeded", fn := fun _ => fun
  | [d] => { results := [.lit (.bool true)], args := [d] }
  | _ => none }
def fnExactCellsNeededRow : OpenClaim := { program := "ytghoaheajgedoaa", sum := "eadd84ef59aab70f8807c747c80ccbe6776da0cfe1c423cb58aa6f9faa6634fd", func := "loop.example/g00877/laws.FnExactCellsNeeded", spec := "fnExactCellsNeeded", unfollowed := true, recurses := true, apart := false }
def FnExactCellsNeededSaid : Prop := fnExactCellsNeededRow.holds Try.pinned (OpenSpec.ofChange fnExactCellsNeededSpec)

/-- ITS FALSE NEIGHBOUR: 'it returns false'. Refute it at one input. -/
def fnExactCellsNeededWrong : ChangeSpec := { name := "fnExactCellsNeeded", fn := fun _ => fun
  | [d] => { results := [.lit (.bool false)], args := [d] }
  | _ => none }
def FnExactCellsNeededWrongFalsely : Prop := fnExactCellsNeededRow.holds Try.pinned (OpenSpec.ofChange fnExactCellsNeededWrong)

/-- 'laws.FnExactCellPlan': WHATEVER THE INPUT: true; the input reads as it did. -/
def fnExactCellPlanSpec : ChangeSpec := { name := "fnExactCellPlan", fn := fun _ => fun
  | [d] => { results := [.lit (.bool true)], args := [d] }
  | _ => none }
def fnExactCellPlanRow : OpenClaim := { program := "ytghoaheajgedoaa", sum := "eadd84ef59aab70f8807c747c80ccbe6776da0cfe1c423cb58aa6f9faa6634fd", func := "loop.example/g00877/laws.FnExactCellPlan", spec := "fnExactCellPlan", unfollowed := true, recurses := true, apart := false }
def FnExactCellPlanSaid : Prop := fnExactCellPlanRow.holds Try.pinned (OpenSpec.ofChange fnExactCellPlanSpec)

/-- ITS FALSE NEIGHBOUR: 'it returns false'. Refute it at one input. -/
def fnExactCellPlanWrong : ChangeSpec := { name := "fnExactCellPlan", fn := fun _ => fun
  | [d] => { results := [.lit (.bool false)], args := [d] }
  | _ => none }
def FnExactCellPlanWrongFalsely : Prop := fnExactCellPlanRow.holds Try.pinned (OpenSpec.ofChange fnExactCellPlanWrong)

/-- 'laws.FnExactEvalInCells': WHATEVER THE INPUT: true; the input reads as it did. -/
def fnExactEvalInCellsSpec : ChangeSpec := { name := "fnExactEvalInCells", fn := fun _ => fun
  | [d1, d2, d3, d4] => { results := [.lit (.bool true)], args := [d1, d2, d3, d4] }
  | _ => none }
def fnExactEvalInCellsRow : OpenClaim := { program := "ytghoaheajgedoaa", sum := "eadd84ef59aab70f8807c747c80ccbe6776da0cfe1c423cb58aa6f9faa6634fd", func := "loop.example/g00877/laws.FnExactEvalInCells", spec := "fnExactEvalInCells", unfollowed := true, recurses := true, apart := false }
def FnExactEvalInCellsSaid : Prop := fnExactEvalInCellsRow.holds Try.pinned (OpenSpec.ofChange fnExactEvalInCellsSpec)

/-- ITS FALSE NEIGHBOUR: 'it returns false'. Refute it at one input. -/
def fnExactEvalInCellsWrong : ChangeSpec := { name := "fnExactEvalInCells", fn := fun _ => fun
  | [d1, d2, d3, d4] => { results := [.lit (.bool false)], args := [d1, d2, d3, d4] }
  | _ => none }
def FnExactEvalInCellsWrongFalsely : Prop := fnExactEvalInCellsRow.holds Try.pinned (OpenSpec.ofChange fnExactEvalInCellsWrong)

/- THE SECOND FORM. 'bulk': how many values and letters a reading holds, each counted each time it is reached (what is shared counts as often as it is met; a slice's spare places count too). A statement '..UptoSaid' is the law's where the arguments, and the package variables that the reading takes, are together of bulk at most 1048576: NARROWER than '..Said'. Prove '..Said' where nothing that the law and all that it calls make is longer than what came in: it says more and counts as full. Else prove '..UptoSaid'. A law counts once. -/
mutual
def uptoBulk {H : Type} : DataW H → Nat
  | .lit (.string bytes) => bytes.length + 1
  | .lit _ => 1
  | .nil => 1
  | .ptr d => uptoBulk d + 1
  | .slice elems spare => uptoBulkAll elems + uptoBulkAll spare + 1
  | .agg parts => uptoBulkAll parts + 1
  | .iface _ d => uptoBulk d + 1
  | .map entries => uptoBulkEntries entries + 1
  | .held _ => 1
def uptoBulkAll {H : Type} : List (DataW H) → Nat
  | [] => 0
  | d :: r => uptoBulk d + uptoBulkAll r
def uptoBulkEntries {H : Type} : List (Lit × DataW H) → Nat
  | [] => 0
  | x :: r => uptoBulkEntry x + uptoBulkEntries r
def uptoBulkEntry {H : Type} : Lit × DataW H → Nat
  | (.string bytes, d) => bytes.length + uptoBulk d + 1
  | (_, d) => uptoBulk d + 1
 end
def uptoSmall : (H : Type) → List (DataW H) → Bool := fun _ ds => decide (uptoBulkAll ds ≤ 1048576)
def OpenSpec.upto (s : _root_.Go.ChangeSpec) : _root_.Go.OpenSpec := { _root_.Go.OpenSpec.ofChange s with cond := some uptoSmall }

/-- 'laws.FnExactRoundsNeeded', WHERE WHAT IT READS IS OF BULK AT MOST 1048576: true; the input reads as it did. -/
def fnExactRoundsNeededUptoRow : OpenClaim := { program := "ytghoaheajgedoaa", sum := "eadd84ef59aab70f8807c747c80ccbe6776da0cfe1c423cb58aa6f9faa6634fd", func := "loop.example/g00877/laws.FnExactRoundsNeeded", spec := "fnExactRoundsNeeded", unfollowed := true, recurses := true, apart := false, narrowed := true }
def FnExactRoundsNeededUptoSaid : Prop := fnExactRoundsNeededUptoRow.holds Try.pinned (OpenSpec.upto fnExactRoundsNeededSpec)

/-- 'laws.FnExactLateInputs', WHERE WHAT IT READS IS OF BULK AT MOST 1048576: true; the input reads as it did. -/
def fnExactLateInputsUptoRow : OpenClaim := { program := "ytghoaheajgedoaa", sum := "eadd84ef59aab70f8807c747c80ccbe6776da0cfe1c423cb58aa6f9faa6634fd", func := "loop.example/g00877/laws.FnExactLateInputs", spec := "fnExactLateInputs", unfollowed := true, recurses := true, apart := false, narrowed := true }
def FnExactLateInputsUptoSaid : Prop := fnExactLateInputsUptoRow.holds Try.pinned (OpenSpec.upto fnExactLateInputsSpec)

/-- 'laws.FnExactRoundsOf', WHERE WHAT IT READS IS OF BULK AT MOST 1048576: true; the input reads as it did. -/
def fnExactRoundsOfUptoRow : OpenClaim := { program := "ytghoaheajgedoaa", sum := "eadd84ef59aab70f8807c747c80ccbe6776da0cfe1c423cb58aa6f9faa6634fd", func := "loop.example/g00877/laws.FnExactRoundsOf", spec := "fnExactRoundsOf", unfollowed := true, recurses := true, apart := false, narrowed := true }
def FnExactRoundsOfUptoSaid : Prop := fnExactRoundsOfUptoRow.holds Try.pinned (OpenSpec.upto fnExactRoundsOfSpec)

/-- 'laws.FnExactLastUses', WHERE WHAT IT READS IS OF BULK AT MOST 1048576: true; the input reads as it did. -/
def fnExactLastUsesUptoRow : OpenClaim := { program := "ytghoaheajgedoaa", sum := "eadd84ef59aab70f8807c747c80ccbe6776da0cfe1c423cb58aa6f9faa6634fd", func := "loop.example/g00877/laws.FnExactLastUses", spec := "fnExactLastUses", unfollowed := true, recurses := true, apart := false, narrowed := true }
def FnExactLastUsesUptoSaid : Prop := fnExactLastUsesUptoRow.holds Try.pinned (OpenSpec.upto fnExactLastUsesSpec)

/-- 'laws.FnExactAndLayers', WHERE WHAT IT READS IS OF BULK AT MOST 1048576: true; the input reads as it did. -/
def fnExactAndLayersUptoRow : OpenClaim := { program := "ytghoaheajgedoaa", sum := "eadd84ef59aab70f8807c747c80ccbe6776da0cfe1c423cb58aa6f9faa6634fd", func := "loop.example/g00877/laws.FnExactAndLayers", spec := "fnExactAndLayers", unfollowed := true, recurses := true, apart := false, narrowed := true }
def FnExactAndLayersUptoSaid : Prop := fnExactAndLayersUptoRow.holds Try.pinned (OpenSpec.upto fnExactAndLayersSpec)

/-- 'laws.FnExactGreatestLive', WHERE WHAT IT READS IS OF BULK AT MOST 1048576: true; the input reads as it did. -/
def fnExactGreatestLiveUptoRow : OpenClaim := { program := "ytghoaheajgedoaa", sum := "eadd84ef59aab70f8807c747c80ccbe6776da0cfe1c423cb58aa6f9faa6634fd", func := "loop.example/g00877/laws.FnExactGreatestLive", spec := "fnExactGreatestLive", unfollowed := true, recurses := true, apart := false, narrowed := true }
def FnExactGreatestLiveUptoSaid : Prop := fnExactGreatestLiveUptoRow.holds Try.pinned (OpenSpec.upto fnExactGreatestLiveSpec)

/-- 'laws.FnExactLiveCounts', WHERE WHAT IT READS IS OF BULK AT MOST 1048576: true; the input reads as it did. -/
def fnExactLiveCountsUptoRow : OpenClaim := { program := "ytghoaheajgedoaa", sum := "eadd84ef59aab70f8807c747c80ccbe6776da0cfe1c423cb58aa6f9faa6634fd", func := "loop.example/g00877/laws.FnExactLiveCounts", spec := "fnExactLiveCounts", unfollowed := true, recurses := true, apart := false, narrowed := true }
def FnExactLiveCountsUptoSaid : Prop := fnExactLiveCountsUptoRow.holds Try.pinned (OpenSpec.upto fnExactLiveCountsSpec)

/-- 'laws.FnExactIsCellPlan', WHERE WHAT IT READS IS OF BULK AT MOST 1048576: true; the input reads as it did. -/
def fnExactIsCellPlanUptoRow : OpenClaim := { program := "ytghoaheajgedoaa", sum := "eadd84ef59aab70f8807c747c80ccbe6776da0cfe1c423cb58aa6f9faa6634fd", func := "loop.example/g00877/laws.FnExactIsCellPlan", spec := "fnExactIsCellPlan", unfollowed := true, recurses := true, apart := false, narrowed := true }
def FnExactIsCellPlanUptoSaid : Prop := fnExactIsCellPlanUptoRow.holds Try.pinned (OpenSpec.upto fnExactIsCellPlanSpec)

/-- 'laws.FnExactCellsNeeded', WHERE WHAT IT READS IS OF BULK AT MOST 1048576: true; the input reads as it did. -/
def fnExactCellsNeededUptoRow : OpenClaim := { program := "ytghoaheajgedoaa", sum := "eadd84ef59aab70f8807c747c80ccbe6776da0cfe1c423cb58aa6f9faa6634fd", func := "loop.example/g00877/laws.FnExactCellsNeeded", spec := "fnExactCellsNeeded", unfollowed := true, recurses := true, apart := false, narrowed := true }
def FnExactCellsNeededUptoSaid : Prop := fnExactCellsNeededUptoRow.holds Try.pinned (OpenSpec.upto fnExactCellsNeededSpec)

/-- 'laws.FnExactCellPlan', WHERE WHAT IT READS IS OF BULK AT MOST 1048576: true; the input reads as it did. -/
def fnExactCellPlanUptoRow : OpenClaim := { program := "ytghoaheajgedoaa", sum := "eadd84ef59aab70f8807c747c80ccbe6776da0cfe1c423cb58aa6f9faa6634fd", func := "loop.example/g00877/laws.FnExactCellPlan", spec := "fnExactCellPlan", unfollowed := true, recurses := true, apart := false, narrowed := true }
def FnExactCellPlanUptoSaid : Prop := fnExactCellPlanUptoRow.holds Try.pinned (OpenSpec.upto fnExactCellPlanSpec)

/-- 'laws.FnExactEvalInCells', WHERE WHAT IT READS IS OF BULK AT MOST 1048576: true; the input reads as it did. -/
def fnExactEvalInCellsUptoRow : OpenClaim := { program := "ytghoaheajgedoaa", sum := "eadd84ef59aab70f8807c747c80ccbe6776da0cfe1c423cb58aa6f9faa6634fd", func := "loop.example/g00877/laws.FnExactEvalInCells", spec := "fnExactEvalInCells", unfollowed := true, recurses := true, apart := false, narrowed := true }
def FnExactEvalInCellsUptoSaid : Prop := fnExactEvalInCellsUptoRow.holds Try.pinned (OpenSpec.upto fnExactEvalInCellsSpec)

end Rows
end Go.Proofs.Ytghoaheajgedoaa
