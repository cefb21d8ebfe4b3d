/-
  No cell of these rows narrows 'for every input' (looked for: loops, veiled, ifaces, maps, wideKeys, modest, calm, conditions, laid).
  DERIVED. THE GIVEN ROWS OF THIS SEAT. 11 by the template 'for every input the law returns true; each argument reads behind the call as it read before'; 0 by the template 'total and deterministic' (their statements: YtefphdmebdcchaaTotals.lean).
  GIVEN WITH THE SEED: the statements are not yours to turn. If you find one false, say at which input.
  Laid BY PROGRAM, IN A SANDBOX (cutbox-rows.mjs): the forced cells as the released guide's own fill.sh prints them over the translation 4cb2747ba4c11ac2… (all of the seat's roots in one cut). By AI agents, Wed Nov 11 2026. No macro, syntax, notation, axiom, sorry.
-/
import Derived.Test.YtefphdmebdcchaaChecked
import GoSem.Claim
import GoSem.ClaimJoined
import GoSem.ClaimMapViews
import Derived.JoinedTies
import Derived.KernelRfl
namespace Go.Proofs.Ytefphdmebdcchaa
/- THE CELL 'sum', in the pinned program and in every row, IS THE sha256 OF THE DUMP (.gsa) THAT YtefphdmebdcchaaProg.lean LOADS. Nothing in Lean hashes anything: it is a label: what it is worth is what the hold of that sum in a sandbox is worth. -/
noncomputable def Try.pinned : Pinned := { name := "ytefphdmebdcchaa", sum := "4cb2747ba4c11ac2771026052c0d2de018e65658bec4ce99c87ac7e313612a25", checked := Try.checked }
namespace Rows
def none {H : Type} : Left H := { results := [], args := [] }

/-- 'laws.FnExactIdealGuesses': WHATEVER THE INPUT: true; the input reads as it did. -/
def fnExactIdealGuessesSpec : ChangeSpec := { name := "fnExactIdealGuesses", fn := fun _ => fun
  | [d1, d2] => { results := [.lit (.bool true)], args := [d1, d2] }
  | _ => none }
def fnExactIdealGuessesRow : OpenClaim := { program := "ytefphdmebdcchaa", sum := "4cb2747ba4c11ac2771026052c0d2de018e65658bec4ce99c87ac7e313612a25", func := "loop.example/g00877/laws.FnExactIdealGuesses", spec := "fnExactIdealGuesses", unfollowed := true, recurses := true, apart := false }
def FnExactIdealGuessesSaid : Prop := fnExactIdealGuessesRow.holds Try.pinned (OpenSpec.ofChange fnExactIdealGuessesSpec)

/-- ITS FALSE NEIGHBOUR: 'it returns false'. Refute it at one input. -/
def fnExactIdealGuessesWrong : ChangeSpec := { name := "fnExactIdealGuesses", fn := fun _ => fun
  | [d1, d2] => { results := [.lit (.bool false)], args := [d1, d2] }
  | _ => none }
def FnExactIdealGuessesWrongFalsely : Prop := fnExactIdealGuessesRow.holds Try.pinned (OpenSpec.ofChange fnExactIdealGuessesWrong)

/-- 'laws.FnExactConsistentInputs': WHATEVER THE INPUT: true; the input reads as it did. -/
def fnExactConsistentInputsSpec : ChangeSpec := { name := "fnExactConsistentInputs", fn := fun _ => fun
  | [d1, d2, d3, d4] => { results := [.lit (.bool true)], args := [d1, d2, d3, d4] }
  | _ => none }
def fnExactConsistentInputsRow : OpenClaim := { program := "ytefphdmebdcchaa", sum := "4cb2747ba4c11ac2771026052c0d2de018e65658bec4ce99c87ac7e313612a25", func := "loop.example/g00877/laws.FnExactConsistentInputs", spec := "fnExactConsistentInputs", apart := false }
def FnExactConsistentInputsSaid : Prop := fnExactConsistentInputsRow.holds Try.pinned (OpenSpec.ofChange fnExactConsistentInputsSpec)

/-- ITS FALSE NEIGHBOUR: 'it returns false'. Refute it at one input. -/
def fnExactConsistentInputsWrong : ChangeSpec := { name := "fnExactConsistentInputs", fn := fun _ => fun
  | [d1, d2, d3, d4] => { results := [.lit (.bool false)], args := [d1, d2, d3, d4] }
  | _ => none }
def FnExactConsistentInputsWrongFalsely : Prop := fnExactConsistentInputsRow.holds Try.pinned (OpenSpec.ofChange fnExactConsistentInputsWrong)

/-- 'laws.FnExactRandomOf': WHATEVER THE INPUT: true; the input reads as it did. -/
def fnExactRandomOfSpec : ChangeSpec := { name := "fnExactRandomOf", fn := fun _ => fun
  | [d1, d2] => { results := [.lit (.bool true)], args := [d1, d2] }
  | _ => none }
def fnExactRandomOfRow : OpenClaim := { program := "ytefphdmebdcchaa", sum := "4cb2747ba4c11ac2771026052c0d2de018e65658bec4ce99c87ac7e313612a25", func := "loop.example/g00877/laws.FnExactRandomOf", spec := "fnExactRandomOf", apart := false }
def FnExactRandomOfSaid : Prop := fnExactRandomOfRow.holds Try.pinned (OpenSpec.ofChange fnExactRandomOfSpec)

/-- ITS FALSE NEIGHBOUR: 'it returns false'. Refute it at one input. -/
def fnExactRandomOfWrong : ChangeSpec := { name := "fnExactRandomOf", fn := fun _ => fun
  | [d1, d2] => { results := [.lit (.bool false)], args := [d1, d2] }
  | _ => none }
def FnExactRandomOfWrongFalsely : Prop := fnExactRandomOfRow.holds Try.pinned (OpenSpec.ofChange fnExactRandomOfWrong)

/-- 'laws.FnExactViewCode': WHATEVER THE INPUT: true; the input reads as it did. -/
def fnExactViewCodeSpec : ChangeSpec := { name := "fnExactViewCode", fn := fun _ => fun
  | [d1, d2] => { results := [.lit (.bool true)], args := [d1, d2] }
  | _ => none }
def fnExactViewCodeRow : OpenClaim := { program := "ytefphdmebdcchaa", sum := "4cb2747ba4c11ac2771026052c0d2de018e65658bec4ce99c87ac7e313612a25", func := "loop.example/g00877/laws.FnExactViewCode", spec := "fnExactViewCode", unfollowed := true, recurses := true, apart := false }
def FnExactViewCodeSaid : Prop := fnExactViewCodeRow.holds Try.pinned (OpenSpec.ofChange fnExactViewCodeSpec)

/-- ITS FALSE NEIGHBOUR: 'it returns false'. Refute it at one input. -/
def fnExactViewCodeWrong : ChangeSpec := { name := "fnExactViewCode", fn := fun _ => fun
  | [d1, d2] => { results := [.lit (.bool false)], args := [d1, d2] }
  | _ => none }
def FnExactViewCodeWrongFalsely : Prop := fnExactViewCodeRow.holds Try.pinned (OpenSpec.ofChange fnExactViewCodeWrong)

/-- 'laws.FnExactSimView': WHATEVER THE INPUT: true; the input reads as it did. -/
def fnExactSimViewSpec : ChangeSpec := { name := "fnExactSimView", fn := fun _ => fun
  | [d1, d2, d3, d4, d5] => { results := [.lit (.bool true)], args := [d1, d2, d3, d4, d5] }
  | _ => none }
def fnExactSimViewRow : OpenClaim := { program := "ytefphdmebdcchaa", sum := "4cb2747ba4c11ac2771026052c0d2de018e65658bec4ce99c87ac7e313612a25", func := "loop.example/g00877/laws.FnExactSimView", spec := "fnExactSimView", unfollowed := true, recurses := true, apart := false }
def FnExactSimViewSaid : Prop := fnExactSimViewRow.holds Try.pinned (OpenSpec.ofChange fnExactSimViewSpec)

/-- ITS FALSE NEIGHBOUR: 'it returns false'. Refute it at one input. -/
def fnExactSimViewWrong : ChangeSpec := { name := "fnExactSimView", fn := fun _ => fun
  | [d1, d2, d3, d4, d5] => { results := [.lit (.bool false)], args := [d1, d2, d3, d4, d5] }
  | _ => none }
def FnExactSimViewWrongFalsely : Prop := fnExactSimViewRow.holds Try.pinned (OpenSpec.ofChange fnExactSimViewWrong)

/-- 'laws.FnExactRealView': WHATEVER THE INPUT: true; the input reads as it did. -/
def fnExactRealViewSpec : ChangeSpec := { name := "fnExactRealView", fn := fun _ => fun
  | [d1, d2, d3, d4, d5] => { results := [.lit (.bool true)], args := [d1, d2, d3, d4, d5] }
  | _ => none }
def fnExactRealViewRow : OpenClaim := { program := "ytefphdmebdcchaa", sum := "4cb2747ba4c11ac2771026052c0d2de018e65658bec4ce99c87ac7e313612a25", func := "loop.example/g00877/laws.FnExactRealView", spec := "fnExactRealView", unfollowed := true, recurses := true, apart := false }
def FnExactRealViewSaid : Prop := fnExactRealViewRow.holds Try.pinned (OpenSpec.ofChange fnExactRealViewSpec)

/-- ITS FALSE NEIGHBOUR: 'it returns false'. Refute it at one input. -/
def fnExactRealViewWrong : ChangeSpec := { name := "fnExactRealView", fn := fun _ => fun
  | [d1, d2, d3, d4, d5] => { results := [.lit (.bool false)], args := [d1, d2, d3, d4, d5] }
  | _ => none }
def FnExactRealViewWrongFalsely : Prop := fnExactRealViewRow.holds Try.pinned (OpenSpec.ofChange fnExactRealViewWrong)

/-- 'laws.FnExactSimCounts': WHATEVER THE INPUT: true; the input reads as it did. -/
def fnExactSimCountsSpec : ChangeSpec := { name := "fnExactSimCounts", fn := fun _ => fun
  | [d1, d2, d3] => { results := [.lit (.bool true)], args := [d1, d2, d3] }
  | _ => none }
def fnExactSimCountsRow : OpenClaim := { program := "ytefphdmebdcchaa", sum := "4cb2747ba4c11ac2771026052c0d2de018e65658bec4ce99c87ac7e313612a25", func := "loop.example/g00877/laws.FnExactSimCounts", spec := "fnExactSimCounts", unfollowed := true, recurses := true, apart := false }
def FnExactSimCountsSaid : Prop := fnExactSimCountsRow.holds Try.pinned (OpenSpec.ofChange fnExactSimCountsSpec)

/-- ITS FALSE NEIGHBOUR: 'it returns false'. Refute it at one input. -/
def fnExactSimCountsWrong : ChangeSpec := { name := "fnExactSimCounts", fn := fun _ => fun
  | [d1, d2, d3] => { results := [.lit (.bool false)], args := [d1, d2, d3] }
  | _ => none }
def FnExactSimCountsWrongFalsely : Prop := fnExactSimCountsRow.holds Try.pinned (OpenSpec.ofChange fnExactSimCountsWrong)

/-- 'laws.FnExactBestGuesses': WHATEVER THE INPUT: true; the input reads as it did. -/
def fnExactBestGuessesSpec : ChangeSpec := { name := "fnExactBestGuesses", fn := fun _ => fun
  | [d1, d2, d3] => { results := [.lit (.bool true)], args := [d1, d2, d3] }
  | _ => none }
def fnExactBestGuessesRow : OpenClaim := { program := "ytefphdmebdcchaa", sum := "4cb2747ba4c11ac2771026052c0d2de018e65658bec4ce99c87ac7e313612a25", func := "loop.example/g00877/laws.FnExactBestGuesses", spec := "fnExactBestGuesses", unfollowed := true, recurses := true, apart := false }
def FnExactBestGuessesSaid : Prop := fnExactBestGuessesRow.holds Try.pinned (OpenSpec.ofChange fnExactBestGuessesSpec)

/-- ITS FALSE NEIGHBOUR: 'it returns false'. Refute it at one input. -/
def fnExactBestGuessesWrong : ChangeSpec := { name := "fnExactBestGuesses", fn := fun _ => fun
  | [d1, d2, d3] => { results := [.lit (.bool false)], args := [d1, d2, d3] }
  | _ => none }
def FnExactBestGuessesWrongFalsely : Prop := fnExactBestGuessesRow.holds Try.pinned (OpenSpec.ofChange fnExactBestGuessesWrong)

/-- 'laws.FnExactRealCounts': WHATEVER THE INPUT: true; the input reads as it did. -/
def fnExactRealCountsSpec : ChangeSpec := { name := "fnExactRealCounts", fn := fun _ => fun
  | [d1, d2, d3] => { results := [.lit (.bool true)], args := [d1, d2, d3] }
  | _ => none }
def fnExactRealCountsRow : OpenClaim := { program := "ytefphdmebdcchaa", sum := "4cb2747ba4c11ac2771026052c0d2de018e65658bec4ce99c87ac7e313612a25", func := "loop.example/g00877/laws.FnExactRealCounts", spec := "fnExactRealCounts", unfollowed := true, recurses := true, apart := false }
def FnExactRealCountsSaid : Prop := fnExactRealCountsRow.holds Try.pinned (OpenSpec.ofChange fnExactRealCountsSpec)

/-- ITS FALSE NEIGHBOUR: 'it returns false'. Refute it at one input. -/
def fnExactRealCountsWrong : ChangeSpec := { name := "fnExactRealCounts", fn := fun _ => fun
  | [d1, d2, d3] => { results := [.lit (.bool false)], args := [d1, d2, d3] }
  | _ => none }
def FnExactRealCountsWrongFalsely : Prop := fnExactRealCountsRow.holds Try.pinned (OpenSpec.ofChange fnExactRealCountsWrong)

/-- 'laws.FnExactEqualViews': WHATEVER THE INPUT: true; the input reads as it did. -/
def fnExactEqualViewsSpec : ChangeSpec := { name := "fnExactEqualViews", fn := fun _ => fun
  | [d1, d2, d3, d4] => { results := [.lit (.bool true)], args := [d1, d2, d3, d4] }
  | _ => none }
def fnExactEqualViewsRow : OpenClaim := { program := "ytefphdmebdcchaa", sum := "4cb2747ba4c11ac2771026052c0d2de018e65658bec4ce99c87ac7e313612a25", func := "loop.example/g00877/laws.FnExactEqualViews", spec := "fnExactEqualViews", unfollowed := true, recurses := true, apart := false }
def FnExactEqualViewsSaid : Prop := fnExactEqualViewsRow.holds Try.pinned (OpenSpec.ofChange fnExactEqualViewsSpec)

/-- ITS FALSE NEIGHBOUR: 'it returns false'. Refute it at one input. -/
def fnExactEqualViewsWrong : ChangeSpec := { name := "fnExactEqualViews", fn := fun _ => fun
  | [d1, d2, d3, d4] => { results := [.lit (.bool false)], args := [d1, d2, d3, d4] }
  | _ => none }
def FnExactEqualViewsWrongFalsely : Prop := fnExactEqualViewsRow.holds Try.pinned (OpenSpec.ofChange fnExactEqualViewsWrong)

/-- 'laws.FnViewsSimulated': WHATEVER THE INPUT: true; the input reads as it did. -/
def fnViewsSimulatedSpec : ChangeSpec := { name := "fnViewsSimulated", fn := fun _ => fun
  | [d1, d2, d3, d4] => { results := [.lit (.bool true)], args := [d1, d2, d3, d4] }
  | _ => none }
def fnViewsSimulatedRow : OpenClaim := { program := "ytefphdmebdcchaa", sum := "4cb2747ba4c11ac2771026052c0d2de018e65658bec4ce99c87ac7e313612a25", func := "loop.example/g00877/laws.FnViewsSimulated", spec := "fnViewsSimulated", unfollowed := true, recurses := true, apart := false }
def FnViewsSimulatedSaid : Prop := fnViewsSimulatedRow.holds Try.pinned (OpenSpec.ofChange fnViewsSimulatedSpec)

/-- ITS FALSE NEIGHBOUR: 'it returns false'. Refute it at one input. -/
def fnViewsSimulatedWrong : ChangeSpec := { name := "fnViewsSimulated", fn := fun _ => fun
  | [d1, d2, d3, d4] => { results := [.lit (.bool false)], args := [d1, d2, d3, d4] }
  | _ => none }
def FnViewsSimulatedWrongFalsely : Prop := fnViewsSimulatedRow.holds Try.pinned (OpenSpec.ofChange fnViewsSimulatedWrong)

/- THE SECOND FORM. 'bulk': how many values and letters a reading holds, each counted each time it is reached (what is shared counts as often as it is met; a slice's spare places count too). A statement '..UptoSaid' is the law's where the arguments, and the package variables that the reading takes, are together of bulk at most 1048576: NARROWER than '..Said'. Prove '..Said' where nothing that the law and all that it calls make is longer than what came in: it says more and counts as full. Else prove '..UptoSaid'. A law counts once. -/
mutual
def uptoBulk {H : Type} : DataW H → Nat
  | .lit (.string bytes) => bytes.length + 1
  | .lit _ => 1
  | .nil => 1
  | .ptr d => uptoBulk d + 1
  | .slice elems spare => uptoBulkAll elems + uptoBulkAll spare + 1
  | .agg parts => uptoBulkAll parts + 1
  | .iface _ d => uptoBulk d + 1
  | .map entries => uptoBulkEntries entries + 1
  | .held _ => 1
def uptoBulkAll {H : Type} : List (DataW H) → Nat
  | [] => 0
  | d :: r => uptoBulk d + uptoBulkAll r
def uptoBulkEntries {H : Type} : List (Lit × DataW H) → Nat
  | [] => 0
  | x :: r => uptoBulkEntry x + uptoBulkEntries r
def uptoBulkEntry {H : Type} : Lit × DataW H → Nat
  | (.string bytes, d) => bytes.length + uptoBulk d + 1
  | (_, d) => uptoBulk d + 1
 end
def uptoSmall : (H : Type) → List (DataW H) → Bool := fun _ ds => decide (uptoBulkAll ds ≤ 1048576)
def OpenSpec.upto (s : _root_.Go.ChangeSpec) : _root_.Go.OpenSpec := { _root_.Go.OpenSpec.ofChange s with cond := some uptoSmall }

/-- 'laws.FnExactIdealGuesses', WHERE WHAT IT READS IS OF BULK AT MOST 1048576: true; the input reads as it did. -/
def fnExactIdealGuessesUptoRow : OpenClaim := { program := "ytefphdmebdcchaa", sum := "4cb2747ba4c11ac2771026052c0d2de018e65658bec4ce99c87ac7e313612a25", func := "loop.example/g00877/laws.FnExactIdealGuesses", spec := "fnExactIdealGuesses", unfollowed := true, recurses := true, apart := false, narrowed := true }
def FnExactIdealGuessesUptoSaid : Prop := fnExactIdealGuessesUptoRow.holds Try.pinned (OpenSpec.upto fnExactIdealGuessesSpec)

/-- 'laws.FnExactConsistentInputs', WHERE WHAT IT READS IS OF BULK AT MOST 1048576: true; the input reads as it did. -/
def fnExactConsistentInputsUptoRow : OpenClaim := { program := "ytefphdmebdcchaa", sum := "4cb2747ba4c11ac2771026052c0d2de018e65658bec4ce99c87ac7e313612a25", func := "loop.example/g00877/laws.FnExactConsistentInputs", spec := "fnExactConsistentInputs", apart := false, narrowed := true }
def FnExactConsistentInputsUptoSaid : Prop := fnExactConsistentInputsUptoRow.holds Try.pinned (OpenSpec.upto fnExactConsistentInputsSpec)

/-- 'laws.FnExactRandomOf', WHERE WHAT IT READS IS OF BULK AT MOST 1048576: true; the input reads as it did. -/
def fnExactRandomOfUptoRow : OpenClaim := { program := "ytefphdmebdcchaa", sum := "4cb2747ba4c11ac2771026052c0d2de018e65658bec4ce99c87ac7e313612a25", func := "loop.example/g00877/laws.FnExactRandomOf", spec := "fnExactRandomOf", apart := false, narrowed := true }
def FnExactRandomOfUptoSaid : Prop := fnExactRandomOfUptoRow.holds Try.pinned (OpenSpec.upto fnExactRandomOfSpec)

/-- 'laws.FnExactViewCode', WHERE WHAT IT READS IS OF BULK AT MOST 1048576: true; the input reads as it did. -/
def fnExactViewCodeUptoRow : OpenClaim := { program := "ytefphdmebdcchaa", sum := "4cb2747ba4c11ac2771026052c0d2de018e65658bec4ce99c87ac7e313612a25", func := "loop.example/g00877/laws.FnExactViewCode", spec := "fnExactViewCode", unfollowed := true, recurses := true, apart := false, narrowed := true }
def FnExactViewCodeUptoSaid : Prop := fnExactViewCodeUptoRow.holds Try.pinned (OpenSpec.upto fnExactViewCodeSpec)

/-- 'laws.FnExactSimView', WHERE WHAT IT READS IS OF BULK AT MOST 1048576: true; the input reads as it did. -/
def fnExactSimViewUptoRow : OpenClaim := { program := "ytefphdmebdcchaa", sum := "4cb2747ba4c11ac2771026052c0d2de018e65658bec4ce99c87ac7e313612a25", func := "loop.example/g00877/laws.FnExactSimView", spec := "fnExactSimView", unfollowed := true, recurses := true, apart := false, narrowed := true }
def FnExactSimViewUptoSaid : Prop := fnExactSimViewUptoRow.holds Try.pinned (OpenSpec.upto fnExactSimViewSpec)

/-- 'laws.FnExactRealView', WHERE WHAT IT READS IS OF BULK AT MOST 1048576: true; the input reads as it did. -/
def fnExactRealViewUptoRow : OpenClaim := { program := "ytefphdmebdcchaa", sum := "4cb2747ba4c11ac2771026052c0d2de018e65658bec4ce99c87ac7e313612a25", func := "loop.example/g00877/laws.FnExactRealView", spec := "fnExactRealView", unfollowed := true, recurses := true, apart := false, narrowed := true }
def FnExactRealViewUptoSaid : Prop := fnExactRealViewUptoRow.holds Try.pinned (OpenSpec.upto fnExactRealViewSpec)

/-- 'laws.FnExactSimCounts', WHERE WHAT IT READS IS OF BULK AT MOST 1048576: true; the input reads as it did. -/
def fnExactSimCountsUptoRow : OpenClaim := { program := "ytefphdmebdcchaa", sum := "4cb2747ba4c11ac2771026052c0d2de018e65658bec4ce99c87ac7e313612a25", func := "loop.example/g00877/laws.FnExactSimCounts", spec := "fnExactSimCounts", unfollowed := true, recurses := true, apart := false, narrowed := true }
def FnExactSimCountsUptoSaid : Prop := fnExactSimCountsUptoRow.holds Try.pinned (OpenSpec.upto fnExactSimCountsSpec)

/-- 'laws.FnExactBestGuesses', WHERE WHAT IT READS IS OF BULK AT MOST 1048576: true; the input reads as it did. -/
def fnExactBestGuessesUptoRow : OpenClaim := { program := "ytefphdmebdcchaa", sum := "4cb2747ba4c11ac2771026052c0d2de018e65658bec4ce99c87ac7e313612a25", func := "loop.example/g00877/laws.FnExactBestGuesses", spec := "fnExactBestGuesses", unfollowed := true, recurses := true, apart := false, narrowed := true }
def FnExactBestGuessesUptoSaid : Prop := fnExactBestGuessesUptoRow.holds Try.pinned (OpenSpec.upto fnExactBestGuessesSpec)

/-- 'laws.FnExactRealCounts', WHERE WHAT IT READS IS OF BULK AT MOST 1048576: true; the input reads as it did. -/
def fnExactRealCountsUptoRow : OpenClaim := { program := "ytefphdmebdcchaa", sum := "4cb2747ba4c11ac2771026052c0d2de018e65658bec4ce99c87ac7e313612a25", func := "loop.example/g00877/laws.FnExactRealCounts", spec := "fnExactRealCounts", unfollowed := true, recurses := true, apart := false, narrowed := true }
def FnExactRealCountsUptoSaid : Prop := fnExactRealCountsUptoRow.holds Try.pinned (OpenSpec.upto fnExactRealCountsSpec)

/-- 'laws.FnExactEqualViews', WHERE WHAT IT READS IS OF BULK AT MOST 1048576: true; the input reads as it did. -/
def fnExactEqualViewsUptoRow : OpenClaim := { program := "ytefphdmebdcchaa", sum := "4cb2747ba4c11ac2771026052c0d2de018e65658bec4ce99c87ac7e313612a25", func := "loop.example/g00877/laws.FnExactEqualViews", spec := "fnExactEqualViews", unfollowed := true, recurses := true, apart := false, narrowed := true }
def FnExactEqualViewsUptoSaid : Prop := fnExactEqualViewsUptoRow.holds Try.pinned (OpenSpec.upto fnExactEqualViewsSpec)

/-- 'laws.FnViewsSimulated', WHERE WHAT IT READS IS OF BULK AT MOST 1048576: true; the input reads as it did. -/
def fnViewsSimulatedUptoRow : OpenClaim := { program := "ytefphdmebdcchaa", sum := "4cb2747ba4c11ac2771026052c0d2de018e65658bec4ce99c87ac7e313612a25", func := "loop.example/g00877/laws.FnViewsSimulated", spec := "fnViewsSimulated", unfollowed := true, recurses := true, apart := false, narrowed := true }
def FnViewsSimulatedUptoSaid : Prop := fnViewsSimulatedUptoRow.holds Try.pinned (OpenSpec.upto fnViewsSimulatedSpec)

end Rows
end Go.Proofs.Ytefphdmebdcchaa
