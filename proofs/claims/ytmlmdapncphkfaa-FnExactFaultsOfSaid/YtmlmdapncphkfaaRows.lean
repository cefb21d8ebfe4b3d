/-
  No cell of these rows narrows 'for every input' (looked for: loops, veiled, ifaces, maps, wideKeys, modest, calm, conditions, laid).
  DERIVED. THE GIVEN ROWS OF THIS SEAT. 11 by the template 'for every input the law returns true; each argument reads behind the call as it read before'; 0 by the template 'total and deterministic' (their statements: YtmlmdapncphkfaaTotals.lean).
  GIVEN WITH THE SEED: the statements are not yours to turn. If you find one false, say at which input.
  Laid BY PROGRAM, IN A SANDBOX (cutbox-rows.mjs): the forced cells as the released guide's own fill.sh prints them over the translation 1cf5de67e983b6f4… (all of the seat's roots in one cut). By AI agents, Wed Nov 11 2026. No macro, syntax, notation, axiom, sorry.
-/
import Derived.Test.YtmlmdapncphkfaaChecked
import GoSem.Claim
import GoSem.ClaimJoined
import GoSem.ClaimMapViews
import Derived.JoinedTies
import Derived.KernelRfl
namespace Go.Proofs.Ytmlmdapncphkfaa
/- THE CELL 'sum', in the pinned program and in every row, IS THE sha256 OF THE DUMP (.gsa) THAT YtmlmdapncphkfaaProg.lean LOADS. Nothing in Lean hashes anything: it is a label: what it is worth is what the hold of that sum in a sandbox is worth. -/
noncomputable def Try.pinned : Pinned := { name := "ytmlmdapncphkfaa", sum := "1cf5de67e983b6f4ae8c0f61d31fbf9cd9fcc993832e750589e3c8733988be83", checked := Try.checked }
namespace Rows
def none {H : Type} : Left H := { results := [], args := [] }

/-- 'laws.FnExactNameOfProgram': WHATEVER THE INPUT: true; the input reads as it did. -/
def fnExactNameOfProgramSpec : ChangeSpec := { name := "fnExactNameOfProgram", fn := fun _ => fun
  | [d] => { results := [.lit (.bool true)], args := [d] }
  | _ => none }
def fnExactNameOfProgramRow : OpenClaim := { program := "ytmlmdapncphkfaa", sum := "1cf5de67e983b6f4ae8c0f61d31fbf9cd9fcc993832e750589e3c8733988be83", func := "loop.example/g00877/laws.FnExactNameOfProgram", spec := "fnExactNameOfProgram", apart := false }
def FnExactNameOfProgramSaid : Prop := fnExactNameOfProgramRow.holds Try.pinned (OpenSpec.ofChange fnExactNameOfProgramSpec)

/-- ITS FALSE NEIGHBOUR: 'it returns false'. Refute it at one input. -/
def fnExactNameOfProgramWrong : ChangeSpec := { name := "fnExactNameOfProgram", fn := fun _ => fun
  | [d] => { results := [.lit (.bool false)], args := [d] }
  | _ => none }
def FnExactNameOfProgramWrongFalsely : Prop := fnExactNameOfProgramRow.holds Try.pinned (OpenSpec.ofChange fnExactNameOfProgramWrong)

/-- 'laws.FnExactCommitTo': WHATEVER THE INPUT: true; the input reads as it did. -/
def fnExactCommitToSpec : ChangeSpec := { name := "fnExactCommitTo", fn := fun _ => fun
  | [d1, d2, d3] => { results := [.lit (.bool true)], args := [d1, d2, d3] }
  | _ => none }
def fnExactCommitToRow : OpenClaim := { program := "ytmlmdapncphkfaa", sum := "1cf5de67e983b6f4ae8c0f61d31fbf9cd9fcc993832e750589e3c8733988be83", func := "loop.example/g00877/laws.FnExactCommitTo", spec := "fnExactCommitTo", apart := false }
def FnExactCommitToSaid : Prop := fnExactCommitToRow.holds Try.pinned (OpenSpec.ofChange fnExactCommitToSpec)

/-- ITS FALSE NEIGHBOUR: 'it returns false'. Refute it at one input. -/
def fnExactCommitToWrong : ChangeSpec := { name := "fnExactCommitTo", fn := fun _ => fun
  | [d1, d2, d3] => { results := [.lit (.bool false)], args := [d1, d2, d3] }
  | _ => none }
def FnExactCommitToWrongFalsely : Prop := fnExactCommitToRow.holds Try.pinned (OpenSpec.ofChange fnExactCommitToWrong)

/-- 'laws.FnExactHideSealed': WHATEVER THE INPUT: true; the input reads as it did. -/
def fnExactHideSealedSpec : ChangeSpec := { name := "fnExactHideSealed", fn := fun _ => fun
  | [d] => { results := [.lit (.bool true)], args := [d] }
  | _ => none }
def fnExactHideSealedRow : OpenClaim := { program := "ytmlmdapncphkfaa", sum := "1cf5de67e983b6f4ae8c0f61d31fbf9cd9fcc993832e750589e3c8733988be83", func := "loop.example/g00877/laws.FnExactHideSealed", spec := "fnExactHideSealed", apart := false }
def FnExactHideSealedSaid : Prop := fnExactHideSealedRow.holds Try.pinned (OpenSpec.ofChange fnExactHideSealedSpec)

/-- ITS FALSE NEIGHBOUR: 'it returns false'. Refute it at one input. -/
def fnExactHideSealedWrong : ChangeSpec := { name := "fnExactHideSealed", fn := fun _ => fun
  | [d] => { results := [.lit (.bool false)], args := [d] }
  | _ => none }
def FnExactHideSealedWrongFalsely : Prop := fnExactHideSealedRow.holds Try.pinned (OpenSpec.ofChange fnExactHideSealedWrong)

/-- 'laws.FnExactFirstClash': WHATEVER THE INPUT: true; the input reads as it did. -/
def fnExactFirstClashSpec : ChangeSpec := { name := "fnExactFirstClash", fn := fun _ => fun
  | [d1, d2, d3, d4] => { results := [.lit (.bool true)], args := [d1, d2, d3, d4] }
  | _ => none }
def fnExactFirstClashRow : OpenClaim := { program := "ytmlmdapncphkfaa", sum := "1cf5de67e983b6f4ae8c0f61d31fbf9cd9fcc993832e750589e3c8733988be83", func := "loop.example/g00877/laws.FnExactFirstClash", spec := "fnExactFirstClash", apart := false }
def FnExactFirstClashSaid : Prop := fnExactFirstClashRow.holds Try.pinned (OpenSpec.ofChange fnExactFirstClashSpec)

/-- ITS FALSE NEIGHBOUR: 'it returns false'. Refute it at one input. -/
def fnExactFirstClashWrong : ChangeSpec := { name := "fnExactFirstClash", fn := fun _ => fun
  | [d1, d2, d3, d4] => { results := [.lit (.bool false)], args := [d1, d2, d3, d4] }
  | _ => none }
def FnExactFirstClashWrongFalsely : Prop := fnExactFirstClashRow.holds Try.pinned (OpenSpec.ofChange fnExactFirstClashWrong)

/-- 'laws.FnExactOpensTo': WHATEVER THE INPUT: true; the input reads as it did. -/
def fnExactOpensToSpec : ChangeSpec := { name := "fnExactOpensTo", fn := fun _ => fun
  | [d] => { results := [.lit (.bool true)], args := [d] }
  | _ => none }
def fnExactOpensToRow : OpenClaim := { program := "ytmlmdapncphkfaa", sum := "1cf5de67e983b6f4ae8c0f61d31fbf9cd9fcc993832e750589e3c8733988be83", func := "loop.example/g00877/laws.FnExactOpensTo", spec := "fnExactOpensTo", apart := false }
def FnExactOpensToSaid : Prop := fnExactOpensToRow.holds Try.pinned (OpenSpec.ofChange fnExactOpensToSpec)

/-- ITS FALSE NEIGHBOUR: 'it returns false'. Refute it at one input. -/
def fnExactOpensToWrong : ChangeSpec := { name := "fnExactOpensTo", fn := fun _ => fun
  | [d] => { results := [.lit (.bool false)], args := [d] }
  | _ => none }
def FnExactOpensToWrongFalsely : Prop := fnExactOpensToRow.holds Try.pinned (OpenSpec.ofChange fnExactOpensToWrong)

/-- 'laws.FnExactSealValue': WHATEVER THE INPUT: true; the input reads as it did. -/
def fnExactSealValueSpec : ChangeSpec := { name := "fnExactSealValue", fn := fun _ => fun
  | [d1, d2, d3] => { results := [.lit (.bool true)], args := [d1, d2, d3] }
  | _ => none }
def fnExactSealValueRow : OpenClaim := { program := "ytmlmdapncphkfaa", sum := "1cf5de67e983b6f4ae8c0f61d31fbf9cd9fcc993832e750589e3c8733988be83", func := "loop.example/g00877/laws.FnExactSealValue", spec := "fnExactSealValue", apart := false }
def FnExactSealValueSaid : Prop := fnExactSealValueRow.holds Try.pinned (OpenSpec.ofChange fnExactSealValueSpec)

/-- ITS FALSE NEIGHBOUR: 'it returns false'. Refute it at one input. -/
def fnExactSealValueWrong : ChangeSpec := { name := "fnExactSealValue", fn := fun _ => fun
  | [d1, d2, d3] => { results := [.lit (.bool false)], args := [d1, d2, d3] }
  | _ => none }
def FnExactSealValueWrongFalsely : Prop := fnExactSealValueRow.holds Try.pinned (OpenSpec.ofChange fnExactSealValueWrong)

/-- 'laws.FnExactCommonCoin': WHATEVER THE INPUT: true; the input reads as it did. -/
def fnExactCommonCoinSpec : ChangeSpec := { name := "fnExactCommonCoin", fn := fun _ => fun
  | [d1, d2, d3] => { results := [.lit (.bool true)], args := [d1, d2, d3] }
  | _ => none }
def fnExactCommonCoinRow : OpenClaim := { program := "ytmlmdapncphkfaa", sum := "1cf5de67e983b6f4ae8c0f61d31fbf9cd9fcc993832e750589e3c8733988be83", func := "loop.example/g00877/laws.FnExactCommonCoin", spec := "fnExactCommonCoin", apart := false }
def FnExactCommonCoinSaid : Prop := fnExactCommonCoinRow.holds Try.pinned (OpenSpec.ofChange fnExactCommonCoinSpec)

/-- ITS FALSE NEIGHBOUR: 'it returns false'. Refute it at one input. -/
def fnExactCommonCoinWrong : ChangeSpec := { name := "fnExactCommonCoin", fn := fun _ => fun
  | [d1, d2, d3] => { results := [.lit (.bool false)], args := [d1, d2, d3] }
  | _ => none }
def FnExactCommonCoinWrongFalsely : Prop := fnExactCommonCoinRow.holds Try.pinned (OpenSpec.ofChange fnExactCommonCoinWrong)

/-- 'laws.FnExactBlindsFor': WHATEVER THE INPUT: true; the input reads as it did. -/
def fnExactBlindsForSpec : ChangeSpec := { name := "fnExactBlindsFor", fn := fun _ => fun
  | [d1, d2, d3, d4] => { results := [.lit (.bool true)], args := [d1, d2, d3, d4] }
  | _ => none }
def fnExactBlindsForRow : OpenClaim := { program := "ytmlmdapncphkfaa", sum := "1cf5de67e983b6f4ae8c0f61d31fbf9cd9fcc993832e750589e3c8733988be83", func := "loop.example/g00877/laws.FnExactBlindsFor", spec := "fnExactBlindsFor", apart := false }
def FnExactBlindsForSaid : Prop := fnExactBlindsForRow.holds Try.pinned (OpenSpec.ofChange fnExactBlindsForSpec)

/-- ITS FALSE NEIGHBOUR: 'it returns false'. Refute it at one input. -/
def fnExactBlindsForWrong : ChangeSpec := { name := "fnExactBlindsFor", fn := fun _ => fun
  | [d1, d2, d3, d4] => { results := [.lit (.bool false)], args := [d1, d2, d3, d4] }
  | _ => none }
def FnExactBlindsForWrongFalsely : Prop := fnExactBlindsForRow.holds Try.pinned (OpenSpec.ofChange fnExactBlindsForWrong)

/-- 'laws.FnExactFaultOf': WHATEVER THE INPUT: true; the input reads as it did. -/
def fnExactFaultOfSpec : ChangeSpec := { name := "fnExactFaultOf", fn := fun _ => fun
  | [d1, d2] => { results := [.lit (.bool true)], args := [d1, d2] }
  | _ => none }
def fnExactFaultOfRow : OpenClaim := { program := "ytmlmdapncphkfaa", sum := "1cf5de67e983b6f4ae8c0f61d31fbf9cd9fcc993832e750589e3c8733988be83", func := "loop.example/g00877/laws.FnExactFaultOf", spec := "fnExactFaultOf", apart := false }
def FnExactFaultOfSaid : Prop := fnExactFaultOfRow.holds Try.pinned (OpenSpec.ofChange fnExactFaultOfSpec)

/-- ITS FALSE NEIGHBOUR: 'it returns false'. Refute it at one input. -/
def fnExactFaultOfWrong : ChangeSpec := { name := "fnExactFaultOf", fn := fun _ => fun
  | [d1, d2] => { results := [.lit (.bool false)], args := [d1, d2] }
  | _ => none }
def FnExactFaultOfWrongFalsely : Prop := fnExactFaultOfRow.holds Try.pinned (OpenSpec.ofChange fnExactFaultOfWrong)

/-- 'laws.FnExactCoinCounts': WHATEVER THE INPUT: true; the input reads as it did. -/
def fnExactCoinCountsSpec : ChangeSpec := { name := "fnExactCoinCounts", fn := fun _ => fun
  | [d1, d2, d3, d4] => { results := [.lit (.bool true)], args := [d1, d2, d3, d4] }
  | _ => none }
def fnExactCoinCountsRow : OpenClaim := { program := "ytmlmdapncphkfaa", sum := "1cf5de67e983b6f4ae8c0f61d31fbf9cd9fcc993832e750589e3c8733988be83", func := "loop.example/g00877/laws.FnExactCoinCounts", spec := "fnExactCoinCounts", apart := false }
def FnExactCoinCountsSaid : Prop := fnExactCoinCountsRow.holds Try.pinned (OpenSpec.ofChange fnExactCoinCountsSpec)

/-- ITS FALSE NEIGHBOUR: 'it returns false'. Refute it at one input. -/
def fnExactCoinCountsWrong : ChangeSpec := { name := "fnExactCoinCounts", fn := fun _ => fun
  | [d1, d2, d3, d4] => { results := [.lit (.bool false)], args := [d1, d2, d3, d4] }
  | _ => none }
def FnExactCoinCountsWrongFalsely : Prop := fnExactCoinCountsRow.holds Try.pinned (OpenSpec.ofChange fnExactCoinCountsWrong)

/-- 'laws.FnExactFaultsOf': WHATEVER THE INPUT: true; the input reads as it did. -/
def fnExactFaultsOfSpec : ChangeSpec := { name := "fnExactFaultsOf", fn := fun _ => fun
  | [d] => { results := [.lit (.bool true)], args := [d] }
  | _ => none }
def fnExactFaultsOfRow : OpenClaim := { program := "ytmlmdapncphkfaa", sum := "1cf5de67e983b6f4ae8c0f61d31fbf9cd9fcc993832e750589e3c8733988be83", func := "loop.example/g00877/laws.FnExactFaultsOf", spec := "fnExactFaultsOf", apart := false }
def FnExactFaultsOfSaid : Prop := fnExactFaultsOfRow.holds Try.pinned (OpenSpec.ofChange fnExactFaultsOfSpec)

/-- ITS FALSE NEIGHBOUR: 'it returns false'. Refute it at one input. -/
def fnExactFaultsOfWrong : ChangeSpec := { name := "fnExactFaultsOf", fn := fun _ => fun
  | [d] => { results := [.lit (.bool false)], args := [d] }
  | _ => none }
def FnExactFaultsOfWrongFalsely : Prop := fnExactFaultsOfRow.holds Try.pinned (OpenSpec.ofChange fnExactFaultsOfWrong)

/- THE SECOND FORM. 'bulk': how many values and letters a reading holds, each counted each time it is reached (what is shared counts as often as it is met; a slice's spare places count too). A statement '..UptoSaid' is the law's where the arguments, and the package variables that the reading takes, are together of bulk at most 1048576: NARROWER than '..Said'. Prove '..Said' where nothing that the law and all that it calls make is longer than what came in: it says more and counts as full. Else prove '..UptoSaid'. A law counts once. -/
mutual
def uptoBulk {H : Type} : DataW H → Nat
  | .lit (.string bytes) => bytes.length + 1
  | .lit _ => 1
  | .nil => 1
  | .ptr d => uptoBulk d + 1
  | .slice elems spare => uptoBulkAll elems + uptoBulkAll spare + 1
  | .agg parts => uptoBulkAll parts + 1
  | .iface _ d => uptoBulk d + 1
  | .map entries => uptoBulkEntries entries + 1
  | .held _ => 1
def uptoBulkAll {H : Type} : List (DataW H) → Nat
  | [] => 0
  | d :: r => uptoBulk d + uptoBulkAll r
def uptoBulkEntries {H : Type} : List (Lit × DataW H) → Nat
  | [] => 0
  | x :: r => uptoBulkEntry x + uptoBulkEntries r
def uptoBulkEntry {H : Type} : Lit × DataW H → Nat
  | (.string bytes, d) => bytes.length + uptoBulk d + 1
  | (_, d) => uptoBulk d + 1
 end
def uptoSmall : (H : Type) → List (DataW H) → Bool := fun _ ds => decide (uptoBulkAll ds ≤ 1048576)
def OpenSpec.upto (s : _root_.Go.ChangeSpec) : _root_.Go.OpenSpec := { _root_.Go.OpenSpec.ofChange s with cond := some uptoSmall }

/-- 'laws.FnExactNameOfProgram', WHERE WHAT IT READS IS OF BULK AT MOST 1048576: true; the input reads as it did. -/
def fnExactNameOfProgramUptoRow : OpenClaim := { program := "ytmlmdapncphkfaa", sum := "1cf5de67e983b6f4ae8c0f61d31fbf9cd9fcc993832e750589e3c8733988be83", func := "loop.example/g00877/laws.FnExactNameOfProgram", spec := "fnExactNameOfProgram", apart := false, narrowed := true }
def FnExactNameOfProgramUptoSaid : Prop := fnExactNameOfProgramUptoRow.holds Try.pinned (OpenSpec.upto fnExactNameOfProgramSpec)

/-- 'laws.FnExactCommitTo', WHERE WHAT IT READS IS OF BULK AT MOST 1048576: true; the input reads as it did. -/
def fnExactCommitToUptoRow : OpenClaim := { program := "ytmlmdapncphkfaa", sum := "1cf5de67e983b6f4ae8c0f61d31fbf9cd9fcc993832e750589e3c8733988be83", func := "loop.example/g00877/laws.FnExactCommitTo", spec := "fnExactCommitTo", apart := false, narrowed := true }
def FnExactCommitToUptoSaid : Prop := fnExactCommitToUptoRow.holds Try.pinned (OpenSpec.upto fnExactCommitToSpec)

/-- 'laws.FnExactHideSealed', WHERE WHAT IT READS IS OF BULK AT MOST 1048576: true; the input reads as it did. -/
def fnExactHideSealedUptoRow : OpenClaim := { program := "ytmlmdapncphkfaa", sum := "1cf5de67e983b6f4ae8c0f61d31fbf9cd9fcc993832e750589e3c8733988be83", func := "loop.example/g00877/laws.FnExactHideSealed", spec := "fnExactHideSealed", apart := false, narrowed := true }
def FnExactHideSealedUptoSaid : Prop := fnExactHideSealedUptoRow.holds Try.pinned (OpenSpec.upto fnExactHideSealedSpec)

/-- 'laws.FnExactFirstClash', WHERE WHAT IT READS IS OF BULK AT MOST 1048576: true; the input reads as it did. -/
def fnExactFirstClashUptoRow : OpenClaim := { program := "ytmlmdapncphkfaa", sum := "1cf5de67e983b6f4ae8c0f61d31fbf9cd9fcc993832e750589e3c8733988be83", func := "loop.example/g00877/laws.FnExactFirstClash", spec := "fnExactFirstClash", apart := false, narrowed := true }
def FnExactFirstClashUptoSaid : Prop := fnExactFirstClashUptoRow.holds Try.pinned (OpenSpec.upto fnExactFirstClashSpec)

/-- 'laws.FnExactOpensTo', WHERE WHAT IT READS IS OF BULK AT MOST 1048576: true; the input reads as it did. -/
def fnExactOpensToUptoRow : OpenClaim := { program := "ytmlmdapncphkfaa", sum := "1cf5de67e983b6f4ae8c0f61d31fbf9cd9fcc993832e750589e3c8733988be83", func := "loop.example/g00877/laws.FnExactOpensTo", spec := "fnExactOpensTo", apart := false, narrowed := true }
def FnExactOpensToUptoSaid : Prop := fnExactOpensToUptoRow.holds Try.pinned (OpenSpec.upto fnExactOpensToSpec)

/-- 'laws.FnExactSealValue', WHERE WHAT IT READS IS OF BULK AT MOST 1048576: true; the input reads as it did. -/
def fnExactSealValueUptoRow : OpenClaim := { program := "ytmlmdapncphkfaa", sum := "1cf5de67e983b6f4ae8c0f61d31fbf9cd9fcc993832e750589e3c8733988be83", func := "loop.example/g00877/laws.FnExactSealValue", spec := "fnExactSealValue", apart := false, narrowed := true }
def FnExactSealValueUptoSaid : Prop := fnExactSealValueUptoRow.holds Try.pinned (OpenSpec.upto fnExactSealValueSpec)

/-- 'laws.FnExactCommonCoin', WHERE WHAT IT READS IS OF BULK AT MOST 1048576: true; the input reads as it did. -/
def fnExactCommonCoinUptoRow : OpenClaim := { program := "ytmlmdapncphkfaa", sum := "1cf5de67e983b6f4ae8c0f61d31fbf9cd9fcc993832e750589e3c8733988be83", func := "loop.example/g00877/laws.FnExactCommonCoin", spec := "fnExactCommonCoin", apart := false, narrowed := true }
def FnExactCommonCoinUptoSaid : Prop := fnExactCommonCoinUptoRow.holds Try.pinned (OpenSpec.upto fnExactCommonCoinSpec)

/-- 'laws.FnExactBlindsFor', WHERE WHAT IT READS IS OF BULK AT MOST 1048576: true; the input reads as it did. -/
def fnExactBlindsForUptoRow : OpenClaim := { program := "ytmlmdapncphkfaa", sum := "1cf5de67e983b6f4ae8c0f61d31fbf9cd9fcc993832e750589e3c8733988be83", func := "loop.example/g00877/laws.FnExactBlindsFor", spec := "fnExactBlindsFor", apart := false, narrowed := true }
def FnExactBlindsForUptoSaid : Prop := fnExactBlindsForUptoRow.holds Try.pinned (OpenSpec.upto fnExactBlindsForSpec)

/-- 'laws.FnExactFaultOf', WHERE WHAT IT READS IS OF BULK AT MOST 1048576: true; the input reads as it did. -/
def fnExactFaultOfUptoRow : OpenClaim := { program := "ytmlmdapncphkfaa", sum := "1cf5de67e983b6f4ae8c0f61d31fbf9cd9fcc993832e750589e3c8733988be83", func := "loop.example/g00877/laws.FnExactFaultOf", spec := "fnExactFaultOf", apart := false, narrowed := true }
def FnExactFaultOfUptoSaid : Prop := fnExactFaultOfUptoRow.holds Try.pinned (OpenSpec.upto fnExactFaultOfSpec)

/-- 'laws.FnExactCoinCounts', WHERE WHAT IT READS IS OF BULK AT MOST 1048576: true; the input reads as it did. -/
def fnExactCoinCountsUptoRow : OpenClaim := { program := "ytmlmdapncphkfaa", sum := "1cf5de67e983b6f4ae8c0f61d31fbf9cd9fcc993832e750589e3c8733988be83", func := "loop.example/g00877/laws.FnExactCoinCounts", spec := "fnExactCoinCounts", apart := false, narrowed := true }
def FnExactCoinCountsUptoSaid : Prop := fnExactCoinCountsUptoRow.holds Try.pinned (OpenSpec.upto fnExactCoinCountsSpec)

/-- 'laws.FnExactFaultsOf', WHERE WHAT IT READS IS OF BULK AT MOST 1048576: true; the input reads as it did. -/
def fnExactFaultsOfUptoRow : OpenClaim := { program := "ytmlmdapncphkfaa", sum := "1cf5de67e983b6f4ae8c0f61d31fbf9cd9fcc993832e750589e3c8733988be83", func := "loop.example/g00877/laws.FnExactFaultsOf", spec := "fnExactFaultsOf", apart := false, narrowed := true }
def FnExactFaultsOfUptoSaid : Prop := fnExactFaultsOfUptoRow.holds Try.pinned (OpenSpec.upto fnExactFaultsOfSpec)

end Rows
end Go.Proofs.Ytmlmdapncphkfaa
