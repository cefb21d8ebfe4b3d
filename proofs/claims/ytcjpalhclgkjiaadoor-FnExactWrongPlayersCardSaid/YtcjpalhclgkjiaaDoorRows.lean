/-
  NARROWER THAN 'FOR EVERY INPUT', by the rows' own cells (each row's printed sentence says how): FnExactStatusesFor: laid · FnExactUnreachedMeddles: laid · FnExactWrongPlayers: laid · FnSilent: laid.
  DERIVED. THE GIVEN ROWS OF THIS SEAT. 4 by the template 'for every input the law returns true; each argument reads behind the call as it read before'; 0 by the template 'total and deterministic' (their statements: YtcjpalhclgkjiaaDoorTotals.lean).
  GIVEN WITH THE SEED: the statements are not yours to turn. If you find one false, say at which input.
  Laid BY PROGRAM, IN A SANDBOX (cutbox-rows.mjs): the forced cells as the released guide's own fill.sh prints them over the translation c2d6bb107d53842d… (all of the seat's roots in one cut). By AI agents, Wed Nov 11 2026. No macro, syntax, notation, axiom, sorry.
-/
import Derived.Test.YtcjpalhclgkjiaaDoorChecked
import GoSem.Claim
import GoSem.ClaimJoined
import GoSem.ClaimMapViews
import Derived.JoinedTies
import Derived.KernelRfl
namespace Go.Proofs.YtcjpalhclgkjiaaDoor
/- THE CELL 'sum', in the pinned program and in every row, IS THE sha256 OF THE DUMP (.gsa) THAT YtcjpalhclgkjiaaDoorProg.lean LOADS. Nothing in Lean hashes anything: it is a label: what it is worth is what the hold of that sum in a sandbox is worth. -/
noncomputable def Tryd.pinned : Pinned := { name := "ytcjpalhclgkjiaadoor", sum := "c2d6bb107d53842d89d960065a59595768958b0929693f359d47128136cdbcdc", checked := Tryd.checked }
namespace Rows
def none {H : Type} : Left H := { results := [], args := [] }

/- WHAT THE LISTED PACKAGE-LEVEL VARIABLES READ AS WHEN THE CALL BEGINS. Each datum BY PROGRAM (the guide's laid-datum.mjs) off the statement by which the dump's own 'gosem.cut.vars' lays the variable. In a bare row this is a premise. The card (YtcjpalhclgkjiaaDoorCards.lean) ties it to the program's text. -/
def laid_loop_example_g00877_impl_bodyLengths {H : Type} : DataW H := .agg [.lit (.int .i64 1), .lit (.int .i64 4), .lit (.int .i64 2)]

/-- 'laws.FnExactStatusesFor': WHATEVER THE INPUT: true; the input reads as it did. -/
def fnExactStatusesForSpec : ChangeSpec := { name := "fnExactStatusesFor", vars := ["loop.example/g00877/impl.bodyLengths"], fn := fun _ => fun
  | [d1, d2, d3, g1] => { results := [.lit (.bool true)], args := [d1, d2, d3], vars := [g1] }
  | _ => none }
def fnExactStatusesForRow : OpenClaim := { program := "ytcjpalhclgkjiaadoor", sum := "c2d6bb107d53842d89d960065a59595768958b0929693f359d47128136cdbcdc", func := "loop.example/g00877/laws.FnExactStatusesFor", spec := "fnExactStatusesFor", unfollowed := true, recurses := true, named := ["loop.example/g00877/impl.bodyLengths"], apart := false, laid := [("loop.example/g00877/impl.bodyLengths", laid_loop_example_g00877_impl_bodyLengths)] }
def FnExactStatusesForSaid : Prop := fnExactStatusesForRow.holds Tryd.pinned (OpenSpec.ofChange fnExactStatusesForSpec)

/-- ITS FALSE NEIGHBOUR: 'it returns false'. Refute it at one input. -/
def fnExactStatusesForWrong : ChangeSpec := { name := "fnExactStatusesFor", vars := ["loop.example/g00877/impl.bodyLengths"], fn := fun _ => fun
  | [d1, d2, d3, g1] => { results := [.lit (.bool false)], args := [d1, d2, d3], vars := [g1] }
  | _ => none }
def FnExactStatusesForWrongFalsely : Prop := fnExactStatusesForRow.holds Tryd.pinned (OpenSpec.ofChange fnExactStatusesForWrong)

/-- 'laws.FnExactUnreachedMeddles': WHATEVER THE INPUT: true; the input reads as it did. -/
def fnExactUnreachedMeddlesSpec : ChangeSpec := { name := "fnExactUnreachedMeddles", vars := ["loop.example/g00877/impl.bodyLengths"], fn := fun _ => fun
  | [d1, d2, d3, g1] => { results := [.lit (.bool true)], args := [d1, d2, d3], vars := [g1] }
  | _ => none }
def fnExactUnreachedMeddlesRow : OpenClaim := { program := "ytcjpalhclgkjiaadoor", sum := "c2d6bb107d53842d89d960065a59595768958b0929693f359d47128136cdbcdc", func := "loop.example/g00877/laws.FnExactUnreachedMeddles", spec := "fnExactUnreachedMeddles", unfollowed := true, recurses := true, named := ["loop.example/g00877/impl.bodyLengths"], apart := false, laid := [("loop.example/g00877/impl.bodyLengths", laid_loop_example_g00877_impl_bodyLengths)] }
def FnExactUnreachedMeddlesSaid : Prop := fnExactUnreachedMeddlesRow.holds Tryd.pinned (OpenSpec.ofChange fnExactUnreachedMeddlesSpec)

/-- ITS FALSE NEIGHBOUR: 'it returns false'. Refute it at one input. -/
def fnExactUnreachedMeddlesWrong : ChangeSpec := { name := "fnExactUnreachedMeddles", vars := ["loop.example/g00877/impl.bodyLengths"], fn := fun _ => fun
  | [d1, d2, d3, g1] => { results := [.lit (.bool false)], args := [d1, d2, d3], vars := [g1] }
  | _ => none }
def FnExactUnreachedMeddlesWrongFalsely : Prop := fnExactUnreachedMeddlesRow.holds Tryd.pinned (OpenSpec.ofChange fnExactUnreachedMeddlesWrong)

/-- 'laws.FnExactWrongPlayers': WHATEVER THE INPUT: true; the input reads as it did. -/
def fnExactWrongPlayersSpec : ChangeSpec := { name := "fnExactWrongPlayers", vars := ["loop.example/g00877/impl.bodyLengths"], fn := fun _ => fun
  | [d1, d2, d3, g1] => { results := [.lit (.bool true)], args := [d1, d2, d3], vars := [g1] }
  | _ => none }
def fnExactWrongPlayersRow : OpenClaim := { program := "ytcjpalhclgkjiaadoor", sum := "c2d6bb107d53842d89d960065a59595768958b0929693f359d47128136cdbcdc", func := "loop.example/g00877/laws.FnExactWrongPlayers", spec := "fnExactWrongPlayers", unfollowed := true, recurses := true, named := ["loop.example/g00877/impl.bodyLengths"], apart := false, laid := [("loop.example/g00877/impl.bodyLengths", laid_loop_example_g00877_impl_bodyLengths)] }
def FnExactWrongPlayersSaid : Prop := fnExactWrongPlayersRow.holds Tryd.pinned (OpenSpec.ofChange fnExactWrongPlayersSpec)

/-- ITS FALSE NEIGHBOUR: 'it returns false'. Refute it at one input. -/
def fnExactWrongPlayersWrong : ChangeSpec := { name := "fnExactWrongPlayers", vars := ["loop.example/g00877/impl.bodyLengths"], fn := fun _ => fun
  | [d1, d2, d3, g1] => { results := [.lit (.bool false)], args := [d1, d2, d3], vars := [g1] }
  | _ => none }
def FnExactWrongPlayersWrongFalsely : Prop := fnExactWrongPlayersRow.holds Tryd.pinned (OpenSpec.ofChange fnExactWrongPlayersWrong)

/-- 'laws.FnSilent': WHATEVER THE INPUT: true; the input reads as it did. -/
def fnSilentSpec : ChangeSpec := { name := "fnSilent", vars := ["loop.example/g00877/impl.bodyLengths"], fn := fun _ => fun
  | [d1, d2, g1] => { results := [.lit (.bool true)], args := [d1, d2], vars := [g1] }
  | _ => none }
def fnSilentRow : OpenClaim := { program := "ytcjpalhclgkjiaadoor", sum := "c2d6bb107d53842d89d960065a59595768958b0929693f359d47128136cdbcdc", func := "loop.example/g00877/laws.FnSilent", spec := "fnSilent", unfollowed := true, recurses := true, named := ["loop.example/g00877/impl.bodyLengths"], apart := false, laid := [("loop.example/g00877/impl.bodyLengths", laid_loop_example_g00877_impl_bodyLengths)] }
def FnSilentSaid : Prop := fnSilentRow.holds Tryd.pinned (OpenSpec.ofChange fnSilentSpec)

/-- ITS FALSE NEIGHBOUR: 'it returns false'. Refute it at one input. -/
def fnSilentWrong : ChangeSpec := { name := "fnSilent", vars := ["loop.example/g00877/impl.bodyLengths"], fn := fun _ => fun
  | [d1, d2, g1] => { results := [.lit (.bool false)], args := [d1, d2], vars := [g1] }
  | _ => none }
def FnSilentWrongFalsely : Prop := fnSilentRow.holds Tryd.pinned (OpenSpec.ofChange fnSilentWrong)

/- THE SECOND FORM. 'bulk': how many values and letters a reading holds, each counted each time it is reached (what is shared counts as often as it is met; a slice's spare places count too). A statement '..UptoSaid' is the law's where the arguments, and the package variables that the reading takes, are together of bulk at most 1048576: NARROWER than '..Said'. Prove '..Said' where nothing that the law and all that it calls make is longer than what came in: it says more and counts as full. Else prove '..UptoSaid'. A law counts once. -/
mutual
def uptoBulk {H : Type} : DataW H → Nat
  | .lit (.string bytes) => bytes.length + 1
  | .lit _ => 1
  | .nil => 1
  | .ptr d => uptoBulk d + 1
  | .slice elems spare => uptoBulkAll elems + uptoBulkAll spare + 1
  | .agg parts => uptoBulkAll parts + 1
  | .iface _ d => uptoBulk d + 1
  | .map entries => uptoBulkEntries entries + 1
  | .held _ => 1
def uptoBulkAll {H : Type} : List (DataW H) → Nat
  | [] => 0
  | d :: r => uptoBulk d + uptoBulkAll r
def uptoBulkEntries {H : Type} : List (Lit × DataW H) → Nat
  | [] => 0
  | x :: r => uptoBulkEntry x + uptoBulkEntries r
def uptoBulkEntry {H : Type} : Lit × DataW H → Nat
  | (.string bytes, d) => bytes.length + uptoBulk d + 1
  | (_, d) => uptoBulk d + 1
 end
def uptoSmall : (H : Type) → List (DataW H) → Bool := fun _ ds => decide (uptoBulkAll ds ≤ 1048576)
def OpenSpec.upto (s : _root_.Go.ChangeSpec) : _root_.Go.OpenSpec := { _root_.Go.OpenSpec.ofChange s with cond := some uptoSmall }

/-- 'laws.FnExactStatusesFor', WHERE WHAT IT READS IS OF BULK AT MOST 1048576: true; the input reads as it did. -/
def fnExactStatusesForUptoRow : OpenClaim := { program := "ytcjpalhclgkjiaadoor", sum := "c2d6bb107d53842d89d960065a59595768958b0929693f359d47128136cdbcdc", func := "loop.example/g00877/laws.FnExactStatusesFor", spec := "fnExactStatusesFor", unfollowed := true, recurses := true, named := ["loop.example/g00877/impl.bodyLengths"], apart := false, laid := [("loop.example/g00877/impl.bodyLengths", laid_loop_example_g00877_impl_bodyLengths)], narrowed := true }
def FnExactStatusesForUptoSaid : Prop := fnExactStatusesForUptoRow.holds Tryd.pinned (OpenSpec.upto fnExactStatusesForSpec)

/-- 'laws.FnExactUnreachedMeddles', WHERE WHAT IT READS IS OF BULK AT MOST 1048576: true; the input reads as it did. -/
def fnExactUnreachedMeddlesUptoRow : OpenClaim := { program := "ytcjpalhclgkjiaadoor", sum := "c2d6bb107d53842d89d960065a59595768958b0929693f359d47128136cdbcdc", func := "loop.example/g00877/laws.FnExactUnreachedMeddles", spec := "fnExactUnreachedMeddles", unfollowed := true, recurses := true, named := ["loop.example/g00877/impl.bodyLengths"], apart := false, laid := [("loop.example/g00877/impl.bodyLengths", laid_loop_example_g00877_impl_bodyLengths)], narrowed := true }
def FnExactUnreachedMeddlesUptoSaid : Prop := fnExactUnreachedMeddlesUptoRow.holds Tryd.pinned (OpenSpec.upto fnExactUnreachedMeddlesSpec)

/-- 'laws.FnExactWrongPlayers', WHERE WHAT IT READS IS OF BULK AT MOST 1048576: true; the input reads as it did. -/
def fnExactWrongPlayersUptoRow : OpenClaim := { program := "ytcjpalhclgkjiaadoor", sum := "c2d6bb107d53842d89d960065a59595768958b0929693f359d47128136cdbcdc", func := "loop.example/g00877/laws.FnExactWrongPlayers", spec := "fnExactWrongPlayers", unfollowed := true, recurses := true, named := ["loop.example/g00877/impl.bodyLengths"], apart := false, laid := [("loop.example/g00877/impl.bodyLengths", laid_loop_example_g00877_impl_bodyLengths)], narrowed := true }
def FnExactWrongPlayersUptoSaid : Prop := fnExactWrongPlayersUptoRow.holds Tryd.pinned (OpenSpec.upto fnExactWrongPlayersSpec)

/-- 'laws.FnSilent', WHERE WHAT IT READS IS OF BULK AT MOST 1048576: true; the input reads as it did. -/
def fnSilentUptoRow : OpenClaim := { program := "ytcjpalhclgkjiaadoor", sum := "c2d6bb107d53842d89d960065a59595768958b0929693f359d47128136cdbcdc", func := "loop.example/g00877/laws.FnSilent", spec := "fnSilent", unfollowed := true, recurses := true, named := ["loop.example/g00877/impl.bodyLengths"], apart := false, laid := [("loop.example/g00877/impl.bodyLengths", laid_loop_example_g00877_impl_bodyLengths)], narrowed := true }
def FnSilentUptoSaid : Prop := fnSilentUptoRow.holds Tryd.pinned (OpenSpec.upto fnSilentSpec)

end Rows
end Go.Proofs.YtcjpalhclgkjiaaDoor
