/- From a walk to a law's statement where the row lists one table of numbers: the arguments and the table read as before where the call has only made new blocks.
   Conditions: the table's cells are as listed. -/
import Derived.Test.YtcjpalhclgkjiaaDoorFrame
import Derived.LaidMore
import Derived.ChangeSame
import Derived.ChangeVars
import Derived.Stop.Joined
import Derived.Lib.LaidTab
namespace Go.Proofs.YtcjpalhclgkjiaaDoor
open Go.ChangeShapes Go.WideShapes Go.ChangeAt Go.RowKit Go.Deep
set_option linter.unusedVariables false
/-- The table of the lengths of bodies holds what its text lays. -/
structure Tab (w : World) : Prop where
 c0 : w.cell? ⟨0, 0, none⟩ = some (.int .i64 1)
 c1 : w.cell? ⟨0, 1, none⟩ = some (.int .i64 4)
 c2 : w.cell? ⟨0, 2, none⟩ = some (.int .i64 2)
theorem Tab.keep {w w' : World} (h : Tab w) (hb : Bl w w') : Tab w' := ⟨hb.cells h.c0, hb.cells h.c1, hb.cells h.c2⟩
abbrev tabName : String := "loop.example/g00877/impl.bodyLengths"
def tabCells : Array Value := #[.int .i64 1, .int .i64 4, .int .i64 2]
abbrev tabD {H : Type} : DataW H := .agg [.lit (.int .i64 1), .lit (.int .i64 4), .lit (.int .i64 2)]
theorem tab_global : Tryd.prog.globalNamed tabName = some 0 := by kernel_rfl
theorem tab_type : (Tryd.prog.globals[0]?).map (·.type) = some 84 := by kernel_rfl
theorem tab_cells : Tryd.prog.cellsOf 84 = 3 := by kernel_rfl
theorem int_cells : Tryd.prog.cellsOf 3 = 1 := by kernel_rfl
theorem tab_var {W : World} (h : laidMetH Tryd.prog [(tabName, tabD)] W) : W.var? Tryd.prog tabName = some tabCells := by
 rw [MakeChecks.laidMetH_plain _ _ _ (by kernel_rfl)] at h
 have hT : Lib.TabIs Tryd.prog W tabName .i64 [1, 4, 2] := Lib.tabIs_of_head tab_global tab_type Tryd.underlying84 Tryd.underlying3 int_cells tab_cells h
 exact hT
theorem tab_of {W : World} (h : W.var? Tryd.prog tabName = some tabCells) : Tab W :=
 ⟨World.var?_cell tab_global h 0, World.var?_cell tab_global h 1, World.var?_cell tab_global h 2⟩
theorem tab_keep {W W' : World} (h : W.var? Tryd.prog tabName = some tabCells) (hb : Bl W W') : W'.var? Tryd.prog tabName = some tabCells := by
 have hlt : 0 < W.heap.size := World.block_lt_of_cell? W _ (tab_of h).c0
 have e := hb.block 0 hlt
 rw [← h]
 simp only [World.var?, tab_global, Option.bind_some]
 rw [e]
theorem tab_reads {H : Type} (enc : TypeId × Value → H) (W : World) (sp : Nat → Bool) : DataW.trod enc Tryd.prog W 0 sp true 3 84 tabCells.toList = some (tabD, []) := by kernel_rfl
/-- The door's own heap meets the condition. -/
theorem door_met (os : Os) (args : Array Value) : laidMetH Tryd.prog [(tabName, tabD)] ((World.doorLaid Tryd.prog 14 os).forCall (fun _ _ => 0) ⟨#[], args, []⟩).memory :=
 laidMetH_of_parts3 (fuel := 8) (laidMet_of_run' 8 (by kernel_rfl) (by kernel_rfl)) (by kernel_rfl) (by kernel_rfl)
set_option maxRecDepth 20000 in
/-- The row's step, for every law that returns true and only makes new blocks, the table listed. -/
theorem law_lifted_t {k : FuncId} {fn : Func} {s : ChangeSpec} (os : Os) (started : os.Started) (H : Type) (enc : TypeId × Value → H)
  (noInit : Tryd.prog.inits.idxOf? k = none) (hfn : Tryd.prog.funcs[k]? = some fn) (hvars : s.vars = [tabName])
  (witness : ∃ (w : World) (tape : Tape) (i : Input), w.os = os ∧ (w.forCall tape i).Shaped Tryd.prog ∧ i.vars = [] ∧ Input.okWide Tryd.prog (w.forCall tape i) .any w.heap.size k i ∧
   ((s.pre enc Tryd.prog fn [] false (w.forCall tape i).memory i.args ∧ laidMetH Tryd.prog [(tabName, tabD)] (w.forCall tape i).memory) ∧ sizedMet enc Tryd.prog fn (OpenSpec.ofChange s) false (w.forCall tape i).memory i.args) ∧
    Assume.holds {} Tryd.prog (lone (Frame.enter Tryd.prog k i.args .normal) [] (w.forCall tape i)))
  (hres : fn.resultTypes = #[4]) (hread : ∀ t ∈ fn.params.toList, Tryd.prog.readableRec t = true ∧ t < Tryd.prog.types.size)
  (hfs : ∀ (ds : List (DataW H)) (g : DataW H), ds.length = fn.params.size → s.fn H (ds ++ [g]) = { results := [.lit (.bool true)], args := ds, vars := [g] })
  (contract : ∀ (W : World) (base : Nat) (args : Array Value) (ds : List (DataW H)) (before : List MemPlace), Tab W →
   (∀ (j : Nat) t v, fn.params[j]? = some t → args[j]? = some v → Value.okWide Tryd.prog W .any base t v) →
   DataW.TrodAll enc Tryd.prog W 0 (fun _ => true) true fn.params.toList args.toList ds before →
   Calls Tryd.prog k args W fun e W' => e = .returned (.bool true) ∧ Bl W W') :
  ReturnsInHanded {} Tryd.checked os k .any (fun w args => (s.pre enc Tryd.prog fn [] false w args ∧ laidMetH Tryd.prog [(tabName, tabD)] w) ∧ sizedMet enc Tryd.prog fn (OpenSpec.ofChange s) false w args) (s.post enc Tryd.prog fn false true false false) := by
 refine returnsInHanded_of_change_and (C := Tryd.checked) (X := fun w _ => laidMetH Tryd.prog [(tabName, tabD)] w) (fun _ _ _ hh h => h.of_heap hh) own_knob started noInit hfn witness ?_
 intro W base args ds gs before hval hW _ _ hL _
 have hW' := hW
 obtain ⟨p, q, hA, hV, rfl, hfz, hnd⟩ := hW
 rw [hvars] at hV
 obtain ⟨g, t, cs, fuel, d, p', rfl, hg, ht, hvar, hd, rfl⟩ := trodVars_one hV
 obtain rfl := Option.some.inj (tab_global.symm.trans hg)
 obtain rfl := Option.some.inj (tab_type.symm.trans ht)
 have hT := tab_var hL
 obtain rfl : cs = tabCells := Option.some.inj (hvar.symm.trans hT)
 obtain ⟨rfl, rfl⟩ := DataW.Trod.unique (v := .agg tabCells) ⟨fuel, hd⟩ ⟨3, tab_reads enc W _⟩
 refine (contract W base args ds p (tab_of hT) hval hA).mono fun e W' ⟨he, hg⟩ => ?_
 subst he
 have hlen : ∀ (ts : List TypeId) (vs : List Value) (ds : List (DataW H)) (ps : List MemPlace), DataW.TrodAll enc Tryd.prog W 0 (fun _ => true) true ts vs ds ps → ds.length = ts.length := by
  intro ts
  induction ts with
  | nil => intro vs ds ps h; cases vs <;> cases ds <;> first | rfl | exact h.elim
  | cons t ts ih =>
   intro vs ds ps h
   cases vs with
   | nil => cases ds <;> exact h.elim
   | cons v vs =>
    cases ds with
    | nil => exact h.elim
    | cons d ds => obtain ⟨p, q, _, h2, _⟩ := h; simp [ih vs ds q h2]
 have hd := hlen _ _ _ _ hA
 have hsf : s.fn H (ds ++ [tabD]) = { results := [.lit (.bool true)], args := ds, vars := [tabD] } := hfs ds tabD (by rw [hd]; simp)
 have hstay := args_stay hg _ _ _ _ hA hread (fun x hx => hW'.lt x (by simp [hx]))
 refine ⟨_, rfl, ds, [tabD], _, [], p, MemPlace.row ⟨0, 0, none⟩ tabCells.size ++ [] ++ [], hW', ?_, ?_, ?_, Below.frame hg _, fun h => by cases h⟩
 ·rw [hsf, hres]; exact trodAll_cons_mk (shut_bool Tryd.underlying4 _) trodAll_mk0
 ·rw [hsf]; exact hstay
 ·rw [hsf, hvars]
  exact ⟨0, 84, tabCells, 3, [], [], tab_global, tab_type, tab_keep hT hg, tab_reads enc W' _, rfl, rfl⟩
end Go.Proofs.YtcjpalhclgkjiaaDoor
