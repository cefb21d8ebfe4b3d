/- The law FnExactProgramFor answers true for every input, and its arguments read afterwards as they read before.
   Conditions: those of the given row, no more. -/
import Derived.Test.YtdndkkaacfbkkaaDoorFrame
import Derived.Test.YtdndkkaacfbkkaaDoorPrn
import Derived.Test.YtdndkkaacfbkkaaDoorCards
import Derived.Test.YtdndkkaacfbkkaaDoorTie
import Derived.Deep.Fields
import Derived.Lay
import Derived.LaidOnce
import Derived.LaidSub
import Derived.Lib.LaidTab
import Derived.Lib.Space
import Derived.SevenTiedAt
namespace Go.Proofs.YtdndkkaacfbkkaaDoor
open Go.ChangeShapes Go.WideShapes Go.ChangeAt Go.RowKit Go.Deep
set_option linter.unusedVariables false
namespace fnExactProgramFor
/-- What the row lists. -/
abbrev tabs : List (String × DataW Unit) := Rows.fnExactProgramForRow.laid
/-- The library's tables, as the row lists them. -/
theorem tb_of (W : World) (hsh : World.ShapedOpen Tryd.prog W) (hL : laidMetH Tryd.prog tabs W) : Tb W := by
  obtain ⟨h1, _⟩ := laidMetH_iff.1 hL
  have h2 := h1.filter (fun x => x.1 == "strings.asciiSpace")
  have h3 : ((tabs.filter fun x => x.2.handleName?.isNone).filter (fun x => x.1 == "strings.asciiSpace")) = [("strings.asciiSpace", Lib.tabData .u8 Lib.asciiSpaceTab)] := by kernel_rfl
  rw [h3] at h2
  have hg : Tryd.prog.globalNamed "strings.asciiSpace" = some 0 := by kernel_rfl
  have hT := Lib.tabIs_of_head (t := 62) hg (by kernel_rfl) Tryd.underlying62 Tryd.underlying5 (by kernel_rfl) (by kernel_rfl) h2
  refine ⟨Go.Proofs.cell_of_shapedOpen_int (zero := #[.int .i64 0]) (t := 3) hsh (of_decide_eq_true (by kernel_rfl)) (by kernel_rfl) rfl (by kernel_rfl) (by kernel_rfl) Tryd.underlying3, fun c hc => ?_⟩
  have := hT.cell hg c (by simp [Lib.asciiSpaceTab]; omega)
  rw [this]
  simp [Lib.asciiSpaceTab, List.getD, hc]
set_option maxRecDepth 100000 in
theorem lifted (os : Os) (started : os.Started) (H : Type) (enc : TypeId × Value → H) :
    ReturnsInHanded {} Tryd.checked os 3 .any (fun w args => (Rows.fnExactProgramForSpec.pre enc Tryd.prog Tryd.f3 [] false w args ∧ laidMetH Tryd.prog tabs w) ∧ sizedMet enc Tryd.prog Tryd.f3 (OpenSpec.ofChange Rows.fnExactProgramForSpec) false w args) (Rows.fnExactProgramForSpec.post enc Tryd.prog Tryd.f3 false true false false) := by
  refine returnsInHanded_of_calls (C := Tryd.checked) own_knob started (by kernel_rfl)
    (ChangeSpec.witness_shaped (enc := enc) (C := Tryd.checked) (os := os) (X := fun w _ => laidMetH Tryd.prog tabs w) false (World.laidAll Tryd.prog os tabs) #[.int .i64 0, .int .i64 0] 8 (World.laidAll_os _ _ _)
      (World.shaped_of_ZipB (by kernel_rfl) (by kernel_rfl)) (by kernel_rfl) (by kernel_rfl) (by kernel_rfl)
      (by rw [MakeChecks.laidMetH_plain _ _ _ (by kernel_rfl)]; exact laidMet_laidAll _ (by kernel_rfl) (by kernel_rfl))) ?_
  intro w tape i _ hsh _ hok hpre _
  obtain ⟨_, _, _, fn', hfn', _, _, _, _, hval⟩ := hok
  obtain rfl : fn' = Tryd.f3 := Option.some.inj (hfn'.symm.trans Tryd.func3)
  obtain ⟨⟨⟨ds, gs, before, hw, hc⟩, hx⟩, hz⟩ := hpre
  have hL : laidMetH Tryd.prog tabs (w.forCall tape i) := laidMetH.of_heap (by rfl) hx
  have hW0 := DataW.Whole.of_heap (w' := w.forCall tape i) (by rfl) hw
  generalize w.forCall tape i = W at hW0 hsh hval hL ⊢
  generalize i.args = args at hW0 hval ⊢
  have hW' := hW0
  obtain ⟨p, q, hA, hV, rfl, _, _⟩ := hW0
  obtain ⟨rfl, rfl⟩ := trodVars_none hV
  have hA' := hA
  have hval' := hval
  rw [Tryd.params3] at hA' hval'
  obtain ⟨v0, vs0, d0, ds0, p0, q0, hargs, rfl, rfl, h0, r0⟩ := trodAll_cons hA'
  obtain ⟨v1, vs1, d1, ds1, p1, q1, rfl, rfl, rfl, h1, r1⟩ := trodAll_cons r0
  obtain ⟨rfl, rfl, rfl⟩ := trodAll_nil r1
  obtain rfl : args = #[v0, v1] := by cases args; simp_all
  obtain ⟨a, rfl, rfl, rfl, wa⟩ := open_int Tryd.underlying3 (hval' 0 3 v0 rfl rfl) h0
  obtain ⟨b, rfl, rfl, rfl, wb⟩ := open_int Tryd.underlying3 (hval' 1 3 v1 rfl rfl) h1
  have htb := tb_of W hsh hL
  refine (law_ProgramFor a b W htb).mono fun e W' ⟨he, hb⟩ => ?_
  subst he
  have hread : ∀ t ∈ Tryd.f3.params.toList, Tryd.prog.readableRec t = true ∧ t < Tryd.prog.types.size := by
    intro t ht
    rw [Tryd.params3] at ht
    simp only [List.mem_cons, List.not_mem_nil, or_false] at ht
    rcases ht with rfl | rfl <;> exact ⟨by kernel_rfl, of_decide_eq_true (by kernel_rfl)⟩
  have hstay := args_stay hb _ _ _ _ hA hread (fun x hx => hW'.lt x (by simp at hx))
  have hp : Rows.fnExactProgramForSpec.post enc Tryd.prog Tryd.f3 false true false false W #[.int .i64 a, .int .i64 b] (.bool true) W' :=
    ⟨_, [], _, [], _, [], hW', trodAll_mk1 (shut_bool Tryd.underlying4 _), hstay, rfl, Below.frame hb _, fun h => by cases h⟩
  exact ChangeSpec.post_blind hp
theorem over : Rows.fnExactProgramForRow.holds Tryd.pinned (OpenSpec.ofChange Rows.fnExactProgramForSpec) :=
  OpenClaim.holds_of_wide 3 Tryd.f3 rfl rfl rfl rfl rfl rfl rfl ⟨rfl, rfl, rfl, rfl, rfl⟩ rfl rfl rfl rfl rfl (by kernel_rfl) Tryd.func3 (by kernel_rfl)
    (of_decide_eq_true (by kernel_rfl)) (by unfold Func.isWrapper; first | (rw [if_pos (by decide +kernel)]; kernel_rfl) | (rw [if_neg (by decide +kernel)]; exact ⟨rfl, rfl⟩))
    (fun os started H enc _ => lifted os started H enc)
/-- The statement: the tied card. -/
theorem proved : Rows.FnExactProgramForCardSaid :=
  Claim7.holds_tied_plain_at .later [] [.data, .data, .data, .data, .sentinel, .sentinel, .listed, .data, .pinned] true (true, "af89ee47e80d36d8171eeedcddcf5d005ee5f1b52ceec404d8d35f9558c567e2") true
    over (fun _ h => by cases h) (by kernel_rfl) (fun _ h => by cases h) fnExactProgramFor_row_tie rfl ⟨rfl, rfl⟩ (by kernel_rfl) rfl
    (fun f fn hf hfn => by
      obtain rfl : f = 3 := Option.some.inj ((show Tryd.prog.funcNamed "loop.example/g00877/laws.FnExactProgramFor" = some 3 by kernel_rfl).symm.trans hf) |>.symm
      obtain rfl : fn = Tryd.f3 := (Option.some.inj (Tryd.func3.symm.trans hfn)).symm
      exact ⟨by kernel_rfl, fun j t ht => by
        rw [Tryd.params3] at ht
        have hm : t ∈ [3, 3] := by simpa using Array.mem_of_getElem? ht
        have hall : ([3, 3].all fun u => !Tryd.prog.wantsStandIn u) = true := by kernel_rfl
        exact (show Tryd.prog.wantsStandIn t = false by simpa using List.all_eq_true.1 hall t hm)⟩)
    (by kernel_rfl)
end fnExactProgramFor
#print axioms fnExactProgramFor.proved
end Go.Proofs.YtdndkkaacfbkkaaDoor
