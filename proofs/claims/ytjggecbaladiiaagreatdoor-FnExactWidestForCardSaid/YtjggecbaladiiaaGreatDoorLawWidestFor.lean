/- The law FnExactWidestFor answers true for every input, and its arguments read afterwards as they read before.
   Conditions: those of the given row, no more. -/
import Derived.Test.YtjggecbaladiiaaGreatDoorFrame
import Derived.Test.YtjggecbaladiiaaGreatDoorCmv
import Derived.Test.YtjggecbaladiiaaGreatDoorCards
import Derived.Test.YtjggecbaladiiaaGreatDoorTie
import Derived.Deep.Fields
import Derived.Lay
import Derived.LaidOnce
import Derived.LaidSub
import Derived.Lib.LaidTab
import Derived.Lib.Space
import Derived.SevenTiedAt
namespace Go.Proofs.YtjggecbaladiiaaGreatDoor
open Go.ChangeShapes Go.WideShapes Go.ChangeAt Go.RowKit Go.Deep
set_option linter.unusedVariables false
namespace fnExactWidestFor
/-- What the row lists. -/
abbrev tabs : List (String × DataW Unit) := Rows.fnExactWidestForRow.laid
/-- The library's tables, as the row lists them. -/
theorem tb_of (W : World) (hsh : World.ShapedOpen Tryz.prog W) (hL : laidMetH Tryz.prog tabs W) : Tb W := by
  obtain ⟨h1, _⟩ := laidMetH_iff.1 hL
  have h2 := h1.filter (fun x => x.1 == "strings.asciiSpace")
  have h3 : ((tabs.filter fun x => x.2.handleName?.isNone).filter (fun x => x.1 == "strings.asciiSpace")) = [("strings.asciiSpace", Lib.tabData .u8 Lib.asciiSpaceTab)] := by kernel_rfl
  rw [h3] at h2
  have hg : Tryz.prog.globalNamed "strings.asciiSpace" = some 0 := by kernel_rfl
  have hT := Lib.tabIs_of_head (t := 170) hg (by kernel_rfl) Tryz.underlying170 Tryz.underlying5 (by kernel_rfl) (by kernel_rfl) h2
  refine ⟨Go.Proofs.cell_of_shapedOpen_int (zero := #[.int .i64 0]) (t := 3) hsh (of_decide_eq_true (by kernel_rfl)) (by kernel_rfl) rfl (by kernel_rfl) (by kernel_rfl) Tryz.underlying3, fun c hc => ?_⟩
  have := hT.cell hg c (by simp [Lib.asciiSpaceTab]; omega)
  rw [this]
  simp [Lib.asciiSpaceTab, List.getD, hc]
set_option maxRecDepth 100000 in
theorem lifted (os : Os) (started : os.Started) (H : Type) (enc : TypeId × Value → H) :
    ReturnsInHanded {} Tryz.checked os 4 .any (fun w args => (Rows.fnExactWidestForSpec.pre enc Tryz.prog Tryz.f4 [] false w args ∧ laidMetH Tryz.prog tabs w) ∧ sizedMet enc Tryz.prog Tryz.f4 (OpenSpec.ofChange Rows.fnExactWidestForSpec) false w args) (Rows.fnExactWidestForSpec.post enc Tryz.prog Tryz.f4 false true false false) := by
  refine returnsInHanded_of_calls (C := Tryz.checked) own_knob started (by kernel_rfl)
    (ChangeSpec.witness_shaped (enc := enc) (C := Tryz.checked) (os := os) (X := fun w _ => laidMetH Tryz.prog tabs w) false (World.laidAll Tryz.prog os tabs) #[.int .i64 0, .int .i64 0] 8 (World.laidAll_os _ _ _)
      (World.shaped_of_ZipB (by kernel_rfl) (by kernel_rfl)) (by kernel_rfl) (by kernel_rfl) (by kernel_rfl)
      (by rw [MakeChecks.laidMetH_plain _ _ _ (by kernel_rfl)]; exact laidMet_laidAll _ (by kernel_rfl) (by kernel_rfl))) ?_
  intro w tape i _ hsh _ hok hpre _
  obtain ⟨_, _, _, fn', hfn', _, _, _, _, hval⟩ := hok
  obtain rfl : fn' = Tryz.f4 := Option.some.inj (hfn'.symm.trans Tryz.func4)
  obtain ⟨⟨⟨ds, gs, before, hw, hc⟩, hx⟩, hz⟩ := hpre
  have hL : laidMetH Tryz.prog tabs (w.forCall tape i) := laidMetH.of_heap (by rfl) hx
  have hW0 := DataW.Whole.of_heap (w' := w.forCall tape i) (by rfl) hw
  generalize w.forCall tape i = W at hW0 hsh hval hL ⊢
  generalize i.args = args at hW0 hval ⊢
  have hW' := hW0
  obtain ⟨p, q, hA, hV, rfl, _, _⟩ := hW0
  obtain ⟨rfl, rfl⟩ := trodVars_none hV
  have hA' := hA
  have hval' := hval
  rw [Tryz.params4] at hA' hval'
  obtain ⟨v0, vs0, d0, ds0, p0, q0, hargs, rfl, rfl, h0, r0⟩ := trodAll_cons hA'
  obtain ⟨v1, vs1, d1, ds1, p1, q1, rfl, rfl, rfl, h1, r1⟩ := trodAll_cons r0
  obtain ⟨rfl, rfl, rfl⟩ := trodAll_nil r1
  obtain rfl : args = #[v0, v1] := by cases args; simp_all
  obtain ⟨a0, rfl, rfl, rfl, w0⟩ := open_int Tryz.underlying3 (hval' 0 3 v0 rfl rfl) h0
  obtain ⟨a1, rfl, rfl, rfl, w1⟩ := open_int Tryz.underlying3 (hval' 1 3 v1 rfl rfl) h1
  have htb := tb_of W hsh hL
  refine (law_WidestFor a0 a1 W htb).mono fun e W' ⟨he, hb⟩ => ?_
  subst he
  have hread : ∀ t ∈ Tryz.f4.params.toList, Tryz.prog.readableRec t = true ∧ t < Tryz.prog.types.size := by
    intro t ht
    rw [Tryz.params4] at ht
    simp only [List.mem_cons, List.not_mem_nil, or_false] at ht
    rcases ht with rfl | rfl <;> exact ⟨by kernel_rfl, of_decide_eq_true (by kernel_rfl)⟩
  have hstay := args_stay hb _ _ _ _ hA hread (fun x hx => hW'.lt x (by rw [List.append_nil]; exact hx))
  have hp : Rows.fnExactWidestForSpec.post enc Tryz.prog Tryz.f4 false true false false W #[.int .i64 a0, .int .i64 a1] (.bool true) W' :=
    ⟨_, [], _, [], _, [], hW', trodAll_mk1 (shut_bool Tryz.underlying4 _), hstay, rfl, Below.frame hb _, fun h => by cases h⟩
  exact ChangeSpec.post_blind hp
theorem over : Rows.fnExactWidestForRow.holds Tryz.pinned (OpenSpec.ofChange Rows.fnExactWidestForSpec) :=
  OpenClaim.holds_of_wide 4 Tryz.f4 rfl rfl rfl rfl rfl rfl rfl ⟨rfl, rfl, rfl, rfl, rfl⟩ rfl rfl rfl rfl rfl (by kernel_rfl) Tryz.func4 (by kernel_rfl)
    (of_decide_eq_true (by kernel_rfl)) (by unfold Func.isWrapper; first | (rw [if_pos (by decide +kernel)]; kernel_rfl) | (rw [if_neg (by decide +kernel)]; exact ⟨rfl, rfl⟩))
    (fun os started H enc _ => lifted os started H enc)
/-- The statement: the tied card. -/
theorem proved : Rows.FnExactWidestForCardSaid :=
  Claim7.holds_tied_plain_at .later [] [.data, .data, .data, .data, .sentinel, .sentinel, .listed, .data, .pinned] true (true, "aa90064d21ea812ca15530606abdb7466c8f2659bbb0963e3413557c154450f8") true
    over (fun _ h => by cases h) (by kernel_rfl) (fun _ h => by cases h) fnExactWidestFor_row_tie rfl ⟨rfl, rfl⟩ (by kernel_rfl) rfl
    (fun f fn hf hfn => by
      obtain rfl : f = 4 := Option.some.inj ((show Tryz.prog.funcNamed "loop.example/g00877/laws.FnExactWidestFor" = some 4 by kernel_rfl).symm.trans hf) |>.symm
      obtain rfl : fn = Tryz.f4 := (Option.some.inj (Tryz.func4.symm.trans hfn)).symm
      exact ⟨by kernel_rfl, fun j t ht => by
        rw [Tryz.params4] at ht
        have hm : t ∈ [3, 3] := by simpa using Array.mem_of_getElem? ht
        have hall : ([3, 3].all fun u => !Tryz.prog.wantsStandIn u) = true := by kernel_rfl
        exact (show Tryz.prog.wantsStandIn t = false by simpa using List.all_eq_true.1 hall t hm)⟩)
    (by kernel_rfl)
end fnExactWidestFor
#print axioms fnExactWidestFor.proved
end Go.Proofs.YtjggecbaladiiaaGreatDoor
