/- The law FnExactLeastAnswer answers true for every input, and its arguments read afterwards as they read before.
   Conditions: those of the given row, no more. -/
import Derived.Test.YtjggecbaladiiaaGreatDoorFrame
import Derived.Test.YtjggecbaladiiaaGreatDoorOpn
import Derived.Test.YtjggecbaladiiaaGreatDoorLng
import Derived.Test.YtjggecbaladiiaaGreatDoorCards
import Derived.Test.YtjggecbaladiiaaGreatDoorTie
import Derived.Deep.Fields
import Derived.Lay
import Derived.LaidOnce
import Derived.LaidSub
import Derived.Lib.LaidTab
import Derived.Lib.Space
import Derived.SevenTiedAt
namespace Go.Proofs.YtjggecbaladiiaaGreatDoor
open Go.ChangeShapes Go.WideShapes Go.ChangeAt Go.RowKit Go.Deep
set_option linter.unusedVariables false
namespace fnExactLeastAnswer
/-- What the row lists. -/
abbrev tabs : List (String × DataW Unit) := Rows.fnExactLeastAnswerRow.laid
/-- The library's tables, as the row lists them. -/
theorem tb_of (W : World) (hsh : World.ShapedOpen Tryz.prog W) (hL : laidMetH Tryz.prog tabs W) : Tb W := by
  obtain ⟨h1, _⟩ := laidMetH_iff.1 hL
  have h2 := h1.filter (fun x => x.1 == "strings.asciiSpace")
  have h3 : ((tabs.filter fun x => x.2.handleName?.isNone).filter (fun x => x.1 == "strings.asciiSpace")) = [("strings.asciiSpace", Lib.tabData .u8 Lib.asciiSpaceTab)] := by kernel_rfl
  rw [h3] at h2
  have hg : Tryz.prog.globalNamed "strings.asciiSpace" = some 0 := by kernel_rfl
  have hT := Lib.tabIs_of_head (t := 170) hg (by kernel_rfl) Tryz.underlying170 Tryz.underlying5 (by kernel_rfl) (by kernel_rfl) h2
  refine ⟨Go.Proofs.cell_of_shapedOpen_int (zero := #[.int .i64 0]) (t := 3) hsh (of_decide_eq_true (by kernel_rfl)) (by kernel_rfl) rfl (by kernel_rfl) (by kernel_rfl) Tryz.underlying3, fun c hc => ?_⟩
  have := hT.cell hg c (by simp [Lib.asciiSpaceTab]; omega)
  rw [this]
  simp [Lib.asciiSpaceTab, List.getD, hc]
/-- The table of powers of ten, as the row lists it. -/
theorem t10_of (W : World) (hL : laidMetH Tryz.prog tabs W) : Lib.TabIs Tryz.prog W "internal/strconv.uint64pow10" .u64 Lib.pow10Tab := by
  obtain ⟨h1, _⟩ := laidMetH_iff.1 hL
  have h2 := h1.filter (fun x => x.1 == "internal/strconv.uint64pow10")
  have h3 : ((tabs.filter fun x => x.2.handleName?.isNone).filter (fun x => x.1 == "internal/strconv.uint64pow10")) = [("internal/strconv.uint64pow10", Lib.tabData .u64 Lib.pow10Tab)] := by kernel_rfl
  rw [h3] at h2
  have hg : Tryz.prog.globalNamed "internal/strconv.uint64pow10" = some 2 := by kernel_rfl
  exact Lib.tabIs_of_head (t := 226) hg (by kernel_rfl) Tryz.underlying226 Tryz.underlying83 (by kernel_rfl) (by kernel_rfl) h2
set_option maxRecDepth 100000 in
theorem lifted (os : Os) (started : os.Started) (H : Type) (enc : TypeId × Value → H) :
    ReturnsInHanded {} Tryz.checked os 5 .any (fun w args => (Rows.fnExactLeastAnswerSpec.pre enc Tryz.prog Tryz.f5 [] false w args ∧ laidMetH Tryz.prog tabs w) ∧ sizedMet enc Tryz.prog Tryz.f5 (OpenSpec.ofChange Rows.fnExactLeastAnswerSpec) false w args) (Rows.fnExactLeastAnswerSpec.post enc Tryz.prog Tryz.f5 false true false false) := by
  refine returnsInHanded_of_calls (C := Tryz.checked) own_knob started (by kernel_rfl)
    (ChangeSpec.witness_shaped (enc := enc) (C := Tryz.checked) (os := os) (X := fun w _ => laidMetH Tryz.prog tabs w) false (World.laidAll Tryz.prog os tabs) #[.int .i64 0, .int .i64 0, .int .i64 0, .slice none 0 0] 8 (World.laidAll_os _ _ _)
      (World.shaped_of_ZipB (by kernel_rfl) (by kernel_rfl)) (by kernel_rfl) (by kernel_rfl) (by kernel_rfl)
      (by rw [MakeChecks.laidMetH_plain _ _ _ (by kernel_rfl)]; exact laidMet_laidAll _ (by kernel_rfl) (by kernel_rfl))) ?_
  intro w tape i _ hsh _ hok hpre _
  obtain ⟨_, _, _, fn', hfn', _, _, _, _, hval⟩ := hok
  obtain rfl : fn' = Tryz.f5 := Option.some.inj (hfn'.symm.trans Tryz.func5)
  obtain ⟨⟨⟨ds, gs, before, hw, hc⟩, hx⟩, hz⟩ := hpre
  have hL : laidMetH Tryz.prog tabs (w.forCall tape i) := laidMetH.of_heap (by rfl) hx
  have hW0 := DataW.Whole.of_heap (w' := w.forCall tape i) (by rfl) hw
  generalize w.forCall tape i = W at hW0 hsh hval hL ⊢
  generalize i.args = args at hW0 hval ⊢
  have hW' := hW0
  obtain ⟨p, q, hA, hV, rfl, _, _⟩ := hW0
  obtain ⟨rfl, rfl⟩ := trodVars_none hV
  have hA' := hA
  have hval' := hval
  rw [Tryz.params5] at hA' hval'
  obtain ⟨v0, vs0, d0, ds0, p0, q0, hargs, rfl, rfl, h0, r0⟩ := trodAll_cons hA'
  obtain ⟨v1, vs1, d1, ds1, p1, q1, rfl, rfl, rfl, h1, r1⟩ := trodAll_cons r0
  obtain ⟨v2, vs2, d2, ds2, p2, q2, rfl, rfl, rfl, h2, r2⟩ := trodAll_cons r1
  obtain ⟨v3, vs3, d3, ds3, p3, q3, rfl, rfl, rfl, h3, r3⟩ := trodAll_cons r2
  obtain ⟨rfl, rfl, rfl⟩ := trodAll_nil r3
  obtain rfl : args = #[v0, v1, v2, v3] := by cases args; simp_all
  obtain ⟨a0, rfl, rfl, rfl, w0⟩ := open_int Tryz.underlying3 (hval' 0 3 v0 rfl rfl) h0
  obtain ⟨a1, rfl, rfl, rfl, w1⟩ := open_int Tryz.underlying3 (hval' 1 3 v1 rfl rfl) h1
  obtain ⟨a2, rfl, rfl, rfl, w2⟩ := open_int Tryz.underlying3 (hval' 2 3 v2 rfl rfl) h2
  obtain ⟨A3, n3, c3, l3, rfl, w3⟩ := open_ints_ (hval' 3 27 v3 rfl rfl) h3
  have htb := tb_of W hsh hL
  have h10 := t10_of W hL
  refine (law_LeastAnswer a0 a1 a2 A3 n3 c3 l3 W w3.1 htb h10).mono fun e W' ⟨he, hb⟩ => ?_
  subst he
  have hread : ∀ t ∈ Tryz.f5.params.toList, Tryz.prog.readableRec t = true ∧ t < Tryz.prog.types.size := by
    intro t ht
    rw [Tryz.params5] at ht
    simp only [List.mem_cons, List.not_mem_nil, or_false] at ht
    rcases ht with rfl | rfl | rfl | rfl <;> exact ⟨by kernel_rfl, of_decide_eq_true (by kernel_rfl)⟩
  have hstay := args_stay hb _ _ _ _ hA hread (fun x hx => hW'.lt x (by rw [List.append_nil]; exact hx))
  have hp : Rows.fnExactLeastAnswerSpec.post enc Tryz.prog Tryz.f5 false true false false W #[.int .i64 a0, .int .i64 a1, .int .i64 a2, .slice A3 n3 c3] (.bool true) W' :=
    ⟨_, [], _, [], _, [], hW', trodAll_mk1 (shut_bool Tryz.underlying4 _), hstay, rfl, Below.frame hb _, fun h => by cases h⟩
  exact ChangeSpec.post_blind hp
theorem over : Rows.fnExactLeastAnswerRow.holds Tryz.pinned (OpenSpec.ofChange Rows.fnExactLeastAnswerSpec) :=
  OpenClaim.holds_of_wide 5 Tryz.f5 rfl rfl rfl rfl rfl rfl rfl ⟨rfl, rfl, rfl, rfl, rfl⟩ rfl rfl rfl rfl rfl (by kernel_rfl) Tryz.func5 (by kernel_rfl)
    (of_decide_eq_true (by kernel_rfl)) (by unfold Func.isWrapper; first | (rw [if_pos (by decide +kernel)]; kernel_rfl) | (rw [if_neg (by decide +kernel)]; exact ⟨rfl, rfl⟩))
    (fun os started H enc _ => lifted os started H enc)
/-- The statement: the tied card. -/
theorem proved : Rows.FnExactLeastAnswerCardSaid :=
  Claim7.holds_tied_plain_at .later [] [.data, .data, .data, .data, .sentinel, .sentinel, .listed, .data, .pinned] true (true, "aa90064d21ea812ca15530606abdb7466c8f2659bbb0963e3413557c154450f8") true
    over (fun _ h => by cases h) (by kernel_rfl) (fun _ h => by cases h) fnExactLeastAnswer_row_tie rfl ⟨rfl, rfl⟩ (by kernel_rfl) rfl
    (fun f fn hf hfn => by
      obtain rfl : f = 5 := Option.some.inj ((show Tryz.prog.funcNamed "loop.example/g00877/laws.FnExactLeastAnswer" = some 5 by kernel_rfl).symm.trans hf) |>.symm
      obtain rfl : fn = Tryz.f5 := (Option.some.inj (Tryz.func5.symm.trans hfn)).symm
      exact ⟨by kernel_rfl, fun j t ht => by
        rw [Tryz.params5] at ht
        have hm : t ∈ [3, 3, 3, 27] := by simpa using Array.mem_of_getElem? ht
        have hall : ([3, 3, 3, 27].all fun u => !Tryz.prog.wantsStandIn u) = true := by kernel_rfl
        exact (show Tryz.prog.wantsStandIn t = false by simpa using List.all_eq_true.1 hall t hm)⟩)
    (by kernel_rfl)
end fnExactLeastAnswer
#print axioms fnExactLeastAnswer.proved
end Go.Proofs.YtjggecbaladiiaaGreatDoor
