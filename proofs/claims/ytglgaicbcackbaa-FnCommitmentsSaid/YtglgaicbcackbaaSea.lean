/- Contracts of sealed values: what the tests of a sealed value answer, and what is handed back.
   Conditions: none beyond those that the calls' own tests lay. -/
import Derived.Test.YtglgaicbcackbaaCom
namespace Go.Proofs.Ytglgaicbcackbaa
open Go.RowKit
set_option linter.unusedVariables false
/-- The tests of a sealed value. -/
def goodB (p m v b : Int) (o : Bool) : Bool := inR p 0 1 && inR m 0 65535 && inR v 0 65535 && inR b 0 1000000000 && (o || (v == 0 && b == 0))
def trueB (p m v b : Int) (o : Bool) : Bool := !o || (m == markF p v b)
theorem impl_isSealed (p m v b : Int) (o : Bool) (w : World) :
    Calls Try.prog 88 #[.agg #[.int .i64 p, .int .i64 m, .int .i64 v, .int .i64 b, .bool o]] w fun e w' =>
      e = .returned (.bool (goodB p m v b o)) ∧ Bl w w' := by
  go_enter Try.func88, Try.ntmps88
  go_wp2_with (first
    | (go_at_call 72; refine (impl_isBit _ _).mono ?_; rintro e w' ⟨rfl, rfl⟩)
    | (go_at_call 74; refine (impl_isLabel _ _).mono ?_; rintro e w' ⟨rfl, rfl⟩)
    | (go_at_call 73; refine (impl_isValue _ _).mono ?_; rintro e w' ⟨rfl, rfl⟩)
    | (go_at_call 81; refine (impl_isKey _ _).mono ?_; rintro e w' ⟨rfl, rfl⟩))
  all_goals go_ret
  all_goals (refine ⟨ret_bool ?_, (Bl.refl _).alloc _⟩; first | (simp_all [goodB]; done) | (simp_all [goodB, inR]; done) | (simp_all [goodB, inR]; omega))
theorem spec_cmGood (p m v b : Int) (o : Bool) (w : World) :
    Calls Try.prog 90 #[.agg #[.int .i64 p, .int .i64 m, .int .i64 v, .int .i64 b, .bool o]] w fun e w' =>
      e = .returned (.bool (goodB p m v b o)) ∧ Bl w w' := by
  go_enter Try.func90, Try.ntmps90
  go_wp2_with (first
    | (go_at_call 77; refine (spec_cmParty _ _).mono ?_; rintro e w' ⟨rfl, rfl⟩)
    | (go_at_call 79; refine (spec_lbGood _ _).mono ?_; rintro e w' ⟨rfl, rfl⟩)
    | (go_at_call 78; refine (spec_cmValue _ _).mono ?_; rintro e w' ⟨rfl, rfl⟩)
    | (go_at_call 86; refine (spec_shKey _ _).mono ?_; rintro e w' ⟨rfl, rfl⟩))
  all_goals go_ret
  all_goals (refine ⟨ret_bool ?_, (Bl.refl _).alloc _⟩; first | (simp_all [goodB]; done) | (simp_all [goodB, inR]; done) | (simp_all [goodB, inR]; omega))
theorem spec_cmTrue_o (p m v b : Int) (w : World) (h : goodB p m v b true = true) :
    Calls Try.prog 97 #[.agg #[.int .i64 p, .int .i64 m, .int .i64 v, .int .i64 b, .bool true]] w fun e w' =>
      e = .returned (.bool (trueB p m v b true)) ∧ Bl w w' := by
  have hb : (0 ≤ p ∧ p ≤ 1) ∧ (0 ≤ v ∧ v ≤ 65535) ∧ (0 ≤ b ∧ b ≤ 1000000000) := by simp [goodB, inR] at h; omega
  obtain ⟨hp, hv, hk⟩ := hb
  clear h
  go_enter Try.func97, Try.ntmps97
  go_wp2
  go_region_held3 (fun w' => Bl ((w.alloc (.cells #[.int .i64 p, .int .i64 m, .int .i64 v, .int .i64 b, .bool true] 38)).drew) w' ∧ w'.cell? ⟨w.heap.size, 0, none⟩ = some (.int .i64 p) ∧ w'.cell? ⟨w.heap.size, 1, none⟩ = some (.int .i64 m) ∧ w'.cell? ⟨w.heap.size, 2, none⟩ = some (.int .i64 v) ∧ w'.cell? ⟨w.heap.size, 3, none⟩ = some (.int .i64 b) ∧ w'.cell? ⟨w.heap.size, 4, none⟩ = some (.bool true)) (first | exact ⟨hb1, Bl.cells hb1 (by go_simp), Bl.cells hb1 (by go_simp), Bl.cells hb1 (by go_simp), Bl.cells hb1 (by go_simp), Bl.cells hb1 (by go_simp)⟩ | exact ⟨Bl.refl _, by go_simp, by go_simp, by go_simp, by go_simp, by go_simp⟩) (first | (go_at_call 68; refine (spec_cmMark _ _ _ _ (by omega) (by omega) (by omega)).mono ?_; rintro e w1 ⟨rfl, hb1⟩))
  go_wp2
  go_ret
  refine ⟨ret_bool ?_, (((Bl.refl _).alloc _).drew).call hb1⟩
  show _ = (m == markF p v b)
  first | rfl | exact BEq.comm
theorem spec_cmTrue_c (p m v b : Int) (w : World) :
    Calls Try.prog 97 #[.agg #[.int .i64 p, .int .i64 m, .int .i64 v, .int .i64 b, .bool false]] w fun e w' =>
      e = .returned (.bool (trueB p m v b false)) ∧ Bl w w' := by
  go_enter Try.func97, Try.ntmps97
  go_wp2
  go_quiet (fail)
  go_wp2
  go_ret
  refine ⟨ret_bool (by simp [trueB]), ?_⟩
  repeat (first | exact Bl.refl _ | apply Bl.alloc | apply Bl.drew | apply Bl.drewN)
theorem spec_cmTrue (p m v b : Int) (o : Bool) (w : World) (h : goodB p m v b o = true) :
    Calls Try.prog 97 #[.agg #[.int .i64 p, .int .i64 m, .int .i64 v, .int .i64 b, .bool o]] w fun e w' =>
      e = .returned (.bool (trueB p m v b o)) ∧ Bl w w' := by
  cases o
  · exact spec_cmTrue_c p m v b w
  · exact spec_cmTrue_o p m v b w h
theorem impl_isTrue_o (p m v b : Int) (w : World) (h : goodB p m v b true = true) :
    Calls Try.prog 89 #[.agg #[.int .i64 p, .int .i64 m, .int .i64 v, .int .i64 b, .bool true]] w fun e w' =>
      e = .returned (.bool (trueB p m v b true)) ∧ Bl w w' := by
  have hb : (0 ≤ p ∧ p ≤ 1) ∧ (0 ≤ v ∧ v ≤ 65535) ∧ (0 ≤ b ∧ b ≤ 1000000000) := by simp [goodB, inR] at h; omega
  obtain ⟨hp, hv, hk⟩ := hb
  clear h
  go_enter Try.func89, Try.ntmps89
  go_wp2
  go_region_held3 (fun w' => Bl ((w.alloc (.cells #[.int .i64 p, .int .i64 m, .int .i64 v, .int .i64 b, .bool true] 38)).drew) w' ∧ w'.cell? ⟨w.heap.size, 0, none⟩ = some (.int .i64 p) ∧ w'.cell? ⟨w.heap.size, 1, none⟩ = some (.int .i64 m) ∧ w'.cell? ⟨w.heap.size, 2, none⟩ = some (.int .i64 v) ∧ w'.cell? ⟨w.heap.size, 3, none⟩ = some (.int .i64 b) ∧ w'.cell? ⟨w.heap.size, 4, none⟩ = some (.bool true)) (first | exact ⟨hb1, Bl.cells hb1 (by go_simp), Bl.cells hb1 (by go_simp), Bl.cells hb1 (by go_simp), Bl.cells hb1 (by go_simp), Bl.cells hb1 (by go_simp)⟩ | exact ⟨Bl.refl _, by go_simp, by go_simp, by go_simp, by go_simp, by go_simp⟩) (first | (go_at_call 82; refine (impl_mark _ _ _ _ (by omega) (by omega) (by omega)).mono ?_; rintro e w1 ⟨rfl, hb1⟩))
  go_wp2
  go_ret
  refine ⟨ret_bool ?_, (((Bl.refl _).alloc _).drew).call hb1⟩
  show _ = (m == markF p v b)
  first | rfl | exact BEq.comm
theorem impl_isTrue_c (p m v b : Int) (w : World) :
    Calls Try.prog 89 #[.agg #[.int .i64 p, .int .i64 m, .int .i64 v, .int .i64 b, .bool false]] w fun e w' =>
      e = .returned (.bool (trueB p m v b false)) ∧ Bl w w' := by
  go_enter Try.func89, Try.ntmps89
  go_wp2
  go_quiet (fail)
  go_wp2
  go_ret
  refine ⟨ret_bool (by simp [trueB]), ?_⟩
  repeat (first | exact Bl.refl _ | apply Bl.alloc | apply Bl.drew | apply Bl.drewN)
theorem impl_isTrue (p m v b : Int) (o : Bool) (w : World) (h : goodB p m v b o = true) :
    Calls Try.prog 89 #[.agg #[.int .i64 p, .int .i64 m, .int .i64 v, .int .i64 b, .bool o]] w fun e w' =>
      e = .returned (.bool (trueB p m v b o)) ∧ Bl w w' := by
  cases o
  · exact impl_isTrue_c p m v b w
  · exact impl_isTrue_o p m v b w h
theorem spec_OpensTo (p m v b : Int) (o : Bool) (w : World) :
    Calls Try.prog 33 #[.agg #[.int .i64 p, .int .i64 m, .int .i64 v, .int .i64 b, .bool o]] w fun e w' =>
      e = .returned (.tuple #[.bool (goodB p m v b o && trueB p m v b o), .bool (goodB p m v b o)]) ∧ Bl w w' := by
  rcases h : goodB p m v b o
  · go_enter Try.func33, Try.ntmps33
    go_wp2_with (first | (go_at_call 90; refine (spec_cmGood _ _ _ _ _ _).mono ?_; rintro e w1 ⟨rfl, hb1⟩))
    go_ret2
    exact ⟨by simp, ((Bl.refl _).alloc _).call hb1⟩
  · go_enter Try.func33, Try.ntmps33
    go_wp2_with (first
      | (go_at_call 90; refine (spec_cmGood _ _ _ _ _ _).mono ?_; rintro e w1 ⟨rfl, hb1⟩; obtain ⟨hc1, hf1, hz1⟩ := bcell hb1)
      | (go_at_call 97; refine (spec_cmTrue _ _ _ _ _ _ h).mono ?_; rintro e w2 ⟨rfl, hb2⟩))
    go_ret2
    exact ⟨by simp, (((Bl.refl _).alloc _).call hb1).call hb2⟩
theorem impl_OpensTo (p m v b : Int) (o : Bool) (w : World) :
    Calls Try.prog 23 #[.agg #[.int .i64 p, .int .i64 m, .int .i64 v, .int .i64 b, .bool o]] w fun e w' =>
      e = .returned (.tuple #[.bool (goodB p m v b o && trueB p m v b o), .bool (goodB p m v b o)]) ∧ Bl w w' := by
  rcases h : goodB p m v b o
  · go_enter Try.func23, Try.ntmps23
    go_wp2_with (first | (go_at_call 88; refine (impl_isSealed _ _ _ _ _ _).mono ?_; rintro e w1 ⟨rfl, hb1⟩))
    go_ret2
    exact ⟨by simp, ((Bl.refl _).alloc _).call hb1⟩
  · go_enter Try.func23, Try.ntmps23
    go_wp2_with (first
      | (go_at_call 88; refine (impl_isSealed _ _ _ _ _ _).mono ?_; rintro e w1 ⟨rfl, hb1⟩; obtain ⟨hc1, hf1, hz1⟩ := bcell hb1)
      | (go_at_call 89; refine (impl_isTrue _ _ _ _ _ _ h).mono ?_; rintro e w2 ⟨rfl, hb2⟩))
    go_ret2
    exact ⟨by simp, (((Bl.refl _).alloc _).call hb1).call hb2⟩
end Go.Proofs.Ytglgaicbcackbaa
