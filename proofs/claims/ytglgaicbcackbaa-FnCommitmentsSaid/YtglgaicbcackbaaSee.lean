/- Contracts of coins and faults.
   Conditions: none beyond those that the calls' own tests lay. -/
import Derived.Test.YtglgaicbcackbaaSed
namespace Go.Proofs.Ytglgaicbcackbaa
open Go.RowKit
set_option linter.unusedVariables false
/-- Both sealed values are good, of party 0 and of party 1. -/
def pairB (p m v b : Int) (o : Bool) (p' m' v' b' : Int) (o' : Bool) : Bool := goodB p m v b o && goodB p' m' v' b' o' && p == 0 && p' == 1
/-- A party is at fault for its sealed value. -/
def faultB (p m v b : Int) (o : Bool) : Bool := !o || !trueB p m v b o
def faultN (p m v b : Int) (o : Bool) : Int := if faultB p m v b o then 1 else 0
theorem faultB_open {p m v b : Int} {x : Bool} (h : trueB p m v b true = x) : faultB p m v b true = !x := by simp [faultB, h]
theorem pairB_good {p m v b : Int} {o : Bool} {p' m' v' b' : Int} {o' : Bool} (h : pairB p m v b o p' m' v' b' o' = true) : goodB p m v b o = true ∧ goodB p' m' v' b' o' = true := by
  simp only [pairB, Bool.and_eq_true] at h; exact ⟨h.1.1.1, h.1.1.2⟩
theorem good_bd {p m v b : Int} {o : Bool} (h : goodB p m v b o = true) : 0 ≤ v ∧ v ≤ 65535 := by
  simp only [goodB, Bool.and_eq_true, inR_iff] at h; exact h.1.1.2
set_option maxHeartbeats 1000000 in
theorem spec_cmPair (p m v b : Int) (o : Bool) (p' m' v' b' : Int) (o' : Bool) (w : World) :
    Calls Try.prog 94 #[.agg #[.int .i64 p, .int .i64 m, .int .i64 v, .int .i64 b, .bool o], .agg #[.int .i64 p', .int .i64 m', .int .i64 v', .int .i64 b', .bool o']] w fun e w' => e = .returned (.bool (pairB p m v b o p' m' v' b' o')) ∧ Bl w w' := by
  have hW := ((Bl.refl w).alloc (.cells #[.int .i64 p, .int .i64 m, .int .i64 v, .int .i64 b, .bool o] 38)).alloc (.cells #[.int .i64 p', .int .i64 m', .int .i64 v', .int .i64 b', .bool o'] 38)
  have hB := (Blk.new w 38 #[.int .i64 p, .int .i64 m, .int .i64 v, .int .i64 b, .bool o]).alloc (.cells #[.int .i64 p', .int .i64 m', .int .i64 v', .int .i64 b', .bool o'] 38)
  have hC : Blk _ (w.heap.size + 1) _ _ := Blk.new (w.alloc (.cells #[.int .i64 p, .int .i64 m, .int .i64 v, .int .i64 b, .bool o] 38)) 38 #[.int .i64 p', .int .i64 m', .int .i64 v', .int .i64 b', .bool o']
  have hB_l := hB.lt
  have hB_0 := hB.cell 0 _ rfl
  have hB_1 := hB.cell 1 _ rfl
  have hB_2 := hB.cell 2 _ rfl
  have hB_3 := hB.cell 3 _ rfl
  have hB_4 := hB.cell 4 _ rfl
  have hC_l := hC.lt
  have hC_0 := hC.cell 0 _ rfl
  have hC_1 := hC.cell 1 _ rfl
  have hC_2 := hC.cell 2 _ rfl
  have hC_3 := hC.cell 3 _ rfl
  have hC_4 := hC.cell 4 _ rfl
  rcases h : goodB p m v b o
  · go_enter Try.func94, Try.ntmps94
    go_wp2_with (first | (go_at_call 90; refine (spec_cmGood _ _ _ _ _ _).mono ?_; rintro e w1 ⟨rfl, hb⟩; replace hW := (by first | exact hW.call hb | exact (hW.alloc _).call hb | exact ((hW.alloc _).alloc _).call hb | exact (((hW.alloc _).alloc _).alloc _).call hb); replace hB := (by first | exact hB.keep hb | exact (hB.alloc _).keep hb | exact ((hB.alloc _).alloc _).keep hb | exact (((hB.alloc _).alloc _).alloc _).keep hb); replace hC := (by first | exact hC.keep hb | exact (hC.alloc _).keep hb | exact ((hC.alloc _).alloc _).keep hb | exact (((hC.alloc _).alloc _).alloc _).keep hb); clear hB_l hB_0 hB_1 hB_2 hB_3 hB_4 hC_l hC_0 hC_1 hC_2 hC_3 hC_4; have hB_l := hB.lt; have hB_0 := hB.cell 0 _ rfl; have hB_1 := hB.cell 1 _ rfl; have hB_2 := hB.cell 2 _ rfl; have hB_3 := hB.cell 3 _ rfl; have hB_4 := hB.cell 4 _ rfl; have hC_l := hC.lt; have hC_0 := hC.cell 0 _ rfl; have hC_1 := hC.cell 1 _ rfl; have hC_2 := hC.cell 2 _ rfl; have hC_3 := hC.cell 3 _ rfl; have hC_4 := hC.cell 4 _ rfl))
    go_ret
    exact ⟨ret_bool (by simp [pairB, h]), hW⟩
  · rcases h' : goodB p' m' v' b' o'
    · go_enter Try.func94, Try.ntmps94
      go_wp2_with (first | (go_at_call 90; refine (spec_cmGood _ _ _ _ _ _).mono ?_; rintro e w1 ⟨rfl, hb⟩; replace hW := (by first | exact hW.call hb | exact (hW.alloc _).call hb | exact ((hW.alloc _).alloc _).call hb | exact (((hW.alloc _).alloc _).alloc _).call hb); replace hB := (by first | exact hB.keep hb | exact (hB.alloc _).keep hb | exact ((hB.alloc _).alloc _).keep hb | exact (((hB.alloc _).alloc _).alloc _).keep hb); replace hC := (by first | exact hC.keep hb | exact (hC.alloc _).keep hb | exact ((hC.alloc _).alloc _).keep hb | exact (((hC.alloc _).alloc _).alloc _).keep hb); clear hB_l hB_0 hB_1 hB_2 hB_3 hB_4 hC_l hC_0 hC_1 hC_2 hC_3 hC_4; have hB_l := hB.lt; have hB_0 := hB.cell 0 _ rfl; have hB_1 := hB.cell 1 _ rfl; have hB_2 := hB.cell 2 _ rfl; have hB_3 := hB.cell 3 _ rfl; have hB_4 := hB.cell 4 _ rfl; have hC_l := hC.lt; have hC_0 := hC.cell 0 _ rfl; have hC_1 := hC.cell 1 _ rfl; have hC_2 := hC.cell 2 _ rfl; have hC_3 := hC.cell 3 _ rfl; have hC_4 := hC.cell 4 _ rfl))
      go_ret
      exact ⟨ret_bool (by simp [pairB, h']), hW⟩
    · rcases h2 : (p == 0)
      · go_enter Try.func94, Try.ntmps94
        go_wp2_with (first | (go_at_call 90; refine (spec_cmGood _ _ _ _ _ _).mono ?_; rintro e w1 ⟨rfl, hb⟩; replace hW := (by first | exact hW.call hb | exact (hW.alloc _).call hb | exact ((hW.alloc _).alloc _).call hb | exact (((hW.alloc _).alloc _).alloc _).call hb); replace hB := (by first | exact hB.keep hb | exact (hB.alloc _).keep hb | exact ((hB.alloc _).alloc _).keep hb | exact (((hB.alloc _).alloc _).alloc _).keep hb); replace hC := (by first | exact hC.keep hb | exact (hC.alloc _).keep hb | exact ((hC.alloc _).alloc _).keep hb | exact (((hC.alloc _).alloc _).alloc _).keep hb); clear hB_l hB_0 hB_1 hB_2 hB_3 hB_4 hC_l hC_0 hC_1 hC_2 hC_3 hC_4; have hB_l := hB.lt; have hB_0 := hB.cell 0 _ rfl; have hB_1 := hB.cell 1 _ rfl; have hB_2 := hB.cell 2 _ rfl; have hB_3 := hB.cell 3 _ rfl; have hB_4 := hB.cell 4 _ rfl; have hC_l := hC.lt; have hC_0 := hC.cell 0 _ rfl; have hC_1 := hC.cell 1 _ rfl; have hC_2 := hC.cell 2 _ rfl; have hC_3 := hC.cell 3 _ rfl; have hC_4 := hC.cell 4 _ rfl))
        go_ret
        exact ⟨ret_bool (by simp [pairB, h2]), hW⟩
      · go_enter Try.func94, Try.ntmps94
        go_wp2_with (first | (go_at_call 90; refine (spec_cmGood _ _ _ _ _ _).mono ?_; rintro e w1 ⟨rfl, hb⟩; replace hW := (by first | exact hW.call hb | exact (hW.alloc _).call hb | exact ((hW.alloc _).alloc _).call hb | exact (((hW.alloc _).alloc _).alloc _).call hb); replace hB := (by first | exact hB.keep hb | exact (hB.alloc _).keep hb | exact ((hB.alloc _).alloc _).keep hb | exact (((hB.alloc _).alloc _).alloc _).keep hb); replace hC := (by first | exact hC.keep hb | exact (hC.alloc _).keep hb | exact ((hC.alloc _).alloc _).keep hb | exact (((hC.alloc _).alloc _).alloc _).keep hb); clear hB_l hB_0 hB_1 hB_2 hB_3 hB_4 hC_l hC_0 hC_1 hC_2 hC_3 hC_4; have hB_l := hB.lt; have hB_0 := hB.cell 0 _ rfl; have hB_1 := hB.cell 1 _ rfl; have hB_2 := hB.cell 2 _ rfl; have hB_3 := hB.cell 3 _ rfl; have hB_4 := hB.cell 4 _ rfl; have hC_l := hC.lt; have hC_0 := hC.cell 0 _ rfl; have hC_1 := hC.cell 1 _ rfl; have hC_2 := hC.cell 2 _ rfl; have hC_3 := hC.cell 3 _ rfl; have hC_4 := hC.cell 4 _ rfl))
        go_ret
        exact ⟨ret_bool (by simp [pairB, h, h', h2]), hW⟩
set_option maxHeartbeats 1000000 in
theorem impl_areBoth (p m v b : Int) (o : Bool) (p' m' v' b' : Int) (o' : Bool) (w : World) :
    Calls Try.prog 92 #[.agg #[.int .i64 p, .int .i64 m, .int .i64 v, .int .i64 b, .bool o], .agg #[.int .i64 p', .int .i64 m', .int .i64 v', .int .i64 b', .bool o']] w fun e w' => e = .returned (.bool (pairB p m v b o p' m' v' b' o')) ∧ Bl w w' := by
  have hW := ((Bl.refl w).alloc (.cells #[.int .i64 p, .int .i64 m, .int .i64 v, .int .i64 b, .bool o] 38)).alloc (.cells #[.int .i64 p', .int .i64 m', .int .i64 v', .int .i64 b', .bool o'] 38)
  have hB := (Blk.new w 38 #[.int .i64 p, .int .i64 m, .int .i64 v, .int .i64 b, .bool o]).alloc (.cells #[.int .i64 p', .int .i64 m', .int .i64 v', .int .i64 b', .bool o'] 38)
  have hC : Blk _ (w.heap.size + 1) _ _ := Blk.new (w.alloc (.cells #[.int .i64 p, .int .i64 m, .int .i64 v, .int .i64 b, .bool o] 38)) 38 #[.int .i64 p', .int .i64 m', .int .i64 v', .int .i64 b', .bool o']
  have hB_l := hB.lt
  have hB_0 := hB.cell 0 _ rfl
  have hB_1 := hB.cell 1 _ rfl
  have hB_2 := hB.cell 2 _ rfl
  have hB_3 := hB.cell 3 _ rfl
  have hB_4 := hB.cell 4 _ rfl
  have hC_l := hC.lt
  have hC_0 := hC.cell 0 _ rfl
  have hC_1 := hC.cell 1 _ rfl
  have hC_2 := hC.cell 2 _ rfl
  have hC_3 := hC.cell 3 _ rfl
  have hC_4 := hC.cell 4 _ rfl
  rcases h : goodB p m v b o
  · go_enter Try.func92, Try.ntmps92
    go_wp2_with (first | (go_at_call 88; refine (impl_isSealed _ _ _ _ _ _).mono ?_; rintro e w1 ⟨rfl, hb⟩; replace hW := (by first | exact hW.call hb | exact (hW.alloc _).call hb | exact ((hW.alloc _).alloc _).call hb | exact (((hW.alloc _).alloc _).alloc _).call hb); replace hB := (by first | exact hB.keep hb | exact (hB.alloc _).keep hb | exact ((hB.alloc _).alloc _).keep hb | exact (((hB.alloc _).alloc _).alloc _).keep hb); replace hC := (by first | exact hC.keep hb | exact (hC.alloc _).keep hb | exact ((hC.alloc _).alloc _).keep hb | exact (((hC.alloc _).alloc _).alloc _).keep hb); clear hB_l hB_0 hB_1 hB_2 hB_3 hB_4 hC_l hC_0 hC_1 hC_2 hC_3 hC_4; have hB_l := hB.lt; have hB_0 := hB.cell 0 _ rfl; have hB_1 := hB.cell 1 _ rfl; have hB_2 := hB.cell 2 _ rfl; have hB_3 := hB.cell 3 _ rfl; have hB_4 := hB.cell 4 _ rfl; have hC_l := hC.lt; have hC_0 := hC.cell 0 _ rfl; have hC_1 := hC.cell 1 _ rfl; have hC_2 := hC.cell 2 _ rfl; have hC_3 := hC.cell 3 _ rfl; have hC_4 := hC.cell 4 _ rfl))
    go_ret
    exact ⟨ret_bool (by simp [pairB, h]), hW⟩
  · rcases h' : goodB p' m' v' b' o'
    · go_enter Try.func92, Try.ntmps92
      go_wp2_with (first | (go_at_call 88; refine (impl_isSealed _ _ _ _ _ _).mono ?_; rintro e w1 ⟨rfl, hb⟩; replace hW := (by first | exact hW.call hb | exact (hW.alloc _).call hb | exact ((hW.alloc _).alloc _).call hb | exact (((hW.alloc _).alloc _).alloc _).call hb); replace hB := (by first | exact hB.keep hb | exact (hB.alloc _).keep hb | exact ((hB.alloc _).alloc _).keep hb | exact (((hB.alloc _).alloc _).alloc _).keep hb); replace hC := (by first | exact hC.keep hb | exact (hC.alloc _).keep hb | exact ((hC.alloc _).alloc _).keep hb | exact (((hC.alloc _).alloc _).alloc _).keep hb); clear hB_l hB_0 hB_1 hB_2 hB_3 hB_4 hC_l hC_0 hC_1 hC_2 hC_3 hC_4; have hB_l := hB.lt; have hB_0 := hB.cell 0 _ rfl; have hB_1 := hB.cell 1 _ rfl; have hB_2 := hB.cell 2 _ rfl; have hB_3 := hB.cell 3 _ rfl; have hB_4 := hB.cell 4 _ rfl; have hC_l := hC.lt; have hC_0 := hC.cell 0 _ rfl; have hC_1 := hC.cell 1 _ rfl; have hC_2 := hC.cell 2 _ rfl; have hC_3 := hC.cell 3 _ rfl; have hC_4 := hC.cell 4 _ rfl))
      go_ret
      exact ⟨ret_bool (by simp [pairB, h']), hW⟩
    · rcases h2 : (p == 0)
      · go_enter Try.func92, Try.ntmps92
        go_wp2_with (first | (go_at_call 88; refine (impl_isSealed _ _ _ _ _ _).mono ?_; rintro e w1 ⟨rfl, hb⟩; replace hW := (by first | exact hW.call hb | exact (hW.alloc _).call hb | exact ((hW.alloc _).alloc _).call hb | exact (((hW.alloc _).alloc _).alloc _).call hb); replace hB := (by first | exact hB.keep hb | exact (hB.alloc _).keep hb | exact ((hB.alloc _).alloc _).keep hb | exact (((hB.alloc _).alloc _).alloc _).keep hb); replace hC := (by first | exact hC.keep hb | exact (hC.alloc _).keep hb | exact ((hC.alloc _).alloc _).keep hb | exact (((hC.alloc _).alloc _).alloc _).keep hb); clear hB_l hB_0 hB_1 hB_2 hB_3 hB_4 hC_l hC_0 hC_1 hC_2 hC_3 hC_4; have hB_l := hB.lt; have hB_0 := hB.cell 0 _ rfl; have hB_1 := hB.cell 1 _ rfl; have hB_2 := hB.cell 2 _ rfl; have hB_3 := hB.cell 3 _ rfl; have hB_4 := hB.cell 4 _ rfl; have hC_l := hC.lt; have hC_0 := hC.cell 0 _ rfl; have hC_1 := hC.cell 1 _ rfl; have hC_2 := hC.cell 2 _ rfl; have hC_3 := hC.cell 3 _ rfl; have hC_4 := hC.cell 4 _ rfl))
        go_ret
        exact ⟨ret_bool (by simp [pairB, h2]), hW⟩
      · go_enter Try.func92, Try.ntmps92
        go_wp2_with (first | (go_at_call 88; refine (impl_isSealed _ _ _ _ _ _).mono ?_; rintro e w1 ⟨rfl, hb⟩; replace hW := (by first | exact hW.call hb | exact (hW.alloc _).call hb | exact ((hW.alloc _).alloc _).call hb | exact (((hW.alloc _).alloc _).alloc _).call hb); replace hB := (by first | exact hB.keep hb | exact (hB.alloc _).keep hb | exact ((hB.alloc _).alloc _).keep hb | exact (((hB.alloc _).alloc _).alloc _).keep hb); replace hC := (by first | exact hC.keep hb | exact (hC.alloc _).keep hb | exact ((hC.alloc _).alloc _).keep hb | exact (((hC.alloc _).alloc _).alloc _).keep hb); clear hB_l hB_0 hB_1 hB_2 hB_3 hB_4 hC_l hC_0 hC_1 hC_2 hC_3 hC_4; have hB_l := hB.lt; have hB_0 := hB.cell 0 _ rfl; have hB_1 := hB.cell 1 _ rfl; have hB_2 := hB.cell 2 _ rfl; have hB_3 := hB.cell 3 _ rfl; have hB_4 := hB.cell 4 _ rfl; have hC_l := hC.lt; have hC_0 := hC.cell 0 _ rfl; have hC_1 := hC.cell 1 _ rfl; have hC_2 := hC.cell 2 _ rfl; have hC_3 := hC.cell 3 _ rfl; have hC_4 := hC.cell 4 _ rfl))
        go_ret
        exact ⟨ret_bool (by simp [pairB, h, h', h2]), hW⟩
theorem spec_cmFault (p m v b : Int) (o : Bool) (w : World) (hg : goodB p m v b o = true) :
    Calls Try.prog 95 #[.agg #[.int .i64 p, .int .i64 m, .int .i64 v, .int .i64 b, .bool o]] w fun e w' => e = .returned (.int .i64 (faultN p m v b o)) ∧ Bl w w' := by
  have hW := (Bl.refl w).alloc (.cells #[.int .i64 p, .int .i64 m, .int .i64 v, .int .i64 b, .bool o] 38)
  have hB := Blk.new w 38 #[.int .i64 p, .int .i64 m, .int .i64 v, .int .i64 b, .bool o]
  have hB_l := hB.lt
  have hB_0 := hB.cell 0 _ rfl
  have hB_1 := hB.cell 1 _ rfl
  have hB_2 := hB.cell 2 _ rfl
  have hB_3 := hB.cell 3 _ rfl
  have hB_4 := hB.cell 4 _ rfl
  cases o
  · go_enter Try.func95, Try.ntmps95
    go_wp2
    go_ret
    exact ⟨rfl, hW⟩
  · rcases ht : trueB p m v b true
    all_goals
      go_enter Try.func95, Try.ntmps95
      go_wp2_with (first | (go_at_call 97; refine (spec_cmTrue _ _ _ _ _ _ hg).mono ?_; rintro e w1 ⟨rfl, hb⟩; replace hW := (by first | exact hW.call hb | exact (hW.alloc _).call hb | exact ((hW.alloc _).alloc _).call hb | exact (((hW.alloc _).alloc _).alloc _).call hb); replace hB := (by first | exact hB.keep hb | exact (hB.alloc _).keep hb | exact ((hB.alloc _).alloc _).keep hb | exact (((hB.alloc _).alloc _).alloc _).keep hb); clear hB_l hB_0 hB_1 hB_2 hB_3 hB_4; have hB_l := hB.lt; have hB_0 := hB.cell 0 _ rfl; have hB_1 := hB.cell 1 _ rfl; have hB_2 := hB.cell 2 _ rfl; have hB_3 := hB.cell 3 _ rfl; have hB_4 := hB.cell 4 _ rfl))
      go_ret
      exact ⟨by first | rfl | rw [faultB_open ht] <;> rfl | rw [faultN, faultB_open ht] <;> rfl, hW⟩
theorem impl_isFaulty (p m v b : Int) (o : Bool) (w : World) (hg : goodB p m v b o = true) :
    Calls Try.prog 93 #[.agg #[.int .i64 p, .int .i64 m, .int .i64 v, .int .i64 b, .bool o]] w fun e w' => e = .returned (.bool (faultB p m v b o)) ∧ Bl w w' := by
  have hW := (Bl.refl w).alloc (.cells #[.int .i64 p, .int .i64 m, .int .i64 v, .int .i64 b, .bool o] 38)
  have hB := Blk.new w 38 #[.int .i64 p, .int .i64 m, .int .i64 v, .int .i64 b, .bool o]
  have hB_l := hB.lt
  have hB_0 := hB.cell 0 _ rfl
  have hB_1 := hB.cell 1 _ rfl
  have hB_2 := hB.cell 2 _ rfl
  have hB_3 := hB.cell 3 _ rfl
  have hB_4 := hB.cell 4 _ rfl
  cases o
  · go_enter Try.func93, Try.ntmps93
    go_wp2
    go_ret
    exact ⟨rfl, hW⟩
  · rcases ht : trueB p m v b true
    all_goals
      go_enter Try.func93, Try.ntmps93
      go_wp2_with (first | (go_at_call 89; refine (impl_isTrue _ _ _ _ _ _ hg).mono ?_; rintro e w1 ⟨rfl, hb⟩; replace hW := (by first | exact hW.call hb | exact (hW.alloc _).call hb | exact ((hW.alloc _).alloc _).call hb | exact (((hW.alloc _).alloc _).alloc _).call hb); replace hB := (by first | exact hB.keep hb | exact (hB.alloc _).keep hb | exact ((hB.alloc _).alloc _).keep hb | exact (((hB.alloc _).alloc _).alloc _).keep hb); clear hB_l hB_0 hB_1 hB_2 hB_3 hB_4; have hB_l := hB.lt; have hB_0 := hB.cell 0 _ rfl; have hB_1 := hB.cell 1 _ rfl; have hB_2 := hB.cell 2 _ rfl; have hB_3 := hB.cell 3 _ rfl; have hB_4 := hB.cell 4 _ rfl))
      go_ret
      exact ⟨by first | rfl | rw [faultB_open ht] <;> rfl | rw [faultN, faultB_open ht] <;> rfl, hW⟩
end Go.Proofs.Ytglgaicbcackbaa
