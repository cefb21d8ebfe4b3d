/- Contracts of an operation of two numbers, on both sides.
   Conditions: numbers of a width of at most four bits. -/
import Derived.Test.YtdndkkaacfbkkaaGreatDoorPsf
namespace Go.Proofs.YtdndkkaacfbkkaaGreatDoor
open Go.RowKit
set_option linter.unusedVariables false
/-- The result of an operation. -/
def opV (op : ByteArray) (w x y : Int) : Int :=
  if op = ⟨#[43]⟩ then (x + y) % 2 ^ w.toNat else if op = ⟨#[45]⟩ then (x - y) % 2 ^ w.toNat else if op = ⟨#[42]⟩ then x * y else if op = ⟨#[60]⟩ then (if x < y then 1 else 0)
  else if op = ⟨#[61]⟩ then (if x = y then 1 else 0) else if op = ⟨#[38]⟩ then bits .and .i64 x y else if op = ⟨#[124]⟩ then bits .or .i64 x y else bits .xor .i64 x y
theorem and_all : ∀ s, s < 46 → bits .and .i64 ((s : Nat) - 15) 1 = ((s : Nat) - 15) % 2 ∧ bits .and .i64 ((s : Nat) - 15) 3 = ((s : Nat) - 15) % 4 ∧ bits .and .i64 ((s : Nat) - 15) 7 = ((s : Nat) - 15) % 8 ∧ bits .and .i64 ((s : Nat) - 15) 15 = ((s : Nat) - 15) % 16 := by decide +kernel
theorem and_m {d : Int} (h : -15 ≤ d ∧ d ≤ 30) : bits .and .i64 d 1 = d % 2 ∧ bits .and .i64 d 3 = d % 4 ∧ bits .and .i64 d 7 = d % 8 ∧ bits .and .i64 d 15 = d % 16 := by
  have := and_all (d + 15).toNat (by omega)
  rw [show (((d + 15).toNat : Nat) : Int) - 15 = d by omega] at this
  exact this
set_option maxRecDepth 20000 in
set_option maxHeartbeats 2000000 in
theorem opI_add (wd x y : Int) (hw : 1 ≤ wd ∧ wd ≤ 4) (hx : 0 ≤ x ∧ x ≤ 15) (hy : 0 ≤ y ∧ y ≤ 15) (w : World) :
    Calls Tryz.prog 112 #[.string ⟨#[43]⟩, .int .i64 wd, .int .i64 x, .int .i64 y] w fun e w' => e = .returned (.int .i64 (opV ⟨#[43]⟩ wd x y)) ∧ w = w' := by
  rcases (by omega : wd = 1 ∨ wd = 2 ∨ wd = 3 ∨ wd = 4) with rfl | rfl | rfl | rfl
  · have HE := Lib.hid (show opV ⟨#[43]⟩ 1 x y = (x + y) % 2 from rfl)
    obtain ⟨b1, b3, b7, b15⟩ := and_m (d := x + y) (by omega)
    go_enter Tryz.func112, Tryz.ntmps112
    go_wp2_with (go_at_call 57; refine (impl_bit _ _).mono ?_; rintro e v5 ⟨rfl, rfl⟩)
    go_ret
    exact ⟨ret_int HE.out.symm, rfl⟩
  · have HE := Lib.hid (show opV ⟨#[43]⟩ 2 x y = (x + y) % 4 from rfl)
    obtain ⟨b1, b3, b7, b15⟩ := and_m (d := x + y) (by omega)
    go_enter Tryz.func112, Tryz.ntmps112
    go_wp2_with (go_at_call 57; refine (impl_bit _ _).mono ?_; rintro e v5 ⟨rfl, rfl⟩)
    go_ret
    exact ⟨ret_int HE.out.symm, rfl⟩
  · have HE := Lib.hid (show opV ⟨#[43]⟩ 3 x y = (x + y) % 8 from rfl)
    obtain ⟨b1, b3, b7, b15⟩ := and_m (d := x + y) (by omega)
    go_enter Tryz.func112, Tryz.ntmps112
    go_wp2_with (go_at_call 57; refine (impl_bit _ _).mono ?_; rintro e v5 ⟨rfl, rfl⟩)
    go_ret
    exact ⟨ret_int HE.out.symm, rfl⟩
  · have HE := Lib.hid (show opV ⟨#[43]⟩ 4 x y = (x + y) % 16 from rfl)
    obtain ⟨b1, b3, b7, b15⟩ := and_m (d := x + y) (by omega)
    go_enter Tryz.func112, Tryz.ntmps112
    go_wp2_with (go_at_call 57; refine (impl_bit _ _).mono ?_; rintro e v5 ⟨rfl, rfl⟩)
    go_ret
    exact ⟨ret_int HE.out.symm, rfl⟩
set_option maxRecDepth 20000 in
set_option maxHeartbeats 2000000 in
theorem opI_sub (wd x y : Int) (hw : 1 ≤ wd ∧ wd ≤ 4) (hx : 0 ≤ x ∧ x ≤ 15) (hy : 0 ≤ y ∧ y ≤ 15) (w : World) :
    Calls Tryz.prog 112 #[.string ⟨#[45]⟩, .int .i64 wd, .int .i64 x, .int .i64 y] w fun e w' => e = .returned (.int .i64 (opV ⟨#[45]⟩ wd x y)) ∧ w = w' := by
  rcases (by omega : wd = 1 ∨ wd = 2 ∨ wd = 3 ∨ wd = 4) with rfl | rfl | rfl | rfl
  · have HE := Lib.hid (show opV ⟨#[45]⟩ 1 x y = (x - y) % 2 from rfl)
    obtain ⟨b1, b3, b7, b15⟩ := and_m (d := x - y) (by omega)
    go_enter Tryz.func112, Tryz.ntmps112
    go_wp2_with (go_at_call 57; refine (impl_bit _ _).mono ?_; rintro e v5 ⟨rfl, rfl⟩)
    go_ret
    exact ⟨ret_int HE.out.symm, rfl⟩
  · have HE := Lib.hid (show opV ⟨#[45]⟩ 2 x y = (x - y) % 4 from rfl)
    obtain ⟨b1, b3, b7, b15⟩ := and_m (d := x - y) (by omega)
    go_enter Tryz.func112, Tryz.ntmps112
    go_wp2_with (go_at_call 57; refine (impl_bit _ _).mono ?_; rintro e v5 ⟨rfl, rfl⟩)
    go_ret
    exact ⟨ret_int HE.out.symm, rfl⟩
  · have HE := Lib.hid (show opV ⟨#[45]⟩ 3 x y = (x - y) % 8 from rfl)
    obtain ⟨b1, b3, b7, b15⟩ := and_m (d := x - y) (by omega)
    go_enter Tryz.func112, Tryz.ntmps112
    go_wp2_with (go_at_call 57; refine (impl_bit _ _).mono ?_; rintro e v5 ⟨rfl, rfl⟩)
    go_ret
    exact ⟨ret_int HE.out.symm, rfl⟩
  · have HE := Lib.hid (show opV ⟨#[45]⟩ 4 x y = (x - y) % 16 from rfl)
    obtain ⟨b1, b3, b7, b15⟩ := and_m (d := x - y) (by omega)
    go_enter Tryz.func112, Tryz.ntmps112
    go_wp2_with (go_at_call 57; refine (impl_bit _ _).mono ?_; rintro e v5 ⟨rfl, rfl⟩)
    go_ret
    exact ⟨ret_int HE.out.symm, rfl⟩
set_option maxRecDepth 20000 in
set_option maxHeartbeats 2000000 in
theorem opI_mul (wd x y : Int) (hw : 1 ≤ wd ∧ wd ≤ 4) (hx : 0 ≤ x ∧ x ≤ 15) (hy : 0 ≤ y ∧ y ≤ 15) (w : World) :
    Calls Tryz.prog 112 #[.string ⟨#[42]⟩, .int .i64 wd, .int .i64 x, .int .i64 y] w fun e w' => e = .returned (.int .i64 (opV ⟨#[42]⟩ wd x y)) ∧ w = w' := by
  have HE := Lib.hid (show opV ⟨#[42]⟩ wd x y = x * y from rfl)
  have m1 : x * y ≤ 15 * 15 := Int.mul_le_mul hx.2 hy.2 hy.1 (by omega)
  have m2 : 0 ≤ x * y := Int.mul_nonneg hx.1 hy.1
  have m3 : wrap64 (x * y) = x * y := by unfold wrap64; omega
  rcases (by omega : wd = 1 ∨ wd = 2 ∨ wd = 3 ∨ wd = 4) with rfl | rfl | rfl | rfl
  all_goals
    go_enter Tryz.func112, Tryz.ntmps112
    go_wp2_with (go_at_call 57; refine (impl_bit _ _).mono ?_; rintro e v5 ⟨rfl, rfl⟩)
    go_ret
    exact ⟨ret_int HE.out.symm, rfl⟩
set_option maxRecDepth 20000 in
set_option maxHeartbeats 2000000 in
theorem opI_lss (wd x y : Int) (hw : 1 ≤ wd ∧ wd ≤ 4) (hx : 0 ≤ x ∧ x ≤ 15) (hy : 0 ≤ y ∧ y ≤ 15) (w : World) :
    Calls Tryz.prog 112 #[.string ⟨#[60]⟩, .int .i64 wd, .int .i64 x, .int .i64 y] w fun e w' => e = .returned (.int .i64 (opV ⟨#[60]⟩ wd x y)) ∧ w = w' := by
  by_cases hc : x < y
  · have HE := Lib.hid (show opV ⟨#[60]⟩ wd x y = 1 from (show opV ⟨#[60]⟩ wd x y = (if x < y then 1 else 0) from rfl).trans (if_pos hc))
    go_enter Tryz.func112, Tryz.ntmps112
    go_wp2_with (go_at_call 57; refine (impl_bit _ _).mono ?_; rintro e v5 ⟨rfl, rfl⟩)
    go_ret
    exact ⟨ret_int HE.out.symm, rfl⟩
  · have HE := Lib.hid (show opV ⟨#[60]⟩ wd x y = 0 from (show opV ⟨#[60]⟩ wd x y = (if x < y then 1 else 0) from rfl).trans (if_neg hc))
    go_enter Tryz.func112, Tryz.ntmps112
    go_wp2_with (go_at_call 57; refine (impl_bit _ _).mono ?_; rintro e v5 ⟨rfl, rfl⟩)
    go_ret
    exact ⟨ret_int HE.out.symm, rfl⟩
set_option maxRecDepth 20000 in
set_option maxHeartbeats 2000000 in
theorem opI_eql (wd x y : Int) (hw : 1 ≤ wd ∧ wd ≤ 4) (hx : 0 ≤ x ∧ x ≤ 15) (hy : 0 ≤ y ∧ y ≤ 15) (w : World) :
    Calls Tryz.prog 112 #[.string ⟨#[61]⟩, .int .i64 wd, .int .i64 x, .int .i64 y] w fun e w' => e = .returned (.int .i64 (opV ⟨#[61]⟩ wd x y)) ∧ w = w' := by
  by_cases hc : x = y
  · have HE := Lib.hid (show opV ⟨#[61]⟩ wd x y = 1 from (show opV ⟨#[61]⟩ wd x y = (if x = y then 1 else 0) from rfl).trans (if_pos hc))
    have e1 : (x == y) = true := by simpa using hc
    clear hc
    go_enter Tryz.func112, Tryz.ntmps112
    go_wp2_with (go_at_call 57; refine (impl_bit _ _).mono ?_; rintro e v5 ⟨rfl, rfl⟩)
    go_ret
    exact ⟨ret_int HE.out.symm, rfl⟩
  · have HE := Lib.hid (show opV ⟨#[61]⟩ wd x y = 0 from (show opV ⟨#[61]⟩ wd x y = (if x = y then 1 else 0) from rfl).trans (if_neg hc))
    have e1 : (x == y) = false := by simpa using hc
    clear hc
    go_enter Tryz.func112, Tryz.ntmps112
    go_wp2_with (go_at_call 57; refine (impl_bit _ _).mono ?_; rintro e v5 ⟨rfl, rfl⟩)
    go_ret
    exact ⟨ret_int HE.out.symm, rfl⟩
set_option maxRecDepth 20000 in
set_option maxHeartbeats 2000000 in
theorem opI_and (wd x y : Int) (hw : 1 ≤ wd ∧ wd ≤ 4) (hx : 0 ≤ x ∧ x ≤ 15) (hy : 0 ≤ y ∧ y ≤ 15) (w : World) :
    Calls Tryz.prog 112 #[.string ⟨#[38]⟩, .int .i64 wd, .int .i64 x, .int .i64 y] w fun e w' => e = .returned (.int .i64 (opV ⟨#[38]⟩ wd x y)) ∧ w = w' := by
  have HE := Lib.hid (show opV ⟨#[38]⟩ wd x y = bits .and .i64 x y from rfl)
  rcases (by omega : wd = 1 ∨ wd = 2 ∨ wd = 3 ∨ wd = 4) with rfl | rfl | rfl | rfl
  all_goals
    go_enter Tryz.func112, Tryz.ntmps112
    go_wp2_with (go_at_call 57; refine (impl_bit _ _).mono ?_; rintro e v5 ⟨rfl, rfl⟩)
    go_ret
    exact ⟨ret_int HE.out.symm, rfl⟩
set_option maxRecDepth 20000 in
set_option maxHeartbeats 2000000 in
theorem opI_or (wd x y : Int) (hw : 1 ≤ wd ∧ wd ≤ 4) (hx : 0 ≤ x ∧ x ≤ 15) (hy : 0 ≤ y ∧ y ≤ 15) (w : World) :
    Calls Tryz.prog 112 #[.string ⟨#[124]⟩, .int .i64 wd, .int .i64 x, .int .i64 y] w fun e w' => e = .returned (.int .i64 (opV ⟨#[124]⟩ wd x y)) ∧ w = w' := by
  have HE := Lib.hid (show opV ⟨#[124]⟩ wd x y = bits .or .i64 x y from rfl)
  rcases (by omega : wd = 1 ∨ wd = 2 ∨ wd = 3 ∨ wd = 4) with rfl | rfl | rfl | rfl
  all_goals
    go_enter Tryz.func112, Tryz.ntmps112
    go_wp2_with (go_at_call 57; refine (impl_bit _ _).mono ?_; rintro e v5 ⟨rfl, rfl⟩)
    go_ret
    exact ⟨ret_int HE.out.symm, rfl⟩
set_option maxRecDepth 20000 in
set_option maxHeartbeats 2000000 in
theorem opI_xor (wd x y : Int) (hw : 1 ≤ wd ∧ wd ≤ 4) (hx : 0 ≤ x ∧ x ≤ 15) (hy : 0 ≤ y ∧ y ≤ 15) (w : World) :
    Calls Tryz.prog 112 #[.string ⟨#[94]⟩, .int .i64 wd, .int .i64 x, .int .i64 y] w fun e w' => e = .returned (.int .i64 (opV ⟨#[94]⟩ wd x y)) ∧ w = w' := by
  have HE := Lib.hid (show opV ⟨#[94]⟩ wd x y = bits .xor .i64 x y from rfl)
  rcases (by omega : wd = 1 ∨ wd = 2 ∨ wd = 3 ∨ wd = 4) with rfl | rfl | rfl | rfl
  all_goals
    go_enter Tryz.func112, Tryz.ntmps112
    go_wp2_with (go_at_call 57; refine (impl_bit _ _).mono ?_; rintro e v5 ⟨rfl, rfl⟩)
    go_ret
    exact ⟨ret_int HE.out.symm, rfl⟩
set_option maxRecDepth 20000 in
set_option maxHeartbeats 2000000 in
theorem opS_add (wd x y : Int) (hw : 1 ≤ wd ∧ wd ≤ 4) (hx : 0 ≤ x ∧ x ≤ 15) (hy : 0 ≤ y ∧ y ≤ 15) (w : World) :
    Calls Tryz.prog 81 #[.string ⟨#[43]⟩, .int .i64 wd, .int .i64 x, .int .i64 y] w fun e w' => e = .returned (.int .i64 (opV ⟨#[43]⟩ wd x y)) ∧ w = w' := by
  rcases (by omega : wd = 1 ∨ wd = 2 ∨ wd = 3 ∨ wd = 4) with rfl | rfl | rfl | rfl
  · have HE := Lib.hid (show opV ⟨#[43]⟩ 1 x y = (x + y) % 2 from rfl)
    have r1 : (x + y).tmod 2 = (x + y) % 2 := Int.tmod_eq_emod_of_nonneg (by omega)
    go_enter Tryz.func81, Tryz.ntmps81
    go_wp2_with (go_at_call 110; refine (spec_btMod _ _ _ (by omega) (by omega) (by omega) (by omega)).mono ?_; rintro e v5 ⟨rfl, rfl⟩)
    go_ret
    exact ⟨ret_int HE.out.symm, rfl⟩
  · have HE := Lib.hid (show opV ⟨#[43]⟩ 2 x y = (x + y) % 4 from rfl)
    have r1 : (x + y).tmod 4 = (x + y) % 4 := Int.tmod_eq_emod_of_nonneg (by omega)
    go_enter Tryz.func81, Tryz.ntmps81
    go_wp2_with (go_at_call 110; refine (spec_btMod _ _ _ (by omega) (by omega) (by omega) (by omega)).mono ?_; rintro e v5 ⟨rfl, rfl⟩)
    go_ret
    exact ⟨ret_int HE.out.symm, rfl⟩
  · have HE := Lib.hid (show opV ⟨#[43]⟩ 3 x y = (x + y) % 8 from rfl)
    have r1 : (x + y).tmod 8 = (x + y) % 8 := Int.tmod_eq_emod_of_nonneg (by omega)
    go_enter Tryz.func81, Tryz.ntmps81
    go_wp2_with (go_at_call 110; refine (spec_btMod _ _ _ (by omega) (by omega) (by omega) (by omega)).mono ?_; rintro e v5 ⟨rfl, rfl⟩)
    go_ret
    exact ⟨ret_int HE.out.symm, rfl⟩
  · have HE := Lib.hid (show opV ⟨#[43]⟩ 4 x y = (x + y) % 16 from rfl)
    have r1 : (x + y).tmod 16 = (x + y) % 16 := Int.tmod_eq_emod_of_nonneg (by omega)
    go_enter Tryz.func81, Tryz.ntmps81
    go_wp2_with (go_at_call 110; refine (spec_btMod _ _ _ (by omega) (by omega) (by omega) (by omega)).mono ?_; rintro e v5 ⟨rfl, rfl⟩)
    go_ret
    exact ⟨ret_int HE.out.symm, rfl⟩
set_option maxRecDepth 20000 in
set_option maxHeartbeats 2000000 in
theorem opS_sub (wd x y : Int) (hw : 1 ≤ wd ∧ wd ≤ 4) (hx : 0 ≤ x ∧ x ≤ 15) (hy : 0 ≤ y ∧ y ≤ 15) (w : World) :
    Calls Tryz.prog 81 #[.string ⟨#[45]⟩, .int .i64 wd, .int .i64 x, .int .i64 y] w fun e w' => e = .returned (.int .i64 (opV ⟨#[45]⟩ wd x y)) ∧ w = w' := by
  rcases (by omega : wd = 1 ∨ wd = 2 ∨ wd = 3 ∨ wd = 4) with rfl | rfl | rfl | rfl
  · have HE := Lib.hid (show opV ⟨#[45]⟩ 1 x y = (x - y) % 2 from rfl)
    go_enter Tryz.func81, Tryz.ntmps81
    go_wp2_with (go_at_call 110; refine (spec_btMod _ _ _ (by omega) (by omega) (by omega) (by omega)).mono ?_; rintro e v5 ⟨rfl, rfl⟩)
    go_ret
    exact ⟨ret_int HE.out.symm, rfl⟩
  · have HE := Lib.hid (show opV ⟨#[45]⟩ 2 x y = (x - y) % 4 from rfl)
    go_enter Tryz.func81, Tryz.ntmps81
    go_wp2_with (go_at_call 110; refine (spec_btMod _ _ _ (by omega) (by omega) (by omega) (by omega)).mono ?_; rintro e v5 ⟨rfl, rfl⟩)
    go_ret
    exact ⟨ret_int HE.out.symm, rfl⟩
  · have HE := Lib.hid (show opV ⟨#[45]⟩ 3 x y = (x - y) % 8 from rfl)
    go_enter Tryz.func81, Tryz.ntmps81
    go_wp2_with (go_at_call 110; refine (spec_btMod _ _ _ (by omega) (by omega) (by omega) (by omega)).mono ?_; rintro e v5 ⟨rfl, rfl⟩)
    go_ret
    exact ⟨ret_int HE.out.symm, rfl⟩
  · have HE := Lib.hid (show opV ⟨#[45]⟩ 4 x y = (x - y) % 16 from rfl)
    go_enter Tryz.func81, Tryz.ntmps81
    go_wp2_with (go_at_call 110; refine (spec_btMod _ _ _ (by omega) (by omega) (by omega) (by omega)).mono ?_; rintro e v5 ⟨rfl, rfl⟩)
    go_ret
    exact ⟨ret_int HE.out.symm, rfl⟩
set_option maxRecDepth 20000 in
set_option maxHeartbeats 2000000 in
theorem opS_mul (wd x y : Int) (hw : 1 ≤ wd ∧ wd ≤ 4) (hx : 0 ≤ x ∧ x ≤ 15) (hy : 0 ≤ y ∧ y ≤ 15) (w : World) :
    Calls Tryz.prog 81 #[.string ⟨#[42]⟩, .int .i64 wd, .int .i64 x, .int .i64 y] w fun e w' => e = .returned (.int .i64 (opV ⟨#[42]⟩ wd x y)) ∧ w = w' := by
  have HE := Lib.hid (show opV ⟨#[42]⟩ wd x y = x * y from rfl)
  have m1 : x * y ≤ 15 * 15 := Int.mul_le_mul hx.2 hy.2 hy.1 (by omega)
  have m2 : 0 ≤ x * y := Int.mul_nonneg hx.1 hy.1
  have m3 : wrap64 (x * y) = x * y := by unfold wrap64; omega
  go_enter Tryz.func81, Tryz.ntmps81
  go_wp2_with (go_at_call 110; refine (spec_btMod _ _ _ (by omega) (by omega) (by omega) (by omega)).mono ?_; rintro e v5 ⟨rfl, rfl⟩)
  go_ret
  exact ⟨ret_int HE.out.symm, rfl⟩
set_option maxRecDepth 20000 in
set_option maxHeartbeats 2000000 in
theorem opS_lss (wd x y : Int) (hw : 1 ≤ wd ∧ wd ≤ 4) (hx : 0 ≤ x ∧ x ≤ 15) (hy : 0 ≤ y ∧ y ≤ 15) (w : World) :
    Calls Tryz.prog 81 #[.string ⟨#[60]⟩, .int .i64 wd, .int .i64 x, .int .i64 y] w fun e w' => e = .returned (.int .i64 (opV ⟨#[60]⟩ wd x y)) ∧ w = w' := by
  by_cases hc : x < y
  · have HE := Lib.hid (show opV ⟨#[60]⟩ wd x y = 1 from (show opV ⟨#[60]⟩ wd x y = (if x < y then 1 else 0) from rfl).trans (if_pos hc))
    go_enter Tryz.func81, Tryz.ntmps81
    go_wp2_with (go_at_call 110; refine (spec_btMod _ _ _ (by omega) (by omega) (by omega) (by omega)).mono ?_; rintro e v5 ⟨rfl, rfl⟩)
    go_ret
    exact ⟨ret_int HE.out.symm, rfl⟩
  · have HE := Lib.hid (show opV ⟨#[60]⟩ wd x y = 0 from (show opV ⟨#[60]⟩ wd x y = (if x < y then 1 else 0) from rfl).trans (if_neg hc))
    go_enter Tryz.func81, Tryz.ntmps81
    go_wp2_with (go_at_call 110; refine (spec_btMod _ _ _ (by omega) (by omega) (by omega) (by omega)).mono ?_; rintro e v5 ⟨rfl, rfl⟩)
    go_ret
    exact ⟨ret_int HE.out.symm, rfl⟩
set_option maxRecDepth 20000 in
set_option maxHeartbeats 2000000 in
theorem opS_eql (wd x y : Int) (hw : 1 ≤ wd ∧ wd ≤ 4) (hx : 0 ≤ x ∧ x ≤ 15) (hy : 0 ≤ y ∧ y ≤ 15) (w : World) :
    Calls Tryz.prog 81 #[.string ⟨#[61]⟩, .int .i64 wd, .int .i64 x, .int .i64 y] w fun e w' => e = .returned (.int .i64 (opV ⟨#[61]⟩ wd x y)) ∧ w = w' := by
  by_cases hc : x = y
  · have HE := Lib.hid (show opV ⟨#[61]⟩ wd x y = 1 from (show opV ⟨#[61]⟩ wd x y = (if x = y then 1 else 0) from rfl).trans (if_pos hc))
    have e1 : (x == y) = true := by simpa using hc
    clear hc
    go_enter Tryz.func81, Tryz.ntmps81
    go_wp2_with (go_at_call 110; refine (spec_btMod _ _ _ (by omega) (by omega) (by omega) (by omega)).mono ?_; rintro e v5 ⟨rfl, rfl⟩)
    go_ret
    exact ⟨ret_int HE.out.symm, rfl⟩
  · have HE := Lib.hid (show opV ⟨#[61]⟩ wd x y = 0 from (show opV ⟨#[61]⟩ wd x y = (if x = y then 1 else 0) from rfl).trans (if_neg hc))
    have e1 : (x == y) = false := by simpa using hc
    clear hc
    go_enter Tryz.func81, Tryz.ntmps81
    go_wp2_with (go_at_call 110; refine (spec_btMod _ _ _ (by omega) (by omega) (by omega) (by omega)).mono ?_; rintro e v5 ⟨rfl, rfl⟩)
    go_ret
    exact ⟨ret_int HE.out.symm, rfl⟩
set_option maxRecDepth 20000 in
set_option maxHeartbeats 2000000 in
theorem opS_and (wd x y : Int) (hw : 1 ≤ wd ∧ wd ≤ 4) (hx : 0 ≤ x ∧ x ≤ 15) (hy : 0 ≤ y ∧ y ≤ 15) (w : World) :
    Calls Tryz.prog 81 #[.string ⟨#[38]⟩, .int .i64 wd, .int .i64 x, .int .i64 y] w fun e w' => e = .returned (.int .i64 (opV ⟨#[38]⟩ wd x y)) ∧ w = w' := by
  have HE := Lib.hid (show opV ⟨#[38]⟩ wd x y = bits .and .i64 x y from rfl)
  go_enter Tryz.func81, Tryz.ntmps81
  go_wp2_with (go_at_call 110; refine (spec_btMod _ _ _ (by omega) (by omega) (by omega) (by omega)).mono ?_; rintro e v5 ⟨rfl, rfl⟩)
  go_ret
  exact ⟨ret_int HE.out.symm, rfl⟩
set_option maxRecDepth 20000 in
set_option maxHeartbeats 2000000 in
theorem opS_or (wd x y : Int) (hw : 1 ≤ wd ∧ wd ≤ 4) (hx : 0 ≤ x ∧ x ≤ 15) (hy : 0 ≤ y ∧ y ≤ 15) (w : World) :
    Calls Tryz.prog 81 #[.string ⟨#[124]⟩, .int .i64 wd, .int .i64 x, .int .i64 y] w fun e w' => e = .returned (.int .i64 (opV ⟨#[124]⟩ wd x y)) ∧ w = w' := by
  have HE := Lib.hid (show opV ⟨#[124]⟩ wd x y = bits .or .i64 x y from rfl)
  go_enter Tryz.func81, Tryz.ntmps81
  go_wp2_with (go_at_call 110; refine (spec_btMod _ _ _ (by omega) (by omega) (by omega) (by omega)).mono ?_; rintro e v5 ⟨rfl, rfl⟩)
  go_ret
  exact ⟨ret_int HE.out.symm, rfl⟩
set_option maxRecDepth 20000 in
set_option maxHeartbeats 2000000 in
theorem opS_xor (wd x y : Int) (hw : 1 ≤ wd ∧ wd ≤ 4) (hx : 0 ≤ x ∧ x ≤ 15) (hy : 0 ≤ y ∧ y ≤ 15) (w : World) :
    Calls Tryz.prog 81 #[.string ⟨#[94]⟩, .int .i64 wd, .int .i64 x, .int .i64 y] w fun e w' => e = .returned (.int .i64 (opV ⟨#[94]⟩ wd x y)) ∧ w = w' := by
  have HE := Lib.hid (show opV ⟨#[94]⟩ wd x y = bits .xor .i64 x y from rfl)
  go_enter Tryz.func81, Tryz.ntmps81
  go_wp2_with (go_at_call 110; refine (spec_btMod _ _ _ (by omega) (by omega) (by omega) (by omega)).mono ?_; rintro e v5 ⟨rfl, rfl⟩)
  go_ret
  exact ⟨ret_int HE.out.symm, rfl⟩
theorem impl_operate (op : ByteArray) (ho : op ∈ opsL) (wd x y : Int) (hw : 1 ≤ wd ∧ wd ≤ 4) (hx : 0 ≤ x ∧ x ≤ 15) (hy : 0 ≤ y ∧ y ≤ 15) (w : World) :
    Calls Tryz.prog 112 #[.string op, .int .i64 wd, .int .i64 x, .int .i64 y] w fun e w' => e = .returned (.int .i64 (opV op wd x y)) ∧ w = w' := by
  simp only [opsL, List.mem_cons, List.not_mem_nil, or_false] at ho
  rcases ho with rfl | rfl | rfl | rfl | rfl | rfl | rfl | rfl
  · exact opI_add wd x y hw hx hy w
  · exact opI_sub wd x y hw hx hy w
  · exact opI_mul wd x y hw hx hy w
  · exact opI_lss wd x y hw hx hy w
  · exact opI_eql wd x y hw hx hy w
  · exact opI_and wd x y hw hx hy w
  · exact opI_or wd x y hw hx hy w
  · exact opI_xor wd x y hw hx hy w
theorem spec_laApply (op : ByteArray) (ho : op ∈ opsL) (wd x y : Int) (hw : 1 ≤ wd ∧ wd ≤ 4) (hx : 0 ≤ x ∧ x ≤ 15) (hy : 0 ≤ y ∧ y ≤ 15) (w : World) :
    Calls Tryz.prog 81 #[.string op, .int .i64 wd, .int .i64 x, .int .i64 y] w fun e w' => e = .returned (.int .i64 (opV op wd x y)) ∧ w = w' := by
  simp only [opsL, List.mem_cons, List.not_mem_nil, or_false] at ho
  rcases ho with rfl | rfl | rfl | rfl | rfl | rfl | rfl | rfl
  · exact opS_add wd x y hw hx hy w
  · exact opS_sub wd x y hw hx hy w
  · exact opS_mul wd x y hw hx hy w
  · exact opS_lss wd x y hw hx hy w
  · exact opS_eql wd x y hw hx hy w
  · exact opS_and wd x y hw hx hy w
  · exact opS_or wd x y hw hx hy w
  · exact opS_xor wd x y hw hx hy w
end Go.Proofs.YtdndkkaacfbkkaaGreatDoor
