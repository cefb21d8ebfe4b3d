/- Contracts of SealValue and HideSealed, and the walks of three laws.
   Conditions: none. -/
import Derived.Test.YtglgaicbcackbaaSeb
namespace Go.Proofs.Ytglgaicbcackbaa
open Go.RowKit
set_option linter.unusedVariables false
theorem kept_one {w w1 : World} {cs : Array Value} {e : TypeId} (hb1 : Bl (w.alloc (.cells cs e)) w1) : (∀ (i : Nat) u, cs[i]? = some u → w1.cell? ⟨w.heap.size, i, none⟩ = some u) ∧ ∀ i, w1.frozen? ⟨w.heap.size, i, none⟩ = false := by
  refine ⟨fun i u hu => hb1.cells ?_, fun i => ?_⟩
  · rw [cell_of_row _ w.heap.size i cs e (0, 0) (heap_alloc_new w _)]; exact hu
  · rw [hb1.froz0 _ _ (by simp)]; go_simp
theorem kept_two {w w1 : World} {o : Obj} {cs : Array Value} {e : TypeId} (hb1 : Bl ((w.alloc o).alloc (.cells cs e)) w1) : (∀ (i : Nat) u, cs[i]? = some u → w1.cell? ⟨w.heap.size + 1, i, none⟩ = some u) ∧ ∀ i, w1.frozen? ⟨w.heap.size + 1, i, none⟩ = false := by
  have h := kept_one hb1
  rwa [show (w.alloc o).heap.size = w.heap.size + 1 by simp] at h
theorem kept_first {w w1 : World} {o : Obj} {cs : Array Value} {e : TypeId} (hb1 : Bl ((w.alloc (.cells cs e)).alloc o) w1) : (∀ (i : Nat) u, cs[i]? = some u → w1.cell? ⟨w.heap.size, i, none⟩ = some u) ∧ ∀ i, w1.frozen? ⟨w.heap.size, i, none⟩ = false :=
  kept_one (((Bl.refl _).alloc o).call hb1)
set_option maxHeartbeats 1000000 in
theorem spec_SealValue_t (p v k : Int) (w : World) (h : comB p v k = true) :
    Calls Try.prog 22 #[.int .i64 p, .int .i64 v, .int .i64 k] w fun e w' => e = .returned (.tuple #[.agg #[.int .i64 p, .int .i64 (markF p v (blindF p v k)), .int .i64 v, .int .i64 (blindF p v k), .bool true], .bool true]) ∧ Bl w w' := by
  have h1 : inR p 0 1 = true ∧ inR v 0 65535 = true ∧ inR k 0 1000000000 = true := by simpa [comB, and_assoc] using h
  clear h
  obtain ⟨h1, h2, h3⟩ := h1
  have i1 := inR_iff.1 h1
  have i2 := inR_iff.1 h2
  have i3 := inR_iff.1 h3
  go_enter Try.func22, Try.ntmps22
  go_wp2_with (first | (go_at_call 77; refine (spec_cmParty _ _).mono ?_; rintro e w' ⟨rfl, rfl⟩) | (go_at_call 78; refine (spec_cmValue _ _).mono ?_; rintro e w' ⟨rfl, rfl⟩) | (go_at_call 86; refine (spec_shKey _ _).mono ?_; rintro e w' ⟨rfl, rfl⟩) | (go_at_call 87; refine (spec_cmSeal _ _ _ _ (by omega) (by omega) (by omega)).mono ?_; rintro e w2 ⟨rfl, hb2⟩; obtain ⟨hk, hfr⟩ := kept_one hb2; have k0 := hk 0 _ rfl; have k1 := hk 1 _ rfl; have k2 := hk 2 _ rfl; have k3 := hk 3 _ rfl; have k4 := hk 4 _ rfl; clear hk))
  refine bodyPost_ret (v := .tuple #[.agg #[.int .i64 p, .int .i64 (markF p v (blindF p v k)), .int .i64 v, .int .i64 (blindF p v k), .bool true], .bool true]) (by simp only [results, Try.results22]; go_simp) rfl ⟨rfl, ?_⟩
  have hbw : Bl w w2 := ((Bl.refl w).alloc _).call hb2
  repeat (first | exact hbw | (refine Bl.setCell ?_ (Nat.le_refl _) _))
theorem spec_SealValue_f (p v k : Int) (w : World) (h : comB p v k = false) :
    Calls Try.prog 22 #[.int .i64 p, .int .i64 v, .int .i64 k] w fun e w' => e = .returned (.tuple #[.agg #[.int .i64 0, .int .i64 0, .int .i64 0, .int .i64 0, .bool false], .bool false]) ∧ Bl w w' := by
  go_enter Try.func22, Try.ntmps22
  go_wp2_with (first | (go_at_call 77; refine (spec_cmParty _ _).mono ?_; rintro e w' ⟨rfl, rfl⟩) | (go_at_call 78; refine (spec_cmValue _ _).mono ?_; rintro e w' ⟨rfl, rfl⟩) | (go_at_call 86; refine (spec_shKey _ _).mono ?_; rintro e w' ⟨rfl, rfl⟩) | (go_at_call 87; exfalso; simp_all [comB]; done))
  all_goals
    refine bodyPost_ret (v := .tuple #[.agg #[.int .i64 0, .int .i64 0, .int .i64 0, .int .i64 0, .bool false], .bool false]) (by simp only [results, Try.results22]; go_simp) rfl ⟨rfl, ?_⟩
    repeat (first | exact Bl.refl _ | apply Bl.alloc | (refine Bl.setCell ?_ (Nat.le_refl _) _))
set_option maxHeartbeats 1000000 in
theorem impl_SealValue_t (p v k : Int) (w : World) (h : comB p v k = true) :
    Calls Try.prog 21 #[.int .i64 p, .int .i64 v, .int .i64 k] w fun e w' => e = .returned (.tuple #[.agg #[.int .i64 p, .int .i64 (markF p v (blindF p v k)), .int .i64 v, .int .i64 (blindF p v k), .bool true], .bool true]) ∧ Bl w w' := by
  have h1 : inR p 0 1 = true ∧ inR v 0 65535 = true ∧ inR k 0 1000000000 = true := by simpa [comB, and_assoc] using h
  clear h
  obtain ⟨h1, h2, h3⟩ := h1
  have i1 := inR_iff.1 h1
  have i2 := inR_iff.1 h2
  have i3 := inR_iff.1 h3
  go_enter Try.func21, Try.ntmps21
  go_wp2_with (first | (go_at_call 72; refine (impl_isBit _ _).mono ?_; rintro e w' ⟨rfl, rfl⟩) | (go_at_call 73; refine (impl_isValue _ _).mono ?_; rintro e w' ⟨rfl, rfl⟩) | (go_at_call 81; refine (impl_isKey _ _).mono ?_; rintro e w' ⟨rfl, rfl⟩) | (go_at_call 85; refine (impl_sealed _ _ _ _ (by omega) (by omega) (by omega)).mono ?_; rintro e w2 ⟨rfl, hb2⟩; obtain ⟨hk, hfr⟩ := kept_one hb2; have k0 := hk 0 _ rfl; have k1 := hk 1 _ rfl; have k2 := hk 2 _ rfl; have k3 := hk 3 _ rfl; have k4 := hk 4 _ rfl; clear hk))
  refine bodyPost_ret (v := .tuple #[.agg #[.int .i64 p, .int .i64 (markF p v (blindF p v k)), .int .i64 v, .int .i64 (blindF p v k), .bool true], .bool true]) (by simp only [results, Try.results21]; go_simp) rfl ⟨rfl, ?_⟩
  have hbw : Bl w w2 := ((Bl.refl w).alloc _).call hb2
  repeat (first | exact hbw | (refine Bl.setCell ?_ (Nat.le_refl _) _))
theorem impl_SealValue_f (p v k : Int) (w : World) (h : comB p v k = false) :
    Calls Try.prog 21 #[.int .i64 p, .int .i64 v, .int .i64 k] w fun e w' => e = .returned (.tuple #[.agg #[.int .i64 0, .int .i64 0, .int .i64 0, .int .i64 0, .bool false], .bool false]) ∧ Bl w w' := by
  go_enter Try.func21, Try.ntmps21
  go_wp2_with (first | (go_at_call 72; refine (impl_isBit _ _).mono ?_; rintro e w' ⟨rfl, rfl⟩) | (go_at_call 73; refine (impl_isValue _ _).mono ?_; rintro e w' ⟨rfl, rfl⟩) | (go_at_call 81; refine (impl_isKey _ _).mono ?_; rintro e w' ⟨rfl, rfl⟩) | (go_at_call 85; exfalso; simp_all [comB]; done))
  all_goals
    refine bodyPost_ret (v := .tuple #[.agg #[.int .i64 0, .int .i64 0, .int .i64 0, .int .i64 0, .bool false], .bool false]) (by simp only [results, Try.results21]; go_simp) rfl ⟨rfl, ?_⟩
    repeat (first | exact Bl.refl _ | apply Bl.alloc | (refine Bl.setCell ?_ (Nat.le_refl _) _))
set_option maxHeartbeats 1000000 in
theorem spec_HideSealed_t (p m v b : Int) (o : Bool) (w : World) (h : goodB p m v b o = true) :
    Calls Try.prog 25 #[.agg #[.int .i64 p, .int .i64 m, .int .i64 v, .int .i64 b, .bool o]] w fun e w' => e = .returned (.tuple #[.agg #[.int .i64 p, .int .i64 m, .int .i64 0, .int .i64 0, .bool false], .bool true]) ∧ Bl w w' := by
  go_enter Try.func25, Try.ntmps25
  go_wp2_with (first | (go_at_call 90; refine (spec_cmGood _ _ _ _ _ _).mono ?_; rintro e w2 ⟨rfl, hb2⟩; rw [h]; obtain ⟨hk, hfr⟩ := kept_two hb2; have k0 := hk 0 _ rfl; have k1 := hk 1 _ rfl; have k2 := hk 2 _ rfl; have k3 := hk 3 _ rfl; have k4 := hk 4 _ rfl; clear hk; obtain ⟨hk, _⟩ := kept_first hb2; have m0 := hk 0 _ rfl; have m1 := hk 1 _ rfl; clear hk))
  refine bodyPost_ret (v := .tuple #[.agg #[.int .i64 p, .int .i64 m, .int .i64 0, .int .i64 0, .bool false], .bool true]) (by simp only [results, Try.results25]; go_simp) rfl ⟨rfl, ?_⟩
  have hbw : Bl w w2 := (((Bl.refl w).alloc _).alloc _).call hb2
  repeat (first | exact hbw | (refine Bl.setCell ?_ (Nat.le_succ _) _))
set_option maxHeartbeats 1000000 in
theorem spec_HideSealed_f (p m v b : Int) (o : Bool) (w : World) (h : goodB p m v b o = false) :
    Calls Try.prog 25 #[.agg #[.int .i64 p, .int .i64 m, .int .i64 v, .int .i64 b, .bool o]] w fun e w' => e = .returned (.tuple #[.agg #[.int .i64 0, .int .i64 0, .int .i64 0, .int .i64 0, .bool false], .bool false]) ∧ Bl w w' := by
  go_enter Try.func25, Try.ntmps25
  go_wp2_with (first | (go_at_call 90; refine (spec_cmGood _ _ _ _ _ _).mono ?_; rintro e w2 ⟨rfl, hb2⟩; rw [h]; obtain ⟨hk, hfr⟩ := kept_two hb2; have k0 := hk 0 _ rfl; have k1 := hk 1 _ rfl; have k2 := hk 2 _ rfl; have k3 := hk 3 _ rfl; have k4 := hk 4 _ rfl; clear hk))
  refine bodyPost_ret (v := .tuple #[.agg #[.int .i64 0, .int .i64 0, .int .i64 0, .int .i64 0, .bool false], .bool false]) (by simp only [results, Try.results25]; go_simp) rfl ⟨rfl, ?_⟩
  have hbw : Bl w w2 := (((Bl.refl w).alloc _).alloc _).call hb2
  repeat (first | exact hbw | (refine Bl.setCell ?_ (Nat.le_succ _) _))
set_option maxHeartbeats 1000000 in
theorem impl_HideSealed_t (p m v b : Int) (o : Bool) (w : World) (h : goodB p m v b o = true) :
    Calls Try.prog 24 #[.agg #[.int .i64 p, .int .i64 m, .int .i64 v, .int .i64 b, .bool o]] w fun e w' => e = .returned (.tuple #[.agg #[.int .i64 p, .int .i64 m, .int .i64 0, .int .i64 0, .bool false], .bool true]) ∧ Bl w w' := by
  go_enter Try.func24, Try.ntmps24
  go_wp2_with (first | (go_at_call 88; refine (impl_isSealed _ _ _ _ _ _).mono ?_; rintro e w2 ⟨rfl, hb2⟩; rw [h]; obtain ⟨hk, hfr⟩ := kept_two hb2; have k0 := hk 0 _ rfl; have k1 := hk 1 _ rfl; have k2 := hk 2 _ rfl; have k3 := hk 3 _ rfl; have k4 := hk 4 _ rfl; clear hk; obtain ⟨hk, _⟩ := kept_first hb2; have m0 := hk 0 _ rfl; have m1 := hk 1 _ rfl; clear hk))
  refine bodyPost_ret (v := .tuple #[.agg #[.int .i64 p, .int .i64 m, .int .i64 0, .int .i64 0, .bool false], .bool true]) (by simp only [results, Try.results24]; go_simp) rfl ⟨rfl, ?_⟩
  have hbw : Bl w w2 := (((Bl.refl w).alloc _).alloc _).call hb2
  repeat (first | exact hbw | (refine Bl.setCell ?_ (Nat.le_succ _) _))
set_option maxHeartbeats 1000000 in
theorem impl_HideSealed_f (p m v b : Int) (o : Bool) (w : World) (h : goodB p m v b o = false) :
    Calls Try.prog 24 #[.agg #[.int .i64 p, .int .i64 m, .int .i64 v, .int .i64 b, .bool o]] w fun e w' => e = .returned (.tuple #[.agg #[.int .i64 0, .int .i64 0, .int .i64 0, .int .i64 0, .bool false], .bool false]) ∧ Bl w w' := by
  go_enter Try.func24, Try.ntmps24
  go_wp2_with (first | (go_at_call 88; refine (impl_isSealed _ _ _ _ _ _).mono ?_; rintro e w2 ⟨rfl, hb2⟩; rw [h]; obtain ⟨hk, hfr⟩ := kept_two hb2; have k0 := hk 0 _ rfl; have k1 := hk 1 _ rfl; have k2 := hk 2 _ rfl; have k3 := hk 3 _ rfl; have k4 := hk 4 _ rfl; clear hk))
  refine bodyPost_ret (v := .tuple #[.agg #[.int .i64 0, .int .i64 0, .int .i64 0, .int .i64 0, .bool false], .bool false]) (by simp only [results, Try.results24]; go_simp) rfl ⟨rfl, ?_⟩
  have hbw : Bl w w2 := (((Bl.refl w).alloc _).alloc _).call hb2
  repeat (first | exact hbw | (refine Bl.setCell ?_ (Nat.le_succ _) _))
end Go.Proofs.Ytglgaicbcackbaa
