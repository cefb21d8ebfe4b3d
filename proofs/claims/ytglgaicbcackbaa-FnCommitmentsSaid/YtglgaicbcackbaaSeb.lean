/- Contracts of sealing and hiding, and the walks of their laws.
   Conditions: none beyond those that the calls' own tests lay. -/
import Derived.Test.YtglgaicbcackbaaSea
import Derived.Test.YtglgaicbcackbaaNum
namespace Go.Proofs.Ytglgaicbcackbaa
open Go.RowKit
set_option linter.unusedVariables false
/-- The blind that a key gives. -/
def blindF (p v k : Int) : Int := nf [k, p, v, 52] 10000
theorem blindF_bd (p v k : Int) : 0 ≤ blindF p v k ∧ blindF p v k < 10000 := nf_bd _ _ (by omega)
theorem kept_sealed {w w1 w2 : World} {o : Obj} (hb1 : Bl ((w.alloc (.cells #[.int .i64 0, .int .i64 0, .int .i64 0, .int .i64 0, .bool false] 38)).alloc o) w1) (hb2 : Bl w1 w2) :
    (w2.cell? ⟨w.heap.size, 0, none⟩ = some (.int .i64 0) ∧ w2.cell? ⟨w.heap.size, 1, none⟩ = some (.int .i64 0) ∧ w2.cell? ⟨w.heap.size, 2, none⟩ = some (.int .i64 0) ∧
      w2.cell? ⟨w.heap.size, 3, none⟩ = some (.int .i64 0) ∧ w2.cell? ⟨w.heap.size, 4, none⟩ = some (.bool false)) ∧ ∀ i, w2.frozen? ⟨w.heap.size, i, none⟩ = false := by
  have hb := hb1.call hb2
  refine ⟨⟨hb.cells (by go_simp), hb.cells (by go_simp), hb.cells (by go_simp), hb.cells (by go_simp), hb.cells (by go_simp)⟩, fun i => ?_⟩
  rw [hb.froz0 _ _ (by simp; omega)]
  go_simp
set_option maxHeartbeats 1000000 in
theorem spec_cmSeal (p v k : Int) (w : World) (hp : -1000000000000000 ≤ p ∧ p ≤ 1000000000000000) (hv : -1000000000000000 ≤ v ∧ v ≤ 1000000000000000)
    (hk : -1000000000000000 ≤ k ∧ k ≤ 1000000000000000) :
    Calls Try.prog 87 #[.int .i64 p, .int .i64 v, .int .i64 k] w fun e w' => e = .returned (.agg #[.int .i64 p, .int .i64 (markF p v (blindF p v k)), .int .i64 v, .int .i64 (blindF p v k), .bool true]) ∧ Bl w w' := by
  have hw := words4 hk hp hv (d := 52) (by omega)
  have hbd := blindF_bd p v k
  have hB := Lib.hid (show nf [k, p, v, 52] 10000 = blindF p v k from rfl)
  go_enter Try.func87, Try.ntmps87
  go_wp2_with (first
    | (go_at_call 138; refine (spec_dgBelow _ 4 4 _ 10000 _ (rd_new4 _ _ _ _ _ _) hw (by omega) (by omega) (by omega)).mono ?_; rintro e w1 ⟨rfl, hb1⟩; rw [hB.out])
    | (go_at_call 68; refine (spec_cmMark _ _ _ _ (by omega) (by omega) (by omega)).mono ?_; rintro e w2 ⟨rfl, hb2⟩; obtain ⟨⟨k0, k1, k2, k3, k4⟩, hfr⟩ := kept_sealed hb1 hb2))
  refine bodyPost_ret (v := .agg #[.int .i64 p, .int .i64 (markF p v (blindF p v k)), .int .i64 v, .int .i64 (blindF p v k), .bool true]) (by simp only [results, Try.results87]; go_simp) rfl ⟨rfl, ?_⟩
  have hbw : Bl w w2 := (((((Bl.refl w).alloc _).alloc _).call hb1).call hb2)
  repeat (first | exact hbw | (refine Bl.setCell ?_ (Nat.le_refl _) _))
set_option maxHeartbeats 1000000 in
theorem impl_sealed (p v k : Int) (w : World) (hp : -1000000000000000 ≤ p ∧ p ≤ 1000000000000000) (hv : -1000000000000000 ≤ v ∧ v ≤ 1000000000000000)
    (hk : -1000000000000000 ≤ k ∧ k ≤ 1000000000000000) :
    Calls Try.prog 85 #[.int .i64 p, .int .i64 v, .int .i64 k] w fun e w' => e = .returned (.agg #[.int .i64 p, .int .i64 (markF p v (blindF p v k)), .int .i64 v, .int .i64 (blindF p v k), .bool true]) ∧ Bl w w' := by
  have hw := words4 hk hp hv (d := 52) (by omega)
  have hbd := blindF_bd p v k
  have hB := Lib.hid (show nf [k, p, v, 52] 10000 = blindF p v k from rfl)
  go_enter Try.func85, Try.ntmps85
  go_wp2_with (first
    | (go_at_call 137; refine (impl_numberFrom _ 4 4 _ 10000 _ (rd_new4 _ _ _ _ _ _) hw (by omega) (by omega) (by omega)).mono ?_; rintro e w1 ⟨rfl, hb1⟩; rw [hB.out])
    | (go_at_call 82; refine (impl_mark _ _ _ _ (by omega) (by omega) (by omega)).mono ?_; rintro e w2 ⟨rfl, hb2⟩; obtain ⟨⟨k0, k1, k2, k3, k4⟩, hfr⟩ := kept_sealed hb1 hb2))
  refine bodyPost_ret (v := .agg #[.int .i64 p, .int .i64 (markF p v (blindF p v k)), .int .i64 v, .int .i64 (blindF p v k), .bool true]) (by simp only [results, Try.results85]; go_simp) rfl ⟨rfl, ?_⟩
  have hbw : Bl w w2 := (((((Bl.refl w).alloc _).alloc _).call hb1).call hb2)
  repeat (first | exact hbw | (refine Bl.setCell ?_ (Nat.le_refl _) _))
end Go.Proofs.Ytglgaicbcackbaa
