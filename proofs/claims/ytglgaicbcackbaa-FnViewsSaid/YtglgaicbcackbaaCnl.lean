/- Contracts of RealCounts, SimCounts and EqualViews, and the walks of their laws.
   Conditions: none beyond the calls' own tests. -/
import Derived.Test.YtglgaicbcackbaaCnt
import Derived.Test.YtglgaicbcackbaaLst
import Derived.Test.YtglgaicbcackbaaHel
namespace Go.Proofs.Ytglgaicbcackbaa
open Go.RowKit
set_option linter.unusedVariables false
theorem enters_RealCounts_1 : Enters 131 := fun _ _ => by kernel_rfl
set_option maxRecDepth 20000 in
set_option maxHeartbeats 2000000 in
theorem RealCounts_1_0 (x y : Int) (l : List Int) (gx gy gq : Nat) (A : Option Addr) (c : Nat) (w : World) (hl : RdI w A 9 c l) (hp : (2 : Int) ≤ 2 ∧ (2 : Int) ≤ 251) (hx : 0 ≤ x ∧ x < 2) (hy : 0 ≤ y ∧ y < 2) (hall0 : ∀ z ∈ l, 0 ≤ z ∧ z < 2)
    (kx : w.cell? ⟨gx, 0, none⟩ = some (.int .i64 x)) (ky : w.cell? ⟨gy, 0, none⟩ = some (.int .i64 y)) (kq : w.cell? ⟨gq, 0, none⟩ = some (.int .i64 0)) :
    Calls Try.prog 131 #[.slice A 9 c, .pointer (some ⟨gx, 0, none⟩), .pointer (some ⟨gy, 0, none⟩), .pointer (some ⟨gq, 0, none⟩)] w fun r w' => ∃ A2 c2, r = .returned (.slice A2 11 c2) ∧ OwnI w.heap.size w' A2 11 c2 (rvL 2 x y 0 l) ∧ Bl w w' := by
  obtain ⟨r0, r1, r2, r3, r4, r5, r6, r7, r8, rfl⟩ := nine hl.length
  have hall := Lib.hid hall0
  have hmem := Lib.hid (sh1_mem 2 r0 r1 r2 r3 r4 r5 r6 r7 r8 hp.1)
  have hall49 := Lib.hid (show ∀ z ∈ [r4, r5, r6, r7, r8], 0 ≤ z ∧ z < 2 from fun z hz => hall.out z (by simp at hz ⊢; rcases hz with h | h | h | h | h <;> simp [h]))
  clear hall0
  go_enter Try.func131, Try.ntmps131
  go_wp2_with fail
  refine wp_region_held_drew (S := (fun w' => w'.cell? ⟨gx, 0, none⟩ = some (.int .i64 x) ∧ w'.cell? ⟨gy, 0, none⟩ = some (.int .i64 y) ∧ w'.cell? ⟨gq, 0, none⟩ = some (.int .i64 0))) (by kernel_rfl) ?_ (fun hHeld => ?_)
  · (try dsimp only); exact ⟨Bl.cells (by (repeat (first | assumption | with_reducible exact Bl.refl _ | with_reducible refine Bl.drewN ?_ _ | with_reducible refine Bl.drew ?_ | with_reducible refine Bl.alloc ?_ _ | (with_reducible refine Bl.call ?_ (by assumption))))) kx, Bl.cells (by (repeat (first | assumption | with_reducible exact Bl.refl _ | with_reducible refine Bl.drewN ?_ _ | with_reducible refine Bl.drew ?_ | with_reducible refine Bl.alloc ?_ _ | (with_reducible refine Bl.call ?_ (by assumption))))) ky, Bl.cells (by (repeat (first | assumption | with_reducible exact Bl.refl _ | with_reducible refine Bl.drewN ?_ _ | with_reducible refine Bl.drew ?_ | with_reducible refine Bl.alloc ?_ _ | (with_reducible refine Bl.call ?_ (by assumption))))) kq⟩
  refine held_take (i := 0) (d := 6) (v := ?_) rfl rfl (by kernel_rfl) (by kernel_rfl) (by kernel_rfl) (fun _ _ _ h => h) (Or.inl ⟨by rfl, ?_⟩) (by assumption) ?_
  rotate_left
  · (intro w hSw; (try dsimp only at hSw); go_simp; (try with_reducible rfl))
  (try simp only [List.set_cons_zero, List.set_cons_succ])
  refine held_take (i := 1) (d := 7) (v := ?_) rfl rfl (by kernel_rfl) (by kernel_rfl) (by kernel_rfl) (fun _ _ _ h => h) (Or.inl ⟨by rfl, ?_⟩) (by assumption) ?_
  rotate_left
  · (intro w hSw; (try dsimp only at hSw); go_simp; (try with_reducible rfl))
  (try simp only [List.set_cons_zero, List.set_cons_succ])
  refine held_take (i := 2) (d := 8) (v := ?_) rfl rfl (by kernel_rfl) (by kernel_rfl) (by kernel_rfl) (fun _ _ _ h => h) (Or.inl ⟨by rfl, ?_⟩) (by assumption) ?_
  rotate_left
  · (intro w hSw; (try dsimp only at hSw); go_simp; (try with_reducible rfl))
  (try simp only [List.set_cons_zero, List.set_cons_succ])
  refine held_take (i := 4) (d := 10) (v := ?_) rfl rfl (by kernel_rfl) (by kernel_rfl) (by kernel_rfl) (fun _ _ _ h => h) (Or.inl ⟨by rfl, ?_⟩) (by assumption) ?_
  rotate_left
  · (intro w hSw; (try dsimp only at hSw); go_simp; (try with_reducible rfl))
  (try simp only [List.set_cons_zero, List.set_cons_succ])
  refine wpAnyH_ready (rs := [3]) (by kernel_rfl) (by simp) ?_
  refine AllReadyH.cons rfl (fun K hK => ?_) AllReadyH.nil
  go_simp
  (refine (impl_realSides 2 x y r0 r1 r2 r3 r4 r5 r6 r7 r8 A c _ (hl.keep (by (repeat (first | assumption | with_reducible exact Bl.refl _ | with_reducible refine Bl.drewN ?_ _ | with_reducible refine Bl.drew ?_ | with_reducible refine Bl.alloc ?_ _ | (with_reducible refine Bl.call ?_ (by assumption)))))) hp hall.out).mono ?_; rintro e w2 ⟨A2, c2, A3, c3, rfl, h2, h3, hb2⟩)
  go_wp2_with fail
  refine hK.out _ _ ?_ (fun hHeld => ?_)
  · (try dsimp only); exact ⟨Bl.cells (by (repeat (first | assumption | with_reducible exact Bl.refl _ | with_reducible refine Bl.drewN ?_ _ | with_reducible refine Bl.drew ?_ | with_reducible refine Bl.alloc ?_ _ | (with_reducible refine Bl.call ?_ (by assumption))))) kx, Bl.cells (by (repeat (first | assumption | with_reducible exact Bl.refl _ | with_reducible refine Bl.drewN ?_ _ | with_reducible refine Bl.drew ?_ | with_reducible refine Bl.alloc ?_ _ | (with_reducible refine Bl.call ?_ (by assumption))))) ky, Bl.cells (by (repeat (first | assumption | with_reducible exact Bl.refl _ | with_reducible refine Bl.drewN ?_ _ | with_reducible refine Bl.drew ?_ | with_reducible refine Bl.alloc ?_ _ | (with_reducible refine Bl.call ?_ (by assumption))))) kq⟩
  clear hK K
  (try simp only [Act.put]); (try simp only [List.setIfInBounds_toArray]); (try simp only [List.set_cons_succ]); (try simp only [List.set_cons_zero])
  refine wpAnyH_ready (rs := [5]) (by kernel_rfl) (by simp) ?_
  refine AllReadyH.cons rfl (fun K hK => ?_) AllReadyH.nil
  go_simp
  (refine (view0 _ _ _ _ _ _ _ _ _ _ _ _ _ _ _ _ _ _ _ _ h2 h3 hp hx hy (hall.out r0 (by simp)) (hall.out r1 (by simp)) hall49.out hmem.out).mono ?_; rintro e w8 ⟨A8, c8, rfl, ho8, hb8⟩)
  go_wp2_with fail
  refine hK.out _ _ ?_ (fun hHeld => ?_)
  · (try dsimp only); exact ⟨Bl.cells (by (repeat (first | assumption | with_reducible exact Bl.refl _ | with_reducible refine Bl.drewN ?_ _ | with_reducible refine Bl.drew ?_ | with_reducible refine Bl.alloc ?_ _ | (with_reducible refine Bl.call ?_ (by assumption))))) kx, Bl.cells (by (repeat (first | assumption | with_reducible exact Bl.refl _ | with_reducible refine Bl.drewN ?_ _ | with_reducible refine Bl.drew ?_ | with_reducible refine Bl.alloc ?_ _ | (with_reducible refine Bl.call ?_ (by assumption))))) ky, Bl.cells (by (repeat (first | assumption | with_reducible exact Bl.refl _ | with_reducible refine Bl.drewN ?_ _ | with_reducible refine Bl.drew ?_ | with_reducible refine Bl.alloc ?_ _ | (with_reducible refine Bl.call ?_ (by assumption))))) kq⟩
  clear hK K
  (try simp only [Act.put]); (try simp only [List.setIfInBounds_toArray]); (try simp only [List.set_cons_succ]); (try simp only [List.set_cons_zero])
  refine held_take (i := 6) (d := 5) (v := ?_) rfl rfl (by kernel_rfl) (by kernel_rfl) (by kernel_rfl) (fun _ _ _ h => h) (Or.inl ⟨by rfl, ?_⟩) (by assumption) ?_
  rotate_left
  · (intro w hSw; (try dsimp only at hSw); go_simp; (try with_reducible rfl))
  (try simp only [List.set_cons_zero, List.set_cons_succ])
  refine wpAnyH_done (by kernel_rfl) ?_ _
  go_wp2
  go_ret
  exact ⟨A8, c8, rfl, OwnI.mono ho8 (Bl.sz (by (repeat (first | assumption | with_reducible exact Bl.refl _ | with_reducible refine Bl.drewN ?_ _ | with_reducible refine Bl.drew ?_ | with_reducible refine Bl.alloc ?_ _ | (with_reducible refine Bl.call ?_ (by assumption)))))), (by (repeat (first | assumption | with_reducible exact Bl.refl _ | with_reducible refine Bl.drewN ?_ _ | with_reducible refine Bl.drew ?_ | with_reducible refine Bl.alloc ?_ _ | (with_reducible refine Bl.call ?_ (by assumption)))))⟩
set_option maxRecDepth 20000 in
set_option maxHeartbeats 2000000 in
theorem RealCounts_1_1 (x y : Int) (l : List Int) (gx gy gq : Nat) (A : Option Addr) (c : Nat) (w : World) (hl : RdI w A 9 c l) (hp : (2 : Int) ≤ 2 ∧ (2 : Int) ≤ 251) (hx : 0 ≤ x ∧ x < 2) (hy : 0 ≤ y ∧ y < 2) (hall0 : ∀ z ∈ l, 0 ≤ z ∧ z < 2)
    (kx : w.cell? ⟨gx, 0, none⟩ = some (.int .i64 x)) (ky : w.cell? ⟨gy, 0, none⟩ = some (.int .i64 y)) (kq : w.cell? ⟨gq, 0, none⟩ = some (.int .i64 1)) :
    Calls Try.prog 131 #[.slice A 9 c, .pointer (some ⟨gx, 0, none⟩), .pointer (some ⟨gy, 0, none⟩), .pointer (some ⟨gq, 0, none⟩)] w fun r w' => ∃ A2 c2, r = .returned (.slice A2 11 c2) ∧ OwnI w.heap.size w' A2 11 c2 (rvL 2 x y 1 l) ∧ Bl w w' := by
  obtain ⟨r0, r1, r2, r3, r4, r5, r6, r7, r8, rfl⟩ := nine hl.length
  have hall := Lib.hid hall0
  have hmem := Lib.hid (sh1_mem 2 r0 r1 r2 r3 r4 r5 r6 r7 r8 hp.1)
  have hall49 := Lib.hid (show ∀ z ∈ [r4, r5, r6, r7, r8], 0 ≤ z ∧ z < 2 from fun z hz => hall.out z (by simp at hz ⊢; rcases hz with h | h | h | h | h <;> simp [h]))
  clear hall0
  go_enter Try.func131, Try.ntmps131
  go_wp2_with fail
  refine wp_region_held_drew (S := (fun w' => w'.cell? ⟨gx, 0, none⟩ = some (.int .i64 x) ∧ w'.cell? ⟨gy, 0, none⟩ = some (.int .i64 y) ∧ w'.cell? ⟨gq, 0, none⟩ = some (.int .i64 1))) (by kernel_rfl) ?_ (fun hHeld => ?_)
  · (try dsimp only); exact ⟨Bl.cells (by (repeat (first | assumption | with_reducible exact Bl.refl _ | with_reducible refine Bl.drewN ?_ _ | with_reducible refine Bl.drew ?_ | with_reducible refine Bl.alloc ?_ _ | (with_reducible refine Bl.call ?_ (by assumption))))) kx, Bl.cells (by (repeat (first | assumption | with_reducible exact Bl.refl _ | with_reducible refine Bl.drewN ?_ _ | with_reducible refine Bl.drew ?_ | with_reducible refine Bl.alloc ?_ _ | (with_reducible refine Bl.call ?_ (by assumption))))) ky, Bl.cells (by (repeat (first | assumption | with_reducible exact Bl.refl _ | with_reducible refine Bl.drewN ?_ _ | with_reducible refine Bl.drew ?_ | with_reducible refine Bl.alloc ?_ _ | (with_reducible refine Bl.call ?_ (by assumption))))) kq⟩
  refine held_take (i := 0) (d := 6) (v := ?_) rfl rfl (by kernel_rfl) (by kernel_rfl) (by kernel_rfl) (fun _ _ _ h => h) (Or.inl ⟨by rfl, ?_⟩) (by assumption) ?_
  rotate_left
  · (intro w hSw; (try dsimp only at hSw); go_simp; (try with_reducible rfl))
  (try simp only [List.set_cons_zero, List.set_cons_succ])
  refine held_take (i := 1) (d := 7) (v := ?_) rfl rfl (by kernel_rfl) (by kernel_rfl) (by kernel_rfl) (fun _ _ _ h => h) (Or.inl ⟨by rfl, ?_⟩) (by assumption) ?_
  rotate_left
  · (intro w hSw; (try dsimp only at hSw); go_simp; (try with_reducible rfl))
  (try simp only [List.set_cons_zero, List.set_cons_succ])
  refine held_take (i := 2) (d := 8) (v := ?_) rfl rfl (by kernel_rfl) (by kernel_rfl) (by kernel_rfl) (fun _ _ _ h => h) (Or.inl ⟨by rfl, ?_⟩) (by assumption) ?_
  rotate_left
  · (intro w hSw; (try dsimp only at hSw); go_simp; (try with_reducible rfl))
  (try simp only [List.set_cons_zero, List.set_cons_succ])
  refine held_take (i := 4) (d := 10) (v := ?_) rfl rfl (by kernel_rfl) (by kernel_rfl) (by kernel_rfl) (fun _ _ _ h => h) (Or.inl ⟨by rfl, ?_⟩) (by assumption) ?_
  rotate_left
  · (intro w hSw; (try dsimp only at hSw); go_simp; (try with_reducible rfl))
  (try simp only [List.set_cons_zero, List.set_cons_succ])
  refine wpAnyH_ready (rs := [3]) (by kernel_rfl) (by simp) ?_
  refine AllReadyH.cons rfl (fun K hK => ?_) AllReadyH.nil
  go_simp
  (refine (impl_realSides 2 x y r0 r1 r2 r3 r4 r5 r6 r7 r8 A c _ (hl.keep (by (repeat (first | assumption | with_reducible exact Bl.refl _ | with_reducible refine Bl.drewN ?_ _ | with_reducible refine Bl.drew ?_ | with_reducible refine Bl.alloc ?_ _ | (with_reducible refine Bl.call ?_ (by assumption)))))) hp hall.out).mono ?_; rintro e w2 ⟨A2, c2, A3, c3, rfl, h2, h3, hb2⟩)
  go_wp2_with fail
  refine hK.out _ _ ?_ (fun hHeld => ?_)
  · (try dsimp only); exact ⟨Bl.cells (by (repeat (first | assumption | with_reducible exact Bl.refl _ | with_reducible refine Bl.drewN ?_ _ | with_reducible refine Bl.drew ?_ | with_reducible refine Bl.alloc ?_ _ | (with_reducible refine Bl.call ?_ (by assumption))))) kx, Bl.cells (by (repeat (first | assumption | with_reducible exact Bl.refl _ | with_reducible refine Bl.drewN ?_ _ | with_reducible refine Bl.drew ?_ | with_reducible refine Bl.alloc ?_ _ | (with_reducible refine Bl.call ?_ (by assumption))))) ky, Bl.cells (by (repeat (first | assumption | with_reducible exact Bl.refl _ | with_reducible refine Bl.drewN ?_ _ | with_reducible refine Bl.drew ?_ | with_reducible refine Bl.alloc ?_ _ | (with_reducible refine Bl.call ?_ (by assumption))))) kq⟩
  clear hK K
  (try simp only [Act.put]); (try simp only [List.setIfInBounds_toArray]); (try simp only [List.set_cons_succ]); (try simp only [List.set_cons_zero])
  refine wpAnyH_ready (rs := [5]) (by kernel_rfl) (by simp) ?_
  refine AllReadyH.cons rfl (fun K hK => ?_) AllReadyH.nil
  go_simp
  (refine (view1 _ _ _ _ _ _ _ _ _ _ _ _ _ _ _ _ _ _ _ _ h2 h3 hp hx hy (hall.out r0 (by simp)) (hall.out r1 (by simp)) hall49.out hmem.out).mono ?_; rintro e w8 ⟨A8, c8, rfl, ho8, hb8⟩)
  go_wp2_with fail
  refine hK.out _ _ ?_ (fun hHeld => ?_)
  · (try dsimp only); exact ⟨Bl.cells (by (repeat (first | assumption | with_reducible exact Bl.refl _ | with_reducible refine Bl.drewN ?_ _ | with_reducible refine Bl.drew ?_ | with_reducible refine Bl.alloc ?_ _ | (with_reducible refine Bl.call ?_ (by assumption))))) kx, Bl.cells (by (repeat (first | assumption | with_reducible exact Bl.refl _ | with_reducible refine Bl.drewN ?_ _ | with_reducible refine Bl.drew ?_ | with_reducible refine Bl.alloc ?_ _ | (with_reducible refine Bl.call ?_ (by assumption))))) ky, Bl.cells (by (repeat (first | assumption | with_reducible exact Bl.refl _ | with_reducible refine Bl.drewN ?_ _ | with_reducible refine Bl.drew ?_ | with_reducible refine Bl.alloc ?_ _ | (with_reducible refine Bl.call ?_ (by assumption))))) kq⟩
  clear hK K
  (try simp only [Act.put]); (try simp only [List.setIfInBounds_toArray]); (try simp only [List.set_cons_succ]); (try simp only [List.set_cons_zero])
  refine held_take (i := 6) (d := 5) (v := ?_) rfl rfl (by kernel_rfl) (by kernel_rfl) (by kernel_rfl) (fun _ _ _ h => h) (Or.inl ⟨by rfl, ?_⟩) (by assumption) ?_
  rotate_left
  · (intro w hSw; (try dsimp only at hSw); go_simp; (try with_reducible rfl))
  (try simp only [List.set_cons_zero, List.set_cons_succ])
  refine wpAnyH_done (by kernel_rfl) ?_ _
  go_wp2
  go_ret
  exact ⟨A8, c8, rfl, OwnI.mono ho8 (Bl.sz (by (repeat (first | assumption | with_reducible exact Bl.refl _ | with_reducible refine Bl.drewN ?_ _ | with_reducible refine Bl.drew ?_ | with_reducible refine Bl.alloc ?_ _ | (with_reducible refine Bl.call ?_ (by assumption)))))), (by (repeat (first | assumption | with_reducible exact Bl.refl _ | with_reducible refine Bl.drewN ?_ _ | with_reducible refine Bl.drew ?_ | with_reducible refine Bl.alloc ?_ _ | (with_reducible refine Bl.call ?_ (by assumption)))))⟩
theorem enters_EqualViews_1 : Enters 124 := fun _ _ => by kernel_rfl
set_option maxRecDepth 20000 in
set_option maxHeartbeats 2000000 in
theorem EqualViews_1_0 (p x y : Int) (l : List Int) (gp gx gy gq : Nat) (A : Option Addr) (c : Nat) (w : World) (hl : RdI w A 9 c l) (hp : (2 : Int) ≤ p ∧ (p : Int) ≤ 251) (hx : 0 ≤ x ∧ x < p) (hy : 0 ≤ y ∧ y < p) (hall0 : ∀ z ∈ l, 0 ≤ z ∧ z < p)
    (kp : w.cell? ⟨gp, 0, none⟩ = some (.int .i64 p)) (kx : w.cell? ⟨gx, 0, none⟩ = some (.int .i64 x)) (ky : w.cell? ⟨gy, 0, none⟩ = some (.int .i64 y)) (kq : w.cell? ⟨gq, 0, none⟩ = some (.int .i64 0)) :
    Calls Try.prog 124 #[.slice A 9 c, .pointer (some ⟨gp, 0, none⟩), .pointer (some ⟨gx, 0, none⟩), .pointer (some ⟨gy, 0, none⟩), .pointer (some ⟨gq, 0, none⟩)] w fun r w' => ∃ A2 c2, r = .returned (.slice A2 11 c2) ∧ OwnI w.heap.size w' A2 11 c2 (rvL p x y 0 l) ∧ Bl w w' := by
  obtain ⟨r0, r1, r2, r3, r4, r5, r6, r7, r8, rfl⟩ := nine hl.length
  have hall := Lib.hid hall0
  have hmem := Lib.hid (sh1_mem p r0 r1 r2 r3 r4 r5 r6 r7 r8 hp.1)
  have hall49 := Lib.hid (show ∀ z ∈ [r4, r5, r6, r7, r8], 0 ≤ z ∧ z < p from fun z hz => hall.out z (by simp at hz ⊢; rcases hz with h | h | h | h | h <;> simp [h]))
  clear hall0
  go_enter Try.func124, Try.ntmps124
  go_wp2_with fail
  refine wp_region_held_drew (S := (fun w' => w'.cell? ⟨gp, 0, none⟩ = some (.int .i64 p) ∧ w'.cell? ⟨gx, 0, none⟩ = some (.int .i64 x) ∧ w'.cell? ⟨gy, 0, none⟩ = some (.int .i64 y) ∧ w'.cell? ⟨gq, 0, none⟩ = some (.int .i64 0))) (by kernel_rfl) ?_ (fun hHeld => ?_)
  · (try dsimp only); exact ⟨Bl.cells (by (repeat (first | assumption | with_reducible exact Bl.refl _ | with_reducible refine Bl.drewN ?_ _ | with_reducible refine Bl.drew ?_ | with_reducible refine Bl.alloc ?_ _ | (with_reducible refine Bl.call ?_ (by assumption))))) kp, Bl.cells (by (repeat (first | assumption | with_reducible exact Bl.refl _ | with_reducible refine Bl.drewN ?_ _ | with_reducible refine Bl.drew ?_ | with_reducible refine Bl.alloc ?_ _ | (with_reducible refine Bl.call ?_ (by assumption))))) kx, Bl.cells (by (repeat (first | assumption | with_reducible exact Bl.refl _ | with_reducible refine Bl.drewN ?_ _ | with_reducible refine Bl.drew ?_ | with_reducible refine Bl.alloc ?_ _ | (with_reducible refine Bl.call ?_ (by assumption))))) ky, Bl.cells (by (repeat (first | assumption | with_reducible exact Bl.refl _ | with_reducible refine Bl.drewN ?_ _ | with_reducible refine Bl.drew ?_ | with_reducible refine Bl.alloc ?_ _ | (with_reducible refine Bl.call ?_ (by assumption))))) kq⟩
  refine held_take (i := 0) (d := 7) (v := ?_) rfl rfl (by kernel_rfl) (by kernel_rfl) (by kernel_rfl) (fun _ _ _ h => h) (Or.inl ⟨by rfl, ?_⟩) (by assumption) ?_
  rotate_left
  · (intro w hSw; (try dsimp only at hSw); go_simp; (try with_reducible rfl))
  (try simp only [List.set_cons_zero, List.set_cons_succ])
  refine held_take (i := 1) (d := 8) (v := ?_) rfl rfl (by kernel_rfl) (by kernel_rfl) (by kernel_rfl) (fun _ _ _ h => h) (Or.inl ⟨by rfl, ?_⟩) (by assumption) ?_
  rotate_left
  · (intro w hSw; (try dsimp only at hSw); go_simp; (try with_reducible rfl))
  (try simp only [List.set_cons_zero, List.set_cons_succ])
  refine held_take (i := 2) (d := 9) (v := ?_) rfl rfl (by kernel_rfl) (by kernel_rfl) (by kernel_rfl) (fun _ _ _ h => h) (Or.inl ⟨by rfl, ?_⟩) (by assumption) ?_
  rotate_left
  · (intro w hSw; (try dsimp only at hSw); go_simp; (try with_reducible rfl))
  (try simp only [List.set_cons_zero, List.set_cons_succ])
  refine held_take (i := 3) (d := 10) (v := ?_) rfl rfl (by kernel_rfl) (by kernel_rfl) (by kernel_rfl) (fun _ _ _ h => h) (Or.inl ⟨by rfl, ?_⟩) (by assumption) ?_
  rotate_left
  · (intro w hSw; (try dsimp only at hSw); go_simp; (try with_reducible rfl))
  (try simp only [List.set_cons_zero, List.set_cons_succ])
  refine held_take (i := 5) (d := 12) (v := ?_) rfl rfl (by kernel_rfl) (by kernel_rfl) (by kernel_rfl) (fun _ _ _ h => h) (Or.inl ⟨by rfl, ?_⟩) (by assumption) ?_
  rotate_left
  · (intro w hSw; (try dsimp only at hSw); go_simp; (try with_reducible rfl))
  (try simp only [List.set_cons_zero, List.set_cons_succ])
  refine wpAnyH_ready (rs := [4]) (by kernel_rfl) (by simp) ?_
  refine AllReadyH.cons rfl (fun K hK => ?_) AllReadyH.nil
  go_simp
  (refine (impl_realSides p x y r0 r1 r2 r3 r4 r5 r6 r7 r8 A c _ (hl.keep (by (repeat (first | assumption | with_reducible exact Bl.refl _ | with_reducible refine Bl.drewN ?_ _ | with_reducible refine Bl.drew ?_ | with_reducible refine Bl.alloc ?_ _ | (with_reducible refine Bl.call ?_ (by assumption)))))) hp hall.out).mono ?_; rintro e w2 ⟨A2, c2, A3, c3, rfl, h2, h3, hb2⟩)
  go_wp2_with fail
  refine hK.out _ _ ?_ (fun hHeld => ?_)
  · (try dsimp only); exact ⟨Bl.cells (by (repeat (first | assumption | with_reducible exact Bl.refl _ | with_reducible refine Bl.drewN ?_ _ | with_reducible refine Bl.drew ?_ | with_reducible refine Bl.alloc ?_ _ | (with_reducible refine Bl.call ?_ (by assumption))))) kp, Bl.cells (by (repeat (first | assumption | with_reducible exact Bl.refl _ | with_reducible refine Bl.drewN ?_ _ | with_reducible refine Bl.drew ?_ | with_reducible refine Bl.alloc ?_ _ | (with_reducible refine Bl.call ?_ (by assumption))))) kx, Bl.cells (by (repeat (first | assumption | with_reducible exact Bl.refl _ | with_reducible refine Bl.drewN ?_ _ | with_reducible refine Bl.drew ?_ | with_reducible refine Bl.alloc ?_ _ | (with_reducible refine Bl.call ?_ (by assumption))))) ky, Bl.cells (by (repeat (first | assumption | with_reducible exact Bl.refl _ | with_reducible refine Bl.drewN ?_ _ | with_reducible refine Bl.drew ?_ | with_reducible refine Bl.alloc ?_ _ | (with_reducible refine Bl.call ?_ (by assumption))))) kq⟩
  clear hK K
  (try simp only [Act.put]); (try simp only [List.setIfInBounds_toArray]); (try simp only [List.set_cons_succ]); (try simp only [List.set_cons_zero])
  refine wpAnyH_ready (rs := [6]) (by kernel_rfl) (by simp) ?_
  refine AllReadyH.cons rfl (fun K hK => ?_) AllReadyH.nil
  go_simp
  (refine (view0 _ _ _ _ _ _ _ _ _ _ _ _ _ _ _ _ _ _ _ _ h2 h3 hp hx hy (hall.out r0 (by simp)) (hall.out r1 (by simp)) hall49.out hmem.out).mono ?_; rintro e w8 ⟨A8, c8, rfl, ho8, hb8⟩)
  go_wp2_with fail
  refine hK.out _ _ ?_ (fun hHeld => ?_)
  · (try dsimp only); exact ⟨Bl.cells (by (repeat (first | assumption | with_reducible exact Bl.refl _ | with_reducible refine Bl.drewN ?_ _ | with_reducible refine Bl.drew ?_ | with_reducible refine Bl.alloc ?_ _ | (with_reducible refine Bl.call ?_ (by assumption))))) kp, Bl.cells (by (repeat (first | assumption | with_reducible exact Bl.refl _ | with_reducible refine Bl.drewN ?_ _ | with_reducible refine Bl.drew ?_ | with_reducible refine Bl.alloc ?_ _ | (with_reducible refine Bl.call ?_ (by assumption))))) kx, Bl.cells (by (repeat (first | assumption | with_reducible exact Bl.refl _ | with_reducible refine Bl.drewN ?_ _ | with_reducible refine Bl.drew ?_ | with_reducible refine Bl.alloc ?_ _ | (with_reducible refine Bl.call ?_ (by assumption))))) ky, Bl.cells (by (repeat (first | assumption | with_reducible exact Bl.refl _ | with_reducible refine Bl.drewN ?_ _ | with_reducible refine Bl.drew ?_ | with_reducible refine Bl.alloc ?_ _ | (with_reducible refine Bl.call ?_ (by assumption))))) kq⟩
  clear hK K
  (try simp only [Act.put]); (try simp only [List.setIfInBounds_toArray]); (try simp only [List.set_cons_succ]); (try simp only [List.set_cons_zero])
  refine held_take (i := 7) (d := 6) (v := ?_) rfl rfl (by kernel_rfl) (by kernel_rfl) (by kernel_rfl) (fun _ _ _ h => h) (Or.inl ⟨by rfl, ?_⟩) (by assumption) ?_
  rotate_left
  · (intro w hSw; (try dsimp only at hSw); go_simp; (try with_reducible rfl))
  (try simp only [List.set_cons_zero, List.set_cons_succ])
  refine wpAnyH_done (by kernel_rfl) ?_ _
  go_wp2
  go_ret
  exact ⟨A8, c8, rfl, OwnI.mono ho8 (Bl.sz (by (repeat (first | assumption | with_reducible exact Bl.refl _ | with_reducible refine Bl.drewN ?_ _ | with_reducible refine Bl.drew ?_ | with_reducible refine Bl.alloc ?_ _ | (with_reducible refine Bl.call ?_ (by assumption)))))), (by (repeat (first | assumption | with_reducible exact Bl.refl _ | with_reducible refine Bl.drewN ?_ _ | with_reducible refine Bl.drew ?_ | with_reducible refine Bl.alloc ?_ _ | (with_reducible refine Bl.call ?_ (by assumption)))))⟩
set_option maxRecDepth 20000 in
set_option maxHeartbeats 2000000 in
theorem EqualViews_1_1 (p x y : Int) (l : List Int) (gp gx gy gq : Nat) (A : Option Addr) (c : Nat) (w : World) (hl : RdI w A 9 c l) (hp : (2 : Int) ≤ p ∧ (p : Int) ≤ 251) (hx : 0 ≤ x ∧ x < p) (hy : 0 ≤ y ∧ y < p) (hall0 : ∀ z ∈ l, 0 ≤ z ∧ z < p)
    (kp : w.cell? ⟨gp, 0, none⟩ = some (.int .i64 p)) (kx : w.cell? ⟨gx, 0, none⟩ = some (.int .i64 x)) (ky : w.cell? ⟨gy, 0, none⟩ = some (.int .i64 y)) (kq : w.cell? ⟨gq, 0, none⟩ = some (.int .i64 1)) :
    Calls Try.prog 124 #[.slice A 9 c, .pointer (some ⟨gp, 0, none⟩), .pointer (some ⟨gx, 0, none⟩), .pointer (some ⟨gy, 0, none⟩), .pointer (some ⟨gq, 0, none⟩)] w fun r w' => ∃ A2 c2, r = .returned (.slice A2 11 c2) ∧ OwnI w.heap.size w' A2 11 c2 (rvL p x y 1 l) ∧ Bl w w' := by
  obtain ⟨r0, r1, r2, r3, r4, r5, r6, r7, r8, rfl⟩ := nine hl.length
  have hall := Lib.hid hall0
  have hmem := Lib.hid (sh1_mem p r0 r1 r2 r3 r4 r5 r6 r7 r8 hp.1)
  have hall49 := Lib.hid (show ∀ z ∈ [r4, r5, r6, r7, r8], 0 ≤ z ∧ z < p from fun z hz => hall.out z (by simp at hz ⊢; rcases hz with h | h | h | h | h <;> simp [h]))
  clear hall0
  go_enter Try.func124, Try.ntmps124
  go_wp2_with fail
  refine wp_region_held_drew (S := (fun w' => w'.cell? ⟨gp, 0, none⟩ = some (.int .i64 p) ∧ w'.cell? ⟨gx, 0, none⟩ = some (.int .i64 x) ∧ w'.cell? ⟨gy, 0, none⟩ = some (.int .i64 y) ∧ w'.cell? ⟨gq, 0, none⟩ = some (.int .i64 1))) (by kernel_rfl) ?_ (fun hHeld => ?_)
  · (try dsimp only); exact ⟨Bl.cells (by (repeat (first | assumption | with_reducible exact Bl.refl _ | with_reducible refine Bl.drewN ?_ _ | with_reducible refine Bl.drew ?_ | with_reducible refine Bl.alloc ?_ _ | (with_reducible refine Bl.call ?_ (by assumption))))) kp, Bl.cells (by (repeat (first | assumption | with_reducible exact Bl.refl _ | with_reducible refine Bl.drewN ?_ _ | with_reducible refine Bl.drew ?_ | with_reducible refine Bl.alloc ?_ _ | (with_reducible refine Bl.call ?_ (by assumption))))) kx, Bl.cells (by (repeat (first | assumption | with_reducible exact Bl.refl _ | with_reducible refine Bl.drewN ?_ _ | with_reducible refine Bl.drew ?_ | with_reducible refine Bl.alloc ?_ _ | (with_reducible refine Bl.call ?_ (by assumption))))) ky, Bl.cells (by (repeat (first | assumption | with_reducible exact Bl.refl _ | with_reducible refine Bl.drewN ?_ _ | with_reducible refine Bl.drew ?_ | with_reducible refine Bl.alloc ?_ _ | (with_reducible refine Bl.call ?_ (by assumption))))) kq⟩
  refine held_take (i := 0) (d := 7) (v := ?_) rfl rfl (by kernel_rfl) (by kernel_rfl) (by kernel_rfl) (fun _ _ _ h => h) (Or.inl ⟨by rfl, ?_⟩) (by assumption) ?_
  rotate_left
  · (intro w hSw; (try dsimp only at hSw); go_simp; (try with_reducible rfl))
  (try simp only [List.set_cons_zero, List.set_cons_succ])
  refine held_take (i := 1) (d := 8) (v := ?_) rfl rfl (by kernel_rfl) (by kernel_rfl) (by kernel_rfl) (fun _ _ _ h => h) (Or.inl ⟨by rfl, ?_⟩) (by assumption) ?_
  rotate_left
  · (intro w hSw; (try dsimp only at hSw); go_simp; (try with_reducible rfl))
  (try simp only [List.set_cons_zero, List.set_cons_succ])
  refine held_take (i := 2) (d := 9) (v := ?_) rfl rfl (by kernel_rfl) (by kernel_rfl) (by kernel_rfl) (fun _ _ _ h => h) (Or.inl ⟨by rfl, ?_⟩) (by assumption) ?_
  rotate_left
  · (intro w hSw; (try dsimp only at hSw); go_simp; (try with_reducible rfl))
  (try simp only [List.set_cons_zero, List.set_cons_succ])
  refine held_take (i := 3) (d := 10) (v := ?_) rfl rfl (by kernel_rfl) (by kernel_rfl) (by kernel_rfl) (fun _ _ _ h => h) (Or.inl ⟨by rfl, ?_⟩) (by assumption) ?_
  rotate_left
  · (intro w hSw; (try dsimp only at hSw); go_simp; (try with_reducible rfl))
  (try simp only [List.set_cons_zero, List.set_cons_succ])
  refine held_take (i := 5) (d := 12) (v := ?_) rfl rfl (by kernel_rfl) (by kernel_rfl) (by kernel_rfl) (fun _ _ _ h => h) (Or.inl ⟨by rfl, ?_⟩) (by assumption) ?_
  rotate_left
  · (intro w hSw; (try dsimp only at hSw); go_simp; (try with_reducible rfl))
  (try simp only [List.set_cons_zero, List.set_cons_succ])
  refine wpAnyH_ready (rs := [4]) (by kernel_rfl) (by simp) ?_
  refine AllReadyH.cons rfl (fun K hK => ?_) AllReadyH.nil
  go_simp
  (refine (impl_realSides p x y r0 r1 r2 r3 r4 r5 r6 r7 r8 A c _ (hl.keep (by (repeat (first | assumption | with_reducible exact Bl.refl _ | with_reducible refine Bl.drewN ?_ _ | with_reducible refine Bl.drew ?_ | with_reducible refine Bl.alloc ?_ _ | (with_reducible refine Bl.call ?_ (by assumption)))))) hp hall.out).mono ?_; rintro e w2 ⟨A2, c2, A3, c3, rfl, h2, h3, hb2⟩)
  go_wp2_with fail
  refine hK.out _ _ ?_ (fun hHeld => ?_)
  · (try dsimp only); exact ⟨Bl.cells (by (repeat (first | assumption | with_reducible exact Bl.refl _ | with_reducible refine Bl.drewN ?_ _ | with_reducible refine Bl.drew ?_ | with_reducible refine Bl.alloc ?_ _ | (with_reducible refine Bl.call ?_ (by assumption))))) kp, Bl.cells (by (repeat (first | assumption | with_reducible exact Bl.refl _ | with_reducible refine Bl.drewN ?_ _ | with_reducible refine Bl.drew ?_ | with_reducible refine Bl.alloc ?_ _ | (with_reducible refine Bl.call ?_ (by assumption))))) kx, Bl.cells (by (repeat (first | assumption | with_reducible exact Bl.refl _ | with_reducible refine Bl.drewN ?_ _ | with_reducible refine Bl.drew ?_ | with_reducible refine Bl.alloc ?_ _ | (with_reducible refine Bl.call ?_ (by assumption))))) ky, Bl.cells (by (repeat (first | assumption | with_reducible exact Bl.refl _ | with_reducible refine Bl.drewN ?_ _ | with_reducible refine Bl.drew ?_ | with_reducible refine Bl.alloc ?_ _ | (with_reducible refine Bl.call ?_ (by assumption))))) kq⟩
  clear hK K
  (try simp only [Act.put]); (try simp only [List.setIfInBounds_toArray]); (try simp only [List.set_cons_succ]); (try simp only [List.set_cons_zero])
  refine wpAnyH_ready (rs := [6]) (by kernel_rfl) (by simp) ?_
  refine AllReadyH.cons rfl (fun K hK => ?_) AllReadyH.nil
  go_simp
  (refine (view1 _ _ _ _ _ _ _ _ _ _ _ _ _ _ _ _ _ _ _ _ h2 h3 hp hx hy (hall.out r0 (by simp)) (hall.out r1 (by simp)) hall49.out hmem.out).mono ?_; rintro e w8 ⟨A8, c8, rfl, ho8, hb8⟩)
  go_wp2_with fail
  refine hK.out _ _ ?_ (fun hHeld => ?_)
  · (try dsimp only); exact ⟨Bl.cells (by (repeat (first | assumption | with_reducible exact Bl.refl _ | with_reducible refine Bl.drewN ?_ _ | with_reducible refine Bl.drew ?_ | with_reducible refine Bl.alloc ?_ _ | (with_reducible refine Bl.call ?_ (by assumption))))) kp, Bl.cells (by (repeat (first | assumption | with_reducible exact Bl.refl _ | with_reducible refine Bl.drewN ?_ _ | with_reducible refine Bl.drew ?_ | with_reducible refine Bl.alloc ?_ _ | (with_reducible refine Bl.call ?_ (by assumption))))) kx, Bl.cells (by (repeat (first | assumption | with_reducible exact Bl.refl _ | with_reducible refine Bl.drewN ?_ _ | with_reducible refine Bl.drew ?_ | with_reducible refine Bl.alloc ?_ _ | (with_reducible refine Bl.call ?_ (by assumption))))) ky, Bl.cells (by (repeat (first | assumption | with_reducible exact Bl.refl _ | with_reducible refine Bl.drewN ?_ _ | with_reducible refine Bl.drew ?_ | with_reducible refine Bl.alloc ?_ _ | (with_reducible refine Bl.call ?_ (by assumption))))) kq⟩
  clear hK K
  (try simp only [Act.put]); (try simp only [List.setIfInBounds_toArray]); (try simp only [List.set_cons_succ]); (try simp only [List.set_cons_zero])
  refine held_take (i := 7) (d := 6) (v := ?_) rfl rfl (by kernel_rfl) (by kernel_rfl) (by kernel_rfl) (fun _ _ _ h => h) (Or.inl ⟨by rfl, ?_⟩) (by assumption) ?_
  rotate_left
  · (intro w hSw; (try dsimp only at hSw); go_simp; (try with_reducible rfl))
  (try simp only [List.set_cons_zero, List.set_cons_succ])
  refine wpAnyH_done (by kernel_rfl) ?_ _
  go_wp2
  go_ret
  exact ⟨A8, c8, rfl, OwnI.mono ho8 (Bl.sz (by (repeat (first | assumption | with_reducible exact Bl.refl _ | with_reducible refine Bl.drewN ?_ _ | with_reducible refine Bl.drew ?_ | with_reducible refine Bl.alloc ?_ _ | (with_reducible refine Bl.call ?_ (by assumption)))))), (by (repeat (first | assumption | with_reducible exact Bl.refl _ | with_reducible refine Bl.drewN ?_ _ | with_reducible refine Bl.drew ?_ | with_reducible refine Bl.alloc ?_ _ | (with_reducible refine Bl.call ?_ (by assumption)))))⟩
theorem enters_SimCounts_1 : Enters 132 := fun _ _ => by kernel_rfl
set_option maxHeartbeats 1000000 in
theorem SimCounts_1 (q i o : Int) (l : List Int) (gq gi go : Nat) (A : Option Addr) (c : Nat) (w : World) (hl : RdI w A 9 c l) (hq : q = 0 ∨ q = 1) (hi : 0 ≤ i ∧ i < 2) (ho : 0 ≤ o ∧ o < 2) (hall0 : ∀ z ∈ l, 0 ≤ z ∧ z < 2)
    (kq : w.cell? ⟨gq, 0, none⟩ = some (.int .i64 q)) (ki : w.cell? ⟨gi, 0, none⟩ = some (.int .i64 i)) (ko : w.cell? ⟨go, 0, none⟩ = some (.int .i64 o)) :
    Calls Try.prog 132 #[.slice A 9 c, .pointer (some ⟨gq, 0, none⟩), .pointer (some ⟨gi, 0, none⟩), .pointer (some ⟨go, 0, none⟩)] w fun r w' => ∃ A2 c2, r = .returned (.slice A2 11 c2) ∧ OwnI w.heap.size w' A2 11 c2 (svL 2 q i o l) ∧ Bl w w' := by
  have HS := Lib.hid (simView_L 2 q i o l A c w hl (by omega) hi ho hq hall0)
  clear hall0 hq
  go_enter Try.func132, Try.ntmps132
  go_wp2_with (go_at_call 126; refine HS.out.mono ?_; rintro e w8 ⟨A8, c8, rfl, ho8, hb8⟩)
  go_ret
  exact ⟨A8, c8, rfl, ho8, hb8⟩
def rcB (x y q : Int) : Bool := inR x 0 1 && inR y 0 1 && inR q 0 1
def rcR (x y q : Int) : List Int := if rcB x y q then cntN 2 (fun code : Nat => rvL 2 x y q (digs 2 code 9).1) else []
def scR (q i o : Int) : List Int := if rcB q i o then cntN 2 (fun code : Nat => svL 2 q i o (digs 2 code 9).1) else []
theorem rcB_facts {x y q : Int} (h : rcB x y q = true) : (x = 0 ∨ x = 1) ∧ (y = 0 ∨ y = 1) ∧ (q = 0 ∨ q = 1) ∧ inR x 0 1 = true ∧ inR y 0 1 = true ∧ inR q 0 1 = true := by
  simp only [rcB, Bool.and_eq_true] at h
  have a := inR_iff.1 h.1.1
  have b := inR_iff.1 h.1.2
  have c := inR_iff.1 h.2
  exact ⟨by omega, by omega, by omega, h.1.1, h.1.2, h.2⟩
theorem rcB_all (x y q : Int) : allR [x, y, q] 0 1 = rcB x y q := by simp [allR, rcB, Bool.and_assoc]
theorem cntN_len (f : Nat → List Int) : (cntN 2 f).length ≤ 2048 := by unfold cntN; rw [tally_length]; decide
theorem rcR_len (x y q : Int) : (rcR x y q).length ≤ 2048 := by
  unfold rcR; split
  · exact cntN_len _
  · simp
theorem scR_len (x y q : Int) : (scR x y q).length ≤ 2048 := by
  unfold scR; split
  · exact cntN_len _
  · simp
set_option maxHeartbeats 2000000 in
theorem spec_RealCounts (x y q : Int) (w : World) : Calls Try.prog 61 #[.int .i64 x, .int .i64 y, .int .i64 q] w fun e w' => ∃ A n c, e = .returned (.tuple #[.slice A n c, .bool (rcB x y q)]) ∧ OwnI w.heap.size w' A n c (rcR x y q) ∧ Bl w w' := by
  have hall := rcB_all x y q
  rcases hB : rcB x y q
  · rw [hB] at hall
    have hR := Lib.hid (show rcR x y q = [] by simp [rcR, hB])
    go_enter Try.func61, Try.ntmps61
    go_wp2_with (first | (go_at_call 104; refine (spec_l1All _ _ _ [x, y, q] _ _ _ (rd_new3 _ 3 _ _ _)).mono ?_; rintro e w' ⟨rfl, rfl⟩; rw [hall]))
    go_ret2
    exact ⟨none, 0, 0, rfl, by rw [hR.out]; exact OwnI.nil _ _, (by (repeat (first | assumption | with_reducible exact Bl.refl _ | with_reducible refine Bl.drewN ?_ _ | with_reducible refine Bl.drew ?_ | with_reducible refine Bl.alloc ?_ _ | (with_reducible refine Bl.call ?_ (by assumption)))))⟩
  · rw [hB] at hall
    obtain ⟨hx, hy, hq, e1, e2, e3⟩ := rcB_facts hB
    have hR := Lib.hid (show rcR x y q = cntN 2 (fun code : Nat => rvL 2 x y q (digs 2 code 9).1) by unfold rcR; rw [hB]; rfl)
    clear e1 e2 e3 hB
    go_enter Try.func61, Try.ntmps61
    go_wp2_with (first | (go_at_call 104; refine (spec_l1All _ _ _ [x, y, q] _ _ _ (rd_new3 _ 3 _ _ _)).mono ?_; rintro e w' ⟨rfl, rfl⟩; rw [hall]) | (go_at_call 129; refine (vwCounts_real 2 x y q _ (by omega) (by omega) (by omega) (by omega) hq).mono ?_; rintro e w1 ⟨A1, n1, c1, rfl, ho1, hb1⟩))
    go_ret2
    exact ⟨A1, n1, c1, rfl, by rw [hR.out]; exact OwnI.mono ho1 (Bl.sz (by (repeat (first | assumption | with_reducible exact Bl.refl _ | with_reducible refine Bl.drewN ?_ _ | with_reducible refine Bl.drew ?_ | with_reducible refine Bl.alloc ?_ _ | (with_reducible refine Bl.call ?_ (by assumption)))))), (by (repeat (first | assumption | with_reducible exact Bl.refl _ | with_reducible refine Bl.drewN ?_ _ | with_reducible refine Bl.drew ?_ | with_reducible refine Bl.alloc ?_ _ | (with_reducible refine Bl.call ?_ (by assumption)))))⟩
set_option maxHeartbeats 2000000 in
theorem impl_RealCounts (x y q : Int) (w : World) : Calls Try.prog 60 #[.int .i64 x, .int .i64 y, .int .i64 q] w fun e w' => ∃ A n c, e = .returned (.tuple #[.slice A n c, .bool (rcB x y q)]) ∧ OwnI w.heap.size w' A n c (rcR x y q) ∧ Bl w w' := by
  have hW3 : Bl w (((w.alloc (.cells #[.int .i64 x] 3)).alloc (.cells #[.int .i64 y] 3)).alloc (.cells #[.int .i64 q] 3)) := (by (repeat (first | assumption | with_reducible exact Bl.refl _ | with_reducible refine Bl.drewN ?_ _ | with_reducible refine Bl.drew ?_ | with_reducible refine Bl.alloc ?_ _ | (with_reducible refine Bl.call ?_ (by assumption)))))
  rcases hB : rcB x y q
  · have hBf := Lib.hid hB
    have hR := Lib.hid (show rcR x y q = [] by simp [rcR, hB])
    rw [← hB]
    rcases h0 : inR x 0 1
    · go_enter Try.func60, Try.ntmps60
      go_wp2_with (first | (go_at_call 72; refine (impl_isBit _ _).mono ?_; rintro e w' ⟨rfl, rfl⟩))
      go_ret2
      exact ⟨none, 0, 0, by rw [hBf.out]; rfl, by rw [hR.out]; exact OwnI.nil _ _, (by (repeat (first | assumption | with_reducible exact Bl.refl _ | with_reducible refine Bl.drewN ?_ _ | with_reducible refine Bl.drew ?_ | with_reducible refine Bl.alloc ?_ _ | (with_reducible refine Bl.call ?_ (by assumption)))))⟩
    · rcases h1 : inR y 0 1
      · go_enter Try.func60, Try.ntmps60
        go_wp2_with (first | (go_at_call 72; refine (impl_isBit _ _).mono ?_; rintro e w' ⟨rfl, rfl⟩))
        go_ret2
        exact ⟨none, 0, 0, by rw [hBf.out]; rfl, by rw [hR.out]; exact OwnI.nil _ _, (by (repeat (first | assumption | with_reducible exact Bl.refl _ | with_reducible refine Bl.drewN ?_ _ | with_reducible refine Bl.drew ?_ | with_reducible refine Bl.alloc ?_ _ | (with_reducible refine Bl.call ?_ (by assumption)))))⟩
      · rcases h2 : inR q 0 1
        · go_enter Try.func60, Try.ntmps60
          go_wp2_with (first | (go_at_call 72; refine (impl_isBit _ _).mono ?_; rintro e w' ⟨rfl, rfl⟩))
          go_ret2
          exact ⟨none, 0, 0, by rw [hBf.out]; rfl, by rw [hR.out]; exact OwnI.nil _ _, (by (repeat (first | assumption | with_reducible exact Bl.refl _ | with_reducible refine Bl.drewN ?_ _ | with_reducible refine Bl.drew ?_ | with_reducible refine Bl.alloc ?_ _ | (with_reducible refine Bl.call ?_ (by assumption)))))⟩
        · exfalso
          simp_all [rcB]
  · obtain ⟨hx, hy, hq, e1, e2, e3⟩ := rcB_facts hB
    have hR := Lib.hid (show rcR x y q = cntN 2 (fun code : Nat => rvL 2 x y q (digs 2 code 9).1) by unfold rcR; rw [hB]; rfl)
    have hG : Sees (((w.alloc (.cells #[.int .i64 x] 3)).alloc (.cells #[.int .i64 y] 3)).alloc (.cells #[.int .i64 q] 3)) 2 131 #[.pointer (some ⟨w.heap.size, 0, none⟩), .pointer (some ⟨w.heap.size + 1, 0, none⟩), .pointer (some ⟨w.heap.size + 1 + 1, 0, none⟩)] (fun code : Nat => rvL 2 x y q (digs 2 code 9).1) := fun code c A W' hW' hr => by
      have ka := (((Blk.new w 3 #[.int .i64 x]).alloc (.cells #[.int .i64 y] 3)).alloc (.cells #[.int .i64 q] 3)).keep hW'
      have kb := ((Blk.new (w.alloc (.cells #[.int .i64 x] 3)) 3 #[.int .i64 y] (g := w.heap.size + 1) (by simp)).alloc (.cells #[.int .i64 q] 3)).keep hW'
      have kc := (Blk.new ((w.alloc (.cells #[.int .i64 x] 3)).alloc (.cells #[.int .i64 y] 3)) 3 #[.int .i64 q] (g := w.heap.size + 1 + 1) (by simp)).keep hW'
      rcases hq with rfl | rfl
      · exact RealCounts_1_0 x y _ _ _ _ A c W' hr (by omega) (by omega) (by omega) (digs_mem 2 code (by omega) 9) (ka.cell 0 _ rfl) (kb.cell 0 _ rfl) (kc.cell 0 _ rfl)
      · exact RealCounts_1_1 x y _ _ _ _ A c W' hr (by omega) (by omega) (by omega) (digs_mem 2 code (by omega) 9) (ka.cell 0 _ rfl) (kb.cell 0 _ rfl) (kc.cell 0 _ rfl)
    have HC := Lib.hid (impl_counts 2 131 _ _ _ (by omega) (by omega) enters_RealCounts_1 hG (fun code => rvL_mem 2 x y q _ (by omega) (by omega) (by omega) (digs_len 2 code 9) (digs_mem 2 code (by omega) 9)))
    clear hG hB hx hy hq
    go_enter Try.func60, Try.ntmps60
    go_wp2_with (first | (go_at_call 72; refine (impl_isBit _ _).mono ?_; rintro e w' ⟨rfl, rfl⟩) | (go_at_call 123; refine HC.out.mono ?_; rintro e w1 ⟨A1, n1, c1, rfl, ho1, hb1⟩))
    go_ret2
    exact ⟨A1, n1, c1, rfl, by rw [hR.out]; exact OwnI.mono ho1 (Bl.sz (by (repeat (first | assumption | with_reducible exact Bl.refl _ | with_reducible refine Bl.drewN ?_ _ | with_reducible refine Bl.drew ?_ | with_reducible refine Bl.alloc ?_ _ | (with_reducible refine Bl.call ?_ (by assumption)))))), (by (repeat (first | assumption | with_reducible exact Bl.refl _ | with_reducible refine Bl.drewN ?_ _ | with_reducible refine Bl.drew ?_ | with_reducible refine Bl.alloc ?_ _ | (with_reducible refine Bl.call ?_ (by assumption)))))⟩
set_option maxHeartbeats 2000000 in
theorem spec_SimCounts (q i o : Int) (w : World) : Calls Try.prog 66 #[.int .i64 q, .int .i64 i, .int .i64 o] w fun e w' => ∃ A n c, e = .returned (.tuple #[.slice A n c, .bool (rcB q i o)]) ∧ OwnI w.heap.size w' A n c (scR q i o) ∧ Bl w w' := by
  have hall := rcB_all q i o
  rcases hB : rcB q i o
  · rw [hB] at hall
    have hR := Lib.hid (show scR q i o = [] by simp [scR, hB])
    go_enter Try.func66, Try.ntmps66
    go_wp2_with (first | (go_at_call 104; refine (spec_l1All _ _ _ [q, i, o] _ _ _ (rd_new3 _ 3 _ _ _)).mono ?_; rintro e w' ⟨rfl, rfl⟩; rw [hall]))
    go_ret2
    exact ⟨none, 0, 0, rfl, by rw [hR.out]; exact OwnI.nil _ _, (by (repeat (first | assumption | with_reducible exact Bl.refl _ | with_reducible refine Bl.drewN ?_ _ | with_reducible refine Bl.drew ?_ | with_reducible refine Bl.alloc ?_ _ | (with_reducible refine Bl.call ?_ (by assumption)))))⟩
  · rw [hB] at hall
    obtain ⟨hq, hi, ho, e1, e2, e3⟩ := rcB_facts hB
    have hR := Lib.hid (show scR q i o = cntN 2 (fun code : Nat => svL 2 q i o (digs 2 code 9).1) by unfold scR; rw [hB]; rfl)
    clear e1 e2 e3 hB
    rcases hq with rfl | rfl
    · go_enter Try.func66, Try.ntmps66
      go_wp2_with (first | (go_at_call 104; refine (spec_l1All _ _ _ [0, i, o] _ _ _ (rd_new3 _ 3 _ _ _)).mono ?_; rintro e w' ⟨rfl, rfl⟩; rw [hall]) | (go_at_call 129; refine (vwCounts_sim0 2 i i o _ (by omega) (by omega) (by omega) (by omega) (by omega)).mono ?_; rintro e w1 ⟨A1, n1, c1, rfl, ho1, hb1⟩))
      go_ret2
      exact ⟨A1, n1, c1, rfl, by rw [hR.out]; exact OwnI.mono ho1 (Bl.sz (by (repeat (first | assumption | with_reducible exact Bl.refl _ | with_reducible refine Bl.drewN ?_ _ | with_reducible refine Bl.drew ?_ | with_reducible refine Bl.alloc ?_ _ | (with_reducible refine Bl.call ?_ (by assumption)))))), (by (repeat (first | assumption | with_reducible exact Bl.refl _ | with_reducible refine Bl.drewN ?_ _ | with_reducible refine Bl.drew ?_ | with_reducible refine Bl.alloc ?_ _ | (with_reducible refine Bl.call ?_ (by assumption)))))⟩
    · go_enter Try.func66, Try.ntmps66
      go_wp2_with (first | (go_at_call 104; refine (spec_l1All _ _ _ [1, i, o] _ _ _ (rd_new3 _ 3 _ _ _)).mono ?_; rintro e w' ⟨rfl, rfl⟩; rw [hall]) | (go_at_call 129; refine (vwCounts_sim1 2 i i o _ (by omega) (by omega) (by omega) (by omega) (by omega)).mono ?_; rintro e w1 ⟨A1, n1, c1, rfl, ho1, hb1⟩))
      go_ret2
      exact ⟨A1, n1, c1, rfl, by rw [hR.out]; exact OwnI.mono ho1 (Bl.sz (by (repeat (first | assumption | with_reducible exact Bl.refl _ | with_reducible refine Bl.drewN ?_ _ | with_reducible refine Bl.drew ?_ | with_reducible refine Bl.alloc ?_ _ | (with_reducible refine Bl.call ?_ (by assumption)))))), (by (repeat (first | assumption | with_reducible exact Bl.refl _ | with_reducible refine Bl.drewN ?_ _ | with_reducible refine Bl.drew ?_ | with_reducible refine Bl.alloc ?_ _ | (with_reducible refine Bl.call ?_ (by assumption)))))⟩
set_option maxHeartbeats 2000000 in
theorem impl_SimCounts (q i o : Int) (w : World) : Calls Try.prog 62 #[.int .i64 q, .int .i64 i, .int .i64 o] w fun e w' => ∃ A n c, e = .returned (.tuple #[.slice A n c, .bool (rcB q i o)]) ∧ OwnI w.heap.size w' A n c (scR q i o) ∧ Bl w w' := by
  have hW3 : Bl w (((w.alloc (.cells #[.int .i64 q] 3)).alloc (.cells #[.int .i64 i] 3)).alloc (.cells #[.int .i64 o] 3)) := (by (repeat (first | assumption | with_reducible exact Bl.refl _ | with_reducible refine Bl.drewN ?_ _ | with_reducible refine Bl.drew ?_ | with_reducible refine Bl.alloc ?_ _ | (with_reducible refine Bl.call ?_ (by assumption)))))
  rcases hB : rcB q i o
  · have hBf := Lib.hid hB
    have hR := Lib.hid (show scR q i o = [] by simp [scR, hB])
    rw [← hB]
    rcases h0 : inR q 0 1
    · go_enter Try.func62, Try.ntmps62
      go_wp2_with (first | (go_at_call 72; refine (impl_isBit _ _).mono ?_; rintro e w' ⟨rfl, rfl⟩))
      go_ret2
      exact ⟨none, 0, 0, by rw [hBf.out]; rfl, by rw [hR.out]; exact OwnI.nil _ _, (by (repeat (first | assumption | with_reducible exact Bl.refl _ | with_reducible refine Bl.drewN ?_ _ | with_reducible refine Bl.drew ?_ | with_reducible refine Bl.alloc ?_ _ | (with_reducible refine Bl.call ?_ (by assumption)))))⟩
    · rcases h1 : inR i 0 1
      · go_enter Try.func62, Try.ntmps62
        go_wp2_with (first | (go_at_call 72; refine (impl_isBit _ _).mono ?_; rintro e w' ⟨rfl, rfl⟩))
        go_ret2
        exact ⟨none, 0, 0, by rw [hBf.out]; rfl, by rw [hR.out]; exact OwnI.nil _ _, (by (repeat (first | assumption | with_reducible exact Bl.refl _ | with_reducible refine Bl.drewN ?_ _ | with_reducible refine Bl.drew ?_ | with_reducible refine Bl.alloc ?_ _ | (with_reducible refine Bl.call ?_ (by assumption)))))⟩
      · rcases h2 : inR o 0 1
        · go_enter Try.func62, Try.ntmps62
          go_wp2_with (first | (go_at_call 72; refine (impl_isBit _ _).mono ?_; rintro e w' ⟨rfl, rfl⟩))
          go_ret2
          exact ⟨none, 0, 0, by rw [hBf.out]; rfl, by rw [hR.out]; exact OwnI.nil _ _, (by (repeat (first | assumption | with_reducible exact Bl.refl _ | with_reducible refine Bl.drewN ?_ _ | with_reducible refine Bl.drew ?_ | with_reducible refine Bl.alloc ?_ _ | (with_reducible refine Bl.call ?_ (by assumption)))))⟩
        · exfalso
          simp_all [rcB]
  · obtain ⟨hq, hi, ho, e1, e2, e3⟩ := rcB_facts hB
    have hR := Lib.hid (show scR q i o = cntN 2 (fun code : Nat => svL 2 q i o (digs 2 code 9).1) by unfold scR; rw [hB]; rfl)
    have hG : Sees (((w.alloc (.cells #[.int .i64 q] 3)).alloc (.cells #[.int .i64 i] 3)).alloc (.cells #[.int .i64 o] 3)) 2 132 #[.pointer (some ⟨w.heap.size, 0, none⟩), .pointer (some ⟨w.heap.size + 1, 0, none⟩), .pointer (some ⟨w.heap.size + 1 + 1, 0, none⟩)] (fun code : Nat => svL 2 q i o (digs 2 code 9).1) := fun code c A W' hW' hr => by
      have ka := (((Blk.new w 3 #[.int .i64 q]).alloc (.cells #[.int .i64 i] 3)).alloc (.cells #[.int .i64 o] 3)).keep hW'
      have kb := ((Blk.new (w.alloc (.cells #[.int .i64 q] 3)) 3 #[.int .i64 i] (g := w.heap.size + 1) (by simp)).alloc (.cells #[.int .i64 o] 3)).keep hW'
      have kc := (Blk.new ((w.alloc (.cells #[.int .i64 q] 3)).alloc (.cells #[.int .i64 i] 3)) 3 #[.int .i64 o] (g := w.heap.size + 1 + 1) (by simp)).keep hW'
      exact SimCounts_1 q i o _ _ _ _ A c W' hr hq (by omega) (by omega) (digs_mem 2 code (by omega) 9) (ka.cell 0 _ rfl) (kb.cell 0 _ rfl) (kc.cell 0 _ rfl)
    have HC := Lib.hid (impl_counts 2 132 _ _ _ (by omega) (by omega) enters_SimCounts_1 hG (fun code => svL_mem 2 q i o _ (by omega) (by omega) (digs_len 2 code 9) (digs_mem 2 code (by omega) 9)))
    clear hG hB hq hi ho
    go_enter Try.func62, Try.ntmps62
    go_wp2_with (first | (go_at_call 72; refine (impl_isBit _ _).mono ?_; rintro e w' ⟨rfl, rfl⟩) | (go_at_call 123; refine HC.out.mono ?_; rintro e w1 ⟨A1, n1, c1, rfl, ho1, hb1⟩))
    go_ret2
    exact ⟨A1, n1, c1, rfl, by rw [hR.out]; exact OwnI.mono ho1 (Bl.sz (by (repeat (first | assumption | with_reducible exact Bl.refl _ | with_reducible refine Bl.drewN ?_ _ | with_reducible refine Bl.drew ?_ | with_reducible refine Bl.alloc ?_ _ | (with_reducible refine Bl.call ?_ (by assumption)))))), (by (repeat (first | assumption | with_reducible exact Bl.refl _ | with_reducible refine Bl.drewN ?_ _ | with_reducible refine Bl.drew ?_ | with_reducible refine Bl.alloc ?_ _ | (with_reducible refine Bl.call ?_ (by assumption)))))⟩
end Go.Proofs.Ytglgaicbcackbaa
