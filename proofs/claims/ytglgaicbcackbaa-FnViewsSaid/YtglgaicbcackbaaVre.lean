/- Contracts of the reference's real and simulated views.
   Conditions: small elements of a field. -/
import Derived.Test.YtglgaicbcackbaaSpo
import Derived.Test.YtglgaicbcackbaaSim
import Derived.Outline
namespace Go.Proofs.Ytglgaicbcackbaa
open Go.RowKit
set_option linter.unusedVariables false
theorem addc {a a' b b' p : Int} (h : a % p = a' % p) (k : b % p = b' % p) : (a + b) % p = (a' + b') % p := by rw [Int.add_emod, h, k, ← Int.add_emod]
theorem mulc {a a' b b' p : Int} (h : a % p = a' % p) (k : b % p = b' % p) : (a * b) % p = (a' * b') % p := by rw [Int.mul_emod, h, k, ← Int.mul_emod]
theorem shrZ_mod (p q c d e A B : Int) : shrZ p q c d e (A % p) (B % p) = shrZ p q c d e A B := by
  unfold shrZ
  refine addc (addc (addc rfl (mulc (Int.emod_emod _ _) rfl)) (mulc (Int.emod_emod _ _) rfl)) ?_
  split
  · exact mulc (Int.emod_emod _ _) (Int.emod_emod _ _)
  · rfl
theorem sub_mod_l (a b p : Int) : (a % p - b) % p = (a - b) % p := by rw [Int.sub_emod, Int.emod_emod, ← Int.sub_emod]
theorem sub_mod_r (a b p : Int) : (a - b % p) % p = (a - b) % p := by rw [Int.sub_emod, Int.emod_emod, ← Int.sub_emod]
theorem sh1_mem (p r0 r1 r2 r3 r4 r5 r6 r7 r8 : Int) (hp : 2 ≤ p) : ∀ z ∈ sh1 p r0 r1 r2 r3 r4 r5 r6 r7 r8, 0 ≤ z ∧ z < p := by
  intro z hz
  simp only [sh1, List.mem_cons, List.not_mem_nil, or_false] at hz
  rcases hz with rfl | rfl | rfl | rfl | rfl <;> exact md_bd _ hp
theorem subs_sh1 (p r0 r1 r2 r3 r4 r5 r6 r7 r8 : Int) : subsL p [r0, r1, r2, r3, r2 * r3 % p] [r4, r5, r6, r7, r8] = sh1 p r0 r1 r2 r3 r4 r5 r6 r7 r8 := by
  show [_, _, _, _, (r2 * r3 % p - r8) % p] = _
  unfold sh1
  rw [sub_mod_l]
set_option maxRecDepth 20000 in
set_option maxHeartbeats 4000000 in
theorem vwShares0 (p r0 r1 r2 r3 r4 r5 r6 r7 r8 : Int) (A : Option Addr) (c : Nat) (w : World) (hl : RdI w A 9 c [r0, r1, r2, r3, r4, r5, r6, r7, r8]) (hp : 2 ≤ p ∧ p ≤ 251)
    (hall : ∀ z ∈ [r0, r1, r2, r3, r4, r5, r6, r7, r8], 0 ≤ z ∧ z < p) :
    Calls Try.prog 144 #[.int .i64 p, .int .i64 0, .slice A 9 c] w
      fun r w' => ∃ A2 c2, r = .returned (.slice A2 5 c2) ∧ RdI w' A2 5 c2 ([r4, r5, r6, r7, r8]) ∧ Bl w w' := by
  obtain ⟨hle1, hle2⟩ := hl.le
  have hl9 := hl
  obtain ⟨ad, rfl, had, q0, qs⟩ := hl.lit (by omega)
  have g0 := q0 _ rfl
  have g1 := qs 1 _ (by omega) rfl
  have g2 := qs 2 _ (by omega) rfl
  have g3 := qs 3 _ (by omega) rfl
  have g4 := qs 4 _ (by omega) rfl
  have g5 := qs 5 _ (by omega) rfl
  have g6 := qs 6 _ (by omega) rfl
  have g7 := qs 7 _ (by omega) rfl
  have g8 := qs 8 _ (by omega) rfl
  clear qs q0
  have b0 := hall r0 (by simp)
  have b1 := hall r1 (by simp)
  have b2 := hall r2 (by simp)
  have b3 := hall r3 (by simp)
  have b4 := hall r4 (by simp)
  have b5 := hall r5 (by simp)
  have b6 := hall r6 (by simp)
  have b7 := hall r7 (by simp)
  have b8 := hall r8 (by simp)
  have i1 : (9 : Int) ≤ c := by omega
  have i4 : (4 : Int) ≤ c := by omega
  have hwr0 : IntKind.i64.wrap 0 = 0 := rfl
  have hwr1 : IntKind.i64.wrap 1 = 1 := rfl
  clear hall
  have hm := mul_bd3 r2 r3 251 251 (by omega) (by omega) (by omega) (by omega)
  have hmw : IntKind.i64.wrap (r2 * r3) = r2 * r3 := IntWalk.i64_in _ (by omega)
  have hmt : (r2 * r3).tmod p = r2 * r3 % p := Int.tmod_eq_emod_of_nonneg (by omega)
  have hp0 : (p == 0) = false := by simp; omega
  have hp1 : ¬ p = 0 := by omega
  have M := md_bd (r2 * r3) hp.1
  go_enter Try.func144, Try.ntmps144
  go_upto_region 1 with fail
  go_cut [7] (fun s7 wx => ∃ A7 c7, s7 = .slice A7 5 c7 ∧ OwnI w.heap.size wx A7 5 c7 [r0, r1, r2, r3, r2 * r3 % p] ∧ Bl w wx)
  case first =>
    refine wp_region_held_drew (S := (fun w' => w'.cell? ⟨ad.block, ad.off + 2, none⟩ = some (.int .i64 r2) ∧ w'.cell? ⟨ad.block, ad.off + 3, none⟩ = some (.int .i64 r3))) (by kernel_rfl) ?_ (fun hHeld => ?_)
    · (try dsimp only); exact ⟨Bl.cells (by (repeat (first | assumption | with_reducible exact Bl.refl _ | with_reducible refine Bl.drewN ?_ _ | with_reducible refine Bl.drew ?_ | with_reducible refine Bl.alloc ?_ _ | (with_reducible refine Bl.call ?_ (by assumption))))) g2, Bl.cells (by (repeat (first | assumption | with_reducible exact Bl.refl _ | with_reducible refine Bl.drewN ?_ _ | with_reducible refine Bl.drew ?_ | with_reducible refine Bl.alloc ?_ _ | (with_reducible refine Bl.call ?_ (by assumption))))) g3⟩
    refine held_take (i := 0) (d := 8) (v := ?_) rfl rfl (by kernel_rfl) (by kernel_rfl) (by kernel_rfl) (fun _ _ _ h => h) (Or.inl ⟨by rfl, ?_⟩) (by assumption) ?_
    rotate_left
    · (intro w hSw; (try dsimp only at hSw); go_simp; (try with_reducible rfl))
    (try simp only [List.set_cons_zero, List.set_cons_succ])
    refine held_take (i := 1) (d := 9) (v := ?_) rfl rfl (by kernel_rfl) (by kernel_rfl) (by kernel_rfl) (fun _ _ _ h => h) (Or.inl ⟨by rfl, ?_⟩) (by assumption) ?_
    rotate_left
    · (intro w hSw; (try dsimp only at hSw); go_simp; (try with_reducible rfl))
    (try simp only [List.set_cons_zero, List.set_cons_succ])
    refine held_take (i := 3) (d := 11) (v := ?_) rfl rfl (by kernel_rfl) (by kernel_rfl) (by kernel_rfl) (fun _ _ _ h => h) (Or.inl ⟨by rfl, ?_⟩) (by assumption) ?_
    rotate_left
    · (intro w hSw; (try dsimp only at hSw); go_simp; (try with_reducible rfl))
    (try simp only [List.set_cons_zero, List.set_cons_succ])
    refine held_take (i := 4) (d := 12) (v := ?_) rfl rfl (by kernel_rfl) (by kernel_rfl) (by kernel_rfl) (fun _ _ _ h => h) (Or.inl ⟨by rfl, ?_⟩) (by assumption) ?_
    rotate_left
    · (intro w hSw; (try dsimp only at hSw); go_simp; (try with_reducible rfl))
    (try simp only [List.set_cons_zero, List.set_cons_succ])
    refine held_take (i := 5) (d := 13) (v := ?_) rfl rfl (by kernel_rfl) (by kernel_rfl) (by kernel_rfl) (fun _ _ _ h => h) (Or.inl ⟨by rfl, ?_⟩) (by assumption) ?_
    rotate_left
    · (intro w hSw; (try dsimp only at hSw); go_simp; (try with_reducible rfl))
    (try simp only [List.set_cons_zero, List.set_cons_succ])
    refine held_take (i := 6) (d := 14) (v := ?_) rfl rfl (by kernel_rfl) (by kernel_rfl) (by kernel_rfl) (fun _ _ _ h => h) (Or.inl ⟨by rfl, ?_⟩) (by assumption) ?_
    rotate_left
    · (intro w hSw; (try dsimp only at hSw); go_simp; (try with_reducible rfl))
    (try simp only [List.set_cons_zero, List.set_cons_succ])
    refine held_take (i := 7) (d := 15) (v := ?_) rfl rfl (by kernel_rfl) (by kernel_rfl) (by kernel_rfl) (fun _ _ _ h => h) (Or.inl ⟨by rfl, ?_⟩) (by assumption) ?_
    rotate_left
    · (intro w hSw; (try dsimp only at hSw); go_simp; (try with_reducible rfl))
    (try simp only [List.set_cons_zero, List.set_cons_succ])
    refine held_take (i := 8) (d := 16) (v := ?_) rfl rfl (by kernel_rfl) (by kernel_rfl) (by kernel_rfl) (fun _ _ _ h => h) (Or.inl ⟨by rfl, ?_⟩) (by assumption) ?_
    rotate_left
    · (intro w hSw; (try dsimp only at hSw); go_simp; (try with_reducible rfl))
    (try simp only [List.set_cons_zero, List.set_cons_succ])
    refine held_take (i := 9) (d := 17) (v := ?_) rfl rfl (by kernel_rfl) (by kernel_rfl) (by kernel_rfl) (fun _ _ _ h => h) (Or.inl ⟨by rfl, ?_⟩) (by assumption) ?_
    rotate_left
    · (intro w hSw; (try dsimp only at hSw); go_simp; (try with_reducible rfl))
    (try simp only [List.set_cons_zero, List.set_cons_succ])
    refine held_take (i := 10) (d := 18) (v := ?_) rfl rfl (by kernel_rfl) (by kernel_rfl) (by kernel_rfl) (fun _ _ _ h => h) (Or.inl ⟨by rfl, ?_⟩) (by assumption) ?_
    rotate_left
    · (intro w hSw; (try dsimp only at hSw); go_simp; (try with_reducible rfl))
    (try simp only [List.set_cons_zero, List.set_cons_succ])
    refine held_take (i := 11) (d := 19) (v := ?_) rfl rfl (by kernel_rfl) (by kernel_rfl) (by kernel_rfl) (fun _ _ _ h => h) (Or.inl ⟨by rfl, ?_⟩) (by assumption) ?_
    rotate_left
    · (intro w hSw; (try dsimp only at hSw); go_simp; (try with_reducible rfl))
    (try simp only [List.set_cons_zero, List.set_cons_succ])
    refine wpAnyH_ready (rs := [2, 12]) (by kernel_rfl) (by simp) ?_
    refine AllReadyH.cons rfl (fun K hK => ?_) (AllReadyH.cons rfl (fun K hK => ?_) AllReadyH.nil)
    · go_simp
      (refine (spec_l1Own _ 4 _ [r0, r1, r2, r3] _ ?_ (by omega)).mono ?_; (· (refine RdI.keep (w := w) ?_ ?_; (· exact Rd.take (k := 4) hl9 (by omega)); (repeat (first | assumption | with_reducible exact Bl.refl _ | with_reducible refine Bl.drewN ?_ _ | with_reducible refine Bl.drew ?_ | with_reducible refine Bl.alloc ?_ _ | (with_reducible refine Bl.call ?_ (by assumption)))); done)); rintro r w8 ⟨A8, c8, rfl, ho8, hb8⟩)
      go_wp2_with fail
      refine hK.out _ _ ?_ (fun hHeld => ?_)
      · (try dsimp only); exact ⟨Bl.cells (by (repeat (first | assumption | with_reducible exact Bl.refl _ | with_reducible refine Bl.drewN ?_ _ | with_reducible refine Bl.drew ?_ | with_reducible refine Bl.alloc ?_ _ | (with_reducible refine Bl.call ?_ (by assumption))))) g2, Bl.cells (by (repeat (first | assumption | with_reducible exact Bl.refl _ | with_reducible refine Bl.drewN ?_ _ | with_reducible refine Bl.drew ?_ | with_reducible refine Bl.alloc ?_ _ | (with_reducible refine Bl.call ?_ (by assumption))))) g3⟩
      clear hK K
      (try simp only [Act.put]); (try simp only [List.setIfInBounds_toArray]); (try simp only [List.set_cons_succ]); (try simp only [List.set_cons_zero])
      refine wpAnyH_ready (rs := [12]) (by kernel_rfl) (by simp) ?_
      refine AllReadyH.cons rfl (fun K hK => ?_) AllReadyH.nil
      go_simp
      refine hK.out _ _ ?_ (fun hHeld => ?_)
      · (try dsimp only); exact ⟨Bl.cells (by (repeat (first | assumption | with_reducible exact Bl.refl _ | with_reducible refine Bl.drewN ?_ _ | with_reducible refine Bl.drew ?_ | with_reducible refine Bl.alloc ?_ _ | (with_reducible refine Bl.call ?_ (by assumption))))) g2, Bl.cells (by (repeat (first | assumption | with_reducible exact Bl.refl _ | with_reducible refine Bl.drewN ?_ _ | with_reducible refine Bl.drew ?_ | with_reducible refine Bl.alloc ?_ _ | (with_reducible refine Bl.call ?_ (by assumption))))) g3⟩
      clear hK K
      (try simp only [Act.put]); (try simp only [List.setIfInBounds_toArray]); (try simp only [List.set_cons_succ]); (try simp only [List.set_cons_zero])
      refine wpAnyH_ready (rs := [13]) (by kernel_rfl) (by simp) ?_
      refine AllReadyH.cons rfl (fun K hK => ?_) AllReadyH.nil
      (refine ap_int_step (l' := [r2 * r3 % p]) rfl rfl rfl (ho8.keep ?_) rfl ?_ ?_ ?_ ?_; (· ((repeat (first | assumption | with_reducible exact Bl.refl _ | with_reducible refine Bl.drewN ?_ _ | with_reducible refine Bl.drew ?_ | with_reducible refine Bl.alloc ?_ _ | (with_reducible refine Bl.call ?_ (by assumption)))); done)); (· (refine RdI.keep (rd_new1 ?_ 3 _ (hg := ?_)) ?_; rotate_left 2; (· ((repeat (first | assumption | with_reducible exact Bl.refl _ | with_reducible refine Bl.drewN ?_ _ | with_reducible refine Bl.drew ?_ | with_reducible refine Bl.alloc ?_ _ | (with_reducible refine Bl.call ?_ (by assumption)))); done)); first | rfl | simp)); (· omega); (· (exact Nat.le_trans hb8.sz (Bl.sz (by (repeat (first | assumption | with_reducible exact Bl.refl _ | with_reducible refine Bl.drewN ?_ _ | with_reducible refine Bl.drew ?_ | with_reducible refine Bl.alloc ?_ _ | (with_reducible refine Bl.call ?_ (by assumption)))))))); intro A9 c9 w9 ho9 hg9 hat9; have hb9 : Bl w w9 := Bl.grown (by (repeat (first | assumption | with_reducible exact Bl.refl _ | with_reducible refine Bl.drewN ?_ _ | with_reducible refine Bl.drew ?_ | with_reducible refine Bl.alloc ?_ _ | (with_reducible refine Bl.call ?_ (by assumption))))) hg9 (fun k hk => Nat.le_trans (Bl.sz (W := w) (by (repeat (first | assumption | with_reducible exact Bl.refl _ | with_reducible refine Bl.drewN ?_ _ | with_reducible refine Bl.drew ?_ | with_reducible refine Bl.alloc ?_ _ | (with_reducible refine Bl.call ?_ (by assumption)))))) (ho8.blk k hk).1))
      refine hK.out _ _ ?_ (fun hHeld => ?_)
      · (try dsimp only); exact ⟨Bl.cells (by (repeat (first | assumption | with_reducible exact Bl.refl _ | with_reducible refine Bl.drewN ?_ _ | with_reducible refine Bl.drew ?_ | with_reducible refine Bl.alloc ?_ _ | (with_reducible refine Bl.call ?_ (by assumption))))) g2, Bl.cells (by (repeat (first | assumption | with_reducible exact Bl.refl _ | with_reducible refine Bl.drewN ?_ _ | with_reducible refine Bl.drew ?_ | with_reducible refine Bl.alloc ?_ _ | (with_reducible refine Bl.call ?_ (by assumption))))) g3⟩
      clear hK K
      (try simp only [Act.put]); (try simp only [List.setIfInBounds_toArray]); (try simp only [List.set_cons_succ]); (try simp only [List.set_cons_zero])
      refine held_take (i := 14) (d := 7) (v := ?_) rfl rfl (by kernel_rfl) (by kernel_rfl) (by kernel_rfl) (fun _ _ _ h => h) (Or.inl ⟨by rfl, ?_⟩) (by assumption) ?_
      rotate_left
      · (intro w hSw; (try dsimp only at hSw); go_simp; (try with_reducible rfl))
      (try simp only [List.set_cons_zero, List.set_cons_succ])
      refine wpAnyH_done (by kernel_rfl) ?_ _
      go_wp2_with fail
      go_meet
      exact ⟨A9, c9, rfl, OwnI.mono ho9 (Bl.sz (by (repeat (first | assumption | with_reducible exact Bl.refl _ | with_reducible refine Bl.drewN ?_ _ | with_reducible refine Bl.drew ?_ | with_reducible refine Bl.alloc ?_ _ | (with_reducible refine Bl.call ?_ (by assumption)))))), (by (repeat (first | assumption | with_reducible exact Bl.refl _ | with_reducible refine Bl.drewN ?_ _ | with_reducible refine Bl.drew ?_ | with_reducible refine Bl.alloc ?_ _ | (with_reducible refine Bl.call ?_ (by assumption)))))⟩
    · go_simp
      refine hK.out _ _ ?_ (fun hHeld => ?_)
      · (try dsimp only); exact ⟨Bl.cells (by (repeat (first | assumption | with_reducible exact Bl.refl _ | with_reducible refine Bl.drewN ?_ _ | with_reducible refine Bl.drew ?_ | with_reducible refine Bl.alloc ?_ _ | (with_reducible refine Bl.call ?_ (by assumption))))) g2, Bl.cells (by (repeat (first | assumption | with_reducible exact Bl.refl _ | with_reducible refine Bl.drewN ?_ _ | with_reducible refine Bl.drew ?_ | with_reducible refine Bl.alloc ?_ _ | (with_reducible refine Bl.call ?_ (by assumption))))) g3⟩
      clear hK K
      (try simp only [Act.put]); (try simp only [List.setIfInBounds_toArray]); (try simp only [List.set_cons_succ]); (try simp only [List.set_cons_zero])
      refine wpAnyH_ready (rs := [2]) (by kernel_rfl) (by simp) ?_
      refine AllReadyH.cons rfl (fun K hK => ?_) AllReadyH.nil
      go_simp
      (refine (spec_l1Own _ 4 _ [r0, r1, r2, r3] _ ?_ (by omega)).mono ?_; (· (refine RdI.keep (w := w) ?_ ?_; (· exact Rd.take (k := 4) hl9 (by omega)); (repeat (first | assumption | with_reducible exact Bl.refl _ | with_reducible refine Bl.drewN ?_ _ | with_reducible refine Bl.drew ?_ | with_reducible refine Bl.alloc ?_ _ | (with_reducible refine Bl.call ?_ (by assumption)))); done)); rintro r w8 ⟨A8, c8, rfl, ho8, hb8⟩)
      go_wp2_with fail
      refine hK.out _ _ ?_ (fun hHeld => ?_)
      · (try dsimp only); exact ⟨Bl.cells (by (repeat (first | assumption | with_reducible exact Bl.refl _ | with_reducible refine Bl.drewN ?_ _ | with_reducible refine Bl.drew ?_ | with_reducible refine Bl.alloc ?_ _ | (with_reducible refine Bl.call ?_ (by assumption))))) g2, Bl.cells (by (repeat (first | assumption | with_reducible exact Bl.refl _ | with_reducible refine Bl.drewN ?_ _ | with_reducible refine Bl.drew ?_ | with_reducible refine Bl.alloc ?_ _ | (with_reducible refine Bl.call ?_ (by assumption))))) g3⟩
      clear hK K
      (try simp only [Act.put]); (try simp only [List.setIfInBounds_toArray]); (try simp only [List.set_cons_succ]); (try simp only [List.set_cons_zero])
      refine wpAnyH_ready (rs := [13]) (by kernel_rfl) (by simp) ?_
      refine AllReadyH.cons rfl (fun K hK => ?_) AllReadyH.nil
      (refine ap_int_step (l' := [r2 * r3 % p]) rfl rfl rfl (ho8.keep ?_) rfl ?_ ?_ ?_ ?_; (· ((repeat (first | assumption | with_reducible exact Bl.refl _ | with_reducible refine Bl.drewN ?_ _ | with_reducible refine Bl.drew ?_ | with_reducible refine Bl.alloc ?_ _ | (with_reducible refine Bl.call ?_ (by assumption)))); done)); (· (refine RdI.keep (rd_new1 ?_ 3 _ (hg := ?_)) ?_; rotate_left 2; (· ((repeat (first | assumption | with_reducible exact Bl.refl _ | with_reducible refine Bl.drewN ?_ _ | with_reducible refine Bl.drew ?_ | with_reducible refine Bl.alloc ?_ _ | (with_reducible refine Bl.call ?_ (by assumption)))); done)); first | rfl | simp)); (· omega); (· (exact Nat.le_trans hb8.sz (Bl.sz (by (repeat (first | assumption | with_reducible exact Bl.refl _ | with_reducible refine Bl.drewN ?_ _ | with_reducible refine Bl.drew ?_ | with_reducible refine Bl.alloc ?_ _ | (with_reducible refine Bl.call ?_ (by assumption)))))))); intro A9 c9 w9 ho9 hg9 hat9; have hb9 : Bl w w9 := Bl.grown (by (repeat (first | assumption | with_reducible exact Bl.refl _ | with_reducible refine Bl.drewN ?_ _ | with_reducible refine Bl.drew ?_ | with_reducible refine Bl.alloc ?_ _ | (with_reducible refine Bl.call ?_ (by assumption))))) hg9 (fun k hk => Nat.le_trans (Bl.sz (W := w) (by (repeat (first | assumption | with_reducible exact Bl.refl _ | with_reducible refine Bl.drewN ?_ _ | with_reducible refine Bl.drew ?_ | with_reducible refine Bl.alloc ?_ _ | (with_reducible refine Bl.call ?_ (by assumption)))))) (ho8.blk k hk).1))
      refine hK.out _ _ ?_ (fun hHeld => ?_)
      · (try dsimp only); exact ⟨Bl.cells (by (repeat (first | assumption | with_reducible exact Bl.refl _ | with_reducible refine Bl.drewN ?_ _ | with_reducible refine Bl.drew ?_ | with_reducible refine Bl.alloc ?_ _ | (with_reducible refine Bl.call ?_ (by assumption))))) g2, Bl.cells (by (repeat (first | assumption | with_reducible exact Bl.refl _ | with_reducible refine Bl.drewN ?_ _ | with_reducible refine Bl.drew ?_ | with_reducible refine Bl.alloc ?_ _ | (with_reducible refine Bl.call ?_ (by assumption))))) g3⟩
      clear hK K
      (try simp only [Act.put]); (try simp only [List.setIfInBounds_toArray]); (try simp only [List.set_cons_succ]); (try simp only [List.set_cons_zero])
      refine held_take (i := 14) (d := 7) (v := ?_) rfl rfl (by kernel_rfl) (by kernel_rfl) (by kernel_rfl) (fun _ _ _ h => h) (Or.inl ⟨by rfl, ?_⟩) (by assumption) ?_
      rotate_left
      · (intro w hSw; (try dsimp only at hSw); go_simp; (try with_reducible rfl))
      (try simp only [List.set_cons_zero, List.set_cons_succ])
      refine wpAnyH_done (by kernel_rfl) ?_ _
      go_wp2_with fail
      go_meet
      exact ⟨A9, c9, rfl, OwnI.mono ho9 (Bl.sz (by (repeat (first | assumption | with_reducible exact Bl.refl _ | with_reducible refine Bl.drewN ?_ _ | with_reducible refine Bl.drew ?_ | with_reducible refine Bl.alloc ?_ _ | (with_reducible refine Bl.call ?_ (by assumption)))))), (by (repeat (first | assumption | with_reducible exact Bl.refl _ | with_reducible refine Bl.drewN ?_ _ | with_reducible refine Bl.drew ?_ | with_reducible refine Bl.alloc ?_ _ | (with_reducible refine Bl.call ?_ (by assumption)))))⟩
  case rest =>
    obtain ⟨A7, c7, rfl, h7, hWx⟩ := hcut
    go_wp2
    go_ret
    exact ⟨_, _, rfl, (hl9.mid 5 (by omega) (by omega) (by omega)).keep hWx, hWx⟩
set_option maxRecDepth 20000 in
set_option maxHeartbeats 4000000 in
theorem vwShares1 (p r0 r1 r2 r3 r4 r5 r6 r7 r8 : Int) (A : Option Addr) (c : Nat) (w : World) (hl : RdI w A 9 c [r0, r1, r2, r3, r4, r5, r6, r7, r8]) (hp : 2 ≤ p ∧ p ≤ 251)
    (hall : ∀ z ∈ [r0, r1, r2, r3, r4, r5, r6, r7, r8], 0 ≤ z ∧ z < p) :
    Calls Try.prog 144 #[.int .i64 p, .int .i64 1, .slice A 9 c] w
      fun r w' => ∃ A2 c2, r = .returned (.slice A2 5 c2) ∧ RdI w' A2 5 c2 (sh1 p r0 r1 r2 r3 r4 r5 r6 r7 r8) ∧ Bl w w' := by
  obtain ⟨hle1, hle2⟩ := hl.le
  have hl9 := hl
  obtain ⟨ad, rfl, had, q0, qs⟩ := hl.lit (by omega)
  have g0 := q0 _ rfl
  have g1 := qs 1 _ (by omega) rfl
  have g2 := qs 2 _ (by omega) rfl
  have g3 := qs 3 _ (by omega) rfl
  have g4 := qs 4 _ (by omega) rfl
  have g5 := qs 5 _ (by omega) rfl
  have g6 := qs 6 _ (by omega) rfl
  have g7 := qs 7 _ (by omega) rfl
  have g8 := qs 8 _ (by omega) rfl
  clear qs q0
  have b0 := hall r0 (by simp)
  have b1 := hall r1 (by simp)
  have b2 := hall r2 (by simp)
  have b3 := hall r3 (by simp)
  have b4 := hall r4 (by simp)
  have b5 := hall r5 (by simp)
  have b6 := hall r6 (by simp)
  have b7 := hall r7 (by simp)
  have b8 := hall r8 (by simp)
  have i1 : (9 : Int) ≤ c := by omega
  have i4 : (4 : Int) ≤ c := by omega
  have hwr0 : IntKind.i64.wrap 0 = 0 := rfl
  have hwr1 : IntKind.i64.wrap 1 = 1 := rfl
  clear hall
  have hm := mul_bd3 r2 r3 251 251 (by omega) (by omega) (by omega) (by omega)
  have hmw : IntKind.i64.wrap (r2 * r3) = r2 * r3 := IntWalk.i64_in _ (by omega)
  have hmt : (r2 * r3).tmod p = r2 * r3 % p := Int.tmod_eq_emod_of_nonneg (by omega)
  have hp0 : (p == 0) = false := by simp; omega
  have hp1 : ¬ p = 0 := by omega
  have M := md_bd (r2 * r3) hp.1
  go_enter Try.func144, Try.ntmps144
  go_upto_region 1 with fail
  go_cut [7] (fun s7 wx => ∃ A7 c7, s7 = .slice A7 5 c7 ∧ OwnI w.heap.size wx A7 5 c7 [r0, r1, r2, r3, r2 * r3 % p] ∧ Bl w wx)
  case first =>
    refine wp_region_held_drew (S := (fun w' => w'.cell? ⟨ad.block, ad.off + 2, none⟩ = some (.int .i64 r2) ∧ w'.cell? ⟨ad.block, ad.off + 3, none⟩ = some (.int .i64 r3))) (by kernel_rfl) ?_ (fun hHeld => ?_)
    · (try dsimp only); exact ⟨Bl.cells (by (repeat (first | assumption | with_reducible exact Bl.refl _ | with_reducible refine Bl.drewN ?_ _ | with_reducible refine Bl.drew ?_ | with_reducible refine Bl.alloc ?_ _ | (with_reducible refine Bl.call ?_ (by assumption))))) g2, Bl.cells (by (repeat (first | assumption | with_reducible exact Bl.refl _ | with_reducible refine Bl.drewN ?_ _ | with_reducible refine Bl.drew ?_ | with_reducible refine Bl.alloc ?_ _ | (with_reducible refine Bl.call ?_ (by assumption))))) g3⟩
    refine held_take (i := 0) (d := 8) (v := ?_) rfl rfl (by kernel_rfl) (by kernel_rfl) (by kernel_rfl) (fun _ _ _ h => h) (Or.inl ⟨by rfl, ?_⟩) (by assumption) ?_
    rotate_left
    · (intro w hSw; (try dsimp only at hSw); go_simp; (try with_reducible rfl))
    (try simp only [List.set_cons_zero, List.set_cons_succ])
    refine held_take (i := 1) (d := 9) (v := ?_) rfl rfl (by kernel_rfl) (by kernel_rfl) (by kernel_rfl) (fun _ _ _ h => h) (Or.inl ⟨by rfl, ?_⟩) (by assumption) ?_
    rotate_left
    · (intro w hSw; (try dsimp only at hSw); go_simp; (try with_reducible rfl))
    (try simp only [List.set_cons_zero, List.set_cons_succ])
    refine held_take (i := 3) (d := 11) (v := ?_) rfl rfl (by kernel_rfl) (by kernel_rfl) (by kernel_rfl) (fun _ _ _ h => h) (Or.inl ⟨by rfl, ?_⟩) (by assumption) ?_
    rotate_left
    · (intro w hSw; (try dsimp only at hSw); go_simp; (try with_reducible rfl))
    (try simp only [List.set_cons_zero, List.set_cons_succ])
    refine held_take (i := 4) (d := 12) (v := ?_) rfl rfl (by kernel_rfl) (by kernel_rfl) (by kernel_rfl) (fun _ _ _ h => h) (Or.inl ⟨by rfl, ?_⟩) (by assumption) ?_
    rotate_left
    · (intro w hSw; (try dsimp only at hSw); go_simp; (try with_reducible rfl))
    (try simp only [List.set_cons_zero, List.set_cons_succ])
    refine held_take (i := 5) (d := 13) (v := ?_) rfl rfl (by kernel_rfl) (by kernel_rfl) (by kernel_rfl) (fun _ _ _ h => h) (Or.inl ⟨by rfl, ?_⟩) (by assumption) ?_
    rotate_left
    · (intro w hSw; (try dsimp only at hSw); go_simp; (try with_reducible rfl))
    (try simp only [List.set_cons_zero, List.set_cons_succ])
    refine held_take (i := 6) (d := 14) (v := ?_) rfl rfl (by kernel_rfl) (by kernel_rfl) (by kernel_rfl) (fun _ _ _ h => h) (Or.inl ⟨by rfl, ?_⟩) (by assumption) ?_
    rotate_left
    · (intro w hSw; (try dsimp only at hSw); go_simp; (try with_reducible rfl))
    (try simp only [List.set_cons_zero, List.set_cons_succ])
    refine held_take (i := 7) (d := 15) (v := ?_) rfl rfl (by kernel_rfl) (by kernel_rfl) (by kernel_rfl) (fun _ _ _ h => h) (Or.inl ⟨by rfl, ?_⟩) (by assumption) ?_
    rotate_left
    · (intro w hSw; (try dsimp only at hSw); go_simp; (try with_reducible rfl))
    (try simp only [List.set_cons_zero, List.set_cons_succ])
    refine held_take (i := 8) (d := 16) (v := ?_) rfl rfl (by kernel_rfl) (by kernel_rfl) (by kernel_rfl) (fun _ _ _ h => h) (Or.inl ⟨by rfl, ?_⟩) (by assumption) ?_
    rotate_left
    · (intro w hSw; (try dsimp only at hSw); go_simp; (try with_reducible rfl))
    (try simp only [List.set_cons_zero, List.set_cons_succ])
    refine held_take (i := 9) (d := 17) (v := ?_) rfl rfl (by kernel_rfl) (by kernel_rfl) (by kernel_rfl) (fun _ _ _ h => h) (Or.inl ⟨by rfl, ?_⟩) (by assumption) ?_
    rotate_left
    · (intro w hSw; (try dsimp only at hSw); go_simp; (try with_reducible rfl))
    (try simp only [List.set_cons_zero, List.set_cons_succ])
    refine held_take (i := 10) (d := 18) (v := ?_) rfl rfl (by kernel_rfl) (by kernel_rfl) (by kernel_rfl) (fun _ _ _ h => h) (Or.inl ⟨by rfl, ?_⟩) (by assumption) ?_
    rotate_left
    · (intro w hSw; (try dsimp only at hSw); go_simp; (try with_reducible rfl))
    (try simp only [List.set_cons_zero, List.set_cons_succ])
    refine held_take (i := 11) (d := 19) (v := ?_) rfl rfl (by kernel_rfl) (by kernel_rfl) (by kernel_rfl) (fun _ _ _ h => h) (Or.inl ⟨by rfl, ?_⟩) (by assumption) ?_
    rotate_left
    · (intro w hSw; (try dsimp only at hSw); go_simp; (try with_reducible rfl))
    (try simp only [List.set_cons_zero, List.set_cons_succ])
    refine wpAnyH_ready (rs := [2, 12]) (by kernel_rfl) (by simp) ?_
    refine AllReadyH.cons rfl (fun K hK => ?_) (AllReadyH.cons rfl (fun K hK => ?_) AllReadyH.nil)
    · go_simp
      (refine (spec_l1Own _ 4 _ [r0, r1, r2, r3] _ ?_ (by omega)).mono ?_; (· (refine RdI.keep (w := w) ?_ ?_; (· exact Rd.take (k := 4) hl9 (by omega)); (repeat (first | assumption | with_reducible exact Bl.refl _ | with_reducible refine Bl.drewN ?_ _ | with_reducible refine Bl.drew ?_ | with_reducible refine Bl.alloc ?_ _ | (with_reducible refine Bl.call ?_ (by assumption)))); done)); rintro r w8 ⟨A8, c8, rfl, ho8, hb8⟩)
      go_wp2_with fail
      refine hK.out _ _ ?_ (fun hHeld => ?_)
      · (try dsimp only); exact ⟨Bl.cells (by (repeat (first | assumption | with_reducible exact Bl.refl _ | with_reducible refine Bl.drewN ?_ _ | with_reducible refine Bl.drew ?_ | with_reducible refine Bl.alloc ?_ _ | (with_reducible refine Bl.call ?_ (by assumption))))) g2, Bl.cells (by (repeat (first | assumption | with_reducible exact Bl.refl _ | with_reducible refine Bl.drewN ?_ _ | with_reducible refine Bl.drew ?_ | with_reducible refine Bl.alloc ?_ _ | (with_reducible refine Bl.call ?_ (by assumption))))) g3⟩
      clear hK K
      (try simp only [Act.put]); (try simp only [List.setIfInBounds_toArray]); (try simp only [List.set_cons_succ]); (try simp only [List.set_cons_zero])
      refine wpAnyH_ready (rs := [12]) (by kernel_rfl) (by simp) ?_
      refine AllReadyH.cons rfl (fun K hK => ?_) AllReadyH.nil
      go_simp
      refine hK.out _ _ ?_ (fun hHeld => ?_)
      · (try dsimp only); exact ⟨Bl.cells (by (repeat (first | assumption | with_reducible exact Bl.refl _ | with_reducible refine Bl.drewN ?_ _ | with_reducible refine Bl.drew ?_ | with_reducible refine Bl.alloc ?_ _ | (with_reducible refine Bl.call ?_ (by assumption))))) g2, Bl.cells (by (repeat (first | assumption | with_reducible exact Bl.refl _ | with_reducible refine Bl.drewN ?_ _ | with_reducible refine Bl.drew ?_ | with_reducible refine Bl.alloc ?_ _ | (with_reducible refine Bl.call ?_ (by assumption))))) g3⟩
      clear hK K
      (try simp only [Act.put]); (try simp only [List.setIfInBounds_toArray]); (try simp only [List.set_cons_succ]); (try simp only [List.set_cons_zero])
      refine wpAnyH_ready (rs := [13]) (by kernel_rfl) (by simp) ?_
      refine AllReadyH.cons rfl (fun K hK => ?_) AllReadyH.nil
      (refine ap_int_step (l' := [r2 * r3 % p]) rfl rfl rfl (ho8.keep ?_) rfl ?_ ?_ ?_ ?_; (· ((repeat (first | assumption | with_reducible exact Bl.refl _ | with_reducible refine Bl.drewN ?_ _ | with_reducible refine Bl.drew ?_ | with_reducible refine Bl.alloc ?_ _ | (with_reducible refine Bl.call ?_ (by assumption)))); done)); (· (refine RdI.keep (rd_new1 ?_ 3 _ (hg := ?_)) ?_; rotate_left 2; (· ((repeat (first | assumption | with_reducible exact Bl.refl _ | with_reducible refine Bl.drewN ?_ _ | with_reducible refine Bl.drew ?_ | with_reducible refine Bl.alloc ?_ _ | (with_reducible refine Bl.call ?_ (by assumption)))); done)); first | rfl | simp)); (· omega); (· (exact Nat.le_trans hb8.sz (Bl.sz (by (repeat (first | assumption | with_reducible exact Bl.refl _ | with_reducible refine Bl.drewN ?_ _ | with_reducible refine Bl.drew ?_ | with_reducible refine Bl.alloc ?_ _ | (with_reducible refine Bl.call ?_ (by assumption)))))))); intro A9 c9 w9 ho9 hg9 hat9; have hb9 : Bl w w9 := Bl.grown (by (repeat (first | assumption | with_reducible exact Bl.refl _ | with_reducible refine Bl.drewN ?_ _ | with_reducible refine Bl.drew ?_ | with_reducible refine Bl.alloc ?_ _ | (with_reducible refine Bl.call ?_ (by assumption))))) hg9 (fun k hk => Nat.le_trans (Bl.sz (W := w) (by (repeat (first | assumption | with_reducible exact Bl.refl _ | with_reducible refine Bl.drewN ?_ _ | with_reducible refine Bl.drew ?_ | with_reducible refine Bl.alloc ?_ _ | (with_reducible refine Bl.call ?_ (by assumption)))))) (ho8.blk k hk).1))
      refine hK.out _ _ ?_ (fun hHeld => ?_)
      · (try dsimp only); exact ⟨Bl.cells (by (repeat (first | assumption | with_reducible exact Bl.refl _ | with_reducible refine Bl.drewN ?_ _ | with_reducible refine Bl.drew ?_ | with_reducible refine Bl.alloc ?_ _ | (with_reducible refine Bl.call ?_ (by assumption))))) g2, Bl.cells (by (repeat (first | assumption | with_reducible exact Bl.refl _ | with_reducible refine Bl.drewN ?_ _ | with_reducible refine Bl.drew ?_ | with_reducible refine Bl.alloc ?_ _ | (with_reducible refine Bl.call ?_ (by assumption))))) g3⟩
      clear hK K
      (try simp only [Act.put]); (try simp only [List.setIfInBounds_toArray]); (try simp only [List.set_cons_succ]); (try simp only [List.set_cons_zero])
      refine held_take (i := 14) (d := 7) (v := ?_) rfl rfl (by kernel_rfl) (by kernel_rfl) (by kernel_rfl) (fun _ _ _ h => h) (Or.inl ⟨by rfl, ?_⟩) (by assumption) ?_
      rotate_left
      · (intro w hSw; (try dsimp only at hSw); go_simp; (try with_reducible rfl))
      (try simp only [List.set_cons_zero, List.set_cons_succ])
      refine wpAnyH_done (by kernel_rfl) ?_ _
      go_wp2_with fail
      go_meet
      exact ⟨A9, c9, rfl, OwnI.mono ho9 (Bl.sz (by (repeat (first | assumption | with_reducible exact Bl.refl _ | with_reducible refine Bl.drewN ?_ _ | with_reducible refine Bl.drew ?_ | with_reducible refine Bl.alloc ?_ _ | (with_reducible refine Bl.call ?_ (by assumption)))))), (by (repeat (first | assumption | with_reducible exact Bl.refl _ | with_reducible refine Bl.drewN ?_ _ | with_reducible refine Bl.drew ?_ | with_reducible refine Bl.alloc ?_ _ | (with_reducible refine Bl.call ?_ (by assumption)))))⟩
    · go_simp
      refine hK.out _ _ ?_ (fun hHeld => ?_)
      · (try dsimp only); exact ⟨Bl.cells (by (repeat (first | assumption | with_reducible exact Bl.refl _ | with_reducible refine Bl.drewN ?_ _ | with_reducible refine Bl.drew ?_ | with_reducible refine Bl.alloc ?_ _ | (with_reducible refine Bl.call ?_ (by assumption))))) g2, Bl.cells (by (repeat (first | assumption | with_reducible exact Bl.refl _ | with_reducible refine Bl.drewN ?_ _ | with_reducible refine Bl.drew ?_ | with_reducible refine Bl.alloc ?_ _ | (with_reducible refine Bl.call ?_ (by assumption))))) g3⟩
      clear hK K
      (try simp only [Act.put]); (try simp only [List.setIfInBounds_toArray]); (try simp only [List.set_cons_succ]); (try simp only [List.set_cons_zero])
      refine wpAnyH_ready (rs := [2]) (by kernel_rfl) (by simp) ?_
      refine AllReadyH.cons rfl (fun K hK => ?_) AllReadyH.nil
      go_simp
      (refine (spec_l1Own _ 4 _ [r0, r1, r2, r3] _ ?_ (by omega)).mono ?_; (· (refine RdI.keep (w := w) ?_ ?_; (· exact Rd.take (k := 4) hl9 (by omega)); (repeat (first | assumption | with_reducible exact Bl.refl _ | with_reducible refine Bl.drewN ?_ _ | with_reducible refine Bl.drew ?_ | with_reducible refine Bl.alloc ?_ _ | (with_reducible refine Bl.call ?_ (by assumption)))); done)); rintro r w8 ⟨A8, c8, rfl, ho8, hb8⟩)
      go_wp2_with fail
      refine hK.out _ _ ?_ (fun hHeld => ?_)
      · (try dsimp only); exact ⟨Bl.cells (by (repeat (first | assumption | with_reducible exact Bl.refl _ | with_reducible refine Bl.drewN ?_ _ | with_reducible refine Bl.drew ?_ | with_reducible refine Bl.alloc ?_ _ | (with_reducible refine Bl.call ?_ (by assumption))))) g2, Bl.cells (by (repeat (first | assumption | with_reducible exact Bl.refl _ | with_reducible refine Bl.drewN ?_ _ | with_reducible refine Bl.drew ?_ | with_reducible refine Bl.alloc ?_ _ | (with_reducible refine Bl.call ?_ (by assumption))))) g3⟩
      clear hK K
      (try simp only [Act.put]); (try simp only [List.setIfInBounds_toArray]); (try simp only [List.set_cons_succ]); (try simp only [List.set_cons_zero])
      refine wpAnyH_ready (rs := [13]) (by kernel_rfl) (by simp) ?_
      refine AllReadyH.cons rfl (fun K hK => ?_) AllReadyH.nil
      (refine ap_int_step (l' := [r2 * r3 % p]) rfl rfl rfl (ho8.keep ?_) rfl ?_ ?_ ?_ ?_; (· ((repeat (first | assumption | with_reducible exact Bl.refl _ | with_reducible refine Bl.drewN ?_ _ | with_reducible refine Bl.drew ?_ | with_reducible refine Bl.alloc ?_ _ | (with_reducible refine Bl.call ?_ (by assumption)))); done)); (· (refine RdI.keep (rd_new1 ?_ 3 _ (hg := ?_)) ?_; rotate_left 2; (· ((repeat (first | assumption | with_reducible exact Bl.refl _ | with_reducible refine Bl.drewN ?_ _ | with_reducible refine Bl.drew ?_ | with_reducible refine Bl.alloc ?_ _ | (with_reducible refine Bl.call ?_ (by assumption)))); done)); first | rfl | simp)); (· omega); (· (exact Nat.le_trans hb8.sz (Bl.sz (by (repeat (first | assumption | with_reducible exact Bl.refl _ | with_reducible refine Bl.drewN ?_ _ | with_reducible refine Bl.drew ?_ | with_reducible refine Bl.alloc ?_ _ | (with_reducible refine Bl.call ?_ (by assumption)))))))); intro A9 c9 w9 ho9 hg9 hat9; have hb9 : Bl w w9 := Bl.grown (by (repeat (first | assumption | with_reducible exact Bl.refl _ | with_reducible refine Bl.drewN ?_ _ | with_reducible refine Bl.drew ?_ | with_reducible refine Bl.alloc ?_ _ | (with_reducible refine Bl.call ?_ (by assumption))))) hg9 (fun k hk => Nat.le_trans (Bl.sz (W := w) (by (repeat (first | assumption | with_reducible exact Bl.refl _ | with_reducible refine Bl.drewN ?_ _ | with_reducible refine Bl.drew ?_ | with_reducible refine Bl.alloc ?_ _ | (with_reducible refine Bl.call ?_ (by assumption)))))) (ho8.blk k hk).1))
      refine hK.out _ _ ?_ (fun hHeld => ?_)
      · (try dsimp only); exact ⟨Bl.cells (by (repeat (first | assumption | with_reducible exact Bl.refl _ | with_reducible refine Bl.drewN ?_ _ | with_reducible refine Bl.drew ?_ | with_reducible refine Bl.alloc ?_ _ | (with_reducible refine Bl.call ?_ (by assumption))))) g2, Bl.cells (by (repeat (first | assumption | with_reducible exact Bl.refl _ | with_reducible refine Bl.drewN ?_ _ | with_reducible refine Bl.drew ?_ | with_reducible refine Bl.alloc ?_ _ | (with_reducible refine Bl.call ?_ (by assumption))))) g3⟩
      clear hK K
      (try simp only [Act.put]); (try simp only [List.setIfInBounds_toArray]); (try simp only [List.set_cons_succ]); (try simp only [List.set_cons_zero])
      refine held_take (i := 14) (d := 7) (v := ?_) rfl rfl (by kernel_rfl) (by kernel_rfl) (by kernel_rfl) (fun _ _ _ h => h) (Or.inl ⟨by rfl, ?_⟩) (by assumption) ?_
      rotate_left
      · (intro w hSw; (try dsimp only at hSw); go_simp; (try with_reducible rfl))
      (try simp only [List.set_cons_zero, List.set_cons_succ])
      refine wpAnyH_done (by kernel_rfl) ?_ _
      go_wp2_with fail
      go_meet
      exact ⟨A9, c9, rfl, OwnI.mono ho9 (Bl.sz (by (repeat (first | assumption | with_reducible exact Bl.refl _ | with_reducible refine Bl.drewN ?_ _ | with_reducible refine Bl.drew ?_ | with_reducible refine Bl.alloc ?_ _ | (with_reducible refine Bl.call ?_ (by assumption)))))), (by (repeat (first | assumption | with_reducible exact Bl.refl _ | with_reducible refine Bl.drewN ?_ _ | with_reducible refine Bl.drew ?_ | with_reducible refine Bl.alloc ?_ _ | (with_reducible refine Bl.call ?_ (by assumption)))))⟩
  case rest =>
    obtain ⟨A7, c7, rfl, h7, hWx⟩ := hcut
    have HS := Lib.hid (subs_sh1 p r0 r1 r2 r3 r4 r5 r6 r7 r8)
    have hr := (hl9.mid (k := 4) 5 (by omega) (by omega) (by omega)).keep hWx
    go_wp2_with (go_at_call 153; refine (spec_shSum p A7 _ 5 c7 5 _ [r0, r1, r2, r3, r2 * r3 % p] [r4, r5, r6, r7, r8] _ h7.rd hr (by omega) (by omega) hp (by intro z hz; simp at hz; omega) (by intro z hz; simp at hz; omega)).mono ?_; rintro e w8 ⟨A8, c8, rfl, ho8, hb8⟩)
    go_ret
    exact ⟨A8, c8, rfl, by rw [← HS.out]; exact ho8.rd, hWx.call hb8⟩
set_option maxRecDepth 20000 in
set_option maxHeartbeats 4000000 in
theorem vwReal0 (p x y r0 r1 r2 r3 r4 r5 r6 r7 r8 t0 t1 t2 t3 t4 f0 f1 : Int) (A : Option Addr) (c : Nat) (w : World) (hl : RdI w A 9 c [r0, r1, r2, r3, r4, r5, r6, r7, r8]) (hp : 2 ≤ p ∧ p ≤ 251)
    (HT : Hid (sh1 p r0 r1 r2 r3 r4 r5 r6 r7 r8 = [t0, t1, t2, t3, t4])) (HF0 : Hid (f0 = (x - r0) % p)) (HF1 : Hid (f1 = (y - r1) % p)) (hx : 0 ≤ x ∧ x < p) (hy : 0 ≤ y ∧ y < p) (hall : ∀ z ∈ [r0, r1, r2, r3, r4, r5, r6, r7, r8], 0 ≤ z ∧ z < p) :
    Calls Try.prog 106 #[.int .i64 p, .int .i64 x, .int .i64 y, .int .i64 0, .slice A 9 c] w
      fun r w' => ∃ A2 c2, r = .returned (.slice A2 11 c2) ∧ OwnI w.heap.size w' A2 11 c2 [x, r0, r4, r5, r6, r7, r8, f1, prtD p 1 t0 t2 f0, prtD p 1 t1 t3 f1, shrZ p 1 t2 t3 t4 (prtD p 1 t0 t2 f0 + prtD p 0 r4 r6 f0) (prtD p 1 t1 t3 f1 + prtD p 0 r5 r7 f1)] ∧ Bl w w' := by
  obtain ⟨hle1, hle2⟩ := hl.le
  have hl9 := hl
  obtain ⟨ad, rfl, had, q0, qs⟩ := hl.lit (by omega)
  have g0 := q0 _ rfl
  have g1 := qs 1 _ (by omega) rfl
  have g2 := qs 2 _ (by omega) rfl
  have g3 := qs 3 _ (by omega) rfl
  have g4 := qs 4 _ (by omega) rfl
  have g5 := qs 5 _ (by omega) rfl
  have g6 := qs 6 _ (by omega) rfl
  have g7 := qs 7 _ (by omega) rfl
  have g8 := qs 8 _ (by omega) rfl
  clear qs q0
  have b0 := hall r0 (by simp)
  have b1 := hall r1 (by simp)
  have b2 := hall r2 (by simp)
  have b3 := hall r3 (by simp)
  have b4 := hall r4 (by simp)
  have b5 := hall r5 (by simp)
  have b6 := hall r6 (by simp)
  have b7 := hall r7 (by simp)
  have b8 := hall r8 (by simp)
  have i1 : (9 : Int) ≤ c := by omega
  have i4 : (4 : Int) ≤ c := by omega
  have hwr0 : IntKind.i64.wrap 0 = 0 := rfl
  have hwr1 : IntKind.i64.wrap 1 = 1 := rfl
  have hall9 := Lib.hid hall
  clear hall
  have hs0 : IntKind.i64.wrap (x - r0) = x - r0 := IntWalk.i64_in _ (by omega)
  have hs1 : IntKind.i64.wrap (y - r1) = y - r1 := IntWalk.i64_in _ (by omega)
  go_enter Try.func106, Try.ntmps106
  go_wp2_with fail
  refine wp_region_held_drew (S := (fun w' => w'.cell? ad = some (.int .i64 r0) ∧ w'.cell? ⟨ad.block, ad.off + 1, none⟩ = some (.int .i64 r1))) (by kernel_rfl) ?_ (fun hHeld => ?_)
  · (try dsimp only); exact ⟨Bl.cells (by (repeat (first | assumption | with_reducible exact Bl.refl _ | with_reducible refine Bl.drewN ?_ _ | with_reducible refine Bl.drew ?_ | with_reducible refine Bl.alloc ?_ _ | (with_reducible refine Bl.call ?_ (by assumption))))) g0, Bl.cells (by (repeat (first | assumption | with_reducible exact Bl.refl _ | with_reducible refine Bl.drewN ?_ _ | with_reducible refine Bl.drew ?_ | with_reducible refine Bl.alloc ?_ _ | (with_reducible refine Bl.call ?_ (by assumption))))) g1⟩
  refine held_take (i := 0) (d := 24) (v := ?_) rfl rfl (by kernel_rfl) (by kernel_rfl) (by kernel_rfl) (fun _ _ _ h => h) (Or.inl ⟨by rfl, ?_⟩) (by assumption) ?_
  rotate_left
  · (intro w hSw; (try dsimp only at hSw); go_simp; (try with_reducible rfl))
  (try simp only [List.set_cons_zero, List.set_cons_succ])
  refine held_take (i := 1) (d := 25) (v := ?_) rfl rfl (by kernel_rfl) (by kernel_rfl) (by kernel_rfl) (fun _ _ _ h => h) (Or.inl ⟨by rfl, ?_⟩) (by assumption) ?_
  rotate_left
  · (intro w hSw; (try dsimp only at hSw); go_simp; (try with_reducible rfl))
  (try simp only [List.set_cons_zero, List.set_cons_succ])
  refine held_take (i := 2) (d := 26) (v := ?_) rfl rfl (by kernel_rfl) (by kernel_rfl) (by kernel_rfl) (fun _ _ _ h => h) (Or.inl ⟨by rfl, ?_⟩) (by assumption) ?_
  rotate_left
  · (intro w hSw; (try dsimp only at hSw); go_simp; (try with_reducible rfl))
  (try simp only [List.set_cons_zero, List.set_cons_succ])
  refine held_take (i := 3) (d := 27) (v := ?_) rfl rfl (by kernel_rfl) (by kernel_rfl) (by kernel_rfl) (fun _ _ _ h => h) (Or.inl ⟨by rfl, ?_⟩) (by assumption) ?_
  rotate_left
  · (intro w hSw; (try dsimp only at hSw); go_simp; (try with_reducible rfl))
  (try simp only [List.set_cons_zero, List.set_cons_succ])
  refine held_take (i := 4) (d := 28) (v := ?_) rfl rfl (by kernel_rfl) (by kernel_rfl) (by kernel_rfl) (fun _ _ _ h => h) (Or.inl ⟨by rfl, ?_⟩) (by assumption) ?_
  rotate_left
  · (intro w hSw; (try dsimp only at hSw); go_simp; (try with_reducible rfl))
  (try simp only [List.set_cons_zero, List.set_cons_succ])
  refine held_take (i := 5) (d := 29) (v := ?_) rfl rfl (by kernel_rfl) (by kernel_rfl) (by kernel_rfl) (fun _ _ _ h => h) (Or.inl ⟨by rfl, ?_⟩) (by assumption) ?_
  rotate_left
  · (intro w hSw; (try dsimp only at hSw); go_simp; (try with_reducible rfl))
  (try simp only [List.set_cons_zero, List.set_cons_succ])
  refine held_take (i := 7) (d := 31) (v := ?_) rfl rfl (by kernel_rfl) (by kernel_rfl) (by kernel_rfl) (fun _ _ _ h => h) (Or.inl ⟨by rfl, ?_⟩) (by assumption) ?_
  rotate_left
  · (intro w hSw; (try dsimp only at hSw); go_simp; (try with_reducible rfl))
  (try simp only [List.set_cons_zero, List.set_cons_succ])
  refine held_take (i := 8) (d := 32) (v := ?_) rfl rfl (by kernel_rfl) (by kernel_rfl) (by kernel_rfl) (fun _ _ _ h => h) (Or.inl ⟨by rfl, ?_⟩) (by assumption) ?_
  rotate_left
  · (intro w hSw; (try dsimp only at hSw); go_simp; (try with_reducible rfl))
  (try simp only [List.set_cons_zero, List.set_cons_succ])
  refine held_take (i := 9) (d := 33) (v := ?_) rfl rfl (by kernel_rfl) (by kernel_rfl) (by kernel_rfl) (fun _ _ _ h => h) (Or.inl ⟨by rfl, ?_⟩) (by assumption) ?_
  rotate_left
  · (intro w hSw; (try dsimp only at hSw); go_simp; (try with_reducible rfl))
  (try simp only [List.set_cons_zero, List.set_cons_succ])
  refine held_take (i := 10) (d := 34) (v := ?_) rfl rfl (by kernel_rfl) (by kernel_rfl) (by kernel_rfl) (fun _ _ _ h => h) (Or.inl ⟨by rfl, ?_⟩) (by assumption) ?_
  rotate_left
  · (intro w hSw; (try dsimp only at hSw); go_simp; (try with_reducible rfl))
  (try simp only [List.set_cons_zero, List.set_cons_succ])
  refine held_take (i := 11) (d := 35) (v := ?_) rfl rfl (by kernel_rfl) (by kernel_rfl) (by kernel_rfl) (fun _ _ _ h => h) (Or.inl ⟨by rfl, ?_⟩) (by assumption) ?_
  rotate_left
  · (intro w hSw; (try dsimp only at hSw); go_simp; (try with_reducible rfl))
  (try simp only [List.set_cons_zero, List.set_cons_succ])
  refine held_take (i := 12) (d := 36) (v := ?_) rfl rfl (by kernel_rfl) (by kernel_rfl) (by kernel_rfl) (fun _ _ _ h => h) (Or.inl ⟨by rfl, ?_⟩) (by assumption) ?_
  rotate_left
  · (intro w hSw; (try dsimp only at hSw); go_simp; (try with_reducible rfl))
  (try simp only [List.set_cons_zero, List.set_cons_succ])
  refine wpAnyH_ready (rs := [6]) (by kernel_rfl) (by simp) ?_
  refine AllReadyH.cons rfl (fun K hK => ?_) AllReadyH.nil
  go_simp
  (refine (spec_btMod _ _ _ (by omega) (by omega) (by omega) (by omega)).mono ?_; rintro e w' ⟨rfl, rfl⟩)
  go_wp2_with fail
  refine hK.out _ _ ?_ (fun hHeld => ?_)
  · (try dsimp only); exact ⟨Bl.cells (by (repeat (first | assumption | with_reducible exact Bl.refl _ | with_reducible refine Bl.drewN ?_ _ | with_reducible refine Bl.drew ?_ | with_reducible refine Bl.alloc ?_ _ | (with_reducible refine Bl.call ?_ (by assumption))))) g0, Bl.cells (by (repeat (first | assumption | with_reducible exact Bl.refl _ | with_reducible refine Bl.drewN ?_ _ | with_reducible refine Bl.drew ?_ | with_reducible refine Bl.alloc ?_ _ | (with_reducible refine Bl.call ?_ (by assumption))))) g1⟩
  clear hK K
  (try simp only [Act.put]); (try simp only [List.setIfInBounds_toArray]); (try simp only [List.set_cons_succ]); (try simp only [List.set_cons_zero])
  refine wpAnyH_ready (rs := [13]) (by kernel_rfl) (by simp) ?_
  refine AllReadyH.cons rfl (fun K hK => ?_) AllReadyH.nil
  go_simp
  (refine (spec_btMod _ _ _ (by omega) (by omega) (by omega) (by omega)).mono ?_; rintro e w' ⟨rfl, rfl⟩)
  go_wp2_with fail
  refine hK.out _ _ ?_ (fun hHeld => ?_)
  · (try dsimp only); exact ⟨Bl.cells (by (repeat (first | assumption | with_reducible exact Bl.refl _ | with_reducible refine Bl.drewN ?_ _ | with_reducible refine Bl.drew ?_ | with_reducible refine Bl.alloc ?_ _ | (with_reducible refine Bl.call ?_ (by assumption))))) g0, Bl.cells (by (repeat (first | assumption | with_reducible exact Bl.refl _ | with_reducible refine Bl.drewN ?_ _ | with_reducible refine Bl.drew ?_ | with_reducible refine Bl.alloc ?_ _ | (with_reducible refine Bl.call ?_ (by assumption))))) g1⟩
  clear hK K
  (try simp only [Act.put]); (try simp only [List.setIfInBounds_toArray]); (try simp only [List.set_cons_succ]); (try simp only [List.set_cons_zero])
  refine wpAnyH_ready (rs := [14]) (by kernel_rfl) (by simp) ?_
  refine AllReadyH.cons rfl (fun K hK => ?_) AllReadyH.nil
  go_simp
  refine hK.out _ _ ?_ (fun hHeld => ?_)
  · (try dsimp only); exact ⟨Bl.cells (by (repeat (first | assumption | with_reducible exact Bl.refl _ | with_reducible refine Bl.drewN ?_ _ | with_reducible refine Bl.drew ?_ | with_reducible refine Bl.alloc ?_ _ | (with_reducible refine Bl.call ?_ (by assumption))))) g0, Bl.cells (by (repeat (first | assumption | with_reducible exact Bl.refl _ | with_reducible refine Bl.drewN ?_ _ | with_reducible refine Bl.drew ?_ | with_reducible refine Bl.alloc ?_ _ | (with_reducible refine Bl.call ?_ (by assumption))))) g1⟩
  clear hK K
  (try simp only [Act.put]); (try simp only [List.setIfInBounds_toArray]); (try simp only [List.set_cons_succ]); (try simp only [List.set_cons_zero])
  refine held_take (i := 15) (d := 11) (v := ?_) rfl rfl (by kernel_rfl) (by kernel_rfl) (by kernel_rfl) (fun _ _ _ h => h) (Or.inl ⟨by rfl, ?_⟩) (by assumption) ?_
  rotate_left
  · (intro w hSw; (try dsimp only at hSw); go_simp; (try with_reducible rfl))
  (try simp only [List.set_cons_zero, List.set_cons_succ])
  refine wpAnyH_done (by kernel_rfl) ?_ _
  have F0 := md_bd (x - r0) hp.1
  have F1 := md_bd (y - r1) hp.1
  rw [← HF0.out] at F0
  rw [← HF1.out] at F1
  rw [← HF0.out, ← HF1.out]
  clear hs0 hs1
  have hW : Bl w (w.alloc (.cells #[.int .i64 f0, .int .i64 f1] 3)).drew := (by (repeat (first | assumption | with_reducible exact Bl.refl _ | with_reducible refine Bl.drewN ?_ _ | with_reducible refine Bl.drew ?_ | with_reducible refine Bl.alloc ?_ _ | (with_reducible refine Bl.call ?_ (by assumption)))))
  have hf : RdI (w.alloc (.cells #[.int .i64 f0, .int .i64 f1] 3)).drew (some ⟨w.heap.size, 0, none⟩) 2 2 [f0, f1] := (rd_new2 w 3 f0 f1).drew
  have hB : Blk (w.alloc (.cells #[.int .i64 f0, .int .i64 f1] 3)).drew w.heap.size 3 #[.int .i64 f0, .int .i64 f1] := (Blk.new w _ _).drew
  have hmem := sh1_mem p r0 r1 r2 r3 r4 r5 r6 r7 r8 hp.1
  rw [HT.out] at hmem
  have bt0 := hmem t0 (by simp)
  have bt1 := hmem t1 (by simp)
  have bt2 := hmem t2 (by simp)
  have bt3 := hmem t3 (by simp)
  have bt4 := hmem t4 (by simp)
  clear hmem g2 g3 g4 g5 g6 g7 g8
  go_wp2_with fail
  refine (vwShares0 p r0 r1 r2 r3 r4 r5 r6 r7 r8 (some ad) c _ (hl9.keep (by (repeat (first | assumption | with_reducible exact Bl.refl _ | with_reducible refine Bl.drewN ?_ _ | with_reducible refine Bl.drew ?_ | with_reducible refine Bl.alloc ?_ _ | (with_reducible refine Bl.call ?_ (by assumption)))))) hp hall9.out).mono ?_
  rintro r w2 ⟨A2, c2, rfl, hOq, hb2⟩
  replace hW := hW.call hb2
  replace hf := hf.keep hb2
  replace hB := hB.keep hb2
  clear hb2
  go_wp2_with fail
  refine (vwShares1 p r0 r1 r2 r3 r4 r5 r6 r7 r8 (some ad) c _ (hl9.keep (by (repeat (first | assumption | with_reducible exact Bl.refl _ | with_reducible refine Bl.drewN ?_ _ | with_reducible refine Bl.drew ?_ | with_reducible refine Bl.alloc ?_ _ | (with_reducible refine Bl.call ?_ (by assumption)))))) hp hall9.out).mono ?_
  rintro r w3 ⟨A3, c3, rfl, hOk, hb3⟩
  replace hW := hW.call hb3
  replace hf := hf.keep hb3
  replace hB := hB.keep hb3
  replace hOq := hOq.keep hb3
  clear hb3
  rw [HT.out] at hOk
  go_wp2_with fail
  refine (vwOwn1 _ _ _ _ _ _ _ _ 0 0 _ _ _ _ _ hOk hf hp (by omega) (by omega) (by omega) (by omega) (by omega) F0 F1 (by omega) (by omega)).mono ?_
  rintro r w4 ⟨rfl, hb4⟩
  replace hW := hW.call hb4
  replace hf := hf.keep hb4
  replace hB := hB.keep hb4
  replace hOq := hOq.keep hb4
  replace hOk := hOk.keep hb4
  clear hb4
  go_wp2_with fail
  refine (vwOwn0 _ _ _ _ _ _ _ _ 0 0 _ _ _ _ _ hOq hf hp (by omega) (by omega) (by omega) (by omega) (by omega) F0 F1 (by omega) (by omega)).mono ?_
  rintro r w5 ⟨rfl, hb5⟩
  replace hW := hW.call hb5
  replace hf := hf.keep hb5
  replace hB := hB.keep hb5
  replace hOq := hOq.keep hb5
  replace hOk := hOk.keep hb5
  clear hb5
  have U := prtD_bd (q := 0) (a := r4) (c := r6) (f := f0) hp.1
  have V := prtD_bd (q := 0) (a := r5) (c := r7) (f := f1) hp.1
  go_wp2_with fail
  refine (vwOwn1 _ _ _ _ _ _ _ _ _ _ _ _ _ _ _ hOk hf hp (by omega) (by omega) (by omega) (by omega) (by omega) F0 F1 U V).mono ?_
  rintro r w6 ⟨rfl, hb6⟩
  replace hW := hW.call hb6
  replace hB := hB.keep hb6
  replace hOq := hOq.keep hb6
  clear hb6 hOk hf
  have k5 := hW.cells g0
  have kf := hB.cell 1 _ rfl
  have hs6 := hW.sz
  go_upto_region 6 with fail
  go_cut [23] (fun s23 wx => ∃ A9 c9, s23 = .slice A9 7 c9 ∧ OwnI w.heap.size wx A9 7 c9 [x, r0, r4, r5, r6, r7, r8] ∧ Bl w6 wx)
  case first =>
    refine wp_region_held_drew (S := (fun w' => w'.cell? ad = some (.int .i64 r0))) (by kernel_rfl) ?_ (fun hHeld => ?_)
    · (try dsimp only); exact Bl.cells (by (repeat (first | assumption | with_reducible exact Bl.refl _ | with_reducible refine Bl.drewN ?_ _ | with_reducible refine Bl.drew ?_ | with_reducible refine Bl.alloc ?_ _ | (with_reducible refine Bl.call ?_ (by assumption))))) k5
    refine held_take (i := 0) (d := 79) (v := ?_) rfl rfl (by kernel_rfl) (by kernel_rfl) (by kernel_rfl) (fun _ _ _ h => h) (Or.inl ⟨by rfl, ?_⟩) (by assumption) ?_
    rotate_left
    · (intro w hSw; (try dsimp only at hSw); go_simp; (try with_reducible rfl))
    (try simp only [List.set_cons_zero, List.set_cons_succ])
    refine held_take (i := 1) (d := 80) (v := ?_) rfl rfl (by kernel_rfl) (by kernel_rfl) (by kernel_rfl) (fun _ _ _ h => h) (Or.inl ⟨by rfl, ?_⟩) (by assumption) ?_
    rotate_left
    · (intro w hSw; (try dsimp only at hSw); go_simp; (try with_reducible rfl))
    (try simp only [List.set_cons_zero, List.set_cons_succ])
    refine held_take (i := 3) (d := 82) (v := ?_) rfl rfl (by kernel_rfl) (by kernel_rfl) (by kernel_rfl) (fun _ _ _ h => h) (Or.inl ⟨by rfl, ?_⟩) (by assumption) ?_
    rotate_left
    · (intro w hSw; (try dsimp only at hSw); go_simp; (try with_reducible rfl))
    (try simp only [List.set_cons_zero, List.set_cons_succ])
    refine held_take (i := 6) (d := 85) (v := ?_) rfl rfl (by kernel_rfl) (by kernel_rfl) (by kernel_rfl) (fun _ _ _ h => h) (Or.inl ⟨by rfl, ?_⟩) (by assumption) ?_
    rotate_left
    · (intro w hSw; (try dsimp only at hSw); go_simp; (try with_reducible rfl))
    (try simp only [List.set_cons_zero, List.set_cons_succ])
    refine held_take (i := 7) (d := 86) (v := ?_) rfl rfl (by kernel_rfl) (by kernel_rfl) (by kernel_rfl) (fun _ _ _ h => h) (Or.inl ⟨by rfl, ?_⟩) (by assumption) ?_
    rotate_left
    · (intro w hSw; (try dsimp only at hSw); go_simp; (try with_reducible rfl))
    (try simp only [List.set_cons_zero, List.set_cons_succ])
    refine held_take (i := 8) (d := 87) (v := ?_) rfl rfl (by kernel_rfl) (by kernel_rfl) (by kernel_rfl) (fun _ _ _ h => h) (Or.inl ⟨by rfl, ?_⟩) (by assumption) ?_
    rotate_left
    · (intro w hSw; (try dsimp only at hSw); go_simp; (try with_reducible rfl))
    (try simp only [List.set_cons_zero, List.set_cons_succ])
    refine held_take (i := 9) (d := 88) (v := ?_) rfl rfl (by kernel_rfl) (by kernel_rfl) (by kernel_rfl) (fun _ _ _ h => h) (Or.inl ⟨by rfl, ?_⟩) (by assumption) ?_
    rotate_left
    · (intro w hSw; (try dsimp only at hSw); go_simp; (try with_reducible rfl))
    (try simp only [List.set_cons_zero, List.set_cons_succ])
    refine held_take (i := 11) (d := 90) (v := ?_) rfl rfl (by kernel_rfl) (by kernel_rfl) (by kernel_rfl) (fun _ _ _ h => h) (Or.inl ⟨by rfl, ?_⟩) (by assumption) ?_
    rotate_left
    · (intro w hSw; (try dsimp only at hSw); go_simp; (try with_reducible rfl))
    (try simp only [List.set_cons_zero, List.set_cons_succ])
    refine wpAnyH_ready (rs := [2]) (by kernel_rfl) (by simp) ?_
    refine AllReadyH.cons rfl (fun K hK => ?_) AllReadyH.nil
    go_simp
    refine hK.out _ _ ?_ (fun hHeld => ?_)
    · (try dsimp only); exact Bl.cells (by (repeat (first | assumption | with_reducible exact Bl.refl _ | with_reducible refine Bl.drewN ?_ _ | with_reducible refine Bl.drew ?_ | with_reducible refine Bl.alloc ?_ _ | (with_reducible refine Bl.call ?_ (by assumption))))) k5
    clear hK K
    (try simp only [Act.put]); (try simp only [List.setIfInBounds_toArray]); (try simp only [List.set_cons_succ]); (try simp only [List.set_cons_zero])
    refine held_take (i := 4) (d := 83) (v := ?_) rfl rfl (by kernel_rfl) (by kernel_rfl) (by kernel_rfl) (fun _ _ _ h => h) (Or.inl ⟨by rfl, ?_⟩) (by assumption) ?_
    rotate_left
    · (intro w hSw; (try dsimp only at hSw); go_simp; (try with_reducible rfl))
    (try simp only [List.set_cons_zero, List.set_cons_succ])
    refine wpAnyH_ready (rs := [5]) (by kernel_rfl) (by simp) ?_
    refine AllReadyH.cons rfl (fun K hK => ?_) AllReadyH.nil
    go_simp
    refine hK.out _ _ ?_ (fun hHeld => ?_)
    · (try dsimp only); exact Bl.cells (by (repeat (first | assumption | with_reducible exact Bl.refl _ | with_reducible refine Bl.drewN ?_ _ | with_reducible refine Bl.drew ?_ | with_reducible refine Bl.alloc ?_ _ | (with_reducible refine Bl.call ?_ (by assumption))))) k5
    clear hK K
    (try simp only [Act.put]); (try simp only [List.setIfInBounds_toArray]); (try simp only [List.set_cons_succ]); (try simp only [List.set_cons_zero])
    refine wpAnyH_ready (rs := [10]) (by kernel_rfl) (by simp) ?_
    refine AllReadyH.cons rfl (fun K hK => ?_) AllReadyH.nil
    go_simp
    refine hK.out _ _ ?_ (fun hHeld => ?_)
    · (try dsimp only); exact Bl.cells (by (repeat (first | assumption | with_reducible exact Bl.refl _ | with_reducible refine Bl.drewN ?_ _ | with_reducible refine Bl.drew ?_ | with_reducible refine Bl.alloc ?_ _ | (with_reducible refine Bl.call ?_ (by assumption))))) k5
    clear hK K
    (try simp only [Act.put]); (try simp only [List.setIfInBounds_toArray]); (try simp only [List.set_cons_succ]); (try simp only [List.set_cons_zero])
    refine wpAnyH_ready (rs := [12]) (by kernel_rfl) (by simp) ?_
    refine AllReadyH.cons rfl (fun K hK => ?_) AllReadyH.nil
    (refine ap_int_step (l := [x, r0]) (base := w6.heap.size + 1) rfl rfl rfl ?_ rfl (hOq.keep ?_) ?_ ?_ ?_; (· (refine OwnI.drew ?_; exact own_lit2 _ x r0 (Nat.le_refl _) (by simp))); (· ((repeat (first | assumption | with_reducible exact Bl.refl _ | with_reducible refine Bl.drewN ?_ _ | with_reducible refine Bl.drew ?_ | with_reducible refine Bl.alloc ?_ _ | (with_reducible refine Bl.call ?_ (by assumption)))); done)); (· omega); (· (simp)); intro A9 c9 w9 ho9 hg9 hat9; have hb9 : Bl w6 w9 := Bl.grown (by (repeat (first | assumption | with_reducible exact Bl.refl _ | with_reducible refine Bl.drewN ?_ _ | with_reducible refine Bl.drew ?_ | with_reducible refine Bl.alloc ?_ _ | (with_reducible refine Bl.call ?_ (by assumption))))) hg9 (fun k hk => by simp at hk; omega))
    refine hK.out _ _ ?_ (fun hHeld => ?_)
    · (try dsimp only); exact Bl.cells (by (repeat (first | assumption | with_reducible exact Bl.refl _ | with_reducible refine Bl.drewN ?_ _ | with_reducible refine Bl.drew ?_ | with_reducible refine Bl.alloc ?_ _ | (with_reducible refine Bl.call ?_ (by assumption))))) k5
    clear hK K
    (try simp only [Act.put]); (try simp only [List.setIfInBounds_toArray]); (try simp only [List.set_cons_succ]); (try simp only [List.set_cons_zero])
    refine held_take (i := 13) (d := 23) (v := ?_) rfl rfl (by kernel_rfl) (by kernel_rfl) (by kernel_rfl) (fun _ _ _ h => h) (Or.inl ⟨by rfl, ?_⟩) (by assumption) ?_
    rotate_left
    · (intro w hSw; (try dsimp only at hSw); go_simp; (try with_reducible rfl))
    (try simp only [List.set_cons_zero, List.set_cons_succ])
    refine wpAnyH_done (by kernel_rfl) ?_ _
    go_wp2_with fail
    go_meet
    exact ⟨A9, c9, rfl, OwnI.mono ho9 (by omega), (by (repeat (first | assumption | with_reducible exact Bl.refl _ | with_reducible refine Bl.drewN ?_ _ | with_reducible refine Bl.drew ?_ | with_reducible refine Bl.alloc ?_ _ | (with_reducible refine Bl.call ?_ (by assumption)))))⟩
  case rest =>
    obtain ⟨A9, c9, rfl, h9, hWx⟩ := hcut
    replace kf := hWx.cells kf
    replace hW := hW.call hWx
    clear k5
    go_wp2_with (at_builtin; refine ap_int rfl rfl rfl (h9.keep (by (repeat (first | assumption | with_reducible exact Bl.refl _ | with_reducible refine Bl.drewN ?_ _ | with_reducible refine Bl.drew ?_ | with_reducible refine Bl.alloc ?_ _ | (with_reducible refine Bl.call ?_ (by assumption)))))) rfl (rd_new4 _ 3 _ _ _ _) (by omega) (by have := hW.sz; simp; omega) ?_; intro A10 c10 w10 ho10 hg10 hat10)
    go_ret
    exact ⟨A10, c10, rfl, ho10, Bl.grown (by (repeat (first | assumption | with_reducible exact Bl.refl _ | with_reducible refine Bl.drewN ?_ _ | with_reducible refine Bl.drew ?_ | with_reducible refine Bl.alloc ?_ _ | (with_reducible refine Bl.call ?_ (by assumption))))) hg10 (fun k hk => (h9.blk k hk).1)⟩
set_option maxRecDepth 20000 in
set_option maxHeartbeats 4000000 in
theorem vwReal1 (p x y r0 r1 r2 r3 r4 r5 r6 r7 r8 t0 t1 t2 t3 t4 f0 f1 : Int) (A : Option Addr) (c : Nat) (w : World) (hl : RdI w A 9 c [r0, r1, r2, r3, r4, r5, r6, r7, r8]) (hp : 2 ≤ p ∧ p ≤ 251)
    (HT : Hid (sh1 p r0 r1 r2 r3 r4 r5 r6 r7 r8 = [t0, t1, t2, t3, t4])) (HF0 : Hid (f0 = (x - r0) % p)) (HF1 : Hid (f1 = (y - r1) % p)) (hx : 0 ≤ x ∧ x < p) (hy : 0 ≤ y ∧ y < p) (hall : ∀ z ∈ [r0, r1, r2, r3, r4, r5, r6, r7, r8], 0 ≤ z ∧ z < p) :
    Calls Try.prog 106 #[.int .i64 p, .int .i64 x, .int .i64 y, .int .i64 1, .slice A 9 c] w
      fun r w' => ∃ A2 c2, r = .returned (.slice A2 11 c2) ∧ OwnI w.heap.size w' A2 11 c2 [y, r1, t0, t1, t2, t3, t4, f0, prtD p 0 r4 r6 f0, prtD p 0 r5 r7 f1, shrZ p 0 r6 r7 r8 (prtD p 0 r4 r6 f0 + prtD p 1 t0 t2 f0) (prtD p 0 r5 r7 f1 + prtD p 1 t1 t3 f1)] ∧ Bl w w' := by
  obtain ⟨hle1, hle2⟩ := hl.le
  have hl9 := hl
  obtain ⟨ad, rfl, had, q0, qs⟩ := hl.lit (by omega)
  have g0 := q0 _ rfl
  have g1 := qs 1 _ (by omega) rfl
  have g2 := qs 2 _ (by omega) rfl
  have g3 := qs 3 _ (by omega) rfl
  have g4 := qs 4 _ (by omega) rfl
  have g5 := qs 5 _ (by omega) rfl
  have g6 := qs 6 _ (by omega) rfl
  have g7 := qs 7 _ (by omega) rfl
  have g8 := qs 8 _ (by omega) rfl
  clear qs q0
  have b0 := hall r0 (by simp)
  have b1 := hall r1 (by simp)
  have b2 := hall r2 (by simp)
  have b3 := hall r3 (by simp)
  have b4 := hall r4 (by simp)
  have b5 := hall r5 (by simp)
  have b6 := hall r6 (by simp)
  have b7 := hall r7 (by simp)
  have b8 := hall r8 (by simp)
  have i1 : (9 : Int) ≤ c := by omega
  have i4 : (4 : Int) ≤ c := by omega
  have hwr0 : IntKind.i64.wrap 0 = 0 := rfl
  have hwr1 : IntKind.i64.wrap 1 = 1 := rfl
  have hall9 := Lib.hid hall
  clear hall
  have hs0 : IntKind.i64.wrap (x - r0) = x - r0 := IntWalk.i64_in _ (by omega)
  have hs1 : IntKind.i64.wrap (y - r1) = y - r1 := IntWalk.i64_in _ (by omega)
  go_enter Try.func106, Try.ntmps106
  go_wp2_with fail
  refine wp_region_held_drew (S := (fun w' => w'.cell? ad = some (.int .i64 r0) ∧ w'.cell? ⟨ad.block, ad.off + 1, none⟩ = some (.int .i64 r1))) (by kernel_rfl) ?_ (fun hHeld => ?_)
  · (try dsimp only); exact ⟨Bl.cells (by (repeat (first | assumption | with_reducible exact Bl.refl _ | with_reducible refine Bl.drewN ?_ _ | with_reducible refine Bl.drew ?_ | with_reducible refine Bl.alloc ?_ _ | (with_reducible refine Bl.call ?_ (by assumption))))) g0, Bl.cells (by (repeat (first | assumption | with_reducible exact Bl.refl _ | with_reducible refine Bl.drewN ?_ _ | with_reducible refine Bl.drew ?_ | with_reducible refine Bl.alloc ?_ _ | (with_reducible refine Bl.call ?_ (by assumption))))) g1⟩
  refine held_take (i := 0) (d := 24) (v := ?_) rfl rfl (by kernel_rfl) (by kernel_rfl) (by kernel_rfl) (fun _ _ _ h => h) (Or.inl ⟨by rfl, ?_⟩) (by assumption) ?_
  rotate_left
  · (intro w hSw; (try dsimp only at hSw); go_simp; (try with_reducible rfl))
  (try simp only [List.set_cons_zero, List.set_cons_succ])
  refine held_take (i := 1) (d := 25) (v := ?_) rfl rfl (by kernel_rfl) (by kernel_rfl) (by kernel_rfl) (fun _ _ _ h => h) (Or.inl ⟨by rfl, ?_⟩) (by assumption) ?_
  rotate_left
  · (intro w hSw; (try dsimp only at hSw); go_simp; (try with_reducible rfl))
  (try simp only [List.set_cons_zero, List.set_cons_succ])
  refine held_take (i := 2) (d := 26) (v := ?_) rfl rfl (by kernel_rfl) (by kernel_rfl) (by kernel_rfl) (fun _ _ _ h => h) (Or.inl ⟨by rfl, ?_⟩) (by assumption) ?_
  rotate_left
  · (intro w hSw; (try dsimp only at hSw); go_simp; (try with_reducible rfl))
  (try simp only [List.set_cons_zero, List.set_cons_succ])
  refine held_take (i := 3) (d := 27) (v := ?_) rfl rfl (by kernel_rfl) (by kernel_rfl) (by kernel_rfl) (fun _ _ _ h => h) (Or.inl ⟨by rfl, ?_⟩) (by assumption) ?_
  rotate_left
  · (intro w hSw; (try dsimp only at hSw); go_simp; (try with_reducible rfl))
  (try simp only [List.set_cons_zero, List.set_cons_succ])
  refine held_take (i := 4) (d := 28) (v := ?_) rfl rfl (by kernel_rfl) (by kernel_rfl) (by kernel_rfl) (fun _ _ _ h => h) (Or.inl ⟨by rfl, ?_⟩) (by assumption) ?_
  rotate_left
  · (intro w hSw; (try dsimp only at hSw); go_simp; (try with_reducible rfl))
  (try simp only [List.set_cons_zero, List.set_cons_succ])
  refine held_take (i := 5) (d := 29) (v := ?_) rfl rfl (by kernel_rfl) (by kernel_rfl) (by kernel_rfl) (fun _ _ _ h => h) (Or.inl ⟨by rfl, ?_⟩) (by assumption) ?_
  rotate_left
  · (intro w hSw; (try dsimp only at hSw); go_simp; (try with_reducible rfl))
  (try simp only [List.set_cons_zero, List.set_cons_succ])
  refine held_take (i := 7) (d := 31) (v := ?_) rfl rfl (by kernel_rfl) (by kernel_rfl) (by kernel_rfl) (fun _ _ _ h => h) (Or.inl ⟨by rfl, ?_⟩) (by assumption) ?_
  rotate_left
  · (intro w hSw; (try dsimp only at hSw); go_simp; (try with_reducible rfl))
  (try simp only [List.set_cons_zero, List.set_cons_succ])
  refine held_take (i := 8) (d := 32) (v := ?_) rfl rfl (by kernel_rfl) (by kernel_rfl) (by kernel_rfl) (fun _ _ _ h => h) (Or.inl ⟨by rfl, ?_⟩) (by assumption) ?_
  rotate_left
  · (intro w hSw; (try dsimp only at hSw); go_simp; (try with_reducible rfl))
  (try simp only [List.set_cons_zero, List.set_cons_succ])
  refine held_take (i := 9) (d := 33) (v := ?_) rfl rfl (by kernel_rfl) (by kernel_rfl) (by kernel_rfl) (fun _ _ _ h => h) (Or.inl ⟨by rfl, ?_⟩) (by assumption) ?_
  rotate_left
  · (intro w hSw; (try dsimp only at hSw); go_simp; (try with_reducible rfl))
  (try simp only [List.set_cons_zero, List.set_cons_succ])
  refine held_take (i := 10) (d := 34) (v := ?_) rfl rfl (by kernel_rfl) (by kernel_rfl) (by kernel_rfl) (fun _ _ _ h => h) (Or.inl ⟨by rfl, ?_⟩) (by assumption) ?_
  rotate_left
  · (intro w hSw; (try dsimp only at hSw); go_simp; (try with_reducible rfl))
  (try simp only [List.set_cons_zero, List.set_cons_succ])
  refine held_take (i := 11) (d := 35) (v := ?_) rfl rfl (by kernel_rfl) (by kernel_rfl) (by kernel_rfl) (fun _ _ _ h => h) (Or.inl ⟨by rfl, ?_⟩) (by assumption) ?_
  rotate_left
  · (intro w hSw; (try dsimp only at hSw); go_simp; (try with_reducible rfl))
  (try simp only [List.set_cons_zero, List.set_cons_succ])
  refine held_take (i := 12) (d := 36) (v := ?_) rfl rfl (by kernel_rfl) (by kernel_rfl) (by kernel_rfl) (fun _ _ _ h => h) (Or.inl ⟨by rfl, ?_⟩) (by assumption) ?_
  rotate_left
  · (intro w hSw; (try dsimp only at hSw); go_simp; (try with_reducible rfl))
  (try simp only [List.set_cons_zero, List.set_cons_succ])
  refine wpAnyH_ready (rs := [6]) (by kernel_rfl) (by simp) ?_
  refine AllReadyH.cons rfl (fun K hK => ?_) AllReadyH.nil
  go_simp
  (refine (spec_btMod _ _ _ (by omega) (by omega) (by omega) (by omega)).mono ?_; rintro e w' ⟨rfl, rfl⟩)
  go_wp2_with fail
  refine hK.out _ _ ?_ (fun hHeld => ?_)
  · (try dsimp only); exact ⟨Bl.cells (by (repeat (first | assumption | with_reducible exact Bl.refl _ | with_reducible refine Bl.drewN ?_ _ | with_reducible refine Bl.drew ?_ | with_reducible refine Bl.alloc ?_ _ | (with_reducible refine Bl.call ?_ (by assumption))))) g0, Bl.cells (by (repeat (first | assumption | with_reducible exact Bl.refl _ | with_reducible refine Bl.drewN ?_ _ | with_reducible refine Bl.drew ?_ | with_reducible refine Bl.alloc ?_ _ | (with_reducible refine Bl.call ?_ (by assumption))))) g1⟩
  clear hK K
  (try simp only [Act.put]); (try simp only [List.setIfInBounds_toArray]); (try simp only [List.set_cons_succ]); (try simp only [List.set_cons_zero])
  refine wpAnyH_ready (rs := [13]) (by kernel_rfl) (by simp) ?_
  refine AllReadyH.cons rfl (fun K hK => ?_) AllReadyH.nil
  go_simp
  (refine (spec_btMod _ _ _ (by omega) (by omega) (by omega) (by omega)).mono ?_; rintro e w' ⟨rfl, rfl⟩)
  go_wp2_with fail
  refine hK.out _ _ ?_ (fun hHeld => ?_)
  · (try dsimp only); exact ⟨Bl.cells (by (repeat (first | assumption | with_reducible exact Bl.refl _ | with_reducible refine Bl.drewN ?_ _ | with_reducible refine Bl.drew ?_ | with_reducible refine Bl.alloc ?_ _ | (with_reducible refine Bl.call ?_ (by assumption))))) g0, Bl.cells (by (repeat (first | assumption | with_reducible exact Bl.refl _ | with_reducible refine Bl.drewN ?_ _ | with_reducible refine Bl.drew ?_ | with_reducible refine Bl.alloc ?_ _ | (with_reducible refine Bl.call ?_ (by assumption))))) g1⟩
  clear hK K
  (try simp only [Act.put]); (try simp only [List.setIfInBounds_toArray]); (try simp only [List.set_cons_succ]); (try simp only [List.set_cons_zero])
  refine wpAnyH_ready (rs := [14]) (by kernel_rfl) (by simp) ?_
  refine AllReadyH.cons rfl (fun K hK => ?_) AllReadyH.nil
  go_simp
  refine hK.out _ _ ?_ (fun hHeld => ?_)
  · (try dsimp only); exact ⟨Bl.cells (by (repeat (first | assumption | with_reducible exact Bl.refl _ | with_reducible refine Bl.drewN ?_ _ | with_reducible refine Bl.drew ?_ | with_reducible refine Bl.alloc ?_ _ | (with_reducible refine Bl.call ?_ (by assumption))))) g0, Bl.cells (by (repeat (first | assumption | with_reducible exact Bl.refl _ | with_reducible refine Bl.drewN ?_ _ | with_reducible refine Bl.drew ?_ | with_reducible refine Bl.alloc ?_ _ | (with_reducible refine Bl.call ?_ (by assumption))))) g1⟩
  clear hK K
  (try simp only [Act.put]); (try simp only [List.setIfInBounds_toArray]); (try simp only [List.set_cons_succ]); (try simp only [List.set_cons_zero])
  refine held_take (i := 15) (d := 11) (v := ?_) rfl rfl (by kernel_rfl) (by kernel_rfl) (by kernel_rfl) (fun _ _ _ h => h) (Or.inl ⟨by rfl, ?_⟩) (by assumption) ?_
  rotate_left
  · (intro w hSw; (try dsimp only at hSw); go_simp; (try with_reducible rfl))
  (try simp only [List.set_cons_zero, List.set_cons_succ])
  refine wpAnyH_done (by kernel_rfl) ?_ _
  have F0 := md_bd (x - r0) hp.1
  have F1 := md_bd (y - r1) hp.1
  rw [← HF0.out] at F0
  rw [← HF1.out] at F1
  rw [← HF0.out, ← HF1.out]
  clear hs0 hs1
  have hW : Bl w (w.alloc (.cells #[.int .i64 f0, .int .i64 f1] 3)).drew := (by (repeat (first | assumption | with_reducible exact Bl.refl _ | with_reducible refine Bl.drewN ?_ _ | with_reducible refine Bl.drew ?_ | with_reducible refine Bl.alloc ?_ _ | (with_reducible refine Bl.call ?_ (by assumption)))))
  have hf : RdI (w.alloc (.cells #[.int .i64 f0, .int .i64 f1] 3)).drew (some ⟨w.heap.size, 0, none⟩) 2 2 [f0, f1] := (rd_new2 w 3 f0 f1).drew
  have hB : Blk (w.alloc (.cells #[.int .i64 f0, .int .i64 f1] 3)).drew w.heap.size 3 #[.int .i64 f0, .int .i64 f1] := (Blk.new w _ _).drew
  have hmem := sh1_mem p r0 r1 r2 r3 r4 r5 r6 r7 r8 hp.1
  rw [HT.out] at hmem
  have bt0 := hmem t0 (by simp)
  have bt1 := hmem t1 (by simp)
  have bt2 := hmem t2 (by simp)
  have bt3 := hmem t3 (by simp)
  have bt4 := hmem t4 (by simp)
  clear hmem g2 g3 g4 g5 g6 g7 g8
  go_wp2_with fail
  refine (vwShares1 p r0 r1 r2 r3 r4 r5 r6 r7 r8 (some ad) c _ (hl9.keep (by (repeat (first | assumption | with_reducible exact Bl.refl _ | with_reducible refine Bl.drewN ?_ _ | with_reducible refine Bl.drew ?_ | with_reducible refine Bl.alloc ?_ _ | (with_reducible refine Bl.call ?_ (by assumption)))))) hp hall9.out).mono ?_
  rintro r w2 ⟨A2, c2, rfl, hOq, hb2⟩
  replace hW := hW.call hb2
  replace hf := hf.keep hb2
  replace hB := hB.keep hb2
  clear hb2
  go_wp2_with fail
  refine (vwShares0 p r0 r1 r2 r3 r4 r5 r6 r7 r8 (some ad) c _ (hl9.keep (by (repeat (first | assumption | with_reducible exact Bl.refl _ | with_reducible refine Bl.drewN ?_ _ | with_reducible refine Bl.drew ?_ | with_reducible refine Bl.alloc ?_ _ | (with_reducible refine Bl.call ?_ (by assumption)))))) hp hall9.out).mono ?_
  rintro r w3 ⟨A3, c3, rfl, hOk, hb3⟩
  replace hW := hW.call hb3
  replace hf := hf.keep hb3
  replace hB := hB.keep hb3
  replace hOq := hOq.keep hb3
  clear hb3
  rw [HT.out] at hOq
  go_wp2_with fail
  refine (vwOwn0 _ _ _ _ _ _ _ _ 0 0 _ _ _ _ _ hOk hf hp (by omega) (by omega) (by omega) (by omega) (by omega) F0 F1 (by omega) (by omega)).mono ?_
  rintro r w4 ⟨rfl, hb4⟩
  replace hW := hW.call hb4
  replace hf := hf.keep hb4
  replace hB := hB.keep hb4
  replace hOq := hOq.keep hb4
  replace hOk := hOk.keep hb4
  clear hb4
  go_wp2_with fail
  refine (vwOwn1 _ _ _ _ _ _ _ _ 0 0 _ _ _ _ _ hOq hf hp (by omega) (by omega) (by omega) (by omega) (by omega) F0 F1 (by omega) (by omega)).mono ?_
  rintro r w5 ⟨rfl, hb5⟩
  replace hW := hW.call hb5
  replace hf := hf.keep hb5
  replace hB := hB.keep hb5
  replace hOq := hOq.keep hb5
  replace hOk := hOk.keep hb5
  clear hb5
  have U := prtD_bd (q := 1) (a := t0) (c := t2) (f := f0) hp.1
  have V := prtD_bd (q := 1) (a := t1) (c := t3) (f := f1) hp.1
  go_wp2_with fail
  refine (vwOwn0 _ _ _ _ _ _ _ _ _ _ _ _ _ _ _ hOk hf hp (by omega) (by omega) (by omega) (by omega) (by omega) F0 F1 U V).mono ?_
  rintro r w6 ⟨rfl, hb6⟩
  replace hW := hW.call hb6
  replace hB := hB.keep hb6
  replace hOq := hOq.keep hb6
  clear hb6 hOk hf
  have k5 := hW.cells g1
  have kf := hB.cell 0 _ rfl
  have hs6 := hW.sz
  go_upto_region 6 with fail
  go_cut [23] (fun s23 wx => ∃ A9 c9, s23 = .slice A9 7 c9 ∧ OwnI w.heap.size wx A9 7 c9 [y, r1, t0, t1, t2, t3, t4] ∧ Bl w6 wx)
  case first =>
    refine wp_region_held_drew (S := (fun w' => w'.cell? ⟨ad.block, ad.off + 1, none⟩ = some (.int .i64 r1))) (by kernel_rfl) ?_ (fun hHeld => ?_)
    · (try dsimp only); exact Bl.cells (by (repeat (first | assumption | with_reducible exact Bl.refl _ | with_reducible refine Bl.drewN ?_ _ | with_reducible refine Bl.drew ?_ | with_reducible refine Bl.alloc ?_ _ | (with_reducible refine Bl.call ?_ (by assumption))))) k5
    refine held_take (i := 0) (d := 79) (v := ?_) rfl rfl (by kernel_rfl) (by kernel_rfl) (by kernel_rfl) (fun _ _ _ h => h) (Or.inl ⟨by rfl, ?_⟩) (by assumption) ?_
    rotate_left
    · (intro w hSw; (try dsimp only at hSw); go_simp; (try with_reducible rfl))
    (try simp only [List.set_cons_zero, List.set_cons_succ])
    refine held_take (i := 1) (d := 80) (v := ?_) rfl rfl (by kernel_rfl) (by kernel_rfl) (by kernel_rfl) (fun _ _ _ h => h) (Or.inl ⟨by rfl, ?_⟩) (by assumption) ?_
    rotate_left
    · (intro w hSw; (try dsimp only at hSw); go_simp; (try with_reducible rfl))
    (try simp only [List.set_cons_zero, List.set_cons_succ])
    refine held_take (i := 3) (d := 82) (v := ?_) rfl rfl (by kernel_rfl) (by kernel_rfl) (by kernel_rfl) (fun _ _ _ h => h) (Or.inl ⟨by rfl, ?_⟩) (by assumption) ?_
    rotate_left
    · (intro w hSw; (try dsimp only at hSw); go_simp; (try with_reducible rfl))
    (try simp only [List.set_cons_zero, List.set_cons_succ])
    refine held_take (i := 6) (d := 85) (v := ?_) rfl rfl (by kernel_rfl) (by kernel_rfl) (by kernel_rfl) (fun _ _ _ h => h) (Or.inl ⟨by rfl, ?_⟩) (by assumption) ?_
    rotate_left
    · (intro w hSw; (try dsimp only at hSw); go_simp; (try with_reducible rfl))
    (try simp only [List.set_cons_zero, List.set_cons_succ])
    refine held_take (i := 7) (d := 86) (v := ?_) rfl rfl (by kernel_rfl) (by kernel_rfl) (by kernel_rfl) (fun _ _ _ h => h) (Or.inl ⟨by rfl, ?_⟩) (by assumption) ?_
    rotate_left
    · (intro w hSw; (try dsimp only at hSw); go_simp; (try with_reducible rfl))
    (try simp only [List.set_cons_zero, List.set_cons_succ])
    refine held_take (i := 8) (d := 87) (v := ?_) rfl rfl (by kernel_rfl) (by kernel_rfl) (by kernel_rfl) (fun _ _ _ h => h) (Or.inl ⟨by rfl, ?_⟩) (by assumption) ?_
    rotate_left
    · (intro w hSw; (try dsimp only at hSw); go_simp; (try with_reducible rfl))
    (try simp only [List.set_cons_zero, List.set_cons_succ])
    refine held_take (i := 9) (d := 88) (v := ?_) rfl rfl (by kernel_rfl) (by kernel_rfl) (by kernel_rfl) (fun _ _ _ h => h) (Or.inl ⟨by rfl, ?_⟩) (by assumption) ?_
    rotate_left
    · (intro w hSw; (try dsimp only at hSw); go_simp; (try with_reducible rfl))
    (try simp only [List.set_cons_zero, List.set_cons_succ])
    refine held_take (i := 11) (d := 90) (v := ?_) rfl rfl (by kernel_rfl) (by kernel_rfl) (by kernel_rfl) (fun _ _ _ h => h) (Or.inl ⟨by rfl, ?_⟩) (by assumption) ?_
    rotate_left
    · (intro w hSw; (try dsimp only at hSw); go_simp; (try with_reducible rfl))
    (try simp only [List.set_cons_zero, List.set_cons_succ])
    refine wpAnyH_ready (rs := [2]) (by kernel_rfl) (by simp) ?_
    refine AllReadyH.cons rfl (fun K hK => ?_) AllReadyH.nil
    go_simp
    refine hK.out _ _ ?_ (fun hHeld => ?_)
    · (try dsimp only); exact Bl.cells (by (repeat (first | assumption | with_reducible exact Bl.refl _ | with_reducible refine Bl.drewN ?_ _ | with_reducible refine Bl.drew ?_ | with_reducible refine Bl.alloc ?_ _ | (with_reducible refine Bl.call ?_ (by assumption))))) k5
    clear hK K
    (try simp only [Act.put]); (try simp only [List.setIfInBounds_toArray]); (try simp only [List.set_cons_succ]); (try simp only [List.set_cons_zero])
    refine held_take (i := 4) (d := 83) (v := ?_) rfl rfl (by kernel_rfl) (by kernel_rfl) (by kernel_rfl) (fun _ _ _ h => h) (Or.inl ⟨by rfl, ?_⟩) (by assumption) ?_
    rotate_left
    · (intro w hSw; (try dsimp only at hSw); go_simp; (try with_reducible rfl))
    (try simp only [List.set_cons_zero, List.set_cons_succ])
    refine wpAnyH_ready (rs := [5]) (by kernel_rfl) (by simp) ?_
    refine AllReadyH.cons rfl (fun K hK => ?_) AllReadyH.nil
    go_simp
    refine hK.out _ _ ?_ (fun hHeld => ?_)
    · (try dsimp only); exact Bl.cells (by (repeat (first | assumption | with_reducible exact Bl.refl _ | with_reducible refine Bl.drewN ?_ _ | with_reducible refine Bl.drew ?_ | with_reducible refine Bl.alloc ?_ _ | (with_reducible refine Bl.call ?_ (by assumption))))) k5
    clear hK K
    (try simp only [Act.put]); (try simp only [List.setIfInBounds_toArray]); (try simp only [List.set_cons_succ]); (try simp only [List.set_cons_zero])
    refine wpAnyH_ready (rs := [10]) (by kernel_rfl) (by simp) ?_
    refine AllReadyH.cons rfl (fun K hK => ?_) AllReadyH.nil
    go_simp
    refine hK.out _ _ ?_ (fun hHeld => ?_)
    · (try dsimp only); exact Bl.cells (by (repeat (first | assumption | with_reducible exact Bl.refl _ | with_reducible refine Bl.drewN ?_ _ | with_reducible refine Bl.drew ?_ | with_reducible refine Bl.alloc ?_ _ | (with_reducible refine Bl.call ?_ (by assumption))))) k5
    clear hK K
    (try simp only [Act.put]); (try simp only [List.setIfInBounds_toArray]); (try simp only [List.set_cons_succ]); (try simp only [List.set_cons_zero])
    refine wpAnyH_ready (rs := [12]) (by kernel_rfl) (by simp) ?_
    refine AllReadyH.cons rfl (fun K hK => ?_) AllReadyH.nil
    (refine ap_int_step (l := [y, r1]) (base := w6.heap.size + 1) rfl rfl rfl ?_ rfl (hOq.keep ?_) ?_ ?_ ?_; (· (refine OwnI.drew ?_; exact own_lit2 _ y r1 (Nat.le_refl _) (by simp))); (· ((repeat (first | assumption | with_reducible exact Bl.refl _ | with_reducible refine Bl.drewN ?_ _ | with_reducible refine Bl.drew ?_ | with_reducible refine Bl.alloc ?_ _ | (with_reducible refine Bl.call ?_ (by assumption)))); done)); (· omega); (· (simp)); intro A9 c9 w9 ho9 hg9 hat9; have hb9 : Bl w6 w9 := Bl.grown (by (repeat (first | assumption | with_reducible exact Bl.refl _ | with_reducible refine Bl.drewN ?_ _ | with_reducible refine Bl.drew ?_ | with_reducible refine Bl.alloc ?_ _ | (with_reducible refine Bl.call ?_ (by assumption))))) hg9 (fun k hk => by simp at hk; omega))
    refine hK.out _ _ ?_ (fun hHeld => ?_)
    · (try dsimp only); exact Bl.cells (by (repeat (first | assumption | with_reducible exact Bl.refl _ | with_reducible refine Bl.drewN ?_ _ | with_reducible refine Bl.drew ?_ | with_reducible refine Bl.alloc ?_ _ | (with_reducible refine Bl.call ?_ (by assumption))))) k5
    clear hK K
    (try simp only [Act.put]); (try simp only [List.setIfInBounds_toArray]); (try simp only [List.set_cons_succ]); (try simp only [List.set_cons_zero])
    refine held_take (i := 13) (d := 23) (v := ?_) rfl rfl (by kernel_rfl) (by kernel_rfl) (by kernel_rfl) (fun _ _ _ h => h) (Or.inl ⟨by rfl, ?_⟩) (by assumption) ?_
    rotate_left
    · (intro w hSw; (try dsimp only at hSw); go_simp; (try with_reducible rfl))
    (try simp only [List.set_cons_zero, List.set_cons_succ])
    refine wpAnyH_done (by kernel_rfl) ?_ _
    go_wp2_with fail
    go_meet
    exact ⟨A9, c9, rfl, OwnI.mono ho9 (by omega), (by (repeat (first | assumption | with_reducible exact Bl.refl _ | with_reducible refine Bl.drewN ?_ _ | with_reducible refine Bl.drew ?_ | with_reducible refine Bl.alloc ?_ _ | (with_reducible refine Bl.call ?_ (by assumption)))))⟩
  case rest =>
    obtain ⟨A9, c9, rfl, h9, hWx⟩ := hcut
    replace kf := hWx.cells kf
    replace hW := hW.call hWx
    clear k5
    go_wp2_with (at_builtin; refine ap_int rfl rfl rfl (h9.keep (by (repeat (first | assumption | with_reducible exact Bl.refl _ | with_reducible refine Bl.drewN ?_ _ | with_reducible refine Bl.drew ?_ | with_reducible refine Bl.alloc ?_ _ | (with_reducible refine Bl.call ?_ (by assumption)))))) rfl (rd_new4 _ 3 _ _ _ _) (by omega) (by have := hW.sz; simp; omega) ?_; intro A10 c10 w10 ho10 hg10 hat10)
    go_ret
    exact ⟨A10, c10, rfl, ho10, Bl.grown (by (repeat (first | assumption | with_reducible exact Bl.refl _ | with_reducible refine Bl.drewN ?_ _ | with_reducible refine Bl.drew ?_ | with_reducible refine Bl.alloc ?_ _ | (with_reducible refine Bl.call ?_ (by assumption))))) hg10 (fun k hk => (h9.blk k hk).1)⟩
end Go.Proofs.Ytglgaicbcackbaa
