/- The contract of the program's simulated view.
   Conditions: small elements of a field. -/
import Derived.Test.YtglgaicbcackbaaViw
import Derived.Outline
import Derived.Deep.DeepCutAuto
namespace Go.Proofs.Ytglgaicbcackbaa
open Go.RowKit
set_option linter.unusedVariables false
/-- The last number of a simulated view. -/
def smZ (p q i o r0 r1 r2 r3 r4 r5 r6 r7 r8 : Int) : Int :=
  (o - shrZ p q r3 r4 r5 ((prtD p q r1 r3 (if q = 0 then (i - r0) % p else r6) + r7) % p) ((prtD p q r2 r4 (if q = 0 then r6 else (i - r0) % p) + r8) % p)) % p
def smR (p q i o r0 r1 r2 r3 r4 r5 r6 r7 r8 : Int) : List Int := [i, r0, r1, r2, r3, r4, r5, r6, r7, r8, smZ p q i o r0 r1 r2 r3 r4 r5 r6 r7 r8]
set_option maxRecDepth 20000 in
set_option maxHeartbeats 4000000 in
theorem simView0 (p i o r0 r1 r2 r3 r4 r5 r6 r7 r8 : Int) (A : Option Addr) (c : Nat) (w : World) (hl : RdI w A 9 c [r0, r1, r2, r3, r4, r5, r6, r7, r8]) (hp : 2 ≤ p ∧ p ≤ 251)
    (hi : 0 ≤ i ∧ i < p) (ho : 0 ≤ o ∧ o < p) (hall : ∀ z ∈ [r0, r1, r2, r3, r4, r5, r6, r7, r8], 0 ≤ z ∧ z < p) :
    Calls Try.prog 126 #[.int .i64 p, .int .i64 0, .int .i64 i, .int .i64 o, .slice A 9 c] w
      fun r w' => ∃ A2 c2, r = .returned (.slice A2 11 c2) ∧ OwnI w.heap.size w' A2 11 c2 (smR p 0 i o r0 r1 r2 r3 r4 r5 r6 r7 r8) ∧ Bl w w' := by
  obtain ⟨hle1, hle2⟩ := hl.le
  obtain ⟨ad, rfl, had, q0, qs⟩ := hl.lit (by omega)
  have g0 := q0 _ rfl
  have g6 := qs 6 _ (by omega) rfl
  have g7 := qs 7 _ (by omega) rfl
  have g8 := qs 8 _ (by omega) rfl
  clear qs q0
  have b0 := hall r0 (by simp)
  have b1 := hall r1 (by simp)
  have b2 := hall r2 (by simp)
  have b3 := hall r3 (by simp)
  have b4 := hall r4 (by simp)
  have b5 := hall r5 (by simp)
  have b6 := hall r6 (by simp)
  have b7 := hall r7 (by simp)
  have b8 := hall r8 (by simp)
  clear hall
  have i1 : (9 : Int) ≤ c := by omega
  have hwr0 : IntKind.i64.wrap 0 = 0 := rfl
  have hwr1 : IntKind.i64.wrap 1 = 1 := rfl
  have hir : IntKind.i64.wrap (i - r0) = i - r0 := IntWalk.i64_in _ (by omega)
  have h0 : RdI w (some ⟨ad.block, ad.off + 1, none⟩) 5 (c - 1) [r1, r2, r3, r4, r5] := hl.mid 5 (by omega) (by omega) (by omega)
  go_enter Try.func126, Try.ntmps126
  go_wp2_with fail
  refine wp_region_held_drew (S := (fun w' => w'.cell? ad = some (.int .i64 r0) ∧ w'.cell? ⟨ad.block, ad.off + 6, none⟩ = some (.int .i64 r6))) (by kernel_rfl) ?_ (fun hHeld => ?_)
  · (try dsimp only); first | exact ⟨g0, g6⟩ | go_keep
  refine held_take (i := 0) (d := 24) (v := ?_) rfl rfl (by kernel_rfl) (by kernel_rfl) (by kernel_rfl) (fun _ _ _ h => h) (Or.inl ⟨by rfl, ?_⟩) (by assumption) ?_
  rotate_left
  · (intro w hSw; (try dsimp only at hSw); go_simp; (try with_reducible rfl))
  (try simp only [List.set_cons_zero, List.set_cons_succ])
  refine held_take (i := 1) (d := 25) (v := ?_) rfl rfl (by kernel_rfl) (by kernel_rfl) (by kernel_rfl) (fun _ _ _ h => h) (Or.inl ⟨by rfl, ?_⟩) (by assumption) ?_
  rotate_left
  · (intro w hSw; (try dsimp only at hSw); go_simp; (try with_reducible rfl))
  (try simp only [List.set_cons_zero, List.set_cons_succ])
  refine held_take (i := 2) (d := 26) (v := ?_) rfl rfl (by kernel_rfl) (by kernel_rfl) (by kernel_rfl) (fun _ _ _ h => h) (Or.inl ⟨by rfl, ?_⟩) (by assumption) ?_
  rotate_left
  · (intro w hSw; (try dsimp only at hSw); go_simp; (try with_reducible rfl))
  (try simp only [List.set_cons_zero, List.set_cons_succ])
  refine held_take (i := 3) (d := 27) (v := ?_) rfl rfl (by kernel_rfl) (by kernel_rfl) (by kernel_rfl) (fun _ _ _ h => h) (Or.inl ⟨by rfl, ?_⟩) (by assumption) ?_
  rotate_left
  · (intro w hSw; (try dsimp only at hSw); go_simp; (try with_reducible rfl))
  (try simp only [List.set_cons_zero, List.set_cons_succ])
  refine held_take (i := 4) (d := 28) (v := ?_) rfl rfl (by kernel_rfl) (by kernel_rfl) (by kernel_rfl) (fun _ _ _ h => h) (Or.inl ⟨by rfl, ?_⟩) (by assumption) ?_
  rotate_left
  · (intro w hSw; (try dsimp only at hSw); go_simp; (try with_reducible rfl))
  (try simp only [List.set_cons_zero, List.set_cons_succ])
  refine held_take (i := 5) (d := 29) (v := ?_) rfl rfl (by kernel_rfl) (by kernel_rfl) (by kernel_rfl) (fun _ _ _ h => h) (Or.inl ⟨by rfl, ?_⟩) (by assumption) ?_
  rotate_left
  · (intro w hSw; (try dsimp only at hSw); go_simp; (try with_reducible rfl))
  (try simp only [List.set_cons_zero, List.set_cons_succ])
  refine held_take (i := 6) (d := 30) (v := ?_) rfl rfl (by kernel_rfl) (by kernel_rfl) (by kernel_rfl) (fun _ _ _ h => h) (Or.inl ⟨by rfl, ?_⟩) (by assumption) ?_
  rotate_left
  · (intro w hSw; (try dsimp only at hSw); go_simp; (try with_reducible rfl))
  (try simp only [List.set_cons_zero, List.set_cons_succ])
  refine held_take (i := 7) (d := 31) (v := ?_) rfl rfl (by kernel_rfl) (by kernel_rfl) (by kernel_rfl) (fun _ _ _ h => h) (Or.inl ⟨by rfl, ?_⟩) (by assumption) ?_
  rotate_left
  · (intro w hSw; (try dsimp only at hSw); go_simp; (try with_reducible rfl))
  (try simp only [List.set_cons_zero, List.set_cons_succ])
  refine held_take (i := 8) (d := 32) (v := ?_) rfl rfl (by kernel_rfl) (by kernel_rfl) (by kernel_rfl) (fun _ _ _ h => h) (Or.inl ⟨by rfl, ?_⟩) (by assumption) ?_
  rotate_left
  · (intro w hSw; (try dsimp only at hSw); go_simp; (try with_reducible rfl))
  (try simp only [List.set_cons_zero, List.set_cons_succ])
  refine held_take (i := 10) (d := 34) (v := ?_) rfl rfl (by kernel_rfl) (by kernel_rfl) (by kernel_rfl) (fun _ _ _ h => h) (Or.inl ⟨by rfl, ?_⟩) (by assumption) ?_
  rotate_left
  · (intro w hSw; (try dsimp only at hSw); go_simp; (try with_reducible rfl))
  (try simp only [List.set_cons_zero, List.set_cons_succ])
  refine held_take (i := 11) (d := 35) (v := ?_) rfl rfl (by kernel_rfl) (by kernel_rfl) (by kernel_rfl) (fun _ _ _ h => h) (Or.inl ⟨by rfl, ?_⟩) (by assumption) ?_
  rotate_left
  · (intro w hSw; (try dsimp only at hSw); go_simp; (try with_reducible rfl))
  (try simp only [List.set_cons_zero, List.set_cons_succ])
  refine held_take (i := 12) (d := 36) (v := ?_) rfl rfl (by kernel_rfl) (by kernel_rfl) (by kernel_rfl) (fun _ _ _ h => h) (Or.inl ⟨by rfl, ?_⟩) (by assumption) ?_
  rotate_left
  · (intro w hSw; (try dsimp only at hSw); go_simp; (try with_reducible rfl))
  (try simp only [List.set_cons_zero, List.set_cons_succ])
  refine wpAnyH_ready (rs := [9]) (by kernel_rfl) (by simp) ?_
  refine AllReadyH.cons rfl (fun K hK => ?_) AllReadyH.nil
  go_simp
  (refine (impl_mod _ _ _ (by omega) (by omega) (by omega) (by omega)).mono ?_; rintro e w' ⟨rfl, rfl⟩)
  go_wp2_with fail
  refine hK.out _ _ ?_ (fun hHeld => ?_)
  · (try dsimp only); first | exact ⟨g0, g6⟩ | go_keep
  clear hK K
  (try simp only [Act.put]); (try simp only [List.setIfInBounds_toArray]); (try simp only [List.set_cons_succ]); (try simp only [List.set_cons_zero])
  refine held_take (i := 13) (d := 37) (v := ?_) rfl rfl (by kernel_rfl) (by kernel_rfl) (by kernel_rfl) (fun _ _ _ h => h) (Or.inl ⟨by rfl, ?_⟩) (by assumption) ?_
  rotate_left
  · (intro w hSw; (try dsimp only at hSw); go_simp; (try with_reducible rfl))
  (try simp only [List.set_cons_zero, List.set_cons_succ])
  refine wpAnyH_ready (rs := [14]) (by kernel_rfl) (by simp) ?_
  refine AllReadyH.cons rfl (fun K hK => ?_) AllReadyH.nil
  go_simp
  refine hK.out _ _ ?_ (fun hHeld => ?_)
  · (try dsimp only); first | exact ⟨g0, g6⟩ | go_keep
  clear hK K
  (try simp only [Act.put]); (try simp only [List.setIfInBounds_toArray]); (try simp only [List.set_cons_succ]); (try simp only [List.set_cons_zero])
  refine held_take (i := 15) (d := 38) (v := ?_) rfl rfl (by kernel_rfl) (by kernel_rfl) (by kernel_rfl) (fun _ _ _ h => h) (Or.inl ⟨by rfl, ?_⟩) (by assumption) ?_
  rotate_left
  · (intro w hSw; (try dsimp only at hSw); go_simp; (try with_reducible rfl))
  (try simp only [List.set_cons_zero, List.set_cons_succ])
  refine wpAnyH_ready (rs := [16]) (by kernel_rfl) (by simp) ?_
  refine AllReadyH.cons rfl (fun K hK => ?_) AllReadyH.nil
  go_simp
  refine hK.out _ _ ?_ (fun hHeld => ?_)
  · (try dsimp only); first | exact ⟨g0, g6⟩ | go_keep
  clear hK K
  (try simp only [Act.put]); (try simp only [List.setIfInBounds_toArray]); (try simp only [List.set_cons_succ]); (try simp only [List.set_cons_zero])
  refine wpAnyH_done (by kernel_rfl) ?_ _
  have hX := Blk.keep (Blk.new w 85 #[.int .i64 p, .int .i64 0, .int .i64 0, .int .i64 0, .int .i64 0, .slice (some ⟨ad.block, ad.off + 1, none⟩) 5 (c - 1), .slice none 0 0]) (w' := ((w.alloc (.cells #[.int .i64 p, .int .i64 0, .int .i64 0, .int .i64 0, .int .i64 0, .slice (some ⟨ad.block, ad.off + 1, none⟩) 5 (c - 1), .slice none 0 0] 85)).alloc (.cells #[.int .i64 ((i - r0) % p), .int .i64 r6] 82)).drew) (by (repeat (first | assumption | with_reducible exact Bl.refl _ | with_reducible refine Bl.drewN ?_ _ | with_reducible refine Bl.drew ?_ | with_reducible refine Bl.alloc ?_ _ | (with_reducible refine Bl.call ?_ (by assumption)))))
  have F := md_bd (i - r0) hp.1
  have hW : Bl w ((w.alloc (.cells #[.int .i64 p, .int .i64 0, .int .i64 0, .int .i64 0, .int .i64 0, .slice (some ⟨ad.block, ad.off + 1, none⟩) 5 (c - 1), .slice none 0 0] 85)).alloc (.cells #[.int .i64 ((i - r0) % p), .int .i64 r6] 82)).drew := (by (repeat (first | assumption | with_reducible exact Bl.refl _ | with_reducible refine Bl.drewN ?_ _ | with_reducible refine Bl.drew ?_ | with_reducible refine Bl.alloc ?_ _ | (with_reducible refine Bl.call ?_ (by assumption)))))
  go_wp2_with fail
  refine (parts0 _ _ _ _ _ _ _ _ _ _ _ _ _ _ _ _ _ _ (h0.keep (by (repeat (first | assumption | with_reducible exact Bl.refl _ | with_reducible refine Bl.drewN ?_ _ | with_reducible refine Bl.drew ?_ | with_reducible refine Bl.alloc ?_ _ | (with_reducible refine Bl.call ?_ (by assumption)))))) hp b1 b2 b3 b4 F b6).mono ?_
  rintro r w1 ⟨rfl, hb1⟩
  replace hX := hX.keep hb1
  replace hW := hW.call hb1
  clear hb1
  have k0 := hX.cell 0 _ rfl
  have k1 := hX.cell 1 _ rfl
  have k2 := hX.cell 2 _ rfl
  have k3 := hX.cell 3 _ rfl
  have k4 := hX.cell 4 _ rfl
  have k5 := hX.cell 5 _ rfl
  have k6 := hX.cell 6 _ rfl
  have G7 := hW.cells g7
  have G8 := hW.cells g8
  have hR : smR p 0 i o r0 r1 r2 r3 r4 r5 r6 r7 r8 = [i, r0, r1, r2, r3, r4, r5, r6, r7, r8, (o - shrZ p 0 r3 r4 r5 ((prtD p 0 r1 r3 ((i - r0) % p) + r7) % p) ((prtD p 0 r2 r4 r6 + r8) % p)) % p] := by simp [smR, smZ]
  have U := prtD_bd (q := 0) (a := r1) (c := r3) (f := ((i - r0) % p)) hp.1
  have V := prtD_bd (q := 0) (a := r2) (c := r4) (f := r6) hp.1
  generalize prtD p 0 r1 r3 ((i - r0) % p) = u at hR U ⊢
  generalize prtD p 0 r2 r4 r6 = v at hR V ⊢
  have HR := Lib.hid hR
  clear hR g0 g6 g7 g8
  have hs1 : IntKind.i64.wrap (u + r7) = u + r7 := IntWalk.i64_in _ (by omega)
  have hs2 : IntKind.i64.wrap (v + r8) = v + r8 := IntWalk.i64_in _ (by omega)
  have M1 := md_bd (u + r7) hp.1
  have M2 := md_bd (v + r8) hp.1
  have Z := md_bd (r5 + (u + r7) % p * r4 + (v + r8) % p * r3 + (if (0 : Int) = 0 then (u + r7) % p * ((v + r8) % p) else 0)) hp.1
  replace Z : 0 ≤ shrZ p 0 r3 r4 r5 ((u + r7) % p) ((v + r8) % p) ∧ shrZ p 0 r3 r4 r5 ((u + r7) % p) ((v + r8) % p) < p := Z
  have hs3 : IntKind.i64.wrap (o - shrZ p 0 r3 r4 r5 ((u + r7) % p) ((v + r8) % p)) = o - shrZ p 0 r3 r4 r5 ((u + r7) % p) ((v + r8) % p) := IntWalk.i64_in _ (by omega)
  go_upto_region 6 with fail
  go_cut [15] (fun s15 wx => s15 = .int .i64 ((o - shrZ p 0 r3 r4 r5 ((u + r7) % p) ((v + r8) % p)) % p) ∧ Bl w wx)
  case first =>
    refine wp_region_held_drew (S := (fun w' => w'.cell? ⟨w.heap.size, 0, none⟩ = some (.int .i64 p) ∧ w'.cell? ⟨w.heap.size, 1, none⟩ = some (.int .i64 0) ∧ w'.cell? ⟨w.heap.size, 2, none⟩ = some (.int .i64 0) ∧ w'.cell? ⟨w.heap.size, 3, none⟩ = some (.int .i64 0) ∧ w'.cell? ⟨w.heap.size, 4, none⟩ = some (.int .i64 0) ∧ w'.cell? ⟨w.heap.size, 5, none⟩ = some (.slice (some ⟨ad.block, ad.off + 1, none⟩) 5 (c - 1)) ∧ w'.cell? ⟨w.heap.size, 6, none⟩ = some (.slice none 0 0) ∧ w'.cell? ⟨ad.block, ad.off + 7, none⟩ = some (.int .i64 r7) ∧ w'.cell? ⟨ad.block, ad.off + 8, none⟩ = some (.int .i64 r8))) (by kernel_rfl) ?_ (fun hHeld => ?_)
    · (try dsimp only); exact ⟨Bl.cells (by (repeat (first | assumption | with_reducible exact Bl.refl _ | with_reducible refine Bl.drewN ?_ _ | with_reducible refine Bl.drew ?_ | with_reducible refine Bl.alloc ?_ _ | (with_reducible refine Bl.call ?_ (by assumption))))) k0, Bl.cells (by (repeat (first | assumption | with_reducible exact Bl.refl _ | with_reducible refine Bl.drewN ?_ _ | with_reducible refine Bl.drew ?_ | with_reducible refine Bl.alloc ?_ _ | (with_reducible refine Bl.call ?_ (by assumption))))) k1, Bl.cells (by (repeat (first | assumption | with_reducible exact Bl.refl _ | with_reducible refine Bl.drewN ?_ _ | with_reducible refine Bl.drew ?_ | with_reducible refine Bl.alloc ?_ _ | (with_reducible refine Bl.call ?_ (by assumption))))) k2, Bl.cells (by (repeat (first | assumption | with_reducible exact Bl.refl _ | with_reducible refine Bl.drewN ?_ _ | with_reducible refine Bl.drew ?_ | with_reducible refine Bl.alloc ?_ _ | (with_reducible refine Bl.call ?_ (by assumption))))) k3, Bl.cells (by (repeat (first | assumption | with_reducible exact Bl.refl _ | with_reducible refine Bl.drewN ?_ _ | with_reducible refine Bl.drew ?_ | with_reducible refine Bl.alloc ?_ _ | (with_reducible refine Bl.call ?_ (by assumption))))) k4, Bl.cells (by (repeat (first | assumption | with_reducible exact Bl.refl _ | with_reducible refine Bl.drewN ?_ _ | with_reducible refine Bl.drew ?_ | with_reducible refine Bl.alloc ?_ _ | (with_reducible refine Bl.call ?_ (by assumption))))) k5, Bl.cells (by (repeat (first | assumption | with_reducible exact Bl.refl _ | with_reducible refine Bl.drewN ?_ _ | with_reducible refine Bl.drew ?_ | with_reducible refine Bl.alloc ?_ _ | (with_reducible refine Bl.call ?_ (by assumption))))) k6, Bl.cells (by (repeat (first | assumption | with_reducible exact Bl.refl _ | with_reducible refine Bl.drewN ?_ _ | with_reducible refine Bl.drew ?_ | with_reducible refine Bl.alloc ?_ _ | (with_reducible refine Bl.call ?_ (by assumption))))) G7, Bl.cells (by (repeat (first | assumption | with_reducible exact Bl.refl _ | with_reducible refine Bl.drewN ?_ _ | with_reducible refine Bl.drew ?_ | with_reducible refine Bl.alloc ?_ _ | (with_reducible refine Bl.call ?_ (by assumption))))) G8⟩
    refine held_take (i := 0) (d := 49) (v := ?_) rfl rfl (by kernel_rfl) (by kernel_rfl) (by kernel_rfl) (fun _ _ _ h => h) (Or.inl ⟨by rfl, ?_⟩) (by assumption) ?_
    rotate_left
    · (intro w hSw; (try dsimp only at hSw); go_simp; (try with_reducible rfl))
    (try simp only [List.set_cons_zero, List.set_cons_succ])
    refine held_take (i := 1) (d := 50) (v := ?_) rfl rfl (by kernel_rfl) (by kernel_rfl) (by kernel_rfl) (fun _ _ _ h => h) (Or.inl ⟨by rfl, ?_⟩) (by assumption) ?_
    rotate_left
    · (intro w hSw; (try dsimp only at hSw); go_simp; (try with_reducible rfl))
    (try simp only [List.set_cons_zero, List.set_cons_succ])
    refine held_take (i := 2) (d := 51) (v := ?_) rfl rfl (by kernel_rfl) (by kernel_rfl) (by kernel_rfl) (fun _ _ _ h => h) (Or.inl ⟨by rfl, ?_⟩) (by assumption) ?_
    rotate_left
    · (intro w hSw; (try dsimp only at hSw); go_simp; (try with_reducible rfl))
    (try simp only [List.set_cons_zero, List.set_cons_succ])
    refine held_take (i := 3) (d := 52) (v := ?_) rfl rfl (by kernel_rfl) (by kernel_rfl) (by kernel_rfl) (fun _ _ _ h => h) (Or.inl ⟨by rfl, ?_⟩) (by assumption) ?_
    rotate_left
    · (intro w hSw; (try dsimp only at hSw); go_simp; (try with_reducible rfl))
    (try simp only [List.set_cons_zero, List.set_cons_succ])
    refine held_take (i := 4) (d := 53) (v := ?_) rfl rfl (by kernel_rfl) (by kernel_rfl) (by kernel_rfl) (fun _ _ _ h => h) (Or.inl ⟨by rfl, ?_⟩) (by assumption) ?_
    rotate_left
    · (intro w hSw; (try dsimp only at hSw); go_simp; (try with_reducible rfl))
    (try simp only [List.set_cons_zero, List.set_cons_succ])
    refine held_take (i := 5) (d := 54) (v := ?_) rfl rfl (by kernel_rfl) (by kernel_rfl) (by kernel_rfl) (fun _ _ _ h => h) (Or.inl ⟨by rfl, ?_⟩) (by assumption) ?_
    rotate_left
    · (intro w hSw; (try dsimp only at hSw); go_simp; (try with_reducible rfl))
    (try simp only [List.set_cons_zero, List.set_cons_succ])
    refine held_take (i := 6) (d := 55) (v := ?_) rfl rfl (by kernel_rfl) (by kernel_rfl) (by kernel_rfl) (fun _ _ _ h => h) (Or.inl ⟨by rfl, ?_⟩) (by assumption) ?_
    rotate_left
    · (intro w hSw; (try dsimp only at hSw); go_simp; (try with_reducible rfl))
    (try simp only [List.set_cons_zero, List.set_cons_succ])
    refine held_take (i := 7) (d := 56) (v := ?_) rfl rfl (by kernel_rfl) (by kernel_rfl) (by kernel_rfl) (fun _ _ _ h => h) (Or.inl ⟨by rfl, ?_⟩) (by assumption) ?_
    rotate_left
    · (intro w hSw; (try dsimp only at hSw); go_simp; (try with_reducible rfl))
    (try simp only [List.set_cons_zero, List.set_cons_succ])
    refine held_take (i := 8) (d := 57) (v := ?_) rfl rfl (by kernel_rfl) (by kernel_rfl) (by kernel_rfl) (fun _ _ _ h => h) (Or.inl ⟨by rfl, ?_⟩) (by assumption) ?_
    rotate_left
    · (intro w hSw; (try dsimp only at hSw); go_simp; (try with_reducible rfl))
    (try simp only [List.set_cons_zero, List.set_cons_succ])
    refine held_take (i := 9) (d := 58) (v := ?_) rfl rfl (by kernel_rfl) (by kernel_rfl) (by kernel_rfl) (fun _ _ _ h => h) (Or.inl ⟨by rfl, ?_⟩) (by assumption) ?_
    rotate_left
    · (intro w hSw; (try dsimp only at hSw); go_simp; (try with_reducible rfl))
    (try simp only [List.set_cons_zero, List.set_cons_succ])
    refine held_take (i := 11) (d := 60) (v := ?_) rfl rfl (by kernel_rfl) (by kernel_rfl) (by kernel_rfl) (fun _ _ _ h => h) (Or.inl ⟨by rfl, ?_⟩) (by assumption) ?_
    rotate_left
    · (intro w hSw; (try dsimp only at hSw); go_simp; (try with_reducible rfl))
    (try simp only [List.set_cons_zero, List.set_cons_succ])
    refine held_take (i := 12) (d := 61) (v := ?_) rfl rfl (by kernel_rfl) (by kernel_rfl) (by kernel_rfl) (fun _ _ _ h => h) (Or.inl ⟨by rfl, ?_⟩) (by assumption) ?_
    rotate_left
    · (intro w hSw; (try dsimp only at hSw); go_simp; (try with_reducible rfl))
    (try simp only [List.set_cons_zero, List.set_cons_succ])
    refine held_take (i := 13) (d := 62) (v := ?_) rfl rfl (by kernel_rfl) (by kernel_rfl) (by kernel_rfl) (fun _ _ _ h => h) (Or.inl ⟨by rfl, ?_⟩) (by assumption) ?_
    rotate_left
    · (intro w hSw; (try dsimp only at hSw); go_simp; (try with_reducible rfl))
    (try simp only [List.set_cons_zero, List.set_cons_succ])
    refine held_take (i := 14) (d := 63) (v := ?_) rfl rfl (by kernel_rfl) (by kernel_rfl) (by kernel_rfl) (fun _ _ _ h => h) (Or.inl ⟨by rfl, ?_⟩) (by assumption) ?_
    rotate_left
    · (intro w hSw; (try dsimp only at hSw); go_simp; (try with_reducible rfl))
    (try simp only [List.set_cons_zero, List.set_cons_succ])
    refine held_take (i := 15) (d := 64) (v := ?_) rfl rfl (by kernel_rfl) (by kernel_rfl) (by kernel_rfl) (fun _ _ _ h => h) (Or.inl ⟨by rfl, ?_⟩) (by assumption) ?_
    rotate_left
    · (intro w hSw; (try dsimp only at hSw); go_simp; (try with_reducible rfl))
    (try simp only [List.set_cons_zero, List.set_cons_succ])
    refine held_take (i := 16) (d := 65) (v := ?_) rfl rfl (by kernel_rfl) (by kernel_rfl) (by kernel_rfl) (fun _ _ _ h => h) (Or.inl ⟨by rfl, ?_⟩) (by assumption) ?_
    rotate_left
    · (intro w hSw; (try dsimp only at hSw); go_simp; (try with_reducible rfl))
    (try simp only [List.set_cons_zero, List.set_cons_succ])
    refine wpAnyH_ready (rs := [10]) (by kernel_rfl) (by simp) ?_
    refine AllReadyH.cons rfl (fun K hK => ?_) AllReadyH.nil
    go_simp
    (refine (impl_mod _ _ _ (by omega) (by omega) (by omega) (by omega)).mono ?_; rintro e w' ⟨rfl, rfl⟩)
    go_wp2_with fail
    refine hK.out _ _ ?_ (fun hHeld => ?_)
    · (try dsimp only); exact ⟨Bl.cells (by (repeat (first | assumption | with_reducible exact Bl.refl _ | with_reducible refine Bl.drewN ?_ _ | with_reducible refine Bl.drew ?_ | with_reducible refine Bl.alloc ?_ _ | (with_reducible refine Bl.call ?_ (by assumption))))) k0, Bl.cells (by (repeat (first | assumption | with_reducible exact Bl.refl _ | with_reducible refine Bl.drewN ?_ _ | with_reducible refine Bl.drew ?_ | with_reducible refine Bl.alloc ?_ _ | (with_reducible refine Bl.call ?_ (by assumption))))) k1, Bl.cells (by (repeat (first | assumption | with_reducible exact Bl.refl _ | with_reducible refine Bl.drewN ?_ _ | with_reducible refine Bl.drew ?_ | with_reducible refine Bl.alloc ?_ _ | (with_reducible refine Bl.call ?_ (by assumption))))) k2, Bl.cells (by (repeat (first | assumption | with_reducible exact Bl.refl _ | with_reducible refine Bl.drewN ?_ _ | with_reducible refine Bl.drew ?_ | with_reducible refine Bl.alloc ?_ _ | (with_reducible refine Bl.call ?_ (by assumption))))) k3, Bl.cells (by (repeat (first | assumption | with_reducible exact Bl.refl _ | with_reducible refine Bl.drewN ?_ _ | with_reducible refine Bl.drew ?_ | with_reducible refine Bl.alloc ?_ _ | (with_reducible refine Bl.call ?_ (by assumption))))) k4, Bl.cells (by (repeat (first | assumption | with_reducible exact Bl.refl _ | with_reducible refine Bl.drewN ?_ _ | with_reducible refine Bl.drew ?_ | with_reducible refine Bl.alloc ?_ _ | (with_reducible refine Bl.call ?_ (by assumption))))) k5, Bl.cells (by (repeat (first | assumption | with_reducible exact Bl.refl _ | with_reducible refine Bl.drewN ?_ _ | with_reducible refine Bl.drew ?_ | with_reducible refine Bl.alloc ?_ _ | (with_reducible refine Bl.call ?_ (by assumption))))) k6, Bl.cells (by (repeat (first | assumption | with_reducible exact Bl.refl _ | with_reducible refine Bl.drewN ?_ _ | with_reducible refine Bl.drew ?_ | with_reducible refine Bl.alloc ?_ _ | (with_reducible refine Bl.call ?_ (by assumption))))) G7, Bl.cells (by (repeat (first | assumption | with_reducible exact Bl.refl _ | with_reducible refine Bl.drewN ?_ _ | with_reducible refine Bl.drew ?_ | with_reducible refine Bl.alloc ?_ _ | (with_reducible refine Bl.call ?_ (by assumption))))) G8⟩
    clear hK K
    (try simp only [Act.put]); (try simp only [List.setIfInBounds_toArray]); (try simp only [List.set_cons_succ]); (try simp only [List.set_cons_zero])
    refine wpAnyH_ready (rs := [17]) (by kernel_rfl) (by simp) ?_
    refine AllReadyH.cons rfl (fun K hK => ?_) AllReadyH.nil
    go_simp
    (refine (impl_mod _ _ _ (by omega) (by omega) (by omega) (by omega)).mono ?_; rintro e w' ⟨rfl, rfl⟩)
    go_wp2_with fail
    refine hK.out _ _ ?_ (fun hHeld => ?_)
    · (try dsimp only); exact ⟨Bl.cells (by (repeat (first | assumption | with_reducible exact Bl.refl _ | with_reducible refine Bl.drewN ?_ _ | with_reducible refine Bl.drew ?_ | with_reducible refine Bl.alloc ?_ _ | (with_reducible refine Bl.call ?_ (by assumption))))) k0, Bl.cells (by (repeat (first | assumption | with_reducible exact Bl.refl _ | with_reducible refine Bl.drewN ?_ _ | with_reducible refine Bl.drew ?_ | with_reducible refine Bl.alloc ?_ _ | (with_reducible refine Bl.call ?_ (by assumption))))) k1, Bl.cells (by (repeat (first | assumption | with_reducible exact Bl.refl _ | with_reducible refine Bl.drewN ?_ _ | with_reducible refine Bl.drew ?_ | with_reducible refine Bl.alloc ?_ _ | (with_reducible refine Bl.call ?_ (by assumption))))) k2, Bl.cells (by (repeat (first | assumption | with_reducible exact Bl.refl _ | with_reducible refine Bl.drewN ?_ _ | with_reducible refine Bl.drew ?_ | with_reducible refine Bl.alloc ?_ _ | (with_reducible refine Bl.call ?_ (by assumption))))) k3, Bl.cells (by (repeat (first | assumption | with_reducible exact Bl.refl _ | with_reducible refine Bl.drewN ?_ _ | with_reducible refine Bl.drew ?_ | with_reducible refine Bl.alloc ?_ _ | (with_reducible refine Bl.call ?_ (by assumption))))) k4, Bl.cells (by (repeat (first | assumption | with_reducible exact Bl.refl _ | with_reducible refine Bl.drewN ?_ _ | with_reducible refine Bl.drew ?_ | with_reducible refine Bl.alloc ?_ _ | (with_reducible refine Bl.call ?_ (by assumption))))) k5, Bl.cells (by (repeat (first | assumption | with_reducible exact Bl.refl _ | with_reducible refine Bl.drewN ?_ _ | with_reducible refine Bl.drew ?_ | with_reducible refine Bl.alloc ?_ _ | (with_reducible refine Bl.call ?_ (by assumption))))) k6, Bl.cells (by (repeat (first | assumption | with_reducible exact Bl.refl _ | with_reducible refine Bl.drewN ?_ _ | with_reducible refine Bl.drew ?_ | with_reducible refine Bl.alloc ?_ _ | (with_reducible refine Bl.call ?_ (by assumption))))) G7, Bl.cells (by (repeat (first | assumption | with_reducible exact Bl.refl _ | with_reducible refine Bl.drewN ?_ _ | with_reducible refine Bl.drew ?_ | with_reducible refine Bl.alloc ?_ _ | (with_reducible refine Bl.call ?_ (by assumption))))) G8⟩
    clear hK K
    (try simp only [Act.put]); (try simp only [List.setIfInBounds_toArray]); (try simp only [List.set_cons_succ]); (try simp only [List.set_cons_zero])
    refine wpAnyH_ready (rs := [18]) (by kernel_rfl) (by simp) ?_
    refine AllReadyH.cons rfl (fun K hK => ?_) AllReadyH.nil
    go_simp
    (refine (share0 _ _ _ _ _ _ _ _ _ _ _ _ _ _ _ _ _ _ (h0.keep (by (repeat (first | assumption | with_reducible exact Bl.refl _ | with_reducible refine Bl.drewN ?_ _ | with_reducible refine Bl.drew ?_ | with_reducible refine Bl.alloc ?_ _ | (with_reducible refine Bl.call ?_ (by assumption)))))) hp b5 b3 b4 M1 M2).mono ?_; rintro e w7 ⟨rfl, hb7⟩)
    go_wp2_with fail
    refine hK.out _ _ ?_ (fun hHeld => ?_)
    · (try dsimp only); exact ⟨Bl.cells (by (repeat (first | assumption | with_reducible exact Bl.refl _ | with_reducible refine Bl.drewN ?_ _ | with_reducible refine Bl.drew ?_ | with_reducible refine Bl.alloc ?_ _ | (with_reducible refine Bl.call ?_ (by assumption))))) k0, Bl.cells (by (repeat (first | assumption | with_reducible exact Bl.refl _ | with_reducible refine Bl.drewN ?_ _ | with_reducible refine Bl.drew ?_ | with_reducible refine Bl.alloc ?_ _ | (with_reducible refine Bl.call ?_ (by assumption))))) k1, Bl.cells (by (repeat (first | assumption | with_reducible exact Bl.refl _ | with_reducible refine Bl.drewN ?_ _ | with_reducible refine Bl.drew ?_ | with_reducible refine Bl.alloc ?_ _ | (with_reducible refine Bl.call ?_ (by assumption))))) k2, Bl.cells (by (repeat (first | assumption | with_reducible exact Bl.refl _ | with_reducible refine Bl.drewN ?_ _ | with_reducible refine Bl.drew ?_ | with_reducible refine Bl.alloc ?_ _ | (with_reducible refine Bl.call ?_ (by assumption))))) k3, Bl.cells (by (repeat (first | assumption | with_reducible exact Bl.refl _ | with_reducible refine Bl.drewN ?_ _ | with_reducible refine Bl.drew ?_ | with_reducible refine Bl.alloc ?_ _ | (with_reducible refine Bl.call ?_ (by assumption))))) k4, Bl.cells (by (repeat (first | assumption | with_reducible exact Bl.refl _ | with_reducible refine Bl.drewN ?_ _ | with_reducible refine Bl.drew ?_ | with_reducible refine Bl.alloc ?_ _ | (with_reducible refine Bl.call ?_ (by assumption))))) k5, Bl.cells (by (repeat (first | assumption | with_reducible exact Bl.refl _ | with_reducible refine Bl.drewN ?_ _ | with_reducible refine Bl.drew ?_ | with_reducible refine Bl.alloc ?_ _ | (with_reducible refine Bl.call ?_ (by assumption))))) k6, Bl.cells (by (repeat (first | assumption | with_reducible exact Bl.refl _ | with_reducible refine Bl.drewN ?_ _ | with_reducible refine Bl.drew ?_ | with_reducible refine Bl.alloc ?_ _ | (with_reducible refine Bl.call ?_ (by assumption))))) G7, Bl.cells (by (repeat (first | assumption | with_reducible exact Bl.refl _ | with_reducible refine Bl.drewN ?_ _ | with_reducible refine Bl.drew ?_ | with_reducible refine Bl.alloc ?_ _ | (with_reducible refine Bl.call ?_ (by assumption))))) G8⟩
    clear hK K
    (try simp only [Act.put]); (try simp only [List.setIfInBounds_toArray]); (try simp only [List.set_cons_succ]); (try simp only [List.set_cons_zero])
    refine held_take (i := 19) (d := 68) (v := ?_) rfl rfl (by kernel_rfl) (by kernel_rfl) (by kernel_rfl) (fun _ _ _ h => h) (Or.inl ⟨by rfl, ?_⟩) (by assumption) ?_
    rotate_left
    · (intro w hSw; (try dsimp only at hSw); go_simp; (try with_reducible rfl))
    (try simp only [List.set_cons_zero, List.set_cons_succ])
    refine wpAnyH_ready (rs := [20]) (by kernel_rfl) (by simp) ?_
    refine AllReadyH.cons rfl (fun K hK => ?_) AllReadyH.nil
    go_simp
    (refine (impl_mod _ _ _ (by omega) (by omega) (by omega) (by omega)).mono ?_; rintro e w' ⟨rfl, rfl⟩)
    go_wp2_with fail
    refine hK.out _ _ ?_ (fun hHeld => ?_)
    · (try dsimp only); exact ⟨Bl.cells (by (repeat (first | assumption | with_reducible exact Bl.refl _ | with_reducible refine Bl.drewN ?_ _ | with_reducible refine Bl.drew ?_ | with_reducible refine Bl.alloc ?_ _ | (with_reducible refine Bl.call ?_ (by assumption))))) k0, Bl.cells (by (repeat (first | assumption | with_reducible exact Bl.refl _ | with_reducible refine Bl.drewN ?_ _ | with_reducible refine Bl.drew ?_ | with_reducible refine Bl.alloc ?_ _ | (with_reducible refine Bl.call ?_ (by assumption))))) k1, Bl.cells (by (repeat (first | assumption | with_reducible exact Bl.refl _ | with_reducible refine Bl.drewN ?_ _ | with_reducible refine Bl.drew ?_ | with_reducible refine Bl.alloc ?_ _ | (with_reducible refine Bl.call ?_ (by assumption))))) k2, Bl.cells (by (repeat (first | assumption | with_reducible exact Bl.refl _ | with_reducible refine Bl.drewN ?_ _ | with_reducible refine Bl.drew ?_ | with_reducible refine Bl.alloc ?_ _ | (with_reducible refine Bl.call ?_ (by assumption))))) k3, Bl.cells (by (repeat (first | assumption | with_reducible exact Bl.refl _ | with_reducible refine Bl.drewN ?_ _ | with_reducible refine Bl.drew ?_ | with_reducible refine Bl.alloc ?_ _ | (with_reducible refine Bl.call ?_ (by assumption))))) k4, Bl.cells (by (repeat (first | assumption | with_reducible exact Bl.refl _ | with_reducible refine Bl.drewN ?_ _ | with_reducible refine Bl.drew ?_ | with_reducible refine Bl.alloc ?_ _ | (with_reducible refine Bl.call ?_ (by assumption))))) k5, Bl.cells (by (repeat (first | assumption | with_reducible exact Bl.refl _ | with_reducible refine Bl.drewN ?_ _ | with_reducible refine Bl.drew ?_ | with_reducible refine Bl.alloc ?_ _ | (with_reducible refine Bl.call ?_ (by assumption))))) k6, Bl.cells (by (repeat (first | assumption | with_reducible exact Bl.refl _ | with_reducible refine Bl.drewN ?_ _ | with_reducible refine Bl.drew ?_ | with_reducible refine Bl.alloc ?_ _ | (with_reducible refine Bl.call ?_ (by assumption))))) G7, Bl.cells (by (repeat (first | assumption | with_reducible exact Bl.refl _ | with_reducible refine Bl.drewN ?_ _ | with_reducible refine Bl.drew ?_ | with_reducible refine Bl.alloc ?_ _ | (with_reducible refine Bl.call ?_ (by assumption))))) G8⟩
    clear hK K
    (try simp only [Act.put]); (try simp only [List.setIfInBounds_toArray]); (try simp only [List.set_cons_succ]); (try simp only [List.set_cons_zero])
    refine held_take (i := 21) (d := 15) (v := ?_) rfl rfl (by kernel_rfl) (by kernel_rfl) (by kernel_rfl) (fun _ _ _ h => h) (Or.inl ⟨by rfl, ?_⟩) (by assumption) ?_
    rotate_left
    · (intro w hSw; (try dsimp only at hSw); go_simp; (try with_reducible rfl))
    (try simp only [List.set_cons_zero, List.set_cons_succ])
    refine wpAnyH_done (by kernel_rfl) ?_ _
    go_wp2_with fail
    go_meet
    exact ⟨rfl, (by (repeat (first | assumption | with_reducible exact Bl.refl _ | with_reducible refine Bl.drewN ?_ _ | with_reducible refine Bl.drew ?_ | with_reducible refine Bl.alloc ?_ _ | (with_reducible refine Bl.call ?_ (by assumption)))))⟩
  case rest =>
    obtain ⟨rfl, hWx⟩ := hcut
    generalize (o - shrZ p 0 r3 r4 r5 ((u + r7) % p) ((v + r8) % p)) % p = z at HR ⊢
    have hlx := hl.keep hWx
    go_wp2_with (first
      | (go_at_call 142; refine (with_ints _ _ 1 _ 9 _ [i] [r0, r1, r2, r3, r4, r5, r6, r7, r8] _ (rd_new1 _ 3 _) (hlx.keep (by (repeat (first | assumption | with_reducible exact Bl.refl _ | with_reducible refine Bl.drewN ?_ _ | with_reducible refine Bl.drew ?_ | with_reducible refine Bl.alloc ?_ _ | (with_reducible refine Bl.call ?_ (by assumption)))))) (by omega) (by omega)).mono ?_; rintro r w8 ⟨A8, c8, rfl, ho8, hb8⟩)
      | (at_builtin; refine ap_int rfl rfl rfl (ho8.keep (by (repeat (first | assumption | with_reducible exact Bl.refl _ | with_reducible refine Bl.drewN ?_ _ | with_reducible refine Bl.drew ?_ | with_reducible refine Bl.alloc ?_ _ | (with_reducible refine Bl.call ?_ (by assumption)))))) rfl (rd_new1 _ 3 _) (by omega) (by have := hb8.sz; simp at *; omega) ?_; intro A9 c9 w9 ho9 hg9 hat9))
    go_ret
    exact ⟨A9, c9, rfl, by rw [HR.out]; exact OwnI.mono ho9 (Bl.sz (by (repeat (first | assumption | with_reducible exact Bl.refl _ | with_reducible refine Bl.drewN ?_ _ | with_reducible refine Bl.drew ?_ | with_reducible refine Bl.alloc ?_ _ | (with_reducible refine Bl.call ?_ (by assumption)))))), Bl.grown (by (repeat (first | assumption | with_reducible exact Bl.refl _ | with_reducible refine Bl.drewN ?_ _ | with_reducible refine Bl.drew ?_ | with_reducible refine Bl.alloc ?_ _ | (with_reducible refine Bl.call ?_ (by assumption))))) hg9 (fun k hk => Nat.le_trans (Bl.sz (W := w) (by (repeat (first | assumption | with_reducible exact Bl.refl _ | with_reducible refine Bl.drewN ?_ _ | with_reducible refine Bl.drew ?_ | with_reducible refine Bl.alloc ?_ _ | (with_reducible refine Bl.call ?_ (by assumption)))))) (ho8.blk k hk).1)⟩
set_option maxRecDepth 20000 in
set_option maxHeartbeats 4000000 in
theorem simView1 (p i o r0 r1 r2 r3 r4 r5 r6 r7 r8 : Int) (A : Option Addr) (c : Nat) (w : World) (hl : RdI w A 9 c [r0, r1, r2, r3, r4, r5, r6, r7, r8]) (hp : 2 ≤ p ∧ p ≤ 251)
    (hi : 0 ≤ i ∧ i < p) (ho : 0 ≤ o ∧ o < p) (hall : ∀ z ∈ [r0, r1, r2, r3, r4, r5, r6, r7, r8], 0 ≤ z ∧ z < p) :
    Calls Try.prog 126 #[.int .i64 p, .int .i64 1, .int .i64 i, .int .i64 o, .slice A 9 c] w
      fun r w' => ∃ A2 c2, r = .returned (.slice A2 11 c2) ∧ OwnI w.heap.size w' A2 11 c2 (smR p 1 i o r0 r1 r2 r3 r4 r5 r6 r7 r8) ∧ Bl w w' := by
  obtain ⟨hle1, hle2⟩ := hl.le
  obtain ⟨ad, rfl, had, q0, qs⟩ := hl.lit (by omega)
  have g0 := q0 _ rfl
  have g6 := qs 6 _ (by omega) rfl
  have g7 := qs 7 _ (by omega) rfl
  have g8 := qs 8 _ (by omega) rfl
  clear qs q0
  have b0 := hall r0 (by simp)
  have b1 := hall r1 (by simp)
  have b2 := hall r2 (by simp)
  have b3 := hall r3 (by simp)
  have b4 := hall r4 (by simp)
  have b5 := hall r5 (by simp)
  have b6 := hall r6 (by simp)
  have b7 := hall r7 (by simp)
  have b8 := hall r8 (by simp)
  clear hall
  have i1 : (9 : Int) ≤ c := by omega
  have hwr0 : IntKind.i64.wrap 0 = 0 := rfl
  have hwr1 : IntKind.i64.wrap 1 = 1 := rfl
  have hir : IntKind.i64.wrap (i - r0) = i - r0 := IntWalk.i64_in _ (by omega)
  have h0 : RdI w (some ⟨ad.block, ad.off + 1, none⟩) 5 (c - 1) [r1, r2, r3, r4, r5] := hl.mid 5 (by omega) (by omega) (by omega)
  go_enter Try.func126, Try.ntmps126
  go_wp2_with fail
  refine wp_region_held_drew (S := (fun w' => w'.cell? ad = some (.int .i64 r0) ∧ w'.cell? ⟨ad.block, ad.off + 6, none⟩ = some (.int .i64 r6))) (by kernel_rfl) ?_ (fun hHeld => ?_)
  · (try dsimp only); first | exact ⟨g0, g6⟩ | go_keep
  refine held_take (i := 0) (d := 24) (v := ?_) rfl rfl (by kernel_rfl) (by kernel_rfl) (by kernel_rfl) (fun _ _ _ h => h) (Or.inl ⟨by rfl, ?_⟩) (by assumption) ?_
  rotate_left
  · (intro w hSw; (try dsimp only at hSw); go_simp; (try with_reducible rfl))
  (try simp only [List.set_cons_zero, List.set_cons_succ])
  refine held_take (i := 1) (d := 25) (v := ?_) rfl rfl (by kernel_rfl) (by kernel_rfl) (by kernel_rfl) (fun _ _ _ h => h) (Or.inl ⟨by rfl, ?_⟩) (by assumption) ?_
  rotate_left
  · (intro w hSw; (try dsimp only at hSw); go_simp; (try with_reducible rfl))
  (try simp only [List.set_cons_zero, List.set_cons_succ])
  refine held_take (i := 2) (d := 26) (v := ?_) rfl rfl (by kernel_rfl) (by kernel_rfl) (by kernel_rfl) (fun _ _ _ h => h) (Or.inl ⟨by rfl, ?_⟩) (by assumption) ?_
  rotate_left
  · (intro w hSw; (try dsimp only at hSw); go_simp; (try with_reducible rfl))
  (try simp only [List.set_cons_zero, List.set_cons_succ])
  refine held_take (i := 3) (d := 27) (v := ?_) rfl rfl (by kernel_rfl) (by kernel_rfl) (by kernel_rfl) (fun _ _ _ h => h) (Or.inl ⟨by rfl, ?_⟩) (by assumption) ?_
  rotate_left
  · (intro w hSw; (try dsimp only at hSw); go_simp; (try with_reducible rfl))
  (try simp only [List.set_cons_zero, List.set_cons_succ])
  refine held_take (i := 4) (d := 28) (v := ?_) rfl rfl (by kernel_rfl) (by kernel_rfl) (by kernel_rfl) (fun _ _ _ h => h) (Or.inl ⟨by rfl, ?_⟩) (by assumption) ?_
  rotate_left
  · (intro w hSw; (try dsimp only at hSw); go_simp; (try with_reducible rfl))
  (try simp only [List.set_cons_zero, List.set_cons_succ])
  refine held_take (i := 5) (d := 29) (v := ?_) rfl rfl (by kernel_rfl) (by kernel_rfl) (by kernel_rfl) (fun _ _ _ h => h) (Or.inl ⟨by rfl, ?_⟩) (by assumption) ?_
  rotate_left
  · (intro w hSw; (try dsimp only at hSw); go_simp; (try with_reducible rfl))
  (try simp only [List.set_cons_zero, List.set_cons_succ])
  refine held_take (i := 6) (d := 30) (v := ?_) rfl rfl (by kernel_rfl) (by kernel_rfl) (by kernel_rfl) (fun _ _ _ h => h) (Or.inl ⟨by rfl, ?_⟩) (by assumption) ?_
  rotate_left
  · (intro w hSw; (try dsimp only at hSw); go_simp; (try with_reducible rfl))
  (try simp only [List.set_cons_zero, List.set_cons_succ])
  refine held_take (i := 7) (d := 31) (v := ?_) rfl rfl (by kernel_rfl) (by kernel_rfl) (by kernel_rfl) (fun _ _ _ h => h) (Or.inl ⟨by rfl, ?_⟩) (by assumption) ?_
  rotate_left
  · (intro w hSw; (try dsimp only at hSw); go_simp; (try with_reducible rfl))
  (try simp only [List.set_cons_zero, List.set_cons_succ])
  refine held_take (i := 8) (d := 32) (v := ?_) rfl rfl (by kernel_rfl) (by kernel_rfl) (by kernel_rfl) (fun _ _ _ h => h) (Or.inl ⟨by rfl, ?_⟩) (by assumption) ?_
  rotate_left
  · (intro w hSw; (try dsimp only at hSw); go_simp; (try with_reducible rfl))
  (try simp only [List.set_cons_zero, List.set_cons_succ])
  refine held_take (i := 10) (d := 34) (v := ?_) rfl rfl (by kernel_rfl) (by kernel_rfl) (by kernel_rfl) (fun _ _ _ h => h) (Or.inl ⟨by rfl, ?_⟩) (by assumption) ?_
  rotate_left
  · (intro w hSw; (try dsimp only at hSw); go_simp; (try with_reducible rfl))
  (try simp only [List.set_cons_zero, List.set_cons_succ])
  refine held_take (i := 11) (d := 35) (v := ?_) rfl rfl (by kernel_rfl) (by kernel_rfl) (by kernel_rfl) (fun _ _ _ h => h) (Or.inl ⟨by rfl, ?_⟩) (by assumption) ?_
  rotate_left
  · (intro w hSw; (try dsimp only at hSw); go_simp; (try with_reducible rfl))
  (try simp only [List.set_cons_zero, List.set_cons_succ])
  refine held_take (i := 12) (d := 36) (v := ?_) rfl rfl (by kernel_rfl) (by kernel_rfl) (by kernel_rfl) (fun _ _ _ h => h) (Or.inl ⟨by rfl, ?_⟩) (by assumption) ?_
  rotate_left
  · (intro w hSw; (try dsimp only at hSw); go_simp; (try with_reducible rfl))
  (try simp only [List.set_cons_zero, List.set_cons_succ])
  refine wpAnyH_ready (rs := [9]) (by kernel_rfl) (by simp) ?_
  refine AllReadyH.cons rfl (fun K hK => ?_) AllReadyH.nil
  go_simp
  (refine (impl_mod _ _ _ (by omega) (by omega) (by omega) (by omega)).mono ?_; rintro e w' ⟨rfl, rfl⟩)
  go_wp2_with fail
  refine hK.out _ _ ?_ (fun hHeld => ?_)
  · (try dsimp only); first | exact ⟨g0, g6⟩ | go_keep
  clear hK K
  (try simp only [Act.put]); (try simp only [List.setIfInBounds_toArray]); (try simp only [List.set_cons_succ]); (try simp only [List.set_cons_zero])
  refine held_take (i := 13) (d := 37) (v := ?_) rfl rfl (by kernel_rfl) (by kernel_rfl) (by kernel_rfl) (fun _ _ _ h => h) (Or.inl ⟨by rfl, ?_⟩) (by assumption) ?_
  rotate_left
  · (intro w hSw; (try dsimp only at hSw); go_simp; (try with_reducible rfl))
  (try simp only [List.set_cons_zero, List.set_cons_succ])
  refine wpAnyH_ready (rs := [14]) (by kernel_rfl) (by simp) ?_
  refine AllReadyH.cons rfl (fun K hK => ?_) AllReadyH.nil
  go_simp
  refine hK.out _ _ ?_ (fun hHeld => ?_)
  · (try dsimp only); first | exact ⟨g0, g6⟩ | go_keep
  clear hK K
  (try simp only [Act.put]); (try simp only [List.setIfInBounds_toArray]); (try simp only [List.set_cons_succ]); (try simp only [List.set_cons_zero])
  refine held_take (i := 15) (d := 38) (v := ?_) rfl rfl (by kernel_rfl) (by kernel_rfl) (by kernel_rfl) (fun _ _ _ h => h) (Or.inl ⟨by rfl, ?_⟩) (by assumption) ?_
  rotate_left
  · (intro w hSw; (try dsimp only at hSw); go_simp; (try with_reducible rfl))
  (try simp only [List.set_cons_zero, List.set_cons_succ])
  refine wpAnyH_ready (rs := [16]) (by kernel_rfl) (by simp) ?_
  refine AllReadyH.cons rfl (fun K hK => ?_) AllReadyH.nil
  go_simp
  refine hK.out _ _ ?_ (fun hHeld => ?_)
  · (try dsimp only); first | exact ⟨g0, g6⟩ | go_keep
  clear hK K
  (try simp only [Act.put]); (try simp only [List.setIfInBounds_toArray]); (try simp only [List.set_cons_succ]); (try simp only [List.set_cons_zero])
  refine wpAnyH_done (by kernel_rfl) ?_ _
  have hX := Blk.keep (Blk.new w 85 #[.int .i64 p, .int .i64 0, .int .i64 0, .int .i64 0, .int .i64 0, .slice none 0 0, .slice (some ⟨ad.block, ad.off + 1, none⟩) 5 (c - 1)]) (w' := ((w.alloc (.cells #[.int .i64 p, .int .i64 0, .int .i64 0, .int .i64 0, .int .i64 0, .slice none 0 0, .slice (some ⟨ad.block, ad.off + 1, none⟩) 5 (c - 1)] 85)).alloc (.cells #[.int .i64 r6, .int .i64 ((i - r0) % p)] 82)).drew) (by (repeat (first | assumption | with_reducible exact Bl.refl _ | with_reducible refine Bl.drewN ?_ _ | with_reducible refine Bl.drew ?_ | with_reducible refine Bl.alloc ?_ _ | (with_reducible refine Bl.call ?_ (by assumption)))))
  have F := md_bd (i - r0) hp.1
  have hW : Bl w ((w.alloc (.cells #[.int .i64 p, .int .i64 0, .int .i64 0, .int .i64 0, .int .i64 0, .slice none 0 0, .slice (some ⟨ad.block, ad.off + 1, none⟩) 5 (c - 1)] 85)).alloc (.cells #[.int .i64 r6, .int .i64 ((i - r0) % p)] 82)).drew := (by (repeat (first | assumption | with_reducible exact Bl.refl _ | with_reducible refine Bl.drewN ?_ _ | with_reducible refine Bl.drew ?_ | with_reducible refine Bl.alloc ?_ _ | (with_reducible refine Bl.call ?_ (by assumption)))))
  go_wp2_with fail
  refine (parts1 _ _ _ _ _ _ _ _ _ _ _ _ _ _ _ _ _ _ (h0.keep (by (repeat (first | assumption | with_reducible exact Bl.refl _ | with_reducible refine Bl.drewN ?_ _ | with_reducible refine Bl.drew ?_ | with_reducible refine Bl.alloc ?_ _ | (with_reducible refine Bl.call ?_ (by assumption)))))) hp b1 b2 b3 b4 b6 F).mono ?_
  rintro r w1 ⟨rfl, hb1⟩
  replace hX := hX.keep hb1
  replace hW := hW.call hb1
  clear hb1
  have k0 := hX.cell 0 _ rfl
  have k1 := hX.cell 1 _ rfl
  have k2 := hX.cell 2 _ rfl
  have k3 := hX.cell 3 _ rfl
  have k4 := hX.cell 4 _ rfl
  have k5 := hX.cell 5 _ rfl
  have k6 := hX.cell 6 _ rfl
  have G7 := hW.cells g7
  have G8 := hW.cells g8
  have hR : smR p 1 i o r0 r1 r2 r3 r4 r5 r6 r7 r8 = [i, r0, r1, r2, r3, r4, r5, r6, r7, r8, (o - shrZ p 1 r3 r4 r5 ((prtD p 1 r1 r3 r6 + r7) % p) ((prtD p 1 r2 r4 ((i - r0) % p) + r8) % p)) % p] := by simp [smR, smZ]
  have U := prtD_bd (q := 1) (a := r1) (c := r3) (f := r6) hp.1
  have V := prtD_bd (q := 1) (a := r2) (c := r4) (f := ((i - r0) % p)) hp.1
  generalize prtD p 1 r1 r3 r6 = u at hR U ⊢
  generalize prtD p 1 r2 r4 ((i - r0) % p) = v at hR V ⊢
  have HR := Lib.hid hR
  clear hR g0 g6 g7 g8
  have hs1 : IntKind.i64.wrap (u + r7) = u + r7 := IntWalk.i64_in _ (by omega)
  have hs2 : IntKind.i64.wrap (v + r8) = v + r8 := IntWalk.i64_in _ (by omega)
  have M1 := md_bd (u + r7) hp.1
  have M2 := md_bd (v + r8) hp.1
  have Z := md_bd (r5 + (u + r7) % p * r4 + (v + r8) % p * r3 + (if (1 : Int) = 0 then (u + r7) % p * ((v + r8) % p) else 0)) hp.1
  replace Z : 0 ≤ shrZ p 1 r3 r4 r5 ((u + r7) % p) ((v + r8) % p) ∧ shrZ p 1 r3 r4 r5 ((u + r7) % p) ((v + r8) % p) < p := Z
  have hs3 : IntKind.i64.wrap (o - shrZ p 1 r3 r4 r5 ((u + r7) % p) ((v + r8) % p)) = o - shrZ p 1 r3 r4 r5 ((u + r7) % p) ((v + r8) % p) := IntWalk.i64_in _ (by omega)
  go_upto_region 6 with fail
  go_cut [15] (fun s15 wx => s15 = .int .i64 ((o - shrZ p 1 r3 r4 r5 ((u + r7) % p) ((v + r8) % p)) % p) ∧ Bl w wx)
  case first =>
    refine wp_region_held_drew (S := (fun w' => w'.cell? ⟨w.heap.size, 0, none⟩ = some (.int .i64 p) ∧ w'.cell? ⟨w.heap.size, 1, none⟩ = some (.int .i64 0) ∧ w'.cell? ⟨w.heap.size, 2, none⟩ = some (.int .i64 0) ∧ w'.cell? ⟨w.heap.size, 3, none⟩ = some (.int .i64 0) ∧ w'.cell? ⟨w.heap.size, 4, none⟩ = some (.int .i64 0) ∧ w'.cell? ⟨w.heap.size, 5, none⟩ = some (.slice none 0 0) ∧ w'.cell? ⟨w.heap.size, 6, none⟩ = some (.slice (some ⟨ad.block, ad.off + 1, none⟩) 5 (c - 1)) ∧ w'.cell? ⟨ad.block, ad.off + 7, none⟩ = some (.int .i64 r7) ∧ w'.cell? ⟨ad.block, ad.off + 8, none⟩ = some (.int .i64 r8))) (by kernel_rfl) ?_ (fun hHeld => ?_)
    · (try dsimp only); exact ⟨Bl.cells (by (repeat (first | assumption | with_reducible exact Bl.refl _ | with_reducible refine Bl.drewN ?_ _ | with_reducible refine Bl.drew ?_ | with_reducible refine Bl.alloc ?_ _ | (with_reducible refine Bl.call ?_ (by assumption))))) k0, Bl.cells (by (repeat (first | assumption | with_reducible exact Bl.refl _ | with_reducible refine Bl.drewN ?_ _ | with_reducible refine Bl.drew ?_ | with_reducible refine Bl.alloc ?_ _ | (with_reducible refine Bl.call ?_ (by assumption))))) k1, Bl.cells (by (repeat (first | assumption | with_reducible exact Bl.refl _ | with_reducible refine Bl.drewN ?_ _ | with_reducible refine Bl.drew ?_ | with_reducible refine Bl.alloc ?_ _ | (with_reducible refine Bl.call ?_ (by assumption))))) k2, Bl.cells (by (repeat (first | assumption | with_reducible exact Bl.refl _ | with_reducible refine Bl.drewN ?_ _ | with_reducible refine Bl.drew ?_ | with_reducible refine Bl.alloc ?_ _ | (with_reducible refine Bl.call ?_ (by assumption))))) k3, Bl.cells (by (repeat (first | assumption | with_reducible exact Bl.refl _ | with_reducible refine Bl.drewN ?_ _ | with_reducible refine Bl.drew ?_ | with_reducible refine Bl.alloc ?_ _ | (with_reducible refine Bl.call ?_ (by assumption))))) k4, Bl.cells (by (repeat (first | assumption | with_reducible exact Bl.refl _ | with_reducible refine Bl.drewN ?_ _ | with_reducible refine Bl.drew ?_ | with_reducible refine Bl.alloc ?_ _ | (with_reducible refine Bl.call ?_ (by assumption))))) k5, Bl.cells (by (repeat (first | assumption | with_reducible exact Bl.refl _ | with_reducible refine Bl.drewN ?_ _ | with_reducible refine Bl.drew ?_ | with_reducible refine Bl.alloc ?_ _ | (with_reducible refine Bl.call ?_ (by assumption))))) k6, Bl.cells (by (repeat (first | assumption | with_reducible exact Bl.refl _ | with_reducible refine Bl.drewN ?_ _ | with_reducible refine Bl.drew ?_ | with_reducible refine Bl.alloc ?_ _ | (with_reducible refine Bl.call ?_ (by assumption))))) G7, Bl.cells (by (repeat (first | assumption | with_reducible exact Bl.refl _ | with_reducible refine Bl.drewN ?_ _ | with_reducible refine Bl.drew ?_ | with_reducible refine Bl.alloc ?_ _ | (with_reducible refine Bl.call ?_ (by assumption))))) G8⟩
    refine held_take (i := 0) (d := 49) (v := ?_) rfl rfl (by kernel_rfl) (by kernel_rfl) (by kernel_rfl) (fun _ _ _ h => h) (Or.inl ⟨by rfl, ?_⟩) (by assumption) ?_
    rotate_left
    · (intro w hSw; (try dsimp only at hSw); go_simp; (try with_reducible rfl))
    (try simp only [List.set_cons_zero, List.set_cons_succ])
    refine held_take (i := 1) (d := 50) (v := ?_) rfl rfl (by kernel_rfl) (by kernel_rfl) (by kernel_rfl) (fun _ _ _ h => h) (Or.inl ⟨by rfl, ?_⟩) (by assumption) ?_
    rotate_left
    · (intro w hSw; (try dsimp only at hSw); go_simp; (try with_reducible rfl))
    (try simp only [List.set_cons_zero, List.set_cons_succ])
    refine held_take (i := 2) (d := 51) (v := ?_) rfl rfl (by kernel_rfl) (by kernel_rfl) (by kernel_rfl) (fun _ _ _ h => h) (Or.inl ⟨by rfl, ?_⟩) (by assumption) ?_
    rotate_left
    · (intro w hSw; (try dsimp only at hSw); go_simp; (try with_reducible rfl))
    (try simp only [List.set_cons_zero, List.set_cons_succ])
    refine held_take (i := 3) (d := 52) (v := ?_) rfl rfl (by kernel_rfl) (by kernel_rfl) (by kernel_rfl) (fun _ _ _ h => h) (Or.inl ⟨by rfl, ?_⟩) (by assumption) ?_
    rotate_left
    · (intro w hSw; (try dsimp only at hSw); go_simp; (try with_reducible rfl))
    (try simp only [List.set_cons_zero, List.set_cons_succ])
    refine held_take (i := 4) (d := 53) (v := ?_) rfl rfl (by kernel_rfl) (by kernel_rfl) (by kernel_rfl) (fun _ _ _ h => h) (Or.inl ⟨by rfl, ?_⟩) (by assumption) ?_
    rotate_left
    · (intro w hSw; (try dsimp only at hSw); go_simp; (try with_reducible rfl))
    (try simp only [List.set_cons_zero, List.set_cons_succ])
    refine held_take (i := 5) (d := 54) (v := ?_) rfl rfl (by kernel_rfl) (by kernel_rfl) (by kernel_rfl) (fun _ _ _ h => h) (Or.inl ⟨by rfl, ?_⟩) (by assumption) ?_
    rotate_left
    · (intro w hSw; (try dsimp only at hSw); go_simp; (try with_reducible rfl))
    (try simp only [List.set_cons_zero, List.set_cons_succ])
    refine held_take (i := 6) (d := 55) (v := ?_) rfl rfl (by kernel_rfl) (by kernel_rfl) (by kernel_rfl) (fun _ _ _ h => h) (Or.inl ⟨by rfl, ?_⟩) (by assumption) ?_
    rotate_left
    · (intro w hSw; (try dsimp only at hSw); go_simp; (try with_reducible rfl))
    (try simp only [List.set_cons_zero, List.set_cons_succ])
    refine held_take (i := 7) (d := 56) (v := ?_) rfl rfl (by kernel_rfl) (by kernel_rfl) (by kernel_rfl) (fun _ _ _ h => h) (Or.inl ⟨by rfl, ?_⟩) (by assumption) ?_
    rotate_left
    · (intro w hSw; (try dsimp only at hSw); go_simp; (try with_reducible rfl))
    (try simp only [List.set_cons_zero, List.set_cons_succ])
    refine held_take (i := 8) (d := 57) (v := ?_) rfl rfl (by kernel_rfl) (by kernel_rfl) (by kernel_rfl) (fun _ _ _ h => h) (Or.inl ⟨by rfl, ?_⟩) (by assumption) ?_
    rotate_left
    · (intro w hSw; (try dsimp only at hSw); go_simp; (try with_reducible rfl))
    (try simp only [List.set_cons_zero, List.set_cons_succ])
    refine held_take (i := 9) (d := 58) (v := ?_) rfl rfl (by kernel_rfl) (by kernel_rfl) (by kernel_rfl) (fun _ _ _ h => h) (Or.inl ⟨by rfl, ?_⟩) (by assumption) ?_
    rotate_left
    · (intro w hSw; (try dsimp only at hSw); go_simp; (try with_reducible rfl))
    (try simp only [List.set_cons_zero, List.set_cons_succ])
    refine held_take (i := 11) (d := 60) (v := ?_) rfl rfl (by kernel_rfl) (by kernel_rfl) (by kernel_rfl) (fun _ _ _ h => h) (Or.inl ⟨by rfl, ?_⟩) (by assumption) ?_
    rotate_left
    · (intro w hSw; (try dsimp only at hSw); go_simp; (try with_reducible rfl))
    (try simp only [List.set_cons_zero, List.set_cons_succ])
    refine held_take (i := 12) (d := 61) (v := ?_) rfl rfl (by kernel_rfl) (by kernel_rfl) (by kernel_rfl) (fun _ _ _ h => h) (Or.inl ⟨by rfl, ?_⟩) (by assumption) ?_
    rotate_left
    · (intro w hSw; (try dsimp only at hSw); go_simp; (try with_reducible rfl))
    (try simp only [List.set_cons_zero, List.set_cons_succ])
    refine held_take (i := 13) (d := 62) (v := ?_) rfl rfl (by kernel_rfl) (by kernel_rfl) (by kernel_rfl) (fun _ _ _ h => h) (Or.inl ⟨by rfl, ?_⟩) (by assumption) ?_
    rotate_left
    · (intro w hSw; (try dsimp only at hSw); go_simp; (try with_reducible rfl))
    (try simp only [List.set_cons_zero, List.set_cons_succ])
    refine held_take (i := 14) (d := 63) (v := ?_) rfl rfl (by kernel_rfl) (by kernel_rfl) (by kernel_rfl) (fun _ _ _ h => h) (Or.inl ⟨by rfl, ?_⟩) (by assumption) ?_
    rotate_left
    · (intro w hSw; (try dsimp only at hSw); go_simp; (try with_reducible rfl))
    (try simp only [List.set_cons_zero, List.set_cons_succ])
    refine held_take (i := 15) (d := 64) (v := ?_) rfl rfl (by kernel_rfl) (by kernel_rfl) (by kernel_rfl) (fun _ _ _ h => h) (Or.inl ⟨by rfl, ?_⟩) (by assumption) ?_
    rotate_left
    · (intro w hSw; (try dsimp only at hSw); go_simp; (try with_reducible rfl))
    (try simp only [List.set_cons_zero, List.set_cons_succ])
    refine held_take (i := 16) (d := 65) (v := ?_) rfl rfl (by kernel_rfl) (by kernel_rfl) (by kernel_rfl) (fun _ _ _ h => h) (Or.inl ⟨by rfl, ?_⟩) (by assumption) ?_
    rotate_left
    · (intro w hSw; (try dsimp only at hSw); go_simp; (try with_reducible rfl))
    (try simp only [List.set_cons_zero, List.set_cons_succ])
    refine wpAnyH_ready (rs := [10]) (by kernel_rfl) (by simp) ?_
    refine AllReadyH.cons rfl (fun K hK => ?_) AllReadyH.nil
    go_simp
    (refine (impl_mod _ _ _ (by omega) (by omega) (by omega) (by omega)).mono ?_; rintro e w' ⟨rfl, rfl⟩)
    go_wp2_with fail
    refine hK.out _ _ ?_ (fun hHeld => ?_)
    · (try dsimp only); exact ⟨Bl.cells (by (repeat (first | assumption | with_reducible exact Bl.refl _ | with_reducible refine Bl.drewN ?_ _ | with_reducible refine Bl.drew ?_ | with_reducible refine Bl.alloc ?_ _ | (with_reducible refine Bl.call ?_ (by assumption))))) k0, Bl.cells (by (repeat (first | assumption | with_reducible exact Bl.refl _ | with_reducible refine Bl.drewN ?_ _ | with_reducible refine Bl.drew ?_ | with_reducible refine Bl.alloc ?_ _ | (with_reducible refine Bl.call ?_ (by assumption))))) k1, Bl.cells (by (repeat (first | assumption | with_reducible exact Bl.refl _ | with_reducible refine Bl.drewN ?_ _ | with_reducible refine Bl.drew ?_ | with_reducible refine Bl.alloc ?_ _ | (with_reducible refine Bl.call ?_ (by assumption))))) k2, Bl.cells (by (repeat (first | assumption | with_reducible exact Bl.refl _ | with_reducible refine Bl.drewN ?_ _ | with_reducible refine Bl.drew ?_ | with_reducible refine Bl.alloc ?_ _ | (with_reducible refine Bl.call ?_ (by assumption))))) k3, Bl.cells (by (repeat (first | assumption | with_reducible exact Bl.refl _ | with_reducible refine Bl.drewN ?_ _ | with_reducible refine Bl.drew ?_ | with_reducible refine Bl.alloc ?_ _ | (with_reducible refine Bl.call ?_ (by assumption))))) k4, Bl.cells (by (repeat (first | assumption | with_reducible exact Bl.refl _ | with_reducible refine Bl.drewN ?_ _ | with_reducible refine Bl.drew ?_ | with_reducible refine Bl.alloc ?_ _ | (with_reducible refine Bl.call ?_ (by assumption))))) k5, Bl.cells (by (repeat (first | assumption | with_reducible exact Bl.refl _ | with_reducible refine Bl.drewN ?_ _ | with_reducible refine Bl.drew ?_ | with_reducible refine Bl.alloc ?_ _ | (with_reducible refine Bl.call ?_ (by assumption))))) k6, Bl.cells (by (repeat (first | assumption | with_reducible exact Bl.refl _ | with_reducible refine Bl.drewN ?_ _ | with_reducible refine Bl.drew ?_ | with_reducible refine Bl.alloc ?_ _ | (with_reducible refine Bl.call ?_ (by assumption))))) G7, Bl.cells (by (repeat (first | assumption | with_reducible exact Bl.refl _ | with_reducible refine Bl.drewN ?_ _ | with_reducible refine Bl.drew ?_ | with_reducible refine Bl.alloc ?_ _ | (with_reducible refine Bl.call ?_ (by assumption))))) G8⟩
    clear hK K
    (try simp only [Act.put]); (try simp only [List.setIfInBounds_toArray]); (try simp only [List.set_cons_succ]); (try simp only [List.set_cons_zero])
    refine wpAnyH_ready (rs := [17]) (by kernel_rfl) (by simp) ?_
    refine AllReadyH.cons rfl (fun K hK => ?_) AllReadyH.nil
    go_simp
    (refine (impl_mod _ _ _ (by omega) (by omega) (by omega) (by omega)).mono ?_; rintro e w' ⟨rfl, rfl⟩)
    go_wp2_with fail
    refine hK.out _ _ ?_ (fun hHeld => ?_)
    · (try dsimp only); exact ⟨Bl.cells (by (repeat (first | assumption | with_reducible exact Bl.refl _ | with_reducible refine Bl.drewN ?_ _ | with_reducible refine Bl.drew ?_ | with_reducible refine Bl.alloc ?_ _ | (with_reducible refine Bl.call ?_ (by assumption))))) k0, Bl.cells (by (repeat (first | assumption | with_reducible exact Bl.refl _ | with_reducible refine Bl.drewN ?_ _ | with_reducible refine Bl.drew ?_ | with_reducible refine Bl.alloc ?_ _ | (with_reducible refine Bl.call ?_ (by assumption))))) k1, Bl.cells (by (repeat (first | assumption | with_reducible exact Bl.refl _ | with_reducible refine Bl.drewN ?_ _ | with_reducible refine Bl.drew ?_ | with_reducible refine Bl.alloc ?_ _ | (with_reducible refine Bl.call ?_ (by assumption))))) k2, Bl.cells (by (repeat (first | assumption | with_reducible exact Bl.refl _ | with_reducible refine Bl.drewN ?_ _ | with_reducible refine Bl.drew ?_ | with_reducible refine Bl.alloc ?_ _ | (with_reducible refine Bl.call ?_ (by assumption))))) k3, Bl.cells (by (repeat (first | assumption | with_reducible exact Bl.refl _ | with_reducible refine Bl.drewN ?_ _ | with_reducible refine Bl.drew ?_ | with_reducible refine Bl.alloc ?_ _ | (with_reducible refine Bl.call ?_ (by assumption))))) k4, Bl.cells (by (repeat (first | assumption | with_reducible exact Bl.refl _ | with_reducible refine Bl.drewN ?_ _ | with_reducible refine Bl.drew ?_ | with_reducible refine Bl.alloc ?_ _ | (with_reducible refine Bl.call ?_ (by assumption))))) k5, Bl.cells (by (repeat (first | assumption | with_reducible exact Bl.refl _ | with_reducible refine Bl.drewN ?_ _ | with_reducible refine Bl.drew ?_ | with_reducible refine Bl.alloc ?_ _ | (with_reducible refine Bl.call ?_ (by assumption))))) k6, Bl.cells (by (repeat (first | assumption | with_reducible exact Bl.refl _ | with_reducible refine Bl.drewN ?_ _ | with_reducible refine Bl.drew ?_ | with_reducible refine Bl.alloc ?_ _ | (with_reducible refine Bl.call ?_ (by assumption))))) G7, Bl.cells (by (repeat (first | assumption | with_reducible exact Bl.refl _ | with_reducible refine Bl.drewN ?_ _ | with_reducible refine Bl.drew ?_ | with_reducible refine Bl.alloc ?_ _ | (with_reducible refine Bl.call ?_ (by assumption))))) G8⟩
    clear hK K
    (try simp only [Act.put]); (try simp only [List.setIfInBounds_toArray]); (try simp only [List.set_cons_succ]); (try simp only [List.set_cons_zero])
    refine wpAnyH_ready (rs := [18]) (by kernel_rfl) (by simp) ?_
    refine AllReadyH.cons rfl (fun K hK => ?_) AllReadyH.nil
    go_simp
    (refine (share1 _ _ _ _ _ _ _ _ _ _ _ _ _ _ _ _ _ _ (h0.keep (by (repeat (first | assumption | with_reducible exact Bl.refl _ | with_reducible refine Bl.drewN ?_ _ | with_reducible refine Bl.drew ?_ | with_reducible refine Bl.alloc ?_ _ | (with_reducible refine Bl.call ?_ (by assumption)))))) hp b5 b3 b4 M1 M2).mono ?_; rintro e w7 ⟨rfl, hb7⟩)
    go_wp2_with fail
    refine hK.out _ _ ?_ (fun hHeld => ?_)
    · (try dsimp only); exact ⟨Bl.cells (by (repeat (first | assumption | with_reducible exact Bl.refl _ | with_reducible refine Bl.drewN ?_ _ | with_reducible refine Bl.drew ?_ | with_reducible refine Bl.alloc ?_ _ | (with_reducible refine Bl.call ?_ (by assumption))))) k0, Bl.cells (by (repeat (first | assumption | with_reducible exact Bl.refl _ | with_reducible refine Bl.drewN ?_ _ | with_reducible refine Bl.drew ?_ | with_reducible refine Bl.alloc ?_ _ | (with_reducible refine Bl.call ?_ (by assumption))))) k1, Bl.cells (by (repeat (first | assumption | with_reducible exact Bl.refl _ | with_reducible refine Bl.drewN ?_ _ | with_reducible refine Bl.drew ?_ | with_reducible refine Bl.alloc ?_ _ | (with_reducible refine Bl.call ?_ (by assumption))))) k2, Bl.cells (by (repeat (first | assumption | with_reducible exact Bl.refl _ | with_reducible refine Bl.drewN ?_ _ | with_reducible refine Bl.drew ?_ | with_reducible refine Bl.alloc ?_ _ | (with_reducible refine Bl.call ?_ (by assumption))))) k3, Bl.cells (by (repeat (first | assumption | with_reducible exact Bl.refl _ | with_reducible refine Bl.drewN ?_ _ | with_reducible refine Bl.drew ?_ | with_reducible refine Bl.alloc ?_ _ | (with_reducible refine Bl.call ?_ (by assumption))))) k4, Bl.cells (by (repeat (first | assumption | with_reducible exact Bl.refl _ | with_reducible refine Bl.drewN ?_ _ | with_reducible refine Bl.drew ?_ | with_reducible refine Bl.alloc ?_ _ | (with_reducible refine Bl.call ?_ (by assumption))))) k5, Bl.cells (by (repeat (first | assumption | with_reducible exact Bl.refl _ | with_reducible refine Bl.drewN ?_ _ | with_reducible refine Bl.drew ?_ | with_reducible refine Bl.alloc ?_ _ | (with_reducible refine Bl.call ?_ (by assumption))))) k6, Bl.cells (by (repeat (first | assumption | with_reducible exact Bl.refl _ | with_reducible refine Bl.drewN ?_ _ | with_reducible refine Bl.drew ?_ | with_reducible refine Bl.alloc ?_ _ | (with_reducible refine Bl.call ?_ (by assumption))))) G7, Bl.cells (by (repeat (first | assumption | with_reducible exact Bl.refl _ | with_reducible refine Bl.drewN ?_ _ | with_reducible refine Bl.drew ?_ | with_reducible refine Bl.alloc ?_ _ | (with_reducible refine Bl.call ?_ (by assumption))))) G8⟩
    clear hK K
    (try simp only [Act.put]); (try simp only [List.setIfInBounds_toArray]); (try simp only [List.set_cons_succ]); (try simp only [List.set_cons_zero])
    refine held_take (i := 19) (d := 68) (v := ?_) rfl rfl (by kernel_rfl) (by kernel_rfl) (by kernel_rfl) (fun _ _ _ h => h) (Or.inl ⟨by rfl, ?_⟩) (by assumption) ?_
    rotate_left
    · (intro w hSw; (try dsimp only at hSw); go_simp; (try with_reducible rfl))
    (try simp only [List.set_cons_zero, List.set_cons_succ])
    refine wpAnyH_ready (rs := [20]) (by kernel_rfl) (by simp) ?_
    refine AllReadyH.cons rfl (fun K hK => ?_) AllReadyH.nil
    go_simp
    (refine (impl_mod _ _ _ (by omega) (by omega) (by omega) (by omega)).mono ?_; rintro e w' ⟨rfl, rfl⟩)
    go_wp2_with fail
    refine hK.out _ _ ?_ (fun hHeld => ?_)
    · (try dsimp only); exact ⟨Bl.cells (by (repeat (first | assumption | with_reducible exact Bl.refl _ | with_reducible refine Bl.drewN ?_ _ | with_reducible refine Bl.drew ?_ | with_reducible refine Bl.alloc ?_ _ | (with_reducible refine Bl.call ?_ (by assumption))))) k0, Bl.cells (by (repeat (first | assumption | with_reducible exact Bl.refl _ | with_reducible refine Bl.drewN ?_ _ | with_reducible refine Bl.drew ?_ | with_reducible refine Bl.alloc ?_ _ | (with_reducible refine Bl.call ?_ (by assumption))))) k1, Bl.cells (by (repeat (first | assumption | with_reducible exact Bl.refl _ | with_reducible refine Bl.drewN ?_ _ | with_reducible refine Bl.drew ?_ | with_reducible refine Bl.alloc ?_ _ | (with_reducible refine Bl.call ?_ (by assumption))))) k2, Bl.cells (by (repeat (first | assumption | with_reducible exact Bl.refl _ | with_reducible refine Bl.drewN ?_ _ | with_reducible refine Bl.drew ?_ | with_reducible refine Bl.alloc ?_ _ | (with_reducible refine Bl.call ?_ (by assumption))))) k3, Bl.cells (by (repeat (first | assumption | with_reducible exact Bl.refl _ | with_reducible refine Bl.drewN ?_ _ | with_reducible refine Bl.drew ?_ | with_reducible refine Bl.alloc ?_ _ | (with_reducible refine Bl.call ?_ (by assumption))))) k4, Bl.cells (by (repeat (first | assumption | with_reducible exact Bl.refl _ | with_reducible refine Bl.drewN ?_ _ | with_reducible refine Bl.drew ?_ | with_reducible refine Bl.alloc ?_ _ | (with_reducible refine Bl.call ?_ (by assumption))))) k5, Bl.cells (by (repeat (first | assumption | with_reducible exact Bl.refl _ | with_reducible refine Bl.drewN ?_ _ | with_reducible refine Bl.drew ?_ | with_reducible refine Bl.alloc ?_ _ | (with_reducible refine Bl.call ?_ (by assumption))))) k6, Bl.cells (by (repeat (first | assumption | with_reducible exact Bl.refl _ | with_reducible refine Bl.drewN ?_ _ | with_reducible refine Bl.drew ?_ | with_reducible refine Bl.alloc ?_ _ | (with_reducible refine Bl.call ?_ (by assumption))))) G7, Bl.cells (by (repeat (first | assumption | with_reducible exact Bl.refl _ | with_reducible refine Bl.drewN ?_ _ | with_reducible refine Bl.drew ?_ | with_reducible refine Bl.alloc ?_ _ | (with_reducible refine Bl.call ?_ (by assumption))))) G8⟩
    clear hK K
    (try simp only [Act.put]); (try simp only [List.setIfInBounds_toArray]); (try simp only [List.set_cons_succ]); (try simp only [List.set_cons_zero])
    refine held_take (i := 21) (d := 15) (v := ?_) rfl rfl (by kernel_rfl) (by kernel_rfl) (by kernel_rfl) (fun _ _ _ h => h) (Or.inl ⟨by rfl, ?_⟩) (by assumption) ?_
    rotate_left
    · (intro w hSw; (try dsimp only at hSw); go_simp; (try with_reducible rfl))
    (try simp only [List.set_cons_zero, List.set_cons_succ])
    refine wpAnyH_done (by kernel_rfl) ?_ _
    go_wp2_with fail
    go_meet
    exact ⟨rfl, (by (repeat (first | assumption | with_reducible exact Bl.refl _ | with_reducible refine Bl.drewN ?_ _ | with_reducible refine Bl.drew ?_ | with_reducible refine Bl.alloc ?_ _ | (with_reducible refine Bl.call ?_ (by assumption)))))⟩
  case rest =>
    obtain ⟨rfl, hWx⟩ := hcut
    generalize (o - shrZ p 1 r3 r4 r5 ((u + r7) % p) ((v + r8) % p)) % p = z at HR ⊢
    have hlx := hl.keep hWx
    go_wp2_with (first
      | (go_at_call 142; refine (with_ints _ _ 1 _ 9 _ [i] [r0, r1, r2, r3, r4, r5, r6, r7, r8] _ (rd_new1 _ 3 _) (hlx.keep (by (repeat (first | assumption | with_reducible exact Bl.refl _ | with_reducible refine Bl.drewN ?_ _ | with_reducible refine Bl.drew ?_ | with_reducible refine Bl.alloc ?_ _ | (with_reducible refine Bl.call ?_ (by assumption)))))) (by omega) (by omega)).mono ?_; rintro r w8 ⟨A8, c8, rfl, ho8, hb8⟩)
      | (at_builtin; refine ap_int rfl rfl rfl (ho8.keep (by (repeat (first | assumption | with_reducible exact Bl.refl _ | with_reducible refine Bl.drewN ?_ _ | with_reducible refine Bl.drew ?_ | with_reducible refine Bl.alloc ?_ _ | (with_reducible refine Bl.call ?_ (by assumption)))))) rfl (rd_new1 _ 3 _) (by omega) (by have := hb8.sz; simp at *; omega) ?_; intro A9 c9 w9 ho9 hg9 hat9))
    go_ret
    exact ⟨A9, c9, rfl, by rw [HR.out]; exact OwnI.mono ho9 (Bl.sz (by (repeat (first | assumption | with_reducible exact Bl.refl _ | with_reducible refine Bl.drewN ?_ _ | with_reducible refine Bl.drew ?_ | with_reducible refine Bl.alloc ?_ _ | (with_reducible refine Bl.call ?_ (by assumption)))))), Bl.grown (by (repeat (first | assumption | with_reducible exact Bl.refl _ | with_reducible refine Bl.drewN ?_ _ | with_reducible refine Bl.drew ?_ | with_reducible refine Bl.alloc ?_ _ | (with_reducible refine Bl.call ?_ (by assumption))))) hg9 (fun k hk => Nat.le_trans (Bl.sz (W := w) (by (repeat (first | assumption | with_reducible exact Bl.refl _ | with_reducible refine Bl.drewN ?_ _ | with_reducible refine Bl.drew ?_ | with_reducible refine Bl.alloc ?_ _ | (with_reducible refine Bl.call ?_ (by assumption)))))) (ho8.blk k hk).1)⟩
end Go.Proofs.Ytglgaicbcackbaa
