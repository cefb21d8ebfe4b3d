/- The contract of the reference's CommonCoin.
   Conditions: none. -/
import Derived.Test.YtglgaicbcackbaaSef
namespace Go.Proofs.Ytglgaicbcackbaa
open Go.RowKit
set_option linter.unusedVariables false
set_option maxHeartbeats 4000000 in
theorem spec_CommonCoin_p (p m v b : Int) (o : Bool) (p' m' v' b' : Int) (o' : Bool) (n : Int) (w : World) (hp : pairB p m v b o p' m' v' b' o' = false) :
    Calls Try.prog 28 #[.agg #[.int .i64 p, .int .i64 m, .int .i64 v, .int .i64 b, .bool o], .agg #[.int .i64 p', .int .i64 m', .int .i64 v', .int .i64 b', .bool o'], .int .i64 n] w fun e w' => e = .returned (.tuple #[.int .i64 (coinF p m v b o p' m' v' b' o' n), .bool (coinB p m v b o p' m' v' b' o' n)]) ∧ Bl w w' := by
  have hW := ((Bl.refl w).alloc (.cells #[.int .i64 p, .int .i64 m, .int .i64 v, .int .i64 b, .bool o] 38)).alloc (.cells #[.int .i64 p', .int .i64 m', .int .i64 v', .int .i64 b', .bool o'] 38)
  have hB := (Blk.new w 38 #[.int .i64 p, .int .i64 m, .int .i64 v, .int .i64 b, .bool o]).alloc (.cells #[.int .i64 p', .int .i64 m', .int .i64 v', .int .i64 b', .bool o'] 38)
  have hC : Blk _ (w.heap.size + 1) _ _ := Blk.new (w.alloc (.cells #[.int .i64 p, .int .i64 m, .int .i64 v, .int .i64 b, .bool o] 38)) 38 #[.int .i64 p', .int .i64 m', .int .i64 v', .int .i64 b', .bool o']
  have hB_l := hB.lt
  have hB_0 := hB.cell 0 _ rfl
  have hB_1 := hB.cell 1 _ rfl
  have hB_2 := hB.cell 2 _ rfl
  have hB_3 := hB.cell 3 _ rfl
  have hB_4 := hB.cell 4 _ rfl
  have hC_l := hC.lt
  have hC_0 := hC.cell 0 _ rfl
  have hC_1 := hC.cell 1 _ rfl
  have hC_2 := hC.cell 2 _ rfl
  have hC_3 := hC.cell 3 _ rfl
  have hC_4 := hC.cell 4 _ rfl
  go_enter Try.func28, Try.ntmps28
  go_wp2
  refine wp_region_held_drew (S := (fun w' => w'.cell? ⟨w.heap.size, 0, none⟩ = some (.int .i64 p) ∧ w'.cell? ⟨w.heap.size, 1, none⟩ = some (.int .i64 m) ∧ w'.cell? ⟨w.heap.size, 2, none⟩ = some (.int .i64 v) ∧ w'.cell? ⟨w.heap.size, 3, none⟩ = some (.int .i64 b) ∧ w'.cell? ⟨w.heap.size, 4, none⟩ = some (.bool o) ∧ w'.cell? ⟨w.heap.size + 1, 0, none⟩ = some (.int .i64 p') ∧ w'.cell? ⟨w.heap.size + 1, 1, none⟩ = some (.int .i64 m') ∧ w'.cell? ⟨w.heap.size + 1, 2, none⟩ = some (.int .i64 v') ∧ w'.cell? ⟨w.heap.size + 1, 3, none⟩ = some (.int .i64 b') ∧ w'.cell? ⟨w.heap.size + 1, 4, none⟩ = some (.bool o'))) (by kernel_rfl) ?_ (fun hHeld => ?_)
  · (try dsimp only); exact ⟨hB_0, hB_1, hB_2, hB_3, hB_4, hC_0, hC_1, hC_2, hC_3, hC_4⟩
  refine held_take (i := 0) (d := 8) (v := ?_) rfl rfl (by kernel_rfl) (by kernel_rfl) (by kernel_rfl) (fun _ _ _ h => h) (Or.inl ⟨by rfl, ?_⟩) (by assumption) ?_
  rotate_left
  · (intro w hSw; (try dsimp only at hSw); go_simp; (try with_reducible rfl))
  simp only [List.set_cons_zero, List.set_cons_succ]
  refine held_take (i := 1) (d := 9) (v := ?_) rfl rfl (by kernel_rfl) (by kernel_rfl) (by kernel_rfl) (fun _ _ _ h => h) (Or.inl ⟨by rfl, ?_⟩) (by assumption) ?_
  rotate_left
  · (intro w hSw; (try dsimp only at hSw); go_simp; (try with_reducible rfl))
  simp only [List.set_cons_zero, List.set_cons_succ]
  refine wpAnyH_ready (rs := [2]) (by kernel_rfl) (by simp) ?_
  refine AllReadyH.cons rfl (fun K hK => ?_) AllReadyH.nil
  go_simp
  (first | (go_at_call 94; refine (spec_cmPair _ _ _ _ _ _ _ _ _ _ _).mono ?_; rintro e w1 ⟨rfl, hb⟩; replace hW := (by first | exact hW.call hb | exact hW.drew.call hb | exact (hW.alloc _).call hb | exact (hW.alloc _).drew.call hb | exact (hW.drewN _).call hb | exact (hW.drew.alloc _).call hb | exact ((hW.alloc _).alloc _).call hb | exact ((hW.alloc _).alloc _).drew.call hb | exact (((hW.alloc _).alloc _).alloc _).call hb); replace hB := (by first | exact hB.keep hb | exact hB.drew.keep hb | exact (hB.alloc _).keep hb | exact (hB.alloc _).drew.keep hb | exact (hB.drewN _).keep hb | exact (hB.drew.alloc _).keep hb | exact ((hB.alloc _).alloc _).keep hb | exact ((hB.alloc _).alloc _).drew.keep hb | exact (((hB.alloc _).alloc _).alloc _).keep hb); replace hC := (by first | exact hC.keep hb | exact hC.drew.keep hb | exact (hC.alloc _).keep hb | exact (hC.alloc _).drew.keep hb | exact (hC.drewN _).keep hb | exact (hC.drew.alloc _).keep hb | exact ((hC.alloc _).alloc _).keep hb | exact ((hC.alloc _).alloc _).drew.keep hb | exact (((hC.alloc _).alloc _).alloc _).keep hb); clear hB_l hB_0 hB_1 hB_2 hB_3 hB_4 hC_l hC_0 hC_1 hC_2 hC_3 hC_4; have hB_l := hB.lt; have hB_0 := hB.cell 0 _ rfl; have hB_1 := hB.cell 1 _ rfl; have hB_2 := hB.cell 2 _ rfl; have hB_3 := hB.cell 3 _ rfl; have hB_4 := hB.cell 4 _ rfl; have hC_l := hC.lt; have hC_0 := hC.cell 0 _ rfl; have hC_1 := hC.cell 1 _ rfl; have hC_2 := hC.cell 2 _ rfl; have hC_3 := hC.cell 3 _ rfl; have hC_4 := hC.cell 4 _ rfl; rw [hp]))
  go_wp2_with fail
  refine hK.out _ _ ?_ (fun hHeld => ?_)
  · (try dsimp only); exact ⟨hB_0, hB_1, hB_2, hB_3, hB_4, hC_0, hC_1, hC_2, hC_3, hC_4⟩
  clear hK K
  try simp only [Act.put, List.setIfInBounds_toArray, List.set_cons_zero, List.set_cons_succ]
  refine held_take (i := 3) (d := 11) (v := ?_) rfl rfl (by kernel_rfl) (by kernel_rfl) (by kernel_rfl) (fun _ _ _ h => h) (Or.inl ⟨by rfl, ?_⟩) (by assumption) ?_
  rotate_left
  · (intro w hSw; (try dsimp only at hSw); go_simp; (try with_reducible rfl))
  simp only [List.set_cons_zero, List.set_cons_succ]
  refine held_take (i := 4) (d := 12) (v := ?_) rfl rfl (by kernel_rfl) (by kernel_rfl) (by kernel_rfl) (fun _ _ _ h => h) (Or.inl ⟨by rfl, ?_⟩) (by assumption) ?_
  rotate_left
  · (intro w hSw; (try dsimp only at hSw); go_simp; (try with_reducible rfl))
  simp only [List.set_cons_zero, List.set_cons_succ]
  refine held_take (i := 5) (d := 13) (v := undef) rfl rfl (by kernel_rfl) (by kernel_rfl) (by kernel_rfl) (fun _ _ _ h => h) (Or.inr ⟨by rfl, rfl⟩) (by assumption) ?_
  simp only [List.set_cons_zero, List.set_cons_succ]
  refine held_take (i := 6) (d := 14) (v := undef) rfl rfl (by kernel_rfl) (by kernel_rfl) (by kernel_rfl) (fun _ _ _ h => h) (Or.inr ⟨by rfl, rfl⟩) (by assumption) ?_
  simp only [List.set_cons_zero, List.set_cons_succ]
  refine held_take (i := 7) (d := 15) (v := undef) rfl rfl (by kernel_rfl) (by kernel_rfl) (by kernel_rfl) (fun _ _ _ h => h) (Or.inr ⟨by rfl, rfl⟩) (by assumption) ?_
  simp only [List.set_cons_zero, List.set_cons_succ]
  refine held_take (i := 8) (d := 16) (v := undef) rfl rfl (by kernel_rfl) (by kernel_rfl) (by kernel_rfl) (fun _ _ _ h => h) (Or.inr ⟨by rfl, rfl⟩) (by assumption) ?_
  simp only [List.set_cons_zero, List.set_cons_succ]
  refine held_take (i := 9) (d := 17) (v := undef) rfl rfl (by kernel_rfl) (by kernel_rfl) (by kernel_rfl) (fun _ _ _ h => h) (Or.inr ⟨by rfl, rfl⟩) (by assumption) ?_
  simp only [List.set_cons_zero, List.set_cons_succ]
  refine held_take (i := 10) (d := 18) (v := undef) rfl rfl (by kernel_rfl) (by kernel_rfl) (by kernel_rfl) (fun _ _ _ h => h) (Or.inr ⟨by rfl, rfl⟩) (by assumption) ?_
  simp only [List.set_cons_zero, List.set_cons_succ]
  refine held_take (i := 11) (d := 19) (v := ?_) rfl rfl (by kernel_rfl) (by kernel_rfl) (by kernel_rfl) (fun _ _ _ h => h) (Or.inl ⟨by rfl, ?_⟩) (by assumption) ?_
  rotate_left
  · (intro w hSw; (try dsimp only at hSw); go_simp; (try with_reducible rfl))
  simp only [List.set_cons_zero, List.set_cons_succ]
  refine held_take (i := 12) (d := 20) (v := ?_) rfl rfl (by kernel_rfl) (by kernel_rfl) (by kernel_rfl) (fun _ _ _ h => h) (Or.inl ⟨by rfl, ?_⟩) (by assumption) ?_
  rotate_left
  · (intro w hSw; (try dsimp only at hSw); go_simp; (try with_reducible rfl))
  simp only [List.set_cons_zero, List.set_cons_succ]
  refine held_take (i := 13) (d := 21) (v := undef) rfl rfl (by kernel_rfl) (by kernel_rfl) (by kernel_rfl) (fun _ _ _ h => h) (Or.inr ⟨by rfl, rfl⟩) (by assumption) ?_
  simp only [List.set_cons_zero, List.set_cons_succ]
  refine held_take (i := 14) (d := 22) (v := undef) rfl rfl (by kernel_rfl) (by kernel_rfl) (by kernel_rfl) (fun _ _ _ h => h) (Or.inr ⟨by rfl, rfl⟩) (by assumption) ?_
  simp only [List.set_cons_zero, List.set_cons_succ]
  refine held_take (i := 15) (d := 23) (v := undef) rfl rfl (by kernel_rfl) (by kernel_rfl) (by kernel_rfl) (fun _ _ _ h => h) (Or.inr ⟨by rfl, rfl⟩) (by assumption) ?_
  simp only [List.set_cons_zero, List.set_cons_succ]
  refine held_take (i := 16) (d := 24) (v := ?_) rfl rfl (by kernel_rfl) (by kernel_rfl) (by kernel_rfl) (fun _ _ _ h => h) (Or.inl ⟨by rfl, ?_⟩) (by assumption) ?_
  rotate_left
  · (intro w hSw; (try dsimp only at hSw); go_simp; (try with_reducible rfl))
  simp only [List.set_cons_zero, List.set_cons_succ]
  refine wpAnyH_done (by kernel_rfl) ?_ _
  go_wp2
  go_ret2
  exact ⟨by simp [coinF, coinB, hp], hW⟩
set_option maxHeartbeats 4000000 in
theorem spec_CommonCoin_tt (p m v b : Int) (o : Bool) (p' m' v' b' : Int) (o' : Bool) (n : Int) (w : World) (hp : pairB p m v b o p' m' v' b' o' = true) (h1 : faultB p m v b o = true) (h2 : faultB p' m' v' b' o' = true) :
    Calls Try.prog 28 #[.agg #[.int .i64 p, .int .i64 m, .int .i64 v, .int .i64 b, .bool o], .agg #[.int .i64 p', .int .i64 m', .int .i64 v', .int .i64 b', .bool o'], .int .i64 n] w fun e w' => e = .returned (.tuple #[.int .i64 (coinF p m v b o p' m' v' b' o' n), .bool (coinB p m v b o p' m' v' b' o' n)]) ∧ Bl w w' := by
  have hW := ((Bl.refl w).alloc (.cells #[.int .i64 p, .int .i64 m, .int .i64 v, .int .i64 b, .bool o] 38)).alloc (.cells #[.int .i64 p', .int .i64 m', .int .i64 v', .int .i64 b', .bool o'] 38)
  have hB := (Blk.new w 38 #[.int .i64 p, .int .i64 m, .int .i64 v, .int .i64 b, .bool o]).alloc (.cells #[.int .i64 p', .int .i64 m', .int .i64 v', .int .i64 b', .bool o'] 38)
  have hC : Blk _ (w.heap.size + 1) _ _ := Blk.new (w.alloc (.cells #[.int .i64 p, .int .i64 m, .int .i64 v, .int .i64 b, .bool o] 38)) 38 #[.int .i64 p', .int .i64 m', .int .i64 v', .int .i64 b', .bool o']
  have hB_l := hB.lt
  have hB_0 := hB.cell 0 _ rfl
  have hB_1 := hB.cell 1 _ rfl
  have hB_2 := hB.cell 2 _ rfl
  have hB_3 := hB.cell 3 _ rfl
  have hB_4 := hB.cell 4 _ rfl
  have hC_l := hC.lt
  have hC_0 := hC.cell 0 _ rfl
  have hC_1 := hC.cell 1 _ rfl
  have hC_2 := hC.cell 2 _ rfl
  have hC_3 := hC.cell 3 _ rfl
  have hC_4 := hC.cell 4 _ rfl
  obtain ⟨hg1, hg2⟩ := pairB_good hp
  have hv1 := good_bd hg1
  have hv2 := good_bd hg2
  have q0 : IntKind.i64.wrap 0 = 0 := by decide
  have q1 : IntKind.i64.wrap 1 = 1 := by decide
  have q2 : IntKind.i64.wrap 2 = 2 := by decide
  have g1 := faultN_t h1
  have g2 := faultN_t h2
  go_enter Try.func28, Try.ntmps28
  go_wp2
  refine wp_region_held_drew (S := (fun w' => w'.cell? ⟨w.heap.size, 0, none⟩ = some (.int .i64 p) ∧ w'.cell? ⟨w.heap.size, 1, none⟩ = some (.int .i64 m) ∧ w'.cell? ⟨w.heap.size, 2, none⟩ = some (.int .i64 v) ∧ w'.cell? ⟨w.heap.size, 3, none⟩ = some (.int .i64 b) ∧ w'.cell? ⟨w.heap.size, 4, none⟩ = some (.bool o) ∧ w'.cell? ⟨w.heap.size + 1, 0, none⟩ = some (.int .i64 p') ∧ w'.cell? ⟨w.heap.size + 1, 1, none⟩ = some (.int .i64 m') ∧ w'.cell? ⟨w.heap.size + 1, 2, none⟩ = some (.int .i64 v') ∧ w'.cell? ⟨w.heap.size + 1, 3, none⟩ = some (.int .i64 b') ∧ w'.cell? ⟨w.heap.size + 1, 4, none⟩ = some (.bool o'))) (by kernel_rfl) ?_ (fun hHeld => ?_)
  · (try dsimp only); exact ⟨hB_0, hB_1, hB_2, hB_3, hB_4, hC_0, hC_1, hC_2, hC_3, hC_4⟩
  refine held_take (i := 0) (d := 8) (v := ?_) rfl rfl (by kernel_rfl) (by kernel_rfl) (by kernel_rfl) (fun _ _ _ h => h) (Or.inl ⟨by rfl, ?_⟩) (by assumption) ?_
  rotate_left
  · (intro w hSw; (try dsimp only at hSw); go_simp; (try with_reducible rfl))
  simp only [List.set_cons_zero, List.set_cons_succ]
  refine held_take (i := 1) (d := 9) (v := ?_) rfl rfl (by kernel_rfl) (by kernel_rfl) (by kernel_rfl) (fun _ _ _ h => h) (Or.inl ⟨by rfl, ?_⟩) (by assumption) ?_
  rotate_left
  · (intro w hSw; (try dsimp only at hSw); go_simp; (try with_reducible rfl))
  simp only [List.set_cons_zero, List.set_cons_succ]
  refine wpAnyH_ready (rs := [2]) (by kernel_rfl) (by simp) ?_
  refine AllReadyH.cons rfl (fun K hK => ?_) AllReadyH.nil
  go_simp
  (first | (go_at_call 94; refine (spec_cmPair _ _ _ _ _ _ _ _ _ _ _).mono ?_; rintro e w1 ⟨rfl, hb⟩; replace hW := (by first | exact hW.call hb | exact hW.drew.call hb | exact (hW.alloc _).call hb | exact (hW.alloc _).drew.call hb | exact (hW.drewN _).call hb | exact (hW.drew.alloc _).call hb | exact ((hW.alloc _).alloc _).call hb | exact ((hW.alloc _).alloc _).drew.call hb | exact (((hW.alloc _).alloc _).alloc _).call hb); replace hB := (by first | exact hB.keep hb | exact hB.drew.keep hb | exact (hB.alloc _).keep hb | exact (hB.alloc _).drew.keep hb | exact (hB.drewN _).keep hb | exact (hB.drew.alloc _).keep hb | exact ((hB.alloc _).alloc _).keep hb | exact ((hB.alloc _).alloc _).drew.keep hb | exact (((hB.alloc _).alloc _).alloc _).keep hb); replace hC := (by first | exact hC.keep hb | exact hC.drew.keep hb | exact (hC.alloc _).keep hb | exact (hC.alloc _).drew.keep hb | exact (hC.drewN _).keep hb | exact (hC.drew.alloc _).keep hb | exact ((hC.alloc _).alloc _).keep hb | exact ((hC.alloc _).alloc _).drew.keep hb | exact (((hC.alloc _).alloc _).alloc _).keep hb); clear hB_l hB_0 hB_1 hB_2 hB_3 hB_4 hC_l hC_0 hC_1 hC_2 hC_3 hC_4; have hB_l := hB.lt; have hB_0 := hB.cell 0 _ rfl; have hB_1 := hB.cell 1 _ rfl; have hB_2 := hB.cell 2 _ rfl; have hB_3 := hB.cell 3 _ rfl; have hB_4 := hB.cell 4 _ rfl; have hC_l := hC.lt; have hC_0 := hC.cell 0 _ rfl; have hC_1 := hC.cell 1 _ rfl; have hC_2 := hC.cell 2 _ rfl; have hC_3 := hC.cell 3 _ rfl; have hC_4 := hC.cell 4 _ rfl; rw [hp]) | (go_at_call 95; with_reducible refine (spec_cmFault p m v b o _ hg1).mono ?_; rintro e w1 ⟨rfl, hb⟩; replace hW := (by first | exact hW.call hb | exact hW.drew.call hb | exact (hW.alloc _).call hb | exact (hW.alloc _).drew.call hb | exact (hW.drewN _).call hb | exact (hW.drew.alloc _).call hb | exact ((hW.alloc _).alloc _).call hb | exact ((hW.alloc _).alloc _).drew.call hb | exact (((hW.alloc _).alloc _).alloc _).call hb); replace hB := (by first | exact hB.keep hb | exact hB.drew.keep hb | exact (hB.alloc _).keep hb | exact (hB.alloc _).drew.keep hb | exact (hB.drewN _).keep hb | exact (hB.drew.alloc _).keep hb | exact ((hB.alloc _).alloc _).keep hb | exact ((hB.alloc _).alloc _).drew.keep hb | exact (((hB.alloc _).alloc _).alloc _).keep hb); replace hC := (by first | exact hC.keep hb | exact hC.drew.keep hb | exact (hC.alloc _).keep hb | exact (hC.alloc _).drew.keep hb | exact (hC.drewN _).keep hb | exact (hC.drew.alloc _).keep hb | exact ((hC.alloc _).alloc _).keep hb | exact ((hC.alloc _).alloc _).drew.keep hb | exact (((hC.alloc _).alloc _).alloc _).keep hb); clear hB_l hB_0 hB_1 hB_2 hB_3 hB_4 hC_l hC_0 hC_1 hC_2 hC_3 hC_4; have hB_l := hB.lt; have hB_0 := hB.cell 0 _ rfl; have hB_1 := hB.cell 1 _ rfl; have hB_2 := hB.cell 2 _ rfl; have hB_3 := hB.cell 3 _ rfl; have hB_4 := hB.cell 4 _ rfl; have hC_l := hC.lt; have hC_0 := hC.cell 0 _ rfl; have hC_1 := hC.cell 1 _ rfl; have hC_2 := hC.cell 2 _ rfl; have hC_3 := hC.cell 3 _ rfl; have hC_4 := hC.cell 4 _ rfl; rw [g1]) | (go_at_call 95; with_reducible refine (spec_cmFault p' m' v' b' o' _ hg2).mono ?_; rintro e w1 ⟨rfl, hb⟩; replace hW := (by first | exact hW.call hb | exact hW.drew.call hb | exact (hW.alloc _).call hb | exact (hW.alloc _).drew.call hb | exact (hW.drewN _).call hb | exact (hW.drew.alloc _).call hb | exact ((hW.alloc _).alloc _).call hb | exact ((hW.alloc _).alloc _).drew.call hb | exact (((hW.alloc _).alloc _).alloc _).call hb); replace hB := (by first | exact hB.keep hb | exact hB.drew.keep hb | exact (hB.alloc _).keep hb | exact (hB.alloc _).drew.keep hb | exact (hB.drewN _).keep hb | exact (hB.drew.alloc _).keep hb | exact ((hB.alloc _).alloc _).keep hb | exact ((hB.alloc _).alloc _).drew.keep hb | exact (((hB.alloc _).alloc _).alloc _).keep hb); replace hC := (by first | exact hC.keep hb | exact hC.drew.keep hb | exact (hC.alloc _).keep hb | exact (hC.alloc _).drew.keep hb | exact (hC.drewN _).keep hb | exact (hC.drew.alloc _).keep hb | exact ((hC.alloc _).alloc _).keep hb | exact ((hC.alloc _).alloc _).drew.keep hb | exact (((hC.alloc _).alloc _).alloc _).keep hb); clear hB_l hB_0 hB_1 hB_2 hB_3 hB_4 hC_l hC_0 hC_1 hC_2 hC_3 hC_4; have hB_l := hB.lt; have hB_0 := hB.cell 0 _ rfl; have hB_1 := hB.cell 1 _ rfl; have hB_2 := hB.cell 2 _ rfl; have hB_3 := hB.cell 3 _ rfl; have hB_4 := hB.cell 4 _ rfl; have hC_l := hC.lt; have hC_0 := hC.cell 0 _ rfl; have hC_1 := hC.cell 1 _ rfl; have hC_2 := hC.cell 2 _ rfl; have hC_3 := hC.cell 3 _ rfl; have hC_4 := hC.cell 4 _ rfl; rw [g2]))
  go_wp2_with fail
  refine hK.out _ _ ?_ (fun hHeld => ?_)
  · (try dsimp only); exact ⟨hB_0, hB_1, hB_2, hB_3, hB_4, hC_0, hC_1, hC_2, hC_3, hC_4⟩
  clear hK K
  try simp only [Act.put, List.setIfInBounds_toArray, List.set_cons_zero, List.set_cons_succ]
  refine held_take (i := 3) (d := 11) (v := ?_) rfl rfl (by kernel_rfl) (by kernel_rfl) (by kernel_rfl) (fun _ _ _ h => h) (Or.inl ⟨by rfl, ?_⟩) (by assumption) ?_
  rotate_left
  · (intro w hSw; (try dsimp only at hSw); go_simp; (try with_reducible rfl))
  simp only [List.set_cons_zero, List.set_cons_succ]
  refine held_take (i := 4) (d := 12) (v := ?_) rfl rfl (by kernel_rfl) (by kernel_rfl) (by kernel_rfl) (fun _ _ _ h => h) (Or.inl ⟨by rfl, ?_⟩) (by assumption) ?_
  rotate_left
  · (intro w hSw; (try dsimp only at hSw); go_simp; (try with_reducible rfl))
  simp only [List.set_cons_zero, List.set_cons_succ]
  refine held_take (i := 5) (d := 13) (v := ?_) rfl rfl (by kernel_rfl) (by kernel_rfl) (by kernel_rfl) (fun _ _ _ h => h) (Or.inl ⟨by rfl, ?_⟩) (by assumption) ?_
  rotate_left
  · (intro w hSw; (try dsimp only at hSw); go_simp; (try with_reducible rfl))
  simp only [List.set_cons_zero, List.set_cons_succ]
  refine held_take (i := 7) (d := 15) (v := ?_) rfl rfl (by kernel_rfl) (by kernel_rfl) (by kernel_rfl) (fun _ _ _ h => h) (Or.inl ⟨by rfl, ?_⟩) (by assumption) ?_
  rotate_left
  · (intro w hSw; (try dsimp only at hSw); go_simp; (try with_reducible rfl))
  simp only [List.set_cons_zero, List.set_cons_succ]
  refine wpAnyH_ready (rs := [6]) (by kernel_rfl) (by simp) ?_
  refine AllReadyH.cons rfl (fun K hK => ?_) AllReadyH.nil
  go_simp
  (first | (go_at_call 94; refine (spec_cmPair _ _ _ _ _ _ _ _ _ _ _).mono ?_; rintro e w1 ⟨rfl, hb⟩; replace hW := (by first | exact hW.call hb | exact hW.drew.call hb | exact (hW.alloc _).call hb | exact (hW.alloc _).drew.call hb | exact (hW.drewN _).call hb | exact (hW.drew.alloc _).call hb | exact ((hW.alloc _).alloc _).call hb | exact ((hW.alloc _).alloc _).drew.call hb | exact (((hW.alloc _).alloc _).alloc _).call hb); replace hB := (by first | exact hB.keep hb | exact hB.drew.keep hb | exact (hB.alloc _).keep hb | exact (hB.alloc _).drew.keep hb | exact (hB.drewN _).keep hb | exact (hB.drew.alloc _).keep hb | exact ((hB.alloc _).alloc _).keep hb | exact ((hB.alloc _).alloc _).drew.keep hb | exact (((hB.alloc _).alloc _).alloc _).keep hb); replace hC := (by first | exact hC.keep hb | exact hC.drew.keep hb | exact (hC.alloc _).keep hb | exact (hC.alloc _).drew.keep hb | exact (hC.drewN _).keep hb | exact (hC.drew.alloc _).keep hb | exact ((hC.alloc _).alloc _).keep hb | exact ((hC.alloc _).alloc _).drew.keep hb | exact (((hC.alloc _).alloc _).alloc _).keep hb); clear hB_l hB_0 hB_1 hB_2 hB_3 hB_4 hC_l hC_0 hC_1 hC_2 hC_3 hC_4; have hB_l := hB.lt; have hB_0 := hB.cell 0 _ rfl; have hB_1 := hB.cell 1 _ rfl; have hB_2 := hB.cell 2 _ rfl; have hB_3 := hB.cell 3 _ rfl; have hB_4 := hB.cell 4 _ rfl; have hC_l := hC.lt; have hC_0 := hC.cell 0 _ rfl; have hC_1 := hC.cell 1 _ rfl; have hC_2 := hC.cell 2 _ rfl; have hC_3 := hC.cell 3 _ rfl; have hC_4 := hC.cell 4 _ rfl; rw [hp]) | (go_at_call 95; with_reducible refine (spec_cmFault p m v b o _ hg1).mono ?_; rintro e w1 ⟨rfl, hb⟩; replace hW := (by first | exact hW.call hb | exact hW.drew.call hb | exact (hW.alloc _).call hb | exact (hW.alloc _).drew.call hb | exact (hW.drewN _).call hb | exact (hW.drew.alloc _).call hb | exact ((hW.alloc _).alloc _).call hb | exact ((hW.alloc _).alloc _).drew.call hb | exact (((hW.alloc _).alloc _).alloc _).call hb); replace hB := (by first | exact hB.keep hb | exact hB.drew.keep hb | exact (hB.alloc _).keep hb | exact (hB.alloc _).drew.keep hb | exact (hB.drewN _).keep hb | exact (hB.drew.alloc _).keep hb | exact ((hB.alloc _).alloc _).keep hb | exact ((hB.alloc _).alloc _).drew.keep hb | exact (((hB.alloc _).alloc _).alloc _).keep hb); replace hC := (by first | exact hC.keep hb | exact hC.drew.keep hb | exact (hC.alloc _).keep hb | exact (hC.alloc _).drew.keep hb | exact (hC.drewN _).keep hb | exact (hC.drew.alloc _).keep hb | exact ((hC.alloc _).alloc _).keep hb | exact ((hC.alloc _).alloc _).drew.keep hb | exact (((hC.alloc _).alloc _).alloc _).keep hb); clear hB_l hB_0 hB_1 hB_2 hB_3 hB_4 hC_l hC_0 hC_1 hC_2 hC_3 hC_4; have hB_l := hB.lt; have hB_0 := hB.cell 0 _ rfl; have hB_1 := hB.cell 1 _ rfl; have hB_2 := hB.cell 2 _ rfl; have hB_3 := hB.cell 3 _ rfl; have hB_4 := hB.cell 4 _ rfl; have hC_l := hC.lt; have hC_0 := hC.cell 0 _ rfl; have hC_1 := hC.cell 1 _ rfl; have hC_2 := hC.cell 2 _ rfl; have hC_3 := hC.cell 3 _ rfl; have hC_4 := hC.cell 4 _ rfl; rw [g1]) | (go_at_call 95; with_reducible refine (spec_cmFault p' m' v' b' o' _ hg2).mono ?_; rintro e w1 ⟨rfl, hb⟩; replace hW := (by first | exact hW.call hb | exact hW.drew.call hb | exact (hW.alloc _).call hb | exact (hW.alloc _).drew.call hb | exact (hW.drewN _).call hb | exact (hW.drew.alloc _).call hb | exact ((hW.alloc _).alloc _).call hb | exact ((hW.alloc _).alloc _).drew.call hb | exact (((hW.alloc _).alloc _).alloc _).call hb); replace hB := (by first | exact hB.keep hb | exact hB.drew.keep hb | exact (hB.alloc _).keep hb | exact (hB.alloc _).drew.keep hb | exact (hB.drewN _).keep hb | exact (hB.drew.alloc _).keep hb | exact ((hB.alloc _).alloc _).keep hb | exact ((hB.alloc _).alloc _).drew.keep hb | exact (((hB.alloc _).alloc _).alloc _).keep hb); replace hC := (by first | exact hC.keep hb | exact hC.drew.keep hb | exact (hC.alloc _).keep hb | exact (hC.alloc _).drew.keep hb | exact (hC.drewN _).keep hb | exact (hC.drew.alloc _).keep hb | exact ((hC.alloc _).alloc _).keep hb | exact ((hC.alloc _).alloc _).drew.keep hb | exact (((hC.alloc _).alloc _).alloc _).keep hb); clear hB_l hB_0 hB_1 hB_2 hB_3 hB_4 hC_l hC_0 hC_1 hC_2 hC_3 hC_4; have hB_l := hB.lt; have hB_0 := hB.cell 0 _ rfl; have hB_1 := hB.cell 1 _ rfl; have hB_2 := hB.cell 2 _ rfl; have hB_3 := hB.cell 3 _ rfl; have hB_4 := hB.cell 4 _ rfl; have hC_l := hC.lt; have hC_0 := hC.cell 0 _ rfl; have hC_1 := hC.cell 1 _ rfl; have hC_2 := hC.cell 2 _ rfl; have hC_3 := hC.cell 3 _ rfl; have hC_4 := hC.cell 4 _ rfl; rw [g2]))
  go_wp2_with fail
  refine hK.out _ _ ?_ (fun hHeld => ?_)
  · (try dsimp only); exact ⟨hB_0, hB_1, hB_2, hB_3, hB_4, hC_0, hC_1, hC_2, hC_3, hC_4⟩
  clear hK K
  try simp only [Act.put, List.setIfInBounds_toArray, List.set_cons_zero, List.set_cons_succ]
  refine wpAnyH_ready (rs := [8]) (by kernel_rfl) (by simp) ?_
  refine AllReadyH.cons rfl (fun K hK => ?_) AllReadyH.nil
  go_simp
  (first | (go_at_call 94; refine (spec_cmPair _ _ _ _ _ _ _ _ _ _ _).mono ?_; rintro e w1 ⟨rfl, hb⟩; replace hW := (by first | exact hW.call hb | exact hW.drew.call hb | exact (hW.alloc _).call hb | exact (hW.alloc _).drew.call hb | exact (hW.drewN _).call hb | exact (hW.drew.alloc _).call hb | exact ((hW.alloc _).alloc _).call hb | exact ((hW.alloc _).alloc _).drew.call hb | exact (((hW.alloc _).alloc _).alloc _).call hb); replace hB := (by first | exact hB.keep hb | exact hB.drew.keep hb | exact (hB.alloc _).keep hb | exact (hB.alloc _).drew.keep hb | exact (hB.drewN _).keep hb | exact (hB.drew.alloc _).keep hb | exact ((hB.alloc _).alloc _).keep hb | exact ((hB.alloc _).alloc _).drew.keep hb | exact (((hB.alloc _).alloc _).alloc _).keep hb); replace hC := (by first | exact hC.keep hb | exact hC.drew.keep hb | exact (hC.alloc _).keep hb | exact (hC.alloc _).drew.keep hb | exact (hC.drewN _).keep hb | exact (hC.drew.alloc _).keep hb | exact ((hC.alloc _).alloc _).keep hb | exact ((hC.alloc _).alloc _).drew.keep hb | exact (((hC.alloc _).alloc _).alloc _).keep hb); clear hB_l hB_0 hB_1 hB_2 hB_3 hB_4 hC_l hC_0 hC_1 hC_2 hC_3 hC_4; have hB_l := hB.lt; have hB_0 := hB.cell 0 _ rfl; have hB_1 := hB.cell 1 _ rfl; have hB_2 := hB.cell 2 _ rfl; have hB_3 := hB.cell 3 _ rfl; have hB_4 := hB.cell 4 _ rfl; have hC_l := hC.lt; have hC_0 := hC.cell 0 _ rfl; have hC_1 := hC.cell 1 _ rfl; have hC_2 := hC.cell 2 _ rfl; have hC_3 := hC.cell 3 _ rfl; have hC_4 := hC.cell 4 _ rfl; rw [hp]) | (go_at_call 95; with_reducible refine (spec_cmFault p m v b o _ hg1).mono ?_; rintro e w1 ⟨rfl, hb⟩; replace hW := (by first | exact hW.call hb | exact hW.drew.call hb | exact (hW.alloc _).call hb | exact (hW.alloc _).drew.call hb | exact (hW.drewN _).call hb | exact (hW.drew.alloc _).call hb | exact ((hW.alloc _).alloc _).call hb | exact ((hW.alloc _).alloc _).drew.call hb | exact (((hW.alloc _).alloc _).alloc _).call hb); replace hB := (by first | exact hB.keep hb | exact hB.drew.keep hb | exact (hB.alloc _).keep hb | exact (hB.alloc _).drew.keep hb | exact (hB.drewN _).keep hb | exact (hB.drew.alloc _).keep hb | exact ((hB.alloc _).alloc _).keep hb | exact ((hB.alloc _).alloc _).drew.keep hb | exact (((hB.alloc _).alloc _).alloc _).keep hb); replace hC := (by first | exact hC.keep hb | exact hC.drew.keep hb | exact (hC.alloc _).keep hb | exact (hC.alloc _).drew.keep hb | exact (hC.drewN _).keep hb | exact (hC.drew.alloc _).keep hb | exact ((hC.alloc _).alloc _).keep hb | exact ((hC.alloc _).alloc _).drew.keep hb | exact (((hC.alloc _).alloc _).alloc _).keep hb); clear hB_l hB_0 hB_1 hB_2 hB_3 hB_4 hC_l hC_0 hC_1 hC_2 hC_3 hC_4; have hB_l := hB.lt; have hB_0 := hB.cell 0 _ rfl; have hB_1 := hB.cell 1 _ rfl; have hB_2 := hB.cell 2 _ rfl; have hB_3 := hB.cell 3 _ rfl; have hB_4 := hB.cell 4 _ rfl; have hC_l := hC.lt; have hC_0 := hC.cell 0 _ rfl; have hC_1 := hC.cell 1 _ rfl; have hC_2 := hC.cell 2 _ rfl; have hC_3 := hC.cell 3 _ rfl; have hC_4 := hC.cell 4 _ rfl; rw [g1]) | (go_at_call 95; with_reducible refine (spec_cmFault p' m' v' b' o' _ hg2).mono ?_; rintro e w1 ⟨rfl, hb⟩; replace hW := (by first | exact hW.call hb | exact hW.drew.call hb | exact (hW.alloc _).call hb | exact (hW.alloc _).drew.call hb | exact (hW.drewN _).call hb | exact (hW.drew.alloc _).call hb | exact ((hW.alloc _).alloc _).call hb | exact ((hW.alloc _).alloc _).drew.call hb | exact (((hW.alloc _).alloc _).alloc _).call hb); replace hB := (by first | exact hB.keep hb | exact hB.drew.keep hb | exact (hB.alloc _).keep hb | exact (hB.alloc _).drew.keep hb | exact (hB.drewN _).keep hb | exact (hB.drew.alloc _).keep hb | exact ((hB.alloc _).alloc _).keep hb | exact ((hB.alloc _).alloc _).drew.keep hb | exact (((hB.alloc _).alloc _).alloc _).keep hb); replace hC := (by first | exact hC.keep hb | exact hC.drew.keep hb | exact (hC.alloc _).keep hb | exact (hC.alloc _).drew.keep hb | exact (hC.drewN _).keep hb | exact (hC.drew.alloc _).keep hb | exact ((hC.alloc _).alloc _).keep hb | exact ((hC.alloc _).alloc _).drew.keep hb | exact (((hC.alloc _).alloc _).alloc _).keep hb); clear hB_l hB_0 hB_1 hB_2 hB_3 hB_4 hC_l hC_0 hC_1 hC_2 hC_3 hC_4; have hB_l := hB.lt; have hB_0 := hB.cell 0 _ rfl; have hB_1 := hB.cell 1 _ rfl; have hB_2 := hB.cell 2 _ rfl; have hB_3 := hB.cell 3 _ rfl; have hB_4 := hB.cell 4 _ rfl; have hC_l := hC.lt; have hC_0 := hC.cell 0 _ rfl; have hC_1 := hC.cell 1 _ rfl; have hC_2 := hC.cell 2 _ rfl; have hC_3 := hC.cell 3 _ rfl; have hC_4 := hC.cell 4 _ rfl; rw [g2]))
  go_wp2_with fail
  refine hK.out _ _ ?_ (fun hHeld => ?_)
  · (try dsimp only); exact ⟨hB_0, hB_1, hB_2, hB_3, hB_4, hC_0, hC_1, hC_2, hC_3, hC_4⟩
  clear hK K
  try simp only [Act.put, List.setIfInBounds_toArray, List.set_cons_zero, List.set_cons_succ]
  refine held_take (i := 9) (d := 17) (v := ?_) rfl rfl (by kernel_rfl) (by kernel_rfl) (by kernel_rfl) (fun _ _ _ h => h) (Or.inl ⟨by rfl, ?_⟩) (by assumption) ?_
  rotate_left
  · (intro w hSw; (try dsimp only at hSw); go_simp; (try with_reducible rfl))
  simp only [List.set_cons_zero, List.set_cons_succ]
  refine held_take (i := 10) (d := 18) (v := ?_) rfl rfl (by kernel_rfl) (by kernel_rfl) (by kernel_rfl) (fun _ _ _ h => h) (Or.inl ⟨by rfl, ?_⟩) (by assumption) ?_
  rotate_left
  · (intro w hSw; (try dsimp only at hSw); go_simp; (try with_reducible rfl))
  simp only [List.set_cons_zero, List.set_cons_succ]
  refine held_take (i := 11) (d := 19) (v := ?_) rfl rfl (by kernel_rfl) (by kernel_rfl) (by kernel_rfl) (fun _ _ _ h => h) (Or.inl ⟨by rfl, ?_⟩) (by assumption) ?_
  rotate_left
  · (intro w hSw; (try dsimp only at hSw); go_simp; (try with_reducible rfl))
  simp only [List.set_cons_zero, List.set_cons_succ]
  refine held_take (i := 12) (d := 20) (v := ?_) rfl rfl (by kernel_rfl) (by kernel_rfl) (by kernel_rfl) (fun _ _ _ h => h) (Or.inl ⟨by rfl, ?_⟩) (by assumption) ?_
  rotate_left
  · (intro w hSw; (try dsimp only at hSw); go_simp; (try with_reducible rfl))
  simp only [List.set_cons_zero, List.set_cons_succ]
  refine held_take (i := 13) (d := 21) (v := undef) rfl rfl (by kernel_rfl) (by kernel_rfl) (by kernel_rfl) (fun _ _ _ h => h) (Or.inr ⟨by rfl, rfl⟩) (by assumption) ?_
  simp only [List.set_cons_zero, List.set_cons_succ]
  refine held_take (i := 14) (d := 22) (v := undef) rfl rfl (by kernel_rfl) (by kernel_rfl) (by kernel_rfl) (fun _ _ _ h => h) (Or.inr ⟨by rfl, rfl⟩) (by assumption) ?_
  simp only [List.set_cons_zero, List.set_cons_succ]
  refine held_take (i := 15) (d := 23) (v := undef) rfl rfl (by kernel_rfl) (by kernel_rfl) (by kernel_rfl) (fun _ _ _ h => h) (Or.inr ⟨by rfl, rfl⟩) (by assumption) ?_
  simp only [List.set_cons_zero, List.set_cons_succ]
  refine held_take (i := 16) (d := 24) (v := ?_) rfl rfl (by kernel_rfl) (by kernel_rfl) (by kernel_rfl) (fun _ _ _ h => h) (Or.inl ⟨by rfl, ?_⟩) (by assumption) ?_
  rotate_left
  · (intro w hSw; (try dsimp only at hSw); go_simp; (try with_reducible rfl))
  simp only [List.set_cons_zero, List.set_cons_succ]
  refine wpAnyH_done (by kernel_rfl) ?_ _
  go_wp2
  go_ret2
  exact ⟨by simp [coinF, coinB, h1], hW⟩
set_option maxHeartbeats 4000000 in
theorem spec_CommonCoin_tf (p m v b : Int) (o : Bool) (p' m' v' b' : Int) (o' : Bool) (n : Int) (w : World) (hp : pairB p m v b o p' m' v' b' o' = true) (h1 : faultB p m v b o = true) (h2 : faultB p' m' v' b' o' = false) :
    Calls Try.prog 28 #[.agg #[.int .i64 p, .int .i64 m, .int .i64 v, .int .i64 b, .bool o], .agg #[.int .i64 p', .int .i64 m', .int .i64 v', .int .i64 b', .bool o'], .int .i64 n] w fun e w' => e = .returned (.tuple #[.int .i64 (coinF p m v b o p' m' v' b' o' n), .bool (coinB p m v b o p' m' v' b' o' n)]) ∧ Bl w w' := by
  have hW := ((Bl.refl w).alloc (.cells #[.int .i64 p, .int .i64 m, .int .i64 v, .int .i64 b, .bool o] 38)).alloc (.cells #[.int .i64 p', .int .i64 m', .int .i64 v', .int .i64 b', .bool o'] 38)
  have hB := (Blk.new w 38 #[.int .i64 p, .int .i64 m, .int .i64 v, .int .i64 b, .bool o]).alloc (.cells #[.int .i64 p', .int .i64 m', .int .i64 v', .int .i64 b', .bool o'] 38)
  have hC : Blk _ (w.heap.size + 1) _ _ := Blk.new (w.alloc (.cells #[.int .i64 p, .int .i64 m, .int .i64 v, .int .i64 b, .bool o] 38)) 38 #[.int .i64 p', .int .i64 m', .int .i64 v', .int .i64 b', .bool o']
  have hB_l := hB.lt
  have hB_0 := hB.cell 0 _ rfl
  have hB_1 := hB.cell 1 _ rfl
  have hB_2 := hB.cell 2 _ rfl
  have hB_3 := hB.cell 3 _ rfl
  have hB_4 := hB.cell 4 _ rfl
  have hC_l := hC.lt
  have hC_0 := hC.cell 0 _ rfl
  have hC_1 := hC.cell 1 _ rfl
  have hC_2 := hC.cell 2 _ rfl
  have hC_3 := hC.cell 3 _ rfl
  have hC_4 := hC.cell 4 _ rfl
  obtain ⟨hg1, hg2⟩ := pairB_good hp
  have hv1 := good_bd hg1
  have hv2 := good_bd hg2
  have q0 : IntKind.i64.wrap 0 = 0 := by decide
  have q1 : IntKind.i64.wrap 1 = 1 := by decide
  have q2 : IntKind.i64.wrap 2 = 2 := by decide
  have g1 := faultN_t h1
  have g2 := faultN_f h2
  go_enter Try.func28, Try.ntmps28
  go_wp2
  refine wp_region_held_drew (S := (fun w' => w'.cell? ⟨w.heap.size, 0, none⟩ = some (.int .i64 p) ∧ w'.cell? ⟨w.heap.size, 1, none⟩ = some (.int .i64 m) ∧ w'.cell? ⟨w.heap.size, 2, none⟩ = some (.int .i64 v) ∧ w'.cell? ⟨w.heap.size, 3, none⟩ = some (.int .i64 b) ∧ w'.cell? ⟨w.heap.size, 4, none⟩ = some (.bool o) ∧ w'.cell? ⟨w.heap.size + 1, 0, none⟩ = some (.int .i64 p') ∧ w'.cell? ⟨w.heap.size + 1, 1, none⟩ = some (.int .i64 m') ∧ w'.cell? ⟨w.heap.size + 1, 2, none⟩ = some (.int .i64 v') ∧ w'.cell? ⟨w.heap.size + 1, 3, none⟩ = some (.int .i64 b') ∧ w'.cell? ⟨w.heap.size + 1, 4, none⟩ = some (.bool o'))) (by kernel_rfl) ?_ (fun hHeld => ?_)
  · (try dsimp only); exact ⟨hB_0, hB_1, hB_2, hB_3, hB_4, hC_0, hC_1, hC_2, hC_3, hC_4⟩
  refine held_take (i := 0) (d := 8) (v := ?_) rfl rfl (by kernel_rfl) (by kernel_rfl) (by kernel_rfl) (fun _ _ _ h => h) (Or.inl ⟨by rfl, ?_⟩) (by assumption) ?_
  rotate_left
  · (intro w hSw; (try dsimp only at hSw); go_simp; (try with_reducible rfl))
  simp only [List.set_cons_zero, List.set_cons_succ]
  refine held_take (i := 1) (d := 9) (v := ?_) rfl rfl (by kernel_rfl) (by kernel_rfl) (by kernel_rfl) (fun _ _ _ h => h) (Or.inl ⟨by rfl, ?_⟩) (by assumption) ?_
  rotate_left
  · (intro w hSw; (try dsimp only at hSw); go_simp; (try with_reducible rfl))
  simp only [List.set_cons_zero, List.set_cons_succ]
  refine wpAnyH_ready (rs := [2]) (by kernel_rfl) (by simp) ?_
  refine AllReadyH.cons rfl (fun K hK => ?_) AllReadyH.nil
  go_simp
  (first | (go_at_call 94; refine (spec_cmPair _ _ _ _ _ _ _ _ _ _ _).mono ?_; rintro e w1 ⟨rfl, hb⟩; replace hW := (by first | exact hW.call hb | exact hW.drew.call hb | exact (hW.alloc _).call hb | exact (hW.alloc _).drew.call hb | exact (hW.drewN _).call hb | exact (hW.drew.alloc _).call hb | exact ((hW.alloc _).alloc _).call hb | exact ((hW.alloc _).alloc _).drew.call hb | exact (((hW.alloc _).alloc _).alloc _).call hb); replace hB := (by first | exact hB.keep hb | exact hB.drew.keep hb | exact (hB.alloc _).keep hb | exact (hB.alloc _).drew.keep hb | exact (hB.drewN _).keep hb | exact (hB.drew.alloc _).keep hb | exact ((hB.alloc _).alloc _).keep hb | exact ((hB.alloc _).alloc _).drew.keep hb | exact (((hB.alloc _).alloc _).alloc _).keep hb); replace hC := (by first | exact hC.keep hb | exact hC.drew.keep hb | exact (hC.alloc _).keep hb | exact (hC.alloc _).drew.keep hb | exact (hC.drewN _).keep hb | exact (hC.drew.alloc _).keep hb | exact ((hC.alloc _).alloc _).keep hb | exact ((hC.alloc _).alloc _).drew.keep hb | exact (((hC.alloc _).alloc _).alloc _).keep hb); clear hB_l hB_0 hB_1 hB_2 hB_3 hB_4 hC_l hC_0 hC_1 hC_2 hC_3 hC_4; have hB_l := hB.lt; have hB_0 := hB.cell 0 _ rfl; have hB_1 := hB.cell 1 _ rfl; have hB_2 := hB.cell 2 _ rfl; have hB_3 := hB.cell 3 _ rfl; have hB_4 := hB.cell 4 _ rfl; have hC_l := hC.lt; have hC_0 := hC.cell 0 _ rfl; have hC_1 := hC.cell 1 _ rfl; have hC_2 := hC.cell 2 _ rfl; have hC_3 := hC.cell 3 _ rfl; have hC_4 := hC.cell 4 _ rfl; rw [hp]) | (go_at_call 95; with_reducible refine (spec_cmFault p m v b o _ hg1).mono ?_; rintro e w1 ⟨rfl, hb⟩; replace hW := (by first | exact hW.call hb | exact hW.drew.call hb | exact (hW.alloc _).call hb | exact (hW.alloc _).drew.call hb | exact (hW.drewN _).call hb | exact (hW.drew.alloc _).call hb | exact ((hW.alloc _).alloc _).call hb | exact ((hW.alloc _).alloc _).drew.call hb | exact (((hW.alloc _).alloc _).alloc _).call hb); replace hB := (by first | exact hB.keep hb | exact hB.drew.keep hb | exact (hB.alloc _).keep hb | exact (hB.alloc _).drew.keep hb | exact (hB.drewN _).keep hb | exact (hB.drew.alloc _).keep hb | exact ((hB.alloc _).alloc _).keep hb | exact ((hB.alloc _).alloc _).drew.keep hb | exact (((hB.alloc _).alloc _).alloc _).keep hb); replace hC := (by first | exact hC.keep hb | exact hC.drew.keep hb | exact (hC.alloc _).keep hb | exact (hC.alloc _).drew.keep hb | exact (hC.drewN _).keep hb | exact (hC.drew.alloc _).keep hb | exact ((hC.alloc _).alloc _).keep hb | exact ((hC.alloc _).alloc _).drew.keep hb | exact (((hC.alloc _).alloc _).alloc _).keep hb); clear hB_l hB_0 hB_1 hB_2 hB_3 hB_4 hC_l hC_0 hC_1 hC_2 hC_3 hC_4; have hB_l := hB.lt; have hB_0 := hB.cell 0 _ rfl; have hB_1 := hB.cell 1 _ rfl; have hB_2 := hB.cell 2 _ rfl; have hB_3 := hB.cell 3 _ rfl; have hB_4 := hB.cell 4 _ rfl; have hC_l := hC.lt; have hC_0 := hC.cell 0 _ rfl; have hC_1 := hC.cell 1 _ rfl; have hC_2 := hC.cell 2 _ rfl; have hC_3 := hC.cell 3 _ rfl; have hC_4 := hC.cell 4 _ rfl; rw [g1]) | (go_at_call 95; with_reducible refine (spec_cmFault p' m' v' b' o' _ hg2).mono ?_; rintro e w1 ⟨rfl, hb⟩; replace hW := (by first | exact hW.call hb | exact hW.drew.call hb | exact (hW.alloc _).call hb | exact (hW.alloc _).drew.call hb | exact (hW.drewN _).call hb | exact (hW.drew.alloc _).call hb | exact ((hW.alloc _).alloc _).call hb | exact ((hW.alloc _).alloc _).drew.call hb | exact (((hW.alloc _).alloc _).alloc _).call hb); replace hB := (by first | exact hB.keep hb | exact hB.drew.keep hb | exact (hB.alloc _).keep hb | exact (hB.alloc _).drew.keep hb | exact (hB.drewN _).keep hb | exact (hB.drew.alloc _).keep hb | exact ((hB.alloc _).alloc _).keep hb | exact ((hB.alloc _).alloc _).drew.keep hb | exact (((hB.alloc _).alloc _).alloc _).keep hb); replace hC := (by first | exact hC.keep hb | exact hC.drew.keep hb | exact (hC.alloc _).keep hb | exact (hC.alloc _).drew.keep hb | exact (hC.drewN _).keep hb | exact (hC.drew.alloc _).keep hb | exact ((hC.alloc _).alloc _).keep hb | exact ((hC.alloc _).alloc _).drew.keep hb | exact (((hC.alloc _).alloc _).alloc _).keep hb); clear hB_l hB_0 hB_1 hB_2 hB_3 hB_4 hC_l hC_0 hC_1 hC_2 hC_3 hC_4; have hB_l := hB.lt; have hB_0 := hB.cell 0 _ rfl; have hB_1 := hB.cell 1 _ rfl; have hB_2 := hB.cell 2 _ rfl; have hB_3 := hB.cell 3 _ rfl; have hB_4 := hB.cell 4 _ rfl; have hC_l := hC.lt; have hC_0 := hC.cell 0 _ rfl; have hC_1 := hC.cell 1 _ rfl; have hC_2 := hC.cell 2 _ rfl; have hC_3 := hC.cell 3 _ rfl; have hC_4 := hC.cell 4 _ rfl; rw [g2]))
  go_wp2_with fail
  refine hK.out _ _ ?_ (fun hHeld => ?_)
  · (try dsimp only); exact ⟨hB_0, hB_1, hB_2, hB_3, hB_4, hC_0, hC_1, hC_2, hC_3, hC_4⟩
  clear hK K
  try simp only [Act.put, List.setIfInBounds_toArray, List.set_cons_zero, List.set_cons_succ]
  refine held_take (i := 3) (d := 11) (v := ?_) rfl rfl (by kernel_rfl) (by kernel_rfl) (by kernel_rfl) (fun _ _ _ h => h) (Or.inl ⟨by rfl, ?_⟩) (by assumption) ?_
  rotate_left
  · (intro w hSw; (try dsimp only at hSw); go_simp; (try with_reducible rfl))
  simp only [List.set_cons_zero, List.set_cons_succ]
  refine held_take (i := 4) (d := 12) (v := ?_) rfl rfl (by kernel_rfl) (by kernel_rfl) (by kernel_rfl) (fun _ _ _ h => h) (Or.inl ⟨by rfl, ?_⟩) (by assumption) ?_
  rotate_left
  · (intro w hSw; (try dsimp only at hSw); go_simp; (try with_reducible rfl))
  simp only [List.set_cons_zero, List.set_cons_succ]
  refine held_take (i := 5) (d := 13) (v := ?_) rfl rfl (by kernel_rfl) (by kernel_rfl) (by kernel_rfl) (fun _ _ _ h => h) (Or.inl ⟨by rfl, ?_⟩) (by assumption) ?_
  rotate_left
  · (intro w hSw; (try dsimp only at hSw); go_simp; (try with_reducible rfl))
  simp only [List.set_cons_zero, List.set_cons_succ]
  refine held_take (i := 7) (d := 15) (v := ?_) rfl rfl (by kernel_rfl) (by kernel_rfl) (by kernel_rfl) (fun _ _ _ h => h) (Or.inl ⟨by rfl, ?_⟩) (by assumption) ?_
  rotate_left
  · (intro w hSw; (try dsimp only at hSw); go_simp; (try with_reducible rfl))
  simp only [List.set_cons_zero, List.set_cons_succ]
  refine wpAnyH_ready (rs := [6]) (by kernel_rfl) (by simp) ?_
  refine AllReadyH.cons rfl (fun K hK => ?_) AllReadyH.nil
  go_simp
  (first | (go_at_call 94; refine (spec_cmPair _ _ _ _ _ _ _ _ _ _ _).mono ?_; rintro e w1 ⟨rfl, hb⟩; replace hW := (by first | exact hW.call hb | exact hW.drew.call hb | exact (hW.alloc _).call hb | exact (hW.alloc _).drew.call hb | exact (hW.drewN _).call hb | exact (hW.drew.alloc _).call hb | exact ((hW.alloc _).alloc _).call hb | exact ((hW.alloc _).alloc _).drew.call hb | exact (((hW.alloc _).alloc _).alloc _).call hb); replace hB := (by first | exact hB.keep hb | exact hB.drew.keep hb | exact (hB.alloc _).keep hb | exact (hB.alloc _).drew.keep hb | exact (hB.drewN _).keep hb | exact (hB.drew.alloc _).keep hb | exact ((hB.alloc _).alloc _).keep hb | exact ((hB.alloc _).alloc _).drew.keep hb | exact (((hB.alloc _).alloc _).alloc _).keep hb); replace hC := (by first | exact hC.keep hb | exact hC.drew.keep hb | exact (hC.alloc _).keep hb | exact (hC.alloc _).drew.keep hb | exact (hC.drewN _).keep hb | exact (hC.drew.alloc _).keep hb | exact ((hC.alloc _).alloc _).keep hb | exact ((hC.alloc _).alloc _).drew.keep hb | exact (((hC.alloc _).alloc _).alloc _).keep hb); clear hB_l hB_0 hB_1 hB_2 hB_3 hB_4 hC_l hC_0 hC_1 hC_2 hC_3 hC_4; have hB_l := hB.lt; have hB_0 := hB.cell 0 _ rfl; have hB_1 := hB.cell 1 _ rfl; have hB_2 := hB.cell 2 _ rfl; have hB_3 := hB.cell 3 _ rfl; have hB_4 := hB.cell 4 _ rfl; have hC_l := hC.lt; have hC_0 := hC.cell 0 _ rfl; have hC_1 := hC.cell 1 _ rfl; have hC_2 := hC.cell 2 _ rfl; have hC_3 := hC.cell 3 _ rfl; have hC_4 := hC.cell 4 _ rfl; rw [hp]) | (go_at_call 95; with_reducible refine (spec_cmFault p m v b o _ hg1).mono ?_; rintro e w1 ⟨rfl, hb⟩; replace hW := (by first | exact hW.call hb | exact hW.drew.call hb | exact (hW.alloc _).call hb | exact (hW.alloc _).drew.call hb | exact (hW.drewN _).call hb | exact (hW.drew.alloc _).call hb | exact ((hW.alloc _).alloc _).call hb | exact ((hW.alloc _).alloc _).drew.call hb | exact (((hW.alloc _).alloc _).alloc _).call hb); replace hB := (by first | exact hB.keep hb | exact hB.drew.keep hb | exact (hB.alloc _).keep hb | exact (hB.alloc _).drew.keep hb | exact (hB.drewN _).keep hb | exact (hB.drew.alloc _).keep hb | exact ((hB.alloc _).alloc _).keep hb | exact ((hB.alloc _).alloc _).drew.keep hb | exact (((hB.alloc _).alloc _).alloc _).keep hb); replace hC := (by first | exact hC.keep hb | exact hC.drew.keep hb | exact (hC.alloc _).keep hb | exact (hC.alloc _).drew.keep hb | exact (hC.drewN _).keep hb | exact (hC.drew.alloc _).keep hb | exact ((hC.alloc _).alloc _).keep hb | exact ((hC.alloc _).alloc _).drew.keep hb | exact (((hC.alloc _).alloc _).alloc _).keep hb); clear hB_l hB_0 hB_1 hB_2 hB_3 hB_4 hC_l hC_0 hC_1 hC_2 hC_3 hC_4; have hB_l := hB.lt; have hB_0 := hB.cell 0 _ rfl; have hB_1 := hB.cell 1 _ rfl; have hB_2 := hB.cell 2 _ rfl; have hB_3 := hB.cell 3 _ rfl; have hB_4 := hB.cell 4 _ rfl; have hC_l := hC.lt; have hC_0 := hC.cell 0 _ rfl; have hC_1 := hC.cell 1 _ rfl; have hC_2 := hC.cell 2 _ rfl; have hC_3 := hC.cell 3 _ rfl; have hC_4 := hC.cell 4 _ rfl; rw [g1]) | (go_at_call 95; with_reducible refine (spec_cmFault p' m' v' b' o' _ hg2).mono ?_; rintro e w1 ⟨rfl, hb⟩; replace hW := (by first | exact hW.call hb | exact hW.drew.call hb | exact (hW.alloc _).call hb | exact (hW.alloc _).drew.call hb | exact (hW.drewN _).call hb | exact (hW.drew.alloc _).call hb | exact ((hW.alloc _).alloc _).call hb | exact ((hW.alloc _).alloc _).drew.call hb | exact (((hW.alloc _).alloc _).alloc _).call hb); replace hB := (by first | exact hB.keep hb | exact hB.drew.keep hb | exact (hB.alloc _).keep hb | exact (hB.alloc _).drew.keep hb | exact (hB.drewN _).keep hb | exact (hB.drew.alloc _).keep hb | exact ((hB.alloc _).alloc _).keep hb | exact ((hB.alloc _).alloc _).drew.keep hb | exact (((hB.alloc _).alloc _).alloc _).keep hb); replace hC := (by first | exact hC.keep hb | exact hC.drew.keep hb | exact (hC.alloc _).keep hb | exact (hC.alloc _).drew.keep hb | exact (hC.drewN _).keep hb | exact (hC.drew.alloc _).keep hb | exact ((hC.alloc _).alloc _).keep hb | exact ((hC.alloc _).alloc _).drew.keep hb | exact (((hC.alloc _).alloc _).alloc _).keep hb); clear hB_l hB_0 hB_1 hB_2 hB_3 hB_4 hC_l hC_0 hC_1 hC_2 hC_3 hC_4; have hB_l := hB.lt; have hB_0 := hB.cell 0 _ rfl; have hB_1 := hB.cell 1 _ rfl; have hB_2 := hB.cell 2 _ rfl; have hB_3 := hB.cell 3 _ rfl; have hB_4 := hB.cell 4 _ rfl; have hC_l := hC.lt; have hC_0 := hC.cell 0 _ rfl; have hC_1 := hC.cell 1 _ rfl; have hC_2 := hC.cell 2 _ rfl; have hC_3 := hC.cell 3 _ rfl; have hC_4 := hC.cell 4 _ rfl; rw [g2]))
  go_wp2_with fail
  refine hK.out _ _ ?_ (fun hHeld => ?_)
  · (try dsimp only); exact ⟨hB_0, hB_1, hB_2, hB_3, hB_4, hC_0, hC_1, hC_2, hC_3, hC_4⟩
  clear hK K
  try simp only [Act.put, List.setIfInBounds_toArray, List.set_cons_zero, List.set_cons_succ]
  refine wpAnyH_ready (rs := [8]) (by kernel_rfl) (by simp) ?_
  refine AllReadyH.cons rfl (fun K hK => ?_) AllReadyH.nil
  go_simp
  (first | (go_at_call 94; refine (spec_cmPair _ _ _ _ _ _ _ _ _ _ _).mono ?_; rintro e w1 ⟨rfl, hb⟩; replace hW := (by first | exact hW.call hb | exact hW.drew.call hb | exact (hW.alloc _).call hb | exact (hW.alloc _).drew.call hb | exact (hW.drewN _).call hb | exact (hW.drew.alloc _).call hb | exact ((hW.alloc _).alloc _).call hb | exact ((hW.alloc _).alloc _).drew.call hb | exact (((hW.alloc _).alloc _).alloc _).call hb); replace hB := (by first | exact hB.keep hb | exact hB.drew.keep hb | exact (hB.alloc _).keep hb | exact (hB.alloc _).drew.keep hb | exact (hB.drewN _).keep hb | exact (hB.drew.alloc _).keep hb | exact ((hB.alloc _).alloc _).keep hb | exact ((hB.alloc _).alloc _).drew.keep hb | exact (((hB.alloc _).alloc _).alloc _).keep hb); replace hC := (by first | exact hC.keep hb | exact hC.drew.keep hb | exact (hC.alloc _).keep hb | exact (hC.alloc _).drew.keep hb | exact (hC.drewN _).keep hb | exact (hC.drew.alloc _).keep hb | exact ((hC.alloc _).alloc _).keep hb | exact ((hC.alloc _).alloc _).drew.keep hb | exact (((hC.alloc _).alloc _).alloc _).keep hb); clear hB_l hB_0 hB_1 hB_2 hB_3 hB_4 hC_l hC_0 hC_1 hC_2 hC_3 hC_4; have hB_l := hB.lt; have hB_0 := hB.cell 0 _ rfl; have hB_1 := hB.cell 1 _ rfl; have hB_2 := hB.cell 2 _ rfl; have hB_3 := hB.cell 3 _ rfl; have hB_4 := hB.cell 4 _ rfl; have hC_l := hC.lt; have hC_0 := hC.cell 0 _ rfl; have hC_1 := hC.cell 1 _ rfl; have hC_2 := hC.cell 2 _ rfl; have hC_3 := hC.cell 3 _ rfl; have hC_4 := hC.cell 4 _ rfl; rw [hp]) | (go_at_call 95; with_reducible refine (spec_cmFault p m v b o _ hg1).mono ?_; rintro e w1 ⟨rfl, hb⟩; replace hW := (by first | exact hW.call hb | exact hW.drew.call hb | exact (hW.alloc _).call hb | exact (hW.alloc _).drew.call hb | exact (hW.drewN _).call hb | exact (hW.drew.alloc _).call hb | exact ((hW.alloc _).alloc _).call hb | exact ((hW.alloc _).alloc _).drew.call hb | exact (((hW.alloc _).alloc _).alloc _).call hb); replace hB := (by first | exact hB.keep hb | exact hB.drew.keep hb | exact (hB.alloc _).keep hb | exact (hB.alloc _).drew.keep hb | exact (hB.drewN _).keep hb | exact (hB.drew.alloc _).keep hb | exact ((hB.alloc _).alloc _).keep hb | exact ((hB.alloc _).alloc _).drew.keep hb | exact (((hB.alloc _).alloc _).alloc _).keep hb); replace hC := (by first | exact hC.keep hb | exact hC.drew.keep hb | exact (hC.alloc _).keep hb | exact (hC.alloc _).drew.keep hb | exact (hC.drewN _).keep hb | exact (hC.drew.alloc _).keep hb | exact ((hC.alloc _).alloc _).keep hb | exact ((hC.alloc _).alloc _).drew.keep hb | exact (((hC.alloc _).alloc _).alloc _).keep hb); clear hB_l hB_0 hB_1 hB_2 hB_3 hB_4 hC_l hC_0 hC_1 hC_2 hC_3 hC_4; have hB_l := hB.lt; have hB_0 := hB.cell 0 _ rfl; have hB_1 := hB.cell 1 _ rfl; have hB_2 := hB.cell 2 _ rfl; have hB_3 := hB.cell 3 _ rfl; have hB_4 := hB.cell 4 _ rfl; have hC_l := hC.lt; have hC_0 := hC.cell 0 _ rfl; have hC_1 := hC.cell 1 _ rfl; have hC_2 := hC.cell 2 _ rfl; have hC_3 := hC.cell 3 _ rfl; have hC_4 := hC.cell 4 _ rfl; rw [g1]) | (go_at_call 95; with_reducible refine (spec_cmFault p' m' v' b' o' _ hg2).mono ?_; rintro e w1 ⟨rfl, hb⟩; replace hW := (by first | exact hW.call hb | exact hW.drew.call hb | exact (hW.alloc _).call hb | exact (hW.alloc _).drew.call hb | exact (hW.drewN _).call hb | exact (hW.drew.alloc _).call hb | exact ((hW.alloc _).alloc _).call hb | exact ((hW.alloc _).alloc _).drew.call hb | exact (((hW.alloc _).alloc _).alloc _).call hb); replace hB := (by first | exact hB.keep hb | exact hB.drew.keep hb | exact (hB.alloc _).keep hb | exact (hB.alloc _).drew.keep hb | exact (hB.drewN _).keep hb | exact (hB.drew.alloc _).keep hb | exact ((hB.alloc _).alloc _).keep hb | exact ((hB.alloc _).alloc _).drew.keep hb | exact (((hB.alloc _).alloc _).alloc _).keep hb); replace hC := (by first | exact hC.keep hb | exact hC.drew.keep hb | exact (hC.alloc _).keep hb | exact (hC.alloc _).drew.keep hb | exact (hC.drewN _).keep hb | exact (hC.drew.alloc _).keep hb | exact ((hC.alloc _).alloc _).keep hb | exact ((hC.alloc _).alloc _).drew.keep hb | exact (((hC.alloc _).alloc _).alloc _).keep hb); clear hB_l hB_0 hB_1 hB_2 hB_3 hB_4 hC_l hC_0 hC_1 hC_2 hC_3 hC_4; have hB_l := hB.lt; have hB_0 := hB.cell 0 _ rfl; have hB_1 := hB.cell 1 _ rfl; have hB_2 := hB.cell 2 _ rfl; have hB_3 := hB.cell 3 _ rfl; have hB_4 := hB.cell 4 _ rfl; have hC_l := hC.lt; have hC_0 := hC.cell 0 _ rfl; have hC_1 := hC.cell 1 _ rfl; have hC_2 := hC.cell 2 _ rfl; have hC_3 := hC.cell 3 _ rfl; have hC_4 := hC.cell 4 _ rfl; rw [g2]))
  go_wp2_with fail
  refine hK.out _ _ ?_ (fun hHeld => ?_)
  · (try dsimp only); exact ⟨hB_0, hB_1, hB_2, hB_3, hB_4, hC_0, hC_1, hC_2, hC_3, hC_4⟩
  clear hK K
  try simp only [Act.put, List.setIfInBounds_toArray, List.set_cons_zero, List.set_cons_succ]
  refine held_take (i := 9) (d := 17) (v := ?_) rfl rfl (by kernel_rfl) (by kernel_rfl) (by kernel_rfl) (fun _ _ _ h => h) (Or.inl ⟨by rfl, ?_⟩) (by assumption) ?_
  rotate_left
  · (intro w hSw; (try dsimp only at hSw); go_simp; (try with_reducible rfl))
  simp only [List.set_cons_zero, List.set_cons_succ]
  refine held_take (i := 10) (d := 18) (v := ?_) rfl rfl (by kernel_rfl) (by kernel_rfl) (by kernel_rfl) (fun _ _ _ h => h) (Or.inl ⟨by rfl, ?_⟩) (by assumption) ?_
  rotate_left
  · (intro w hSw; (try dsimp only at hSw); go_simp; (try with_reducible rfl))
  simp only [List.set_cons_zero, List.set_cons_succ]
  refine held_take (i := 11) (d := 19) (v := ?_) rfl rfl (by kernel_rfl) (by kernel_rfl) (by kernel_rfl) (fun _ _ _ h => h) (Or.inl ⟨by rfl, ?_⟩) (by assumption) ?_
  rotate_left
  · (intro w hSw; (try dsimp only at hSw); go_simp; (try with_reducible rfl))
  simp only [List.set_cons_zero, List.set_cons_succ]
  refine held_take (i := 12) (d := 20) (v := ?_) rfl rfl (by kernel_rfl) (by kernel_rfl) (by kernel_rfl) (fun _ _ _ h => h) (Or.inl ⟨by rfl, ?_⟩) (by assumption) ?_
  rotate_left
  · (intro w hSw; (try dsimp only at hSw); go_simp; (try with_reducible rfl))
  simp only [List.set_cons_zero, List.set_cons_succ]
  refine held_take (i := 13) (d := 21) (v := undef) rfl rfl (by kernel_rfl) (by kernel_rfl) (by kernel_rfl) (fun _ _ _ h => h) (Or.inr ⟨by rfl, rfl⟩) (by assumption) ?_
  simp only [List.set_cons_zero, List.set_cons_succ]
  refine held_take (i := 14) (d := 22) (v := undef) rfl rfl (by kernel_rfl) (by kernel_rfl) (by kernel_rfl) (fun _ _ _ h => h) (Or.inr ⟨by rfl, rfl⟩) (by assumption) ?_
  simp only [List.set_cons_zero, List.set_cons_succ]
  refine held_take (i := 15) (d := 23) (v := undef) rfl rfl (by kernel_rfl) (by kernel_rfl) (by kernel_rfl) (fun _ _ _ h => h) (Or.inr ⟨by rfl, rfl⟩) (by assumption) ?_
  simp only [List.set_cons_zero, List.set_cons_succ]
  refine held_take (i := 16) (d := 24) (v := ?_) rfl rfl (by kernel_rfl) (by kernel_rfl) (by kernel_rfl) (fun _ _ _ h => h) (Or.inl ⟨by rfl, ?_⟩) (by assumption) ?_
  rotate_left
  · (intro w hSw; (try dsimp only at hSw); go_simp; (try with_reducible rfl))
  simp only [List.set_cons_zero, List.set_cons_succ]
  refine wpAnyH_done (by kernel_rfl) ?_ _
  go_wp2
  go_ret2
  exact ⟨by simp [coinF, coinB, h1], hW⟩
set_option maxHeartbeats 4000000 in
theorem spec_CommonCoin_ft (p m v b : Int) (o : Bool) (p' m' v' b' : Int) (o' : Bool) (n : Int) (w : World) (hp : pairB p m v b o p' m' v' b' o' = true) (h1 : faultB p m v b o = false) (h2 : faultB p' m' v' b' o' = true) :
    Calls Try.prog 28 #[.agg #[.int .i64 p, .int .i64 m, .int .i64 v, .int .i64 b, .bool o], .agg #[.int .i64 p', .int .i64 m', .int .i64 v', .int .i64 b', .bool o'], .int .i64 n] w fun e w' => e = .returned (.tuple #[.int .i64 (coinF p m v b o p' m' v' b' o' n), .bool (coinB p m v b o p' m' v' b' o' n)]) ∧ Bl w w' := by
  have hW := ((Bl.refl w).alloc (.cells #[.int .i64 p, .int .i64 m, .int .i64 v, .int .i64 b, .bool o] 38)).alloc (.cells #[.int .i64 p', .int .i64 m', .int .i64 v', .int .i64 b', .bool o'] 38)
  have hB := (Blk.new w 38 #[.int .i64 p, .int .i64 m, .int .i64 v, .int .i64 b, .bool o]).alloc (.cells #[.int .i64 p', .int .i64 m', .int .i64 v', .int .i64 b', .bool o'] 38)
  have hC : Blk _ (w.heap.size + 1) _ _ := Blk.new (w.alloc (.cells #[.int .i64 p, .int .i64 m, .int .i64 v, .int .i64 b, .bool o] 38)) 38 #[.int .i64 p', .int .i64 m', .int .i64 v', .int .i64 b', .bool o']
  have hB_l := hB.lt
  have hB_0 := hB.cell 0 _ rfl
  have hB_1 := hB.cell 1 _ rfl
  have hB_2 := hB.cell 2 _ rfl
  have hB_3 := hB.cell 3 _ rfl
  have hB_4 := hB.cell 4 _ rfl
  have hC_l := hC.lt
  have hC_0 := hC.cell 0 _ rfl
  have hC_1 := hC.cell 1 _ rfl
  have hC_2 := hC.cell 2 _ rfl
  have hC_3 := hC.cell 3 _ rfl
  have hC_4 := hC.cell 4 _ rfl
  obtain ⟨hg1, hg2⟩ := pairB_good hp
  have hv1 := good_bd hg1
  have hv2 := good_bd hg2
  have q0 : IntKind.i64.wrap 0 = 0 := by decide
  have q1 : IntKind.i64.wrap 1 = 1 := by decide
  have q2 : IntKind.i64.wrap 2 = 2 := by decide
  have g1 := faultN_f h1
  have g2 := faultN_t h2
  go_enter Try.func28, Try.ntmps28
  go_wp2
  refine wp_region_held_drew (S := (fun w' => w'.cell? ⟨w.heap.size, 0, none⟩ = some (.int .i64 p) ∧ w'.cell? ⟨w.heap.size, 1, none⟩ = some (.int .i64 m) ∧ w'.cell? ⟨w.heap.size, 2, none⟩ = some (.int .i64 v) ∧ w'.cell? ⟨w.heap.size, 3, none⟩ = some (.int .i64 b) ∧ w'.cell? ⟨w.heap.size, 4, none⟩ = some (.bool o) ∧ w'.cell? ⟨w.heap.size + 1, 0, none⟩ = some (.int .i64 p') ∧ w'.cell? ⟨w.heap.size + 1, 1, none⟩ = some (.int .i64 m') ∧ w'.cell? ⟨w.heap.size + 1, 2, none⟩ = some (.int .i64 v') ∧ w'.cell? ⟨w.heap.size + 1, 3, none⟩ = some (.int .i64 b') ∧ w'.cell? ⟨w.heap.size + 1, 4, none⟩ = some (.bool o'))) (by kernel_rfl) ?_ (fun hHeld => ?_)
  · (try dsimp only); exact ⟨hB_0, hB_1, hB_2, hB_3, hB_4, hC_0, hC_1, hC_2, hC_3, hC_4⟩
  refine held_take (i := 0) (d := 8) (v := ?_) rfl rfl (by kernel_rfl) (by kernel_rfl) (by kernel_rfl) (fun _ _ _ h => h) (Or.inl ⟨by rfl, ?_⟩) (by assumption) ?_
  rotate_left
  · (intro w hSw; (try dsimp only at hSw); go_simp; (try with_reducible rfl))
  simp only [List.set_cons_zero, List.set_cons_succ]
  refine held_take (i := 1) (d := 9) (v := ?_) rfl rfl (by kernel_rfl) (by kernel_rfl) (by kernel_rfl) (fun _ _ _ h => h) (Or.inl ⟨by rfl, ?_⟩) (by assumption) ?_
  rotate_left
  · (intro w hSw; (try dsimp only at hSw); go_simp; (try with_reducible rfl))
  simp only [List.set_cons_zero, List.set_cons_succ]
  refine wpAnyH_ready (rs := [2]) (by kernel_rfl) (by simp) ?_
  refine AllReadyH.cons rfl (fun K hK => ?_) AllReadyH.nil
  go_simp
  (first | (go_at_call 94; refine (spec_cmPair _ _ _ _ _ _ _ _ _ _ _).mono ?_; rintro e w1 ⟨rfl, hb⟩; replace hW := (by first | exact hW.call hb | exact hW.drew.call hb | exact (hW.alloc _).call hb | exact (hW.alloc _).drew.call hb | exact (hW.drewN _).call hb | exact (hW.drew.alloc _).call hb | exact ((hW.alloc _).alloc _).call hb | exact ((hW.alloc _).alloc _).drew.call hb | exact (((hW.alloc _).alloc _).alloc _).call hb); replace hB := (by first | exact hB.keep hb | exact hB.drew.keep hb | exact (hB.alloc _).keep hb | exact (hB.alloc _).drew.keep hb | exact (hB.drewN _).keep hb | exact (hB.drew.alloc _).keep hb | exact ((hB.alloc _).alloc _).keep hb | exact ((hB.alloc _).alloc _).drew.keep hb | exact (((hB.alloc _).alloc _).alloc _).keep hb); replace hC := (by first | exact hC.keep hb | exact hC.drew.keep hb | exact (hC.alloc _).keep hb | exact (hC.alloc _).drew.keep hb | exact (hC.drewN _).keep hb | exact (hC.drew.alloc _).keep hb | exact ((hC.alloc _).alloc _).keep hb | exact ((hC.alloc _).alloc _).drew.keep hb | exact (((hC.alloc _).alloc _).alloc _).keep hb); clear hB_l hB_0 hB_1 hB_2 hB_3 hB_4 hC_l hC_0 hC_1 hC_2 hC_3 hC_4; have hB_l := hB.lt; have hB_0 := hB.cell 0 _ rfl; have hB_1 := hB.cell 1 _ rfl; have hB_2 := hB.cell 2 _ rfl; have hB_3 := hB.cell 3 _ rfl; have hB_4 := hB.cell 4 _ rfl; have hC_l := hC.lt; have hC_0 := hC.cell 0 _ rfl; have hC_1 := hC.cell 1 _ rfl; have hC_2 := hC.cell 2 _ rfl; have hC_3 := hC.cell 3 _ rfl; have hC_4 := hC.cell 4 _ rfl; rw [hp]) | (go_at_call 95; with_reducible refine (spec_cmFault p m v b o _ hg1).mono ?_; rintro e w1 ⟨rfl, hb⟩; replace hW := (by first | exact hW.call hb | exact hW.drew.call hb | exact (hW.alloc _).call hb | exact (hW.alloc _).drew.call hb | exact (hW.drewN _).call hb | exact (hW.drew.alloc _).call hb | exact ((hW.alloc _).alloc _).call hb | exact ((hW.alloc _).alloc _).drew.call hb | exact (((hW.alloc _).alloc _).alloc _).call hb); replace hB := (by first | exact hB.keep hb | exact hB.drew.keep hb | exact (hB.alloc _).keep hb | exact (hB.alloc _).drew.keep hb | exact (hB.drewN _).keep hb | exact (hB.drew.alloc _).keep hb | exact ((hB.alloc _).alloc _).keep hb | exact ((hB.alloc _).alloc _).drew.keep hb | exact (((hB.alloc _).alloc _).alloc _).keep hb); replace hC := (by first | exact hC.keep hb | exact hC.drew.keep hb | exact (hC.alloc _).keep hb | exact (hC.alloc _).drew.keep hb | exact (hC.drewN _).keep hb | exact (hC.drew.alloc _).keep hb | exact ((hC.alloc _).alloc _).keep hb | exact ((hC.alloc _).alloc _).drew.keep hb | exact (((hC.alloc _).alloc _).alloc _).keep hb); clear hB_l hB_0 hB_1 hB_2 hB_3 hB_4 hC_l hC_0 hC_1 hC_2 hC_3 hC_4; have hB_l := hB.lt; have hB_0 := hB.cell 0 _ rfl; have hB_1 := hB.cell 1 _ rfl; have hB_2 := hB.cell 2 _ rfl; have hB_3 := hB.cell 3 _ rfl; have hB_4 := hB.cell 4 _ rfl; have hC_l := hC.lt; have hC_0 := hC.cell 0 _ rfl; have hC_1 := hC.cell 1 _ rfl; have hC_2 := hC.cell 2 _ rfl; have hC_3 := hC.cell 3 _ rfl; have hC_4 := hC.cell 4 _ rfl; rw [g1]) | (go_at_call 95; with_reducible refine (spec_cmFault p' m' v' b' o' _ hg2).mono ?_; rintro e w1 ⟨rfl, hb⟩; replace hW := (by first | exact hW.call hb | exact hW.drew.call hb | exact (hW.alloc _).call hb | exact (hW.alloc _).drew.call hb | exact (hW.drewN _).call hb | exact (hW.drew.alloc _).call hb | exact ((hW.alloc _).alloc _).call hb | exact ((hW.alloc _).alloc _).drew.call hb | exact (((hW.alloc _).alloc _).alloc _).call hb); replace hB := (by first | exact hB.keep hb | exact hB.drew.keep hb | exact (hB.alloc _).keep hb | exact (hB.alloc _).drew.keep hb | exact (hB.drewN _).keep hb | exact (hB.drew.alloc _).keep hb | exact ((hB.alloc _).alloc _).keep hb | exact ((hB.alloc _).alloc _).drew.keep hb | exact (((hB.alloc _).alloc _).alloc _).keep hb); replace hC := (by first | exact hC.keep hb | exact hC.drew.keep hb | exact (hC.alloc _).keep hb | exact (hC.alloc _).drew.keep hb | exact (hC.drewN _).keep hb | exact (hC.drew.alloc _).keep hb | exact ((hC.alloc _).alloc _).keep hb | exact ((hC.alloc _).alloc _).drew.keep hb | exact (((hC.alloc _).alloc _).alloc _).keep hb); clear hB_l hB_0 hB_1 hB_2 hB_3 hB_4 hC_l hC_0 hC_1 hC_2 hC_3 hC_4; have hB_l := hB.lt; have hB_0 := hB.cell 0 _ rfl; have hB_1 := hB.cell 1 _ rfl; have hB_2 := hB.cell 2 _ rfl; have hB_3 := hB.cell 3 _ rfl; have hB_4 := hB.cell 4 _ rfl; have hC_l := hC.lt; have hC_0 := hC.cell 0 _ rfl; have hC_1 := hC.cell 1 _ rfl; have hC_2 := hC.cell 2 _ rfl; have hC_3 := hC.cell 3 _ rfl; have hC_4 := hC.cell 4 _ rfl; rw [g2]))
  go_wp2_with fail
  refine hK.out _ _ ?_ (fun hHeld => ?_)
  · (try dsimp only); exact ⟨hB_0, hB_1, hB_2, hB_3, hB_4, hC_0, hC_1, hC_2, hC_3, hC_4⟩
  clear hK K
  try simp only [Act.put, List.setIfInBounds_toArray, List.set_cons_zero, List.set_cons_succ]
  refine held_take (i := 3) (d := 11) (v := ?_) rfl rfl (by kernel_rfl) (by kernel_rfl) (by kernel_rfl) (fun _ _ _ h => h) (Or.inl ⟨by rfl, ?_⟩) (by assumption) ?_
  rotate_left
  · (intro w hSw; (try dsimp only at hSw); go_simp; (try with_reducible rfl))
  simp only [List.set_cons_zero, List.set_cons_succ]
  refine held_take (i := 4) (d := 12) (v := ?_) rfl rfl (by kernel_rfl) (by kernel_rfl) (by kernel_rfl) (fun _ _ _ h => h) (Or.inl ⟨by rfl, ?_⟩) (by assumption) ?_
  rotate_left
  · (intro w hSw; (try dsimp only at hSw); go_simp; (try with_reducible rfl))
  simp only [List.set_cons_zero, List.set_cons_succ]
  refine held_take (i := 5) (d := 13) (v := ?_) rfl rfl (by kernel_rfl) (by kernel_rfl) (by kernel_rfl) (fun _ _ _ h => h) (Or.inl ⟨by rfl, ?_⟩) (by assumption) ?_
  rotate_left
  · (intro w hSw; (try dsimp only at hSw); go_simp; (try with_reducible rfl))
  simp only [List.set_cons_zero, List.set_cons_succ]
  refine held_take (i := 7) (d := 15) (v := ?_) rfl rfl (by kernel_rfl) (by kernel_rfl) (by kernel_rfl) (fun _ _ _ h => h) (Or.inl ⟨by rfl, ?_⟩) (by assumption) ?_
  rotate_left
  · (intro w hSw; (try dsimp only at hSw); go_simp; (try with_reducible rfl))
  simp only [List.set_cons_zero, List.set_cons_succ]
  refine wpAnyH_ready (rs := [6]) (by kernel_rfl) (by simp) ?_
  refine AllReadyH.cons rfl (fun K hK => ?_) AllReadyH.nil
  go_simp
  (first | (go_at_call 94; refine (spec_cmPair _ _ _ _ _ _ _ _ _ _ _).mono ?_; rintro e w1 ⟨rfl, hb⟩; replace hW := (by first | exact hW.call hb | exact hW.drew.call hb | exact (hW.alloc _).call hb | exact (hW.alloc _).drew.call hb | exact (hW.drewN _).call hb | exact (hW.drew.alloc _).call hb | exact ((hW.alloc _).alloc _).call hb | exact ((hW.alloc _).alloc _).drew.call hb | exact (((hW.alloc _).alloc _).alloc _).call hb); replace hB := (by first | exact hB.keep hb | exact hB.drew.keep hb | exact (hB.alloc _).keep hb | exact (hB.alloc _).drew.keep hb | exact (hB.drewN _).keep hb | exact (hB.drew.alloc _).keep hb | exact ((hB.alloc _).alloc _).keep hb | exact ((hB.alloc _).alloc _).drew.keep hb | exact (((hB.alloc _).alloc _).alloc _).keep hb); replace hC := (by first | exact hC.keep hb | exact hC.drew.keep hb | exact (hC.alloc _).keep hb | exact (hC.alloc _).drew.keep hb | exact (hC.drewN _).keep hb | exact (hC.drew.alloc _).keep hb | exact ((hC.alloc _).alloc _).keep hb | exact ((hC.alloc _).alloc _).drew.keep hb | exact (((hC.alloc _).alloc _).alloc _).keep hb); clear hB_l hB_0 hB_1 hB_2 hB_3 hB_4 hC_l hC_0 hC_1 hC_2 hC_3 hC_4; have hB_l := hB.lt; have hB_0 := hB.cell 0 _ rfl; have hB_1 := hB.cell 1 _ rfl; have hB_2 := hB.cell 2 _ rfl; have hB_3 := hB.cell 3 _ rfl; have hB_4 := hB.cell 4 _ rfl; have hC_l := hC.lt; have hC_0 := hC.cell 0 _ rfl; have hC_1 := hC.cell 1 _ rfl; have hC_2 := hC.cell 2 _ rfl; have hC_3 := hC.cell 3 _ rfl; have hC_4 := hC.cell 4 _ rfl; rw [hp]) | (go_at_call 95; with_reducible refine (spec_cmFault p m v b o _ hg1).mono ?_; rintro e w1 ⟨rfl, hb⟩; replace hW := (by first | exact hW.call hb | exact hW.drew.call hb | exact (hW.alloc _).call hb | exact (hW.alloc _).drew.call hb | exact (hW.drewN _).call hb | exact (hW.drew.alloc _).call hb | exact ((hW.alloc _).alloc _).call hb | exact ((hW.alloc _).alloc _).drew.call hb | exact (((hW.alloc _).alloc _).alloc _).call hb); replace hB := (by first | exact hB.keep hb | exact hB.drew.keep hb | exact (hB.alloc _).keep hb | exact (hB.alloc _).drew.keep hb | exact (hB.drewN _).keep hb | exact (hB.drew.alloc _).keep hb | exact ((hB.alloc _).alloc _).keep hb | exact ((hB.alloc _).alloc _).drew.keep hb | exact (((hB.alloc _).alloc _).alloc _).keep hb); replace hC := (by first | exact hC.keep hb | exact hC.drew.keep hb | exact (hC.alloc _).keep hb | exact (hC.alloc _).drew.keep hb | exact (hC.drewN _).keep hb | exact (hC.drew.alloc _).keep hb | exact ((hC.alloc _).alloc _).keep hb | exact ((hC.alloc _).alloc _).drew.keep hb | exact (((hC.alloc _).alloc _).alloc _).keep hb); clear hB_l hB_0 hB_1 hB_2 hB_3 hB_4 hC_l hC_0 hC_1 hC_2 hC_3 hC_4; have hB_l := hB.lt; have hB_0 := hB.cell 0 _ rfl; have hB_1 := hB.cell 1 _ rfl; have hB_2 := hB.cell 2 _ rfl; have hB_3 := hB.cell 3 _ rfl; have hB_4 := hB.cell 4 _ rfl; have hC_l := hC.lt; have hC_0 := hC.cell 0 _ rfl; have hC_1 := hC.cell 1 _ rfl; have hC_2 := hC.cell 2 _ rfl; have hC_3 := hC.cell 3 _ rfl; have hC_4 := hC.cell 4 _ rfl; rw [g1]) | (go_at_call 95; with_reducible refine (spec_cmFault p' m' v' b' o' _ hg2).mono ?_; rintro e w1 ⟨rfl, hb⟩; replace hW := (by first | exact hW.call hb | exact hW.drew.call hb | exact (hW.alloc _).call hb | exact (hW.alloc _).drew.call hb | exact (hW.drewN _).call hb | exact (hW.drew.alloc _).call hb | exact ((hW.alloc _).alloc _).call hb | exact ((hW.alloc _).alloc _).drew.call hb | exact (((hW.alloc _).alloc _).alloc _).call hb); replace hB := (by first | exact hB.keep hb | exact hB.drew.keep hb | exact (hB.alloc _).keep hb | exact (hB.alloc _).drew.keep hb | exact (hB.drewN _).keep hb | exact (hB.drew.alloc _).keep hb | exact ((hB.alloc _).alloc _).keep hb | exact ((hB.alloc _).alloc _).drew.keep hb | exact (((hB.alloc _).alloc _).alloc _).keep hb); replace hC := (by first | exact hC.keep hb | exact hC.drew.keep hb | exact (hC.alloc _).keep hb | exact (hC.alloc _).drew.keep hb | exact (hC.drewN _).keep hb | exact (hC.drew.alloc _).keep hb | exact ((hC.alloc _).alloc _).keep hb | exact ((hC.alloc _).alloc _).drew.keep hb | exact (((hC.alloc _).alloc _).alloc _).keep hb); clear hB_l hB_0 hB_1 hB_2 hB_3 hB_4 hC_l hC_0 hC_1 hC_2 hC_3 hC_4; have hB_l := hB.lt; have hB_0 := hB.cell 0 _ rfl; have hB_1 := hB.cell 1 _ rfl; have hB_2 := hB.cell 2 _ rfl; have hB_3 := hB.cell 3 _ rfl; have hB_4 := hB.cell 4 _ rfl; have hC_l := hC.lt; have hC_0 := hC.cell 0 _ rfl; have hC_1 := hC.cell 1 _ rfl; have hC_2 := hC.cell 2 _ rfl; have hC_3 := hC.cell 3 _ rfl; have hC_4 := hC.cell 4 _ rfl; rw [g2]))
  go_wp2_with fail
  refine hK.out _ _ ?_ (fun hHeld => ?_)
  · (try dsimp only); exact ⟨hB_0, hB_1, hB_2, hB_3, hB_4, hC_0, hC_1, hC_2, hC_3, hC_4⟩
  clear hK K
  try simp only [Act.put, List.setIfInBounds_toArray, List.set_cons_zero, List.set_cons_succ]
  refine wpAnyH_ready (rs := [8]) (by kernel_rfl) (by simp) ?_
  refine AllReadyH.cons rfl (fun K hK => ?_) AllReadyH.nil
  go_simp
  (first | (go_at_call 94; refine (spec_cmPair _ _ _ _ _ _ _ _ _ _ _).mono ?_; rintro e w1 ⟨rfl, hb⟩; replace hW := (by first | exact hW.call hb | exact hW.drew.call hb | exact (hW.alloc _).call hb | exact (hW.alloc _).drew.call hb | exact (hW.drewN _).call hb | exact (hW.drew.alloc _).call hb | exact ((hW.alloc _).alloc _).call hb | exact ((hW.alloc _).alloc _).drew.call hb | exact (((hW.alloc _).alloc _).alloc _).call hb); replace hB := (by first | exact hB.keep hb | exact hB.drew.keep hb | exact (hB.alloc _).keep hb | exact (hB.alloc _).drew.keep hb | exact (hB.drewN _).keep hb | exact (hB.drew.alloc _).keep hb | exact ((hB.alloc _).alloc _).keep hb | exact ((hB.alloc _).alloc _).drew.keep hb | exact (((hB.alloc _).alloc _).alloc _).keep hb); replace hC := (by first | exact hC.keep hb | exact hC.drew.keep hb | exact (hC.alloc _).keep hb | exact (hC.alloc _).drew.keep hb | exact (hC.drewN _).keep hb | exact (hC.drew.alloc _).keep hb | exact ((hC.alloc _).alloc _).keep hb | exact ((hC.alloc _).alloc _).drew.keep hb | exact (((hC.alloc _).alloc _).alloc _).keep hb); clear hB_l hB_0 hB_1 hB_2 hB_3 hB_4 hC_l hC_0 hC_1 hC_2 hC_3 hC_4; have hB_l := hB.lt; have hB_0 := hB.cell 0 _ rfl; have hB_1 := hB.cell 1 _ rfl; have hB_2 := hB.cell 2 _ rfl; have hB_3 := hB.cell 3 _ rfl; have hB_4 := hB.cell 4 _ rfl; have hC_l := hC.lt; have hC_0 := hC.cell 0 _ rfl; have hC_1 := hC.cell 1 _ rfl; have hC_2 := hC.cell 2 _ rfl; have hC_3 := hC.cell 3 _ rfl; have hC_4 := hC.cell 4 _ rfl; rw [hp]) | (go_at_call 95; with_reducible refine (spec_cmFault p m v b o _ hg1).mono ?_; rintro e w1 ⟨rfl, hb⟩; replace hW := (by first | exact hW.call hb | exact hW.drew.call hb | exact (hW.alloc _).call hb | exact (hW.alloc _).drew.call hb | exact (hW.drewN _).call hb | exact (hW.drew.alloc _).call hb | exact ((hW.alloc _).alloc _).call hb | exact ((hW.alloc _).alloc _).drew.call hb | exact (((hW.alloc _).alloc _).alloc _).call hb); replace hB := (by first | exact hB.keep hb | exact hB.drew.keep hb | exact (hB.alloc _).keep hb | exact (hB.alloc _).drew.keep hb | exact (hB.drewN _).keep hb | exact (hB.drew.alloc _).keep hb | exact ((hB.alloc _).alloc _).keep hb | exact ((hB.alloc _).alloc _).drew.keep hb | exact (((hB.alloc _).alloc _).alloc _).keep hb); replace hC := (by first | exact hC.keep hb | exact hC.drew.keep hb | exact (hC.alloc _).keep hb | exact (hC.alloc _).drew.keep hb | exact (hC.drewN _).keep hb | exact (hC.drew.alloc _).keep hb | exact ((hC.alloc _).alloc _).keep hb | exact ((hC.alloc _).alloc _).drew.keep hb | exact (((hC.alloc _).alloc _).alloc _).keep hb); clear hB_l hB_0 hB_1 hB_2 hB_3 hB_4 hC_l hC_0 hC_1 hC_2 hC_3 hC_4; have hB_l := hB.lt; have hB_0 := hB.cell 0 _ rfl; have hB_1 := hB.cell 1 _ rfl; have hB_2 := hB.cell 2 _ rfl; have hB_3 := hB.cell 3 _ rfl; have hB_4 := hB.cell 4 _ rfl; have hC_l := hC.lt; have hC_0 := hC.cell 0 _ rfl; have hC_1 := hC.cell 1 _ rfl; have hC_2 := hC.cell 2 _ rfl; have hC_3 := hC.cell 3 _ rfl; have hC_4 := hC.cell 4 _ rfl; rw [g1]) | (go_at_call 95; with_reducible refine (spec_cmFault p' m' v' b' o' _ hg2).mono ?_; rintro e w1 ⟨rfl, hb⟩; replace hW := (by first | exact hW.call hb | exact hW.drew.call hb | exact (hW.alloc _).call hb | exact (hW.alloc _).drew.call hb | exact (hW.drewN _).call hb | exact (hW.drew.alloc _).call hb | exact ((hW.alloc _).alloc _).call hb | exact ((hW.alloc _).alloc _).drew.call hb | exact (((hW.alloc _).alloc _).alloc _).call hb); replace hB := (by first | exact hB.keep hb | exact hB.drew.keep hb | exact (hB.alloc _).keep hb | exact (hB.alloc _).drew.keep hb | exact (hB.drewN _).keep hb | exact (hB.drew.alloc _).keep hb | exact ((hB.alloc _).alloc _).keep hb | exact ((hB.alloc _).alloc _).drew.keep hb | exact (((hB.alloc _).alloc _).alloc _).keep hb); replace hC := (by first | exact hC.keep hb | exact hC.drew.keep hb | exact (hC.alloc _).keep hb | exact (hC.alloc _).drew.keep hb | exact (hC.drewN _).keep hb | exact (hC.drew.alloc _).keep hb | exact ((hC.alloc _).alloc _).keep hb | exact ((hC.alloc _).alloc _).drew.keep hb | exact (((hC.alloc _).alloc _).alloc _).keep hb); clear hB_l hB_0 hB_1 hB_2 hB_3 hB_4 hC_l hC_0 hC_1 hC_2 hC_3 hC_4; have hB_l := hB.lt; have hB_0 := hB.cell 0 _ rfl; have hB_1 := hB.cell 1 _ rfl; have hB_2 := hB.cell 2 _ rfl; have hB_3 := hB.cell 3 _ rfl; have hB_4 := hB.cell 4 _ rfl; have hC_l := hC.lt; have hC_0 := hC.cell 0 _ rfl; have hC_1 := hC.cell 1 _ rfl; have hC_2 := hC.cell 2 _ rfl; have hC_3 := hC.cell 3 _ rfl; have hC_4 := hC.cell 4 _ rfl; rw [g2]))
  go_wp2_with fail
  refine hK.out _ _ ?_ (fun hHeld => ?_)
  · (try dsimp only); exact ⟨hB_0, hB_1, hB_2, hB_3, hB_4, hC_0, hC_1, hC_2, hC_3, hC_4⟩
  clear hK K
  try simp only [Act.put, List.setIfInBounds_toArray, List.set_cons_zero, List.set_cons_succ]
  refine held_take (i := 9) (d := 17) (v := ?_) rfl rfl (by kernel_rfl) (by kernel_rfl) (by kernel_rfl) (fun _ _ _ h => h) (Or.inl ⟨by rfl, ?_⟩) (by assumption) ?_
  rotate_left
  · (intro w hSw; (try dsimp only at hSw); go_simp; (try with_reducible rfl))
  simp only [List.set_cons_zero, List.set_cons_succ]
  refine held_take (i := 10) (d := 18) (v := ?_) rfl rfl (by kernel_rfl) (by kernel_rfl) (by kernel_rfl) (fun _ _ _ h => h) (Or.inl ⟨by rfl, ?_⟩) (by assumption) ?_
  rotate_left
  · (intro w hSw; (try dsimp only at hSw); go_simp; (try with_reducible rfl))
  simp only [List.set_cons_zero, List.set_cons_succ]
  refine held_take (i := 11) (d := 19) (v := ?_) rfl rfl (by kernel_rfl) (by kernel_rfl) (by kernel_rfl) (fun _ _ _ h => h) (Or.inl ⟨by rfl, ?_⟩) (by assumption) ?_
  rotate_left
  · (intro w hSw; (try dsimp only at hSw); go_simp; (try with_reducible rfl))
  simp only [List.set_cons_zero, List.set_cons_succ]
  refine held_take (i := 12) (d := 20) (v := ?_) rfl rfl (by kernel_rfl) (by kernel_rfl) (by kernel_rfl) (fun _ _ _ h => h) (Or.inl ⟨by rfl, ?_⟩) (by assumption) ?_
  rotate_left
  · (intro w hSw; (try dsimp only at hSw); go_simp; (try with_reducible rfl))
  simp only [List.set_cons_zero, List.set_cons_succ]
  refine held_take (i := 13) (d := 21) (v := undef) rfl rfl (by kernel_rfl) (by kernel_rfl) (by kernel_rfl) (fun _ _ _ h => h) (Or.inr ⟨by rfl, rfl⟩) (by assumption) ?_
  simp only [List.set_cons_zero, List.set_cons_succ]
  refine held_take (i := 14) (d := 22) (v := undef) rfl rfl (by kernel_rfl) (by kernel_rfl) (by kernel_rfl) (fun _ _ _ h => h) (Or.inr ⟨by rfl, rfl⟩) (by assumption) ?_
  simp only [List.set_cons_zero, List.set_cons_succ]
  refine held_take (i := 15) (d := 23) (v := undef) rfl rfl (by kernel_rfl) (by kernel_rfl) (by kernel_rfl) (fun _ _ _ h => h) (Or.inr ⟨by rfl, rfl⟩) (by assumption) ?_
  simp only [List.set_cons_zero, List.set_cons_succ]
  refine held_take (i := 16) (d := 24) (v := ?_) rfl rfl (by kernel_rfl) (by kernel_rfl) (by kernel_rfl) (fun _ _ _ h => h) (Or.inl ⟨by rfl, ?_⟩) (by assumption) ?_
  rotate_left
  · (intro w hSw; (try dsimp only at hSw); go_simp; (try with_reducible rfl))
  simp only [List.set_cons_zero, List.set_cons_succ]
  refine wpAnyH_done (by kernel_rfl) ?_ _
  go_wp2
  go_ret2
  exact ⟨by simp [coinF, coinB, h2], hW⟩
set_option maxHeartbeats 4000000 in
theorem spec_CommonCoin_n (p m v b : Int) (o : Bool) (p' m' v' b' : Int) (o' : Bool) (n : Int) (w : World) (hp : pairB p m v b o p' m' v' b' o' = true) (h1 : faultB p m v b o = false) (h2 : faultB p' m' v' b' o' = false) (h3 : inR n 1 1000 = false) :
    Calls Try.prog 28 #[.agg #[.int .i64 p, .int .i64 m, .int .i64 v, .int .i64 b, .bool o], .agg #[.int .i64 p', .int .i64 m', .int .i64 v', .int .i64 b', .bool o'], .int .i64 n] w fun e w' => e = .returned (.tuple #[.int .i64 (coinF p m v b o p' m' v' b' o' n), .bool (coinB p m v b o p' m' v' b' o' n)]) ∧ Bl w w' := by
  have hW := ((Bl.refl w).alloc (.cells #[.int .i64 p, .int .i64 m, .int .i64 v, .int .i64 b, .bool o] 38)).alloc (.cells #[.int .i64 p', .int .i64 m', .int .i64 v', .int .i64 b', .bool o'] 38)
  have hB := (Blk.new w 38 #[.int .i64 p, .int .i64 m, .int .i64 v, .int .i64 b, .bool o]).alloc (.cells #[.int .i64 p', .int .i64 m', .int .i64 v', .int .i64 b', .bool o'] 38)
  have hC : Blk _ (w.heap.size + 1) _ _ := Blk.new (w.alloc (.cells #[.int .i64 p, .int .i64 m, .int .i64 v, .int .i64 b, .bool o] 38)) 38 #[.int .i64 p', .int .i64 m', .int .i64 v', .int .i64 b', .bool o']
  have hB_l := hB.lt
  have hB_0 := hB.cell 0 _ rfl
  have hB_1 := hB.cell 1 _ rfl
  have hB_2 := hB.cell 2 _ rfl
  have hB_3 := hB.cell 3 _ rfl
  have hB_4 := hB.cell 4 _ rfl
  have hC_l := hC.lt
  have hC_0 := hC.cell 0 _ rfl
  have hC_1 := hC.cell 1 _ rfl
  have hC_2 := hC.cell 2 _ rfl
  have hC_3 := hC.cell 3 _ rfl
  have hC_4 := hC.cell 4 _ rfl
  obtain ⟨hg1, hg2⟩ := pairB_good hp
  have hv1 := good_bd hg1
  have hv2 := good_bd hg2
  have q0 : IntKind.i64.wrap 0 = 0 := by decide
  have q1 : IntKind.i64.wrap 1 = 1 := by decide
  have q2 : IntKind.i64.wrap 2 = 2 := by decide
  have g1 := faultN_f h1
  have g2 := faultN_f h2
  go_enter Try.func28, Try.ntmps28
  go_wp2
  go_region_held3 (fun w' => w'.cell? ⟨w.heap.size, 0, none⟩ = some (.int .i64 p) ∧ w'.cell? ⟨w.heap.size, 1, none⟩ = some (.int .i64 m) ∧ w'.cell? ⟨w.heap.size, 2, none⟩ = some (.int .i64 v) ∧ w'.cell? ⟨w.heap.size, 3, none⟩ = some (.int .i64 b) ∧ w'.cell? ⟨w.heap.size, 4, none⟩ = some (.bool o) ∧ w'.cell? ⟨w.heap.size + 1, 0, none⟩ = some (.int .i64 p') ∧ w'.cell? ⟨w.heap.size + 1, 1, none⟩ = some (.int .i64 m') ∧ w'.cell? ⟨w.heap.size + 1, 2, none⟩ = some (.int .i64 v') ∧ w'.cell? ⟨w.heap.size + 1, 3, none⟩ = some (.int .i64 b') ∧ w'.cell? ⟨w.heap.size + 1, 4, none⟩ = some (.bool o')) (first | exact ⟨hB_0, hB_1, hB_2, hB_3, hB_4, hC_0, hC_1, hC_2, hC_3, hC_4⟩ | go_keep) (first | (go_at_call 94; refine (spec_cmPair _ _ _ _ _ _ _ _ _ _ _).mono ?_; rintro e w1 ⟨rfl, hb⟩; replace hW := (by first | exact hW.call hb | exact hW.drew.call hb | exact (hW.alloc _).call hb | exact (hW.alloc _).drew.call hb | exact (hW.drewN _).call hb | exact (hW.drew.alloc _).call hb | exact ((hW.alloc _).alloc _).call hb | exact ((hW.alloc _).alloc _).drew.call hb | exact (((hW.alloc _).alloc _).alloc _).call hb); replace hB := (by first | exact hB.keep hb | exact hB.drew.keep hb | exact (hB.alloc _).keep hb | exact (hB.alloc _).drew.keep hb | exact (hB.drewN _).keep hb | exact (hB.drew.alloc _).keep hb | exact ((hB.alloc _).alloc _).keep hb | exact ((hB.alloc _).alloc _).drew.keep hb | exact (((hB.alloc _).alloc _).alloc _).keep hb); replace hC := (by first | exact hC.keep hb | exact hC.drew.keep hb | exact (hC.alloc _).keep hb | exact (hC.alloc _).drew.keep hb | exact (hC.drewN _).keep hb | exact (hC.drew.alloc _).keep hb | exact ((hC.alloc _).alloc _).keep hb | exact ((hC.alloc _).alloc _).drew.keep hb | exact (((hC.alloc _).alloc _).alloc _).keep hb); clear hB_l hB_0 hB_1 hB_2 hB_3 hB_4 hC_l hC_0 hC_1 hC_2 hC_3 hC_4; have hB_l := hB.lt; have hB_0 := hB.cell 0 _ rfl; have hB_1 := hB.cell 1 _ rfl; have hB_2 := hB.cell 2 _ rfl; have hB_3 := hB.cell 3 _ rfl; have hB_4 := hB.cell 4 _ rfl; have hC_l := hC.lt; have hC_0 := hC.cell 0 _ rfl; have hC_1 := hC.cell 1 _ rfl; have hC_2 := hC.cell 2 _ rfl; have hC_3 := hC.cell 3 _ rfl; have hC_4 := hC.cell 4 _ rfl; rw [hp]) | (go_at_call 95; with_reducible refine (spec_cmFault p m v b o _ hg1).mono ?_; rintro e w1 ⟨rfl, hb⟩; replace hW := (by first | exact hW.call hb | exact hW.drew.call hb | exact (hW.alloc _).call hb | exact (hW.alloc _).drew.call hb | exact (hW.drewN _).call hb | exact (hW.drew.alloc _).call hb | exact ((hW.alloc _).alloc _).call hb | exact ((hW.alloc _).alloc _).drew.call hb | exact (((hW.alloc _).alloc _).alloc _).call hb); replace hB := (by first | exact hB.keep hb | exact hB.drew.keep hb | exact (hB.alloc _).keep hb | exact (hB.alloc _).drew.keep hb | exact (hB.drewN _).keep hb | exact (hB.drew.alloc _).keep hb | exact ((hB.alloc _).alloc _).keep hb | exact ((hB.alloc _).alloc _).drew.keep hb | exact (((hB.alloc _).alloc _).alloc _).keep hb); replace hC := (by first | exact hC.keep hb | exact hC.drew.keep hb | exact (hC.alloc _).keep hb | exact (hC.alloc _).drew.keep hb | exact (hC.drewN _).keep hb | exact (hC.drew.alloc _).keep hb | exact ((hC.alloc _).alloc _).keep hb | exact ((hC.alloc _).alloc _).drew.keep hb | exact (((hC.alloc _).alloc _).alloc _).keep hb); clear hB_l hB_0 hB_1 hB_2 hB_3 hB_4 hC_l hC_0 hC_1 hC_2 hC_3 hC_4; have hB_l := hB.lt; have hB_0 := hB.cell 0 _ rfl; have hB_1 := hB.cell 1 _ rfl; have hB_2 := hB.cell 2 _ rfl; have hB_3 := hB.cell 3 _ rfl; have hB_4 := hB.cell 4 _ rfl; have hC_l := hC.lt; have hC_0 := hC.cell 0 _ rfl; have hC_1 := hC.cell 1 _ rfl; have hC_2 := hC.cell 2 _ rfl; have hC_3 := hC.cell 3 _ rfl; have hC_4 := hC.cell 4 _ rfl; rw [g1]) | (go_at_call 95; with_reducible refine (spec_cmFault p' m' v' b' o' _ hg2).mono ?_; rintro e w1 ⟨rfl, hb⟩; replace hW := (by first | exact hW.call hb | exact hW.drew.call hb | exact (hW.alloc _).call hb | exact (hW.alloc _).drew.call hb | exact (hW.drewN _).call hb | exact (hW.drew.alloc _).call hb | exact ((hW.alloc _).alloc _).call hb | exact ((hW.alloc _).alloc _).drew.call hb | exact (((hW.alloc _).alloc _).alloc _).call hb); replace hB := (by first | exact hB.keep hb | exact hB.drew.keep hb | exact (hB.alloc _).keep hb | exact (hB.alloc _).drew.keep hb | exact (hB.drewN _).keep hb | exact (hB.drew.alloc _).keep hb | exact ((hB.alloc _).alloc _).keep hb | exact ((hB.alloc _).alloc _).drew.keep hb | exact (((hB.alloc _).alloc _).alloc _).keep hb); replace hC := (by first | exact hC.keep hb | exact hC.drew.keep hb | exact (hC.alloc _).keep hb | exact (hC.alloc _).drew.keep hb | exact (hC.drewN _).keep hb | exact (hC.drew.alloc _).keep hb | exact ((hC.alloc _).alloc _).keep hb | exact ((hC.alloc _).alloc _).drew.keep hb | exact (((hC.alloc _).alloc _).alloc _).keep hb); clear hB_l hB_0 hB_1 hB_2 hB_3 hB_4 hC_l hC_0 hC_1 hC_2 hC_3 hC_4; have hB_l := hB.lt; have hB_0 := hB.cell 0 _ rfl; have hB_1 := hB.cell 1 _ rfl; have hB_2 := hB.cell 2 _ rfl; have hB_3 := hB.cell 3 _ rfl; have hB_4 := hB.cell 4 _ rfl; have hC_l := hC.lt; have hC_0 := hC.cell 0 _ rfl; have hC_1 := hC.cell 1 _ rfl; have hC_2 := hC.cell 2 _ rfl; have hC_3 := hC.cell 3 _ rfl; have hC_4 := hC.cell 4 _ rfl; rw [g2]) | (go_at_call 80; refine (spec_l1In _ _ _ _).mono ?_; rintro e w' ⟨rfl, rfl⟩))
  go_wp2
  go_ret2
  exact ⟨by simp [coinF, coinB, h3], hW⟩
set_option maxHeartbeats 4000000 in
theorem spec_CommonCoin_y (p m v b : Int) (o : Bool) (p' m' v' b' : Int) (o' : Bool) (n : Int) (w : World) (hp : pairB p m v b o p' m' v' b' o' = true) (h1 : faultB p m v b o = false) (h2 : faultB p' m' v' b' o' = false) (h3 : inR n 1 1000 = true) :
    Calls Try.prog 28 #[.agg #[.int .i64 p, .int .i64 m, .int .i64 v, .int .i64 b, .bool o], .agg #[.int .i64 p', .int .i64 m', .int .i64 v', .int .i64 b', .bool o'], .int .i64 n] w fun e w' => e = .returned (.tuple #[.int .i64 (coinF p m v b o p' m' v' b' o' n), .bool (coinB p m v b o p' m' v' b' o' n)]) ∧ Bl w w' := by
  have hW := ((Bl.refl w).alloc (.cells #[.int .i64 p, .int .i64 m, .int .i64 v, .int .i64 b, .bool o] 38)).alloc (.cells #[.int .i64 p', .int .i64 m', .int .i64 v', .int .i64 b', .bool o'] 38)
  have hB := (Blk.new w 38 #[.int .i64 p, .int .i64 m, .int .i64 v, .int .i64 b, .bool o]).alloc (.cells #[.int .i64 p', .int .i64 m', .int .i64 v', .int .i64 b', .bool o'] 38)
  have hC : Blk _ (w.heap.size + 1) _ _ := Blk.new (w.alloc (.cells #[.int .i64 p, .int .i64 m, .int .i64 v, .int .i64 b, .bool o] 38)) 38 #[.int .i64 p', .int .i64 m', .int .i64 v', .int .i64 b', .bool o']
  have hB_l := hB.lt
  have hB_0 := hB.cell 0 _ rfl
  have hB_1 := hB.cell 1 _ rfl
  have hB_2 := hB.cell 2 _ rfl
  have hB_3 := hB.cell 3 _ rfl
  have hB_4 := hB.cell 4 _ rfl
  have hC_l := hC.lt
  have hC_0 := hC.cell 0 _ rfl
  have hC_1 := hC.cell 1 _ rfl
  have hC_2 := hC.cell 2 _ rfl
  have hC_3 := hC.cell 3 _ rfl
  have hC_4 := hC.cell 4 _ rfl
  obtain ⟨hg1, hg2⟩ := pairB_good hp
  have hv1 := good_bd hg1
  have hv2 := good_bd hg2
  have q0 : IntKind.i64.wrap 0 = 0 := by decide
  have q1 : IntKind.i64.wrap 1 = 1 := by decide
  have q2 : IntKind.i64.wrap 2 = 2 := by decide
  have g1 := faultN_f h1
  have g2 := faultN_f h2
  have i3 := inR_iff.1 h3
  have hn0 : (n == 0) = false := by simp; omega
  go_enter Try.func28, Try.ntmps28
  go_wp2
  go_region_held3 (fun w' => w'.cell? ⟨w.heap.size, 0, none⟩ = some (.int .i64 p) ∧ w'.cell? ⟨w.heap.size, 1, none⟩ = some (.int .i64 m) ∧ w'.cell? ⟨w.heap.size, 2, none⟩ = some (.int .i64 v) ∧ w'.cell? ⟨w.heap.size, 3, none⟩ = some (.int .i64 b) ∧ w'.cell? ⟨w.heap.size, 4, none⟩ = some (.bool o) ∧ w'.cell? ⟨w.heap.size + 1, 0, none⟩ = some (.int .i64 p') ∧ w'.cell? ⟨w.heap.size + 1, 1, none⟩ = some (.int .i64 m') ∧ w'.cell? ⟨w.heap.size + 1, 2, none⟩ = some (.int .i64 v') ∧ w'.cell? ⟨w.heap.size + 1, 3, none⟩ = some (.int .i64 b') ∧ w'.cell? ⟨w.heap.size + 1, 4, none⟩ = some (.bool o')) (first | exact ⟨hB_0, hB_1, hB_2, hB_3, hB_4, hC_0, hC_1, hC_2, hC_3, hC_4⟩ | go_keep) (first | (go_at_call 94; refine (spec_cmPair _ _ _ _ _ _ _ _ _ _ _).mono ?_; rintro e w1 ⟨rfl, hb⟩; replace hW := (by first | exact hW.call hb | exact hW.drew.call hb | exact (hW.alloc _).call hb | exact (hW.alloc _).drew.call hb | exact (hW.drewN _).call hb | exact (hW.drew.alloc _).call hb | exact ((hW.alloc _).alloc _).call hb | exact ((hW.alloc _).alloc _).drew.call hb | exact (((hW.alloc _).alloc _).alloc _).call hb); replace hB := (by first | exact hB.keep hb | exact hB.drew.keep hb | exact (hB.alloc _).keep hb | exact (hB.alloc _).drew.keep hb | exact (hB.drewN _).keep hb | exact (hB.drew.alloc _).keep hb | exact ((hB.alloc _).alloc _).keep hb | exact ((hB.alloc _).alloc _).drew.keep hb | exact (((hB.alloc _).alloc _).alloc _).keep hb); replace hC := (by first | exact hC.keep hb | exact hC.drew.keep hb | exact (hC.alloc _).keep hb | exact (hC.alloc _).drew.keep hb | exact (hC.drewN _).keep hb | exact (hC.drew.alloc _).keep hb | exact ((hC.alloc _).alloc _).keep hb | exact ((hC.alloc _).alloc _).drew.keep hb | exact (((hC.alloc _).alloc _).alloc _).keep hb); clear hB_l hB_0 hB_1 hB_2 hB_3 hB_4 hC_l hC_0 hC_1 hC_2 hC_3 hC_4; have hB_l := hB.lt; have hB_0 := hB.cell 0 _ rfl; have hB_1 := hB.cell 1 _ rfl; have hB_2 := hB.cell 2 _ rfl; have hB_3 := hB.cell 3 _ rfl; have hB_4 := hB.cell 4 _ rfl; have hC_l := hC.lt; have hC_0 := hC.cell 0 _ rfl; have hC_1 := hC.cell 1 _ rfl; have hC_2 := hC.cell 2 _ rfl; have hC_3 := hC.cell 3 _ rfl; have hC_4 := hC.cell 4 _ rfl; rw [hp]) | (go_at_call 95; with_reducible refine (spec_cmFault p m v b o _ hg1).mono ?_; rintro e w1 ⟨rfl, hb⟩; replace hW := (by first | exact hW.call hb | exact hW.drew.call hb | exact (hW.alloc _).call hb | exact (hW.alloc _).drew.call hb | exact (hW.drewN _).call hb | exact (hW.drew.alloc _).call hb | exact ((hW.alloc _).alloc _).call hb | exact ((hW.alloc _).alloc _).drew.call hb | exact (((hW.alloc _).alloc _).alloc _).call hb); replace hB := (by first | exact hB.keep hb | exact hB.drew.keep hb | exact (hB.alloc _).keep hb | exact (hB.alloc _).drew.keep hb | exact (hB.drewN _).keep hb | exact (hB.drew.alloc _).keep hb | exact ((hB.alloc _).alloc _).keep hb | exact ((hB.alloc _).alloc _).drew.keep hb | exact (((hB.alloc _).alloc _).alloc _).keep hb); replace hC := (by first | exact hC.keep hb | exact hC.drew.keep hb | exact (hC.alloc _).keep hb | exact (hC.alloc _).drew.keep hb | exact (hC.drewN _).keep hb | exact (hC.drew.alloc _).keep hb | exact ((hC.alloc _).alloc _).keep hb | exact ((hC.alloc _).alloc _).drew.keep hb | exact (((hC.alloc _).alloc _).alloc _).keep hb); clear hB_l hB_0 hB_1 hB_2 hB_3 hB_4 hC_l hC_0 hC_1 hC_2 hC_3 hC_4; have hB_l := hB.lt; have hB_0 := hB.cell 0 _ rfl; have hB_1 := hB.cell 1 _ rfl; have hB_2 := hB.cell 2 _ rfl; have hB_3 := hB.cell 3 _ rfl; have hB_4 := hB.cell 4 _ rfl; have hC_l := hC.lt; have hC_0 := hC.cell 0 _ rfl; have hC_1 := hC.cell 1 _ rfl; have hC_2 := hC.cell 2 _ rfl; have hC_3 := hC.cell 3 _ rfl; have hC_4 := hC.cell 4 _ rfl; rw [g1]) | (go_at_call 95; with_reducible refine (spec_cmFault p' m' v' b' o' _ hg2).mono ?_; rintro e w1 ⟨rfl, hb⟩; replace hW := (by first | exact hW.call hb | exact hW.drew.call hb | exact (hW.alloc _).call hb | exact (hW.alloc _).drew.call hb | exact (hW.drewN _).call hb | exact (hW.drew.alloc _).call hb | exact ((hW.alloc _).alloc _).call hb | exact ((hW.alloc _).alloc _).drew.call hb | exact (((hW.alloc _).alloc _).alloc _).call hb); replace hB := (by first | exact hB.keep hb | exact hB.drew.keep hb | exact (hB.alloc _).keep hb | exact (hB.alloc _).drew.keep hb | exact (hB.drewN _).keep hb | exact (hB.drew.alloc _).keep hb | exact ((hB.alloc _).alloc _).keep hb | exact ((hB.alloc _).alloc _).drew.keep hb | exact (((hB.alloc _).alloc _).alloc _).keep hb); replace hC := (by first | exact hC.keep hb | exact hC.drew.keep hb | exact (hC.alloc _).keep hb | exact (hC.alloc _).drew.keep hb | exact (hC.drewN _).keep hb | exact (hC.drew.alloc _).keep hb | exact ((hC.alloc _).alloc _).keep hb | exact ((hC.alloc _).alloc _).drew.keep hb | exact (((hC.alloc _).alloc _).alloc _).keep hb); clear hB_l hB_0 hB_1 hB_2 hB_3 hB_4 hC_l hC_0 hC_1 hC_2 hC_3 hC_4; have hB_l := hB.lt; have hB_0 := hB.cell 0 _ rfl; have hB_1 := hB.cell 1 _ rfl; have hB_2 := hB.cell 2 _ rfl; have hB_3 := hB.cell 3 _ rfl; have hB_4 := hB.cell 4 _ rfl; have hC_l := hC.lt; have hC_0 := hC.cell 0 _ rfl; have hC_1 := hC.cell 1 _ rfl; have hC_2 := hC.cell 2 _ rfl; have hC_3 := hC.cell 3 _ rfl; have hC_4 := hC.cell 4 _ rfl; rw [g2]) | (go_at_call 80; refine (spec_l1In _ _ _ _).mono ?_; rintro e w' ⟨rfl, rfl⟩))
  go_wp2
  go_ret2
  exact ⟨by simp [coinF, coinB, hp, h1, h2, h3], hW⟩
theorem spec_CommonCoin (p m v b : Int) (o : Bool) (p' m' v' b' : Int) (o' : Bool) (n : Int) (w : World) :
    Calls Try.prog 28 #[.agg #[.int .i64 p, .int .i64 m, .int .i64 v, .int .i64 b, .bool o], .agg #[.int .i64 p', .int .i64 m', .int .i64 v', .int .i64 b', .bool o'], .int .i64 n] w fun e w' => e = .returned (.tuple #[.int .i64 (coinF p m v b o p' m' v' b' o' n), .bool (coinB p m v b o p' m' v' b' o' n)]) ∧ Bl w w' := by
  rcases hp : pairB p m v b o p' m' v' b' o'
  · exact spec_CommonCoin_p p m v b o p' m' v' b' o' n w hp
  rcases h1 : faultB p m v b o <;> rcases h2 : faultB p' m' v' b' o'
  case true.true => exact spec_CommonCoin_tt p m v b o p' m' v' b' o' n w hp h1 h2
  case true.false => exact spec_CommonCoin_tf p m v b o p' m' v' b' o' n w hp h1 h2
  case false.true => exact spec_CommonCoin_ft p m v b o p' m' v' b' o' n w hp h1 h2
  rcases h3 : inR n 1 1000
  · exact spec_CommonCoin_n p m v b o p' m' v' b' o' n w hp h1 h2 h3
  · exact spec_CommonCoin_y p m v b o p' m' v' b' o' n w hp h1 h2 h3
end Go.Proofs.Ytglgaicbcackbaa
