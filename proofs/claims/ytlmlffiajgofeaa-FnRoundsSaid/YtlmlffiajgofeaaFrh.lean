/- Contracts of the shares of inputs.
   Conditions: a valid circuit with inputs and a key, else the answer is no. -/
import Derived.Test.YtlmlffiajgofeaaFrg
namespace Go.Proofs.Ytlmlffiajgofeaa
open Go.RowKit
set_option linter.unusedVariables false
set_option maxHeartbeats 2000000 in
theorem impl_shareInputs (na nb : Nat) (key : Int) (Ag Ao : Option Addr) (n cg m co : Nat) (Aa Ab : Option Addr) (ca cb : Nat) (la lb : List Int) (w : World) (ha : RdI w Aa na ca la) (hb : RdI w Ab nb cb lb) (hba : Bits la) (hbb : Bits lb) (hna : na ≤ 20) (hnb : nb ≤ 20) (hk0 : 0 ≤ key) (hk1 : key ≤ 1000000000) :
    Calls Try.prog 63 #[.agg #[.int .i64 (na : Int), .int .i64 (nb : Int), .slice Ag n cg, .slice Ao m co], .int .i64 key, .slice Aa na ca, .slice Ab nb cb] w fun e w' => ∃ A1 c1 A2 c2, e = .returned (.tuple #[.slice A1 (na + nb) c1, .slice A2 (na + nb) c2]) ∧ OwnI w.heap.size w' A1 (na + nb) c1 (shU na nb key la) ∧ OwnI w.heap.size w' A2 (na + nb) c2 (shV na nb key lb) ∧ Bl w w' := by
  have hX := Blk.new w 26 #[.int .i64 (na : Int), .int .i64 (nb : Int), .slice Ag n cg, .slice Ao m co]
  have hV := (Bl.refl w).alloc (.cells #[.int .i64 (na : Int), .int .i64 (nb : Int), .slice Ag n cg, .slice Ao m co] 26)
  obtain ⟨hle1, hle2⟩ := ha.le
  obtain ⟨hle3, hle4⟩ := hb.le
  go_enter Try.func63, Try.ntmps63
  go_wp2_with fail
  refine (impl_bitsFrom _ 2 2 [key, 221] na _ (rd_new2 _ _ _ _) (words2 _ _ (by omega) (by omega)) (by omega) (by omega)).mono ?_
  rintro e w3 ⟨A3, c3, rfl, o3, hb3⟩
  have hX3 := (hX.alloc (.cells #[.int .i64 key, .int .i64 221] 3)).keep hb3
  have hW3 := (hV.alloc (.cells #[.int .i64 key, .int .i64 221] 3)).call hb3
  have hX_l := hX3.lt; have hX_0 := hX3.cell 0 _ rfl; have hX_1 := hX3.cell 1 _ rfl
  go_wp2_with fail
  refine (impl_bitsFrom _ 2 2 [key, 222] nb _ (rd_new2 _ _ _ _) (words2 _ _ (by omega) (by omega)) (by omega) (by omega)).mono ?_
  rintro e w4 ⟨A4, c4, rfl, o4, hb4⟩
  have hW4 := (hW3.alloc (.cells #[.int .i64 key, .int .i64 222] 3)).call hb4
  replace o3 := (o3.alloc (.cells #[.int .i64 key, .int .i64 222] 3)).keep hb4
  replace o3 := o3.mono (base' := w.heap.size) (by simp; omega)
  replace o4 := o4.mono (base' := w.heap.size) (by have := hW3.sz; simp; omega)
  clear hX hX3 hX_l hX_0 hX_1 hV
  go_wp2_with fail
  refine (impl_xored Aa A3 na ca c3 la (bfL [key, 221] na) _ (ha.keep hW4) o3.rd hba (bfL_bit _ _) (by omega)).mono ?_
  rintro e w5 ⟨A5, c5, rfl, o5, hb5⟩
  have o3b := o3.keep hb5; have o4b := o4.keep hb5; have hW5 := hW4.call hb5
  have s5 := hW4.sz
  have s54 := hb5.sz
  have b3 := fun q hq => (o3.blk q hq)
  have b4 := fun q hq => (o4.blk q hq)
  go_wp2_with (at_builtin; refine ap_int rfl rfl rfl o5 rfl o4b.rd (by omega) (by omega) ?_; intro A7 c7 v7 o7 hg7 hat7)
  have hW7 := hW5.grown hg7 (fun q hq => by have := (o5.blk q hq).1; omega)
  have o3c := o3b.grown hg7 (by intro q hq e; have := (o5.blk q.block e.symm).1; have := (b3 q.block (by rw [hq]; rfl)).2; omega)
  have o4c := o4b.grown hg7 (by intro q hq e; have := (o5.blk q.block e.symm).1; have := (b4 q.block (by rw [hq]; rfl)).2; omega)
  have s7 := hg7.size
  refine (impl_xored Ab A4 nb cb c4 lb (bfL [key, 222] nb) _ (hb.keep hW7) o4c.rd hbb (bfL_bit _ _) (by omega)).mono ?_
  rintro e w8 ⟨A8, c8, rfl, o8, hb8⟩
  have o3d := o3c.keep hb8; have o7b := o7.keep hb8; have s8 := hb8.sz
  go_wp2_with (at_builtin; refine ap_int rfl rfl rfl o3d rfl o8.rd (by omega) (by omega) ?_; intro A9 c9 v9 o9 hg9 hat9)
  have o7c := o7b.grown hg9 (by intro q hq e; have := (b3 q.block e.symm).2; have := (o7.blk q.block (by rw [hq]; rfl)).1; omega)
  have hW9 := (hW7.call hb8).grown hg9 (fun q hq => by have := (b3 q hq).1; omega)
  go_ret2
  exact ⟨A7, c7, A9, c9, rfl, by unfold shU; exact o7c.mono (by omega), by unfold shV; exact o9.mono (by omega), hW9⟩
set_option maxRecDepth 20000 in
set_option maxHeartbeats 4000000 in
theorem spec_sbInputs (na nb : Nat) (key : Int) (Ag Ao : Option Addr) (n cg m co : Nat) (Aa Ab : Option Addr) (ca cb : Nat) (la lb : List Int) (w : World) (ha : RdI w Aa na ca la) (hb : RdI w Ab nb cb lb) (hba : Bits la) (hbb : Bits lb) (hna : na ≤ 20) (hnb : nb ≤ 20) (hk0 : 0 ≤ key) (hk1 : key ≤ 1000000000) :
    Calls Try.prog 65 #[.agg #[.int .i64 (na : Int), .int .i64 (nb : Int), .slice Ag n cg, .slice Ao m co], .int .i64 key, .slice Aa na ca, .slice Ab nb cb] w fun e w' => ∃ A1 c1 A2 c2, e = .returned (.tuple #[.slice A1 (na + nb) c1, .slice A2 (na + nb) c2]) ∧ OwnI w.heap.size w' A1 (na + nb) c1 (shU na nb key la) ∧ OwnI w.heap.size w' A2 (na + nb) c2 (shV na nb key lb) ∧ Bl w w' := by
  have hX := Blk.new w 26 #[.int .i64 (na : Int), .int .i64 (nb : Int), .slice Ag n cg, .slice Ao m co]
  have hX_l := hX.lt; have hX_0 := hX.cell 0 _ rfl; have hX_1 := hX.cell 1 _ rfl
  obtain ⟨hle1, hle2⟩ := ha.le
  obtain ⟨hle3, hle4⟩ := hb.le
  go_enter Try.func65, Try.ntmps65
  go_wp2_with fail
  refine wp_region_held_drew (S := (fun w' => w'.cell? ⟨w.heap.size, 0, none⟩ = some (.int .i64 (na : Int)) ∧ w'.cell? ⟨w.heap.size, 1, none⟩ = some (.int .i64 (nb : Int)))) (by kernel_rfl) ?_ (fun hHeld => ?_)
  · (try dsimp only); exact ⟨(Blk.keep (Blk.new w 26 #[.int .i64 (na : Int), .int .i64 (nb : Int), .slice Ag n cg, .slice Ao m co]) (by repeat (first | with_reducible exact Bl.refl _ | with_reducible refine Bl.drew ?_ | with_reducible refine Bl.alloc ?_ _))).cell 0 _ rfl, (Blk.keep (Blk.new w 26 #[.int .i64 (na : Int), .int .i64 (nb : Int), .slice Ag n cg, .slice Ao m co]) (by repeat (first | with_reducible exact Bl.refl _ | with_reducible refine Bl.drew ?_ | with_reducible refine Bl.alloc ?_ _))).cell 1 _ rfl⟩
  refine held_take (i := 0) (d := 12) (v := ?_) rfl rfl (by kernel_rfl) (by kernel_rfl) (by kernel_rfl) (fun _ _ _ h => h) (Or.inl ⟨by rfl, ?_⟩) (by assumption) ?_
  rotate_left
  · (intro w hSw; (try dsimp only at hSw); go_simp; (try with_reducible rfl))
  (try simp only [List.set_cons_zero, List.set_cons_succ])
  refine held_take (i := 2) (d := 14) (v := ?_) rfl rfl (by kernel_rfl) (by kernel_rfl) (by kernel_rfl) (fun _ _ _ h => h) (Or.inl ⟨by rfl, ?_⟩) (by assumption) ?_
  rotate_left
  · (intro w hSw; (try dsimp only at hSw); go_simp; (try with_reducible rfl))
  (try simp only [List.set_cons_zero, List.set_cons_succ])
  refine held_take (i := 3) (d := 15) (v := ?_) rfl rfl (by kernel_rfl) (by kernel_rfl) (by kernel_rfl) (fun _ _ _ h => h) (Or.inl ⟨by rfl, ?_⟩) (by assumption) ?_
  rotate_left
  · (intro w hSw; (try dsimp only at hSw); go_simp; (try with_reducible rfl))
  (try simp only [List.set_cons_zero, List.set_cons_succ])
  refine held_take (i := 5) (d := 17) (v := ?_) rfl rfl (by kernel_rfl) (by kernel_rfl) (by kernel_rfl) (fun _ _ _ h => h) (Or.inl ⟨by rfl, ?_⟩) (by assumption) ?_
  rotate_left
  · (intro w hSw; (try dsimp only at hSw); go_simp; (try with_reducible rfl))
  (try simp only [List.set_cons_zero, List.set_cons_succ])
  refine held_take (i := 7) (d := 19) (v := ?_) rfl rfl (by kernel_rfl) (by kernel_rfl) (by kernel_rfl) (fun _ _ _ h => h) (Or.inl ⟨by rfl, ?_⟩) (by assumption) ?_
  rotate_left
  · (intro w hSw; (try dsimp only at hSw); go_simp; (try with_reducible rfl))
  (try simp only [List.set_cons_zero, List.set_cons_succ])
  refine held_take (i := 8) (d := 20) (v := ?_) rfl rfl (by kernel_rfl) (by kernel_rfl) (by kernel_rfl) (fun _ _ _ h => h) (Or.inl ⟨by rfl, ?_⟩) (by assumption) ?_
  rotate_left
  · (intro w hSw; (try dsimp only at hSw); go_simp; (try with_reducible rfl))
  (try simp only [List.set_cons_zero, List.set_cons_succ])
  refine wpAnyH_ready (rs := [1, 6]) (by kernel_rfl) (by simp) ?_
  refine AllReadyH.cons rfl (fun K hK => ?_) (AllReadyH.cons rfl (fun K hK => ?_) AllReadyH.nil)
  · go_simp
    refine hK.out _ _ ?_ (fun hHeld => ?_)
    · (try dsimp only); exact ⟨(Blk.keep (Blk.new w 26 #[.int .i64 (na : Int), .int .i64 (nb : Int), .slice Ag n cg, .slice Ao m co]) (by repeat (first | with_reducible exact Bl.refl _ | with_reducible refine Bl.drew ?_ | with_reducible refine Bl.alloc ?_ _))).cell 0 _ rfl, (Blk.keep (Blk.new w 26 #[.int .i64 (na : Int), .int .i64 (nb : Int), .slice Ag n cg, .slice Ao m co]) (by repeat (first | with_reducible exact Bl.refl _ | with_reducible refine Bl.drew ?_ | with_reducible refine Bl.alloc ?_ _))).cell 1 _ rfl⟩
    clear hK K
    (try simp only [Act.put]); (try simp only [List.setIfInBounds_toArray]); (try simp only [List.set_cons_succ]); (try simp only [List.set_cons_zero])
    refine wpAnyH_ready (rs := [4, 6]) (by kernel_rfl) (by simp) ?_
    refine AllReadyH.cons rfl (fun K hK => ?_) (AllReadyH.cons rfl (fun K hK => ?_) AllReadyH.nil)
    · go_simp
      refine (spec_dgBits _ 2 2 [key, 221] na _ (RdI.keep (rd_new2 (w.alloc (.cells #[.int .i64 (na : Int), .int .i64 (nb : Int), .slice Ag n cg, .slice Ao m co] 26)) 3 _ _) (by repeat (first | with_reducible exact Bl.refl _ | with_reducible refine Bl.drew ?_ | with_reducible refine Bl.alloc ?_ _))) (words2 _ _ (by omega) (by omega)) (by omega) (by omega)).mono ?_; rintro e w3 ⟨A3, c3, rfl, o3, hb3⟩; have hX3 : Blk w3 w.heap.size 26 #[.int .i64 (na : Int), .int .i64 (nb : Int), .slice Ag n cg, .slice Ao m co] := Blk.keep (w := (w.alloc (.cells #[.int .i64 (na : Int), .int .i64 (nb : Int), .slice Ag n cg, .slice Ao m co] 26))) (Blk.new w _ _) (by repeat (first | with_reducible exact Bl.refl _ | with_reducible refine Bl.drew ?_ | with_reducible refine Bl.alloc ?_ _ | with_reducible refine Bl.call ?_ hb3)); have hW3 : Bl w w3 := (by repeat (first | with_reducible exact Bl.refl _ | with_reducible refine Bl.drew ?_ | with_reducible refine Bl.alloc ?_ _ | with_reducible refine Bl.call ?_ hb3))
      go_wp2_with fail
      refine hK.out _ _ ?_ (fun hHeld => ?_)
      · (try dsimp only); exact ⟨(Blk.keep hX3 (by repeat (first | with_reducible exact Bl.refl _ | with_reducible refine Bl.drew ?_ | with_reducible refine Bl.alloc ?_ _))).cell 0 _ rfl, (Blk.keep hX3 (by repeat (first | with_reducible exact Bl.refl _ | with_reducible refine Bl.drew ?_ | with_reducible refine Bl.alloc ?_ _))).cell 1 _ rfl⟩
      clear hK K
      (try simp only [Act.put]); (try simp only [List.setIfInBounds_toArray]); (try simp only [List.set_cons_succ]); (try simp only [List.set_cons_zero])
      refine wpAnyH_ready (rs := [6]) (by kernel_rfl) (by simp) ?_
      refine AllReadyH.cons rfl (fun K hK => ?_) AllReadyH.nil
      go_simp
      refine hK.out _ _ ?_ (fun hHeld => ?_)
      · (try dsimp only); exact ⟨(Blk.keep hX3 (by repeat (first | with_reducible exact Bl.refl _ | with_reducible refine Bl.drew ?_ | with_reducible refine Bl.alloc ?_ _))).cell 0 _ rfl, (Blk.keep hX3 (by repeat (first | with_reducible exact Bl.refl _ | with_reducible refine Bl.drew ?_ | with_reducible refine Bl.alloc ?_ _))).cell 1 _ rfl⟩
      clear hK K
      (try simp only [Act.put]); (try simp only [List.setIfInBounds_toArray]); (try simp only [List.set_cons_succ]); (try simp only [List.set_cons_zero])
      refine wpAnyH_ready (rs := [9]) (by kernel_rfl) (by simp) ?_
      refine AllReadyH.cons rfl (fun K hK => ?_) AllReadyH.nil
      go_simp
      refine (spec_dgBits _ 2 2 [key, 222] nb _ (RdI.keep (rd_new2 w3 3 _ _) (by repeat (first | with_reducible exact Bl.refl _ | with_reducible refine Bl.drew ?_ | with_reducible refine Bl.alloc ?_ _ | with_reducible refine Bl.call ?_ hb3))) (words2 _ _ (by omega) (by omega)) (by omega) (by omega)).mono ?_; rintro e w4 ⟨A4, c4, rfl, o4, hb4⟩; have hX4 : Blk w4 w.heap.size 26 #[.int .i64 (na : Int), .int .i64 (nb : Int), .slice Ag n cg, .slice Ao m co] := Blk.keep (w := w3) hX3 (by repeat (first | with_reducible exact Bl.refl _ | with_reducible refine Bl.drew ?_ | with_reducible refine Bl.alloc ?_ _ | with_reducible refine Bl.call ?_ hb4)); replace o3 := o3.keep (w' := w4) (by repeat (first | with_reducible exact Bl.refl _ | with_reducible refine Bl.drew ?_ | with_reducible refine Bl.alloc ?_ _ | with_reducible refine Bl.call ?_ hb4)); have hW4 : Bl w w4 := (by repeat (first | with_reducible exact Bl.refl _ | with_reducible refine Bl.drew ?_ | with_reducible refine Bl.alloc ?_ _ | with_reducible refine Bl.call ?_ hb4 | with_reducible refine Bl.call ?_ hW3))
      go_wp2_with fail
      refine hK.out _ _ ?_ (fun hHeld => ?_)
      · (try dsimp only); exact ⟨hX4.cell 0 _ rfl, hX4.cell 1 _ rfl⟩
      clear hK K
      (try simp only [Act.put]); (try simp only [List.setIfInBounds_toArray]); (try simp only [List.set_cons_succ]); (try simp only [List.set_cons_zero])
      refine held_take (i := 10) (d := 10) (v := ?_) rfl rfl (by kernel_rfl) (by kernel_rfl) (by kernel_rfl) (fun _ _ _ h => h) (Or.inl ⟨by rfl, ?_⟩) (by assumption) ?_
      rotate_left
      · (intro w hSw; (try dsimp only at hSw); go_simp; (try with_reducible rfl))
      (try simp only [List.set_cons_zero, List.set_cons_succ])
      refine held_take (i := 11) (d := 11) (v := ?_) rfl rfl (by kernel_rfl) (by kernel_rfl) (by kernel_rfl) (fun _ _ _ h => h) (Or.inl ⟨by rfl, ?_⟩) (by assumption) ?_
      rotate_left
      · (intro w hSw; (try dsimp only at hSw); go_simp; (try with_reducible rfl))
      (try simp only [List.set_cons_zero, List.set_cons_succ])
      refine wpAnyH_done (by kernel_rfl) ?_ _
      have z3 := o3.mono (base' := w.heap.size) (by first | (have := hW3.sz; simp; omega) | (simp; omega))
      have z4 := o4.mono (base' := w.heap.size) (by have := hW3.sz; simp; omega)
      clear o3 o4
      have o3 := z3; have o4 := z4
      clear z3 z4
      go_wp2_with fail
      refine (spec_btXor Aa A3 na ca c3 la (bfL [key, 221] na) _ (ha.keep hW4) o3.rd hba (bfL_bit _ _) (by omega)).mono ?_
      rintro e w5 ⟨A5, c5, rfl, o5, hb5⟩
      have o3b := o3.keep hb5; have o4b := o4.keep hb5; have hW5 := hW4.call hb5
      go_wp2_with fail
      refine (spec_ciJoin A5 A4 na c5 nb c4 (xoL la (bfL [key, 221] na)) (bfL [key, 222] nb) w5 o5.rd o4b.rd (by omega) (by omega)).mono ?_
      rintro e w6 ⟨A7, c7, rfl, o7, hb6⟩
      have o3c := o3b.keep hb6; have o4c := o4b.keep hb6; have hW6 := hW5.call hb6
      go_wp2_with fail
      refine (spec_btXor Ab A4 nb cb c4 lb (bfL [key, 222] nb) _ (hb.keep hW6) o4c.rd hbb (bfL_bit _ _) (by omega)).mono ?_
      rintro e w8 ⟨A8, c8, rfl, o8, hb8⟩
      have o3d := o3c.keep hb8; have hW8 := hW6.call hb8
      go_wp2_with fail
      refine (spec_ciJoin A3 A8 na c3 nb c8 (bfL [key, 221] na) (xoL lb (bfL [key, 222] nb)) w8 o3d.rd o8.rd (by omega) (by omega)).mono ?_
      rintro e w9 ⟨A9, c9, rfl, o9, hb9⟩
      go_wp2_with fail
      go_ret2
      exact ⟨A7, c7, A9, c9, rfl, by unfold shU; exact ((o7.keep hb8).keep hb9).mono (by have := hW5.sz; omega), by unfold shV; exact o9.mono (by have := hW8.sz; omega), hW8.call hb9⟩
    · go_simp
      refine hK.out _ _ ?_ (fun hHeld => ?_)
      · (try dsimp only); exact ⟨(Blk.keep (Blk.new w 26 #[.int .i64 (na : Int), .int .i64 (nb : Int), .slice Ag n cg, .slice Ao m co]) (by repeat (first | with_reducible exact Bl.refl _ | with_reducible refine Bl.drew ?_ | with_reducible refine Bl.alloc ?_ _))).cell 0 _ rfl, (Blk.keep (Blk.new w 26 #[.int .i64 (na : Int), .int .i64 (nb : Int), .slice Ag n cg, .slice Ao m co]) (by repeat (first | with_reducible exact Bl.refl _ | with_reducible refine Bl.drew ?_ | with_reducible refine Bl.alloc ?_ _))).cell 1 _ rfl⟩
      clear hK K
      (try simp only [Act.put]); (try simp only [List.setIfInBounds_toArray]); (try simp only [List.set_cons_succ]); (try simp only [List.set_cons_zero])
      refine wpAnyH_ready (rs := [4]) (by kernel_rfl) (by simp) ?_
      refine AllReadyH.cons rfl (fun K hK => ?_) AllReadyH.nil
      go_simp
      refine (spec_dgBits _ 2 2 [key, 221] na _ (RdI.keep (rd_new2 (w.alloc (.cells #[.int .i64 (na : Int), .int .i64 (nb : Int), .slice Ag n cg, .slice Ao m co] 26)) 3 _ _) (by repeat (first | with_reducible exact Bl.refl _ | with_reducible refine Bl.drew ?_ | with_reducible refine Bl.alloc ?_ _))) (words2 _ _ (by omega) (by omega)) (by omega) (by omega)).mono ?_; rintro e w3 ⟨A3, c3, rfl, o3, hb3⟩; have hX3 : Blk w3 w.heap.size 26 #[.int .i64 (na : Int), .int .i64 (nb : Int), .slice Ag n cg, .slice Ao m co] := Blk.keep (w := (w.alloc (.cells #[.int .i64 (na : Int), .int .i64 (nb : Int), .slice Ag n cg, .slice Ao m co] 26))) (Blk.new w _ _) (by repeat (first | with_reducible exact Bl.refl _ | with_reducible refine Bl.drew ?_ | with_reducible refine Bl.alloc ?_ _ | with_reducible refine Bl.call ?_ hb3)); have hW3 : Bl w w3 := (by repeat (first | with_reducible exact Bl.refl _ | with_reducible refine Bl.drew ?_ | with_reducible refine Bl.alloc ?_ _ | with_reducible refine Bl.call ?_ hb3))
      go_wp2_with fail
      refine hK.out _ _ ?_ (fun hHeld => ?_)
      · (try dsimp only); exact ⟨(Blk.keep hX3 (by repeat (first | with_reducible exact Bl.refl _ | with_reducible refine Bl.drew ?_ | with_reducible refine Bl.alloc ?_ _))).cell 0 _ rfl, (Blk.keep hX3 (by repeat (first | with_reducible exact Bl.refl _ | with_reducible refine Bl.drew ?_ | with_reducible refine Bl.alloc ?_ _))).cell 1 _ rfl⟩
      clear hK K
      (try simp only [Act.put]); (try simp only [List.setIfInBounds_toArray]); (try simp only [List.set_cons_succ]); (try simp only [List.set_cons_zero])
      refine wpAnyH_ready (rs := [9]) (by kernel_rfl) (by simp) ?_
      refine AllReadyH.cons rfl (fun K hK => ?_) AllReadyH.nil
      go_simp
      refine (spec_dgBits _ 2 2 [key, 222] nb _ (RdI.keep (rd_new2 ((w.alloc (.cells #[.int .i64 (na : Int), .int .i64 (nb : Int), .slice Ag n cg, .slice Ao m co] 26)).alloc (.cells #[.int .i64 key, .int .i64 221] 3)) 3 _ _) (by repeat (first | with_reducible exact Bl.refl _ | with_reducible refine Bl.drew ?_ | with_reducible refine Bl.alloc ?_ _ | with_reducible refine Bl.call ?_ hb3))) (words2 _ _ (by omega) (by omega)) (by omega) (by omega)).mono ?_; rintro e w4 ⟨A4, c4, rfl, o4, hb4⟩; have hX4 : Blk w4 w.heap.size 26 #[.int .i64 (na : Int), .int .i64 (nb : Int), .slice Ag n cg, .slice Ao m co] := Blk.keep (w := w3) hX3 (by repeat (first | with_reducible exact Bl.refl _ | with_reducible refine Bl.drew ?_ | with_reducible refine Bl.alloc ?_ _ | with_reducible refine Bl.call ?_ hb4)); replace o3 := o3.keep (w' := w4) (by repeat (first | with_reducible exact Bl.refl _ | with_reducible refine Bl.drew ?_ | with_reducible refine Bl.alloc ?_ _ | with_reducible refine Bl.call ?_ hb4)); have hW4 : Bl w w4 := (by repeat (first | with_reducible exact Bl.refl _ | with_reducible refine Bl.drew ?_ | with_reducible refine Bl.alloc ?_ _ | with_reducible refine Bl.call ?_ hb4 | with_reducible refine Bl.call ?_ hW3))
      go_wp2_with fail
      refine hK.out _ _ ?_ (fun hHeld => ?_)
      · (try dsimp only); exact ⟨hX4.cell 0 _ rfl, hX4.cell 1 _ rfl⟩
      clear hK K
      (try simp only [Act.put]); (try simp only [List.setIfInBounds_toArray]); (try simp only [List.set_cons_succ]); (try simp only [List.set_cons_zero])
      refine held_take (i := 10) (d := 10) (v := ?_) rfl rfl (by kernel_rfl) (by kernel_rfl) (by kernel_rfl) (fun _ _ _ h => h) (Or.inl ⟨by rfl, ?_⟩) (by assumption) ?_
      rotate_left
      · (intro w hSw; (try dsimp only at hSw); go_simp; (try with_reducible rfl))
      (try simp only [List.set_cons_zero, List.set_cons_succ])
      refine held_take (i := 11) (d := 11) (v := ?_) rfl rfl (by kernel_rfl) (by kernel_rfl) (by kernel_rfl) (fun _ _ _ h => h) (Or.inl ⟨by rfl, ?_⟩) (by assumption) ?_
      rotate_left
      · (intro w hSw; (try dsimp only at hSw); go_simp; (try with_reducible rfl))
      (try simp only [List.set_cons_zero, List.set_cons_succ])
      refine wpAnyH_done (by kernel_rfl) ?_ _
      have z3 := o3.mono (base' := w.heap.size) (by first | (have := hW3.sz; simp; omega) | (simp; omega))
      have z4 := o4.mono (base' := w.heap.size) (by have := hW3.sz; simp; omega)
      clear o3 o4
      have o3 := z3; have o4 := z4
      clear z3 z4
      go_wp2_with fail
      refine (spec_btXor Aa A3 na ca c3 la (bfL [key, 221] na) _ (ha.keep hW4) o3.rd hba (bfL_bit _ _) (by omega)).mono ?_
      rintro e w5 ⟨A5, c5, rfl, o5, hb5⟩
      have o3b := o3.keep hb5; have o4b := o4.keep hb5; have hW5 := hW4.call hb5
      go_wp2_with fail
      refine (spec_ciJoin A5 A4 na c5 nb c4 (xoL la (bfL [key, 221] na)) (bfL [key, 222] nb) w5 o5.rd o4b.rd (by omega) (by omega)).mono ?_
      rintro e w6 ⟨A7, c7, rfl, o7, hb6⟩
      have o3c := o3b.keep hb6; have o4c := o4b.keep hb6; have hW6 := hW5.call hb6
      go_wp2_with fail
      refine (spec_btXor Ab A4 nb cb c4 lb (bfL [key, 222] nb) _ (hb.keep hW6) o4c.rd hbb (bfL_bit _ _) (by omega)).mono ?_
      rintro e w8 ⟨A8, c8, rfl, o8, hb8⟩
      have o3d := o3c.keep hb8; have hW8 := hW6.call hb8
      go_wp2_with fail
      refine (spec_ciJoin A3 A8 na c3 nb c8 (bfL [key, 221] na) (xoL lb (bfL [key, 222] nb)) w8 o3d.rd o8.rd (by omega) (by omega)).mono ?_
      rintro e w9 ⟨A9, c9, rfl, o9, hb9⟩
      go_wp2_with fail
      go_ret2
      exact ⟨A7, c7, A9, c9, rfl, by unfold shU; exact ((o7.keep hb8).keep hb9).mono (by have := hW5.sz; omega), by unfold shV; exact o9.mono (by have := hW8.sz; omega), hW8.call hb9⟩
  · go_simp
    refine hK.out _ _ ?_ (fun hHeld => ?_)
    · (try dsimp only); exact ⟨(Blk.keep (Blk.new w 26 #[.int .i64 (na : Int), .int .i64 (nb : Int), .slice Ag n cg, .slice Ao m co]) (by repeat (first | with_reducible exact Bl.refl _ | with_reducible refine Bl.drew ?_ | with_reducible refine Bl.alloc ?_ _))).cell 0 _ rfl, (Blk.keep (Blk.new w 26 #[.int .i64 (na : Int), .int .i64 (nb : Int), .slice Ag n cg, .slice Ao m co]) (by repeat (first | with_reducible exact Bl.refl _ | with_reducible refine Bl.drew ?_ | with_reducible refine Bl.alloc ?_ _))).cell 1 _ rfl⟩
    clear hK K
    (try simp only [Act.put]); (try simp only [List.setIfInBounds_toArray]); (try simp only [List.set_cons_succ]); (try simp only [List.set_cons_zero])
    refine wpAnyH_ready (rs := [1]) (by kernel_rfl) (by simp) ?_
    refine AllReadyH.cons rfl (fun K hK => ?_) AllReadyH.nil
    go_simp
    refine hK.out _ _ ?_ (fun hHeld => ?_)
    · (try dsimp only); exact ⟨(Blk.keep (Blk.new w 26 #[.int .i64 (na : Int), .int .i64 (nb : Int), .slice Ag n cg, .slice Ao m co]) (by repeat (first | with_reducible exact Bl.refl _ | with_reducible refine Bl.drew ?_ | with_reducible refine Bl.alloc ?_ _))).cell 0 _ rfl, (Blk.keep (Blk.new w 26 #[.int .i64 (na : Int), .int .i64 (nb : Int), .slice Ag n cg, .slice Ao m co]) (by repeat (first | with_reducible exact Bl.refl _ | with_reducible refine Bl.drew ?_ | with_reducible refine Bl.alloc ?_ _))).cell 1 _ rfl⟩
    clear hK K
    (try simp only [Act.put]); (try simp only [List.setIfInBounds_toArray]); (try simp only [List.set_cons_succ]); (try simp only [List.set_cons_zero])
    refine wpAnyH_ready (rs := [4]) (by kernel_rfl) (by simp) ?_
    refine AllReadyH.cons rfl (fun K hK => ?_) AllReadyH.nil
    go_simp
    refine (spec_dgBits _ 2 2 [key, 221] na _ (RdI.keep (rd_new2 ((w.alloc (.cells #[.int .i64 (na : Int), .int .i64 (nb : Int), .slice Ag n cg, .slice Ao m co] 26)).alloc (.cells #[.int .i64 key, .int .i64 222] 3)) 3 _ _) (by repeat (first | with_reducible exact Bl.refl _ | with_reducible refine Bl.drew ?_ | with_reducible refine Bl.alloc ?_ _))) (words2 _ _ (by omega) (by omega)) (by omega) (by omega)).mono ?_; rintro e w3 ⟨A3, c3, rfl, o3, hb3⟩; have hX3 : Blk w3 w.heap.size 26 #[.int .i64 (na : Int), .int .i64 (nb : Int), .slice Ag n cg, .slice Ao m co] := Blk.keep (w := (w.alloc (.cells #[.int .i64 (na : Int), .int .i64 (nb : Int), .slice Ag n cg, .slice Ao m co] 26))) (Blk.new w _ _) (by repeat (first | with_reducible exact Bl.refl _ | with_reducible refine Bl.drew ?_ | with_reducible refine Bl.alloc ?_ _ | with_reducible refine Bl.call ?_ hb3)); have hW3 : Bl w w3 := (by repeat (first | with_reducible exact Bl.refl _ | with_reducible refine Bl.drew ?_ | with_reducible refine Bl.alloc ?_ _ | with_reducible refine Bl.call ?_ hb3))
    go_wp2_with fail
    refine hK.out _ _ ?_ (fun hHeld => ?_)
    · (try dsimp only); exact ⟨(Blk.keep hX3 (by repeat (first | with_reducible exact Bl.refl _ | with_reducible refine Bl.drew ?_ | with_reducible refine Bl.alloc ?_ _))).cell 0 _ rfl, (Blk.keep hX3 (by repeat (first | with_reducible exact Bl.refl _ | with_reducible refine Bl.drew ?_ | with_reducible refine Bl.alloc ?_ _))).cell 1 _ rfl⟩
    clear hK K
    (try simp only [Act.put]); (try simp only [List.setIfInBounds_toArray]); (try simp only [List.set_cons_succ]); (try simp only [List.set_cons_zero])
    refine wpAnyH_ready (rs := [9]) (by kernel_rfl) (by simp) ?_
    refine AllReadyH.cons rfl (fun K hK => ?_) AllReadyH.nil
    go_simp
    refine (spec_dgBits _ 2 2 [key, 222] nb _ (RdI.keep (rd_new2 (w.alloc (.cells #[.int .i64 (na : Int), .int .i64 (nb : Int), .slice Ag n cg, .slice Ao m co] 26)) 3 _ _) (by repeat (first | with_reducible exact Bl.refl _ | with_reducible refine Bl.drew ?_ | with_reducible refine Bl.alloc ?_ _ | with_reducible refine Bl.call ?_ hb3))) (words2 _ _ (by omega) (by omega)) (by omega) (by omega)).mono ?_; rintro e w4 ⟨A4, c4, rfl, o4, hb4⟩; have hX4 : Blk w4 w.heap.size 26 #[.int .i64 (na : Int), .int .i64 (nb : Int), .slice Ag n cg, .slice Ao m co] := Blk.keep (w := w3) hX3 (by repeat (first | with_reducible exact Bl.refl _ | with_reducible refine Bl.drew ?_ | with_reducible refine Bl.alloc ?_ _ | with_reducible refine Bl.call ?_ hb4)); replace o3 := o3.keep (w' := w4) (by repeat (first | with_reducible exact Bl.refl _ | with_reducible refine Bl.drew ?_ | with_reducible refine Bl.alloc ?_ _ | with_reducible refine Bl.call ?_ hb4)); have hW4 : Bl w w4 := (by repeat (first | with_reducible exact Bl.refl _ | with_reducible refine Bl.drew ?_ | with_reducible refine Bl.alloc ?_ _ | with_reducible refine Bl.call ?_ hb4 | with_reducible refine Bl.call ?_ hW3))
    go_wp2_with fail
    refine hK.out _ _ ?_ (fun hHeld => ?_)
    · (try dsimp only); exact ⟨hX4.cell 0 _ rfl, hX4.cell 1 _ rfl⟩
    clear hK K
    (try simp only [Act.put]); (try simp only [List.setIfInBounds_toArray]); (try simp only [List.set_cons_succ]); (try simp only [List.set_cons_zero])
    refine held_take (i := 10) (d := 10) (v := ?_) rfl rfl (by kernel_rfl) (by kernel_rfl) (by kernel_rfl) (fun _ _ _ h => h) (Or.inl ⟨by rfl, ?_⟩) (by assumption) ?_
    rotate_left
    · (intro w hSw; (try dsimp only at hSw); go_simp; (try with_reducible rfl))
    (try simp only [List.set_cons_zero, List.set_cons_succ])
    refine held_take (i := 11) (d := 11) (v := ?_) rfl rfl (by kernel_rfl) (by kernel_rfl) (by kernel_rfl) (fun _ _ _ h => h) (Or.inl ⟨by rfl, ?_⟩) (by assumption) ?_
    rotate_left
    · (intro w hSw; (try dsimp only at hSw); go_simp; (try with_reducible rfl))
    (try simp only [List.set_cons_zero, List.set_cons_succ])
    refine wpAnyH_done (by kernel_rfl) ?_ _
    have z3 := o3.mono (base' := w.heap.size) (by first | (have := hW3.sz; simp; omega) | (simp; omega))
    have z4 := o4.mono (base' := w.heap.size) (by have := hW3.sz; simp; omega)
    clear o3 o4
    have o3 := z3; have o4 := z4
    clear z3 z4
    go_wp2_with fail
    refine (spec_btXor Aa A3 na ca c3 la (bfL [key, 221] na) _ (ha.keep hW4) o3.rd hba (bfL_bit _ _) (by omega)).mono ?_
    rintro e w5 ⟨A5, c5, rfl, o5, hb5⟩
    have o3b := o3.keep hb5; have o4b := o4.keep hb5; have hW5 := hW4.call hb5
    go_wp2_with fail
    refine (spec_ciJoin A5 A4 na c5 nb c4 (xoL la (bfL [key, 221] na)) (bfL [key, 222] nb) w5 o5.rd o4b.rd (by omega) (by omega)).mono ?_
    rintro e w6 ⟨A7, c7, rfl, o7, hb6⟩
    have o3c := o3b.keep hb6; have o4c := o4b.keep hb6; have hW6 := hW5.call hb6
    go_wp2_with fail
    refine (spec_btXor Ab A4 nb cb c4 lb (bfL [key, 222] nb) _ (hb.keep hW6) o4c.rd hbb (bfL_bit _ _) (by omega)).mono ?_
    rintro e w8 ⟨A8, c8, rfl, o8, hb8⟩
    have o3d := o3c.keep hb8; have hW8 := hW6.call hb8
    go_wp2_with fail
    refine (spec_ciJoin A3 A8 na c3 nb c8 (bfL [key, 221] na) (xoL lb (bfL [key, 222] nb)) w8 o3d.rd o8.rd (by omega) (by omega)).mono ?_
    rintro e w9 ⟨A9, c9, rfl, o9, hb9⟩
    go_wp2_with fail
    go_ret2
    exact ⟨A7, c7, A9, c9, rfl, by unfold shU; exact ((o7.keep hb8).keep hb9).mono (by have := hW5.sz; omega), by unfold shV; exact o9.mono (by have := hW8.sz; omega), hW8.call hb9⟩
end Go.Proofs.Ytlmlffiajgofeaa
