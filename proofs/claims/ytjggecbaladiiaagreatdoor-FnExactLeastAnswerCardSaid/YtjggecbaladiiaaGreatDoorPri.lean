/- The reference's reading of a line, for each kind of lines.
   Conditions: the words of a line of that kind. -/
import Derived.Test.YtjggecbaladiiaaGreatDoorPrh
namespace Go.Proofs.YtjggecbaladiiaaGreatDoor
open Go.RowKit
set_option linter.unusedVariables false
set_option maxRecDepth 20000 in
set_option maxHeartbeats 4000000 in
theorem spec_laLine_input (g c : Nat) (nm : ByteArray) (a b : Int) (ha0 : 0 ≤ a) (ha9 : a ≤ 9) (hb0 : 0 ≤ b) (hb9 : b ≤ 9) (w : World) (h : RdS w (some ⟨g, 0, none⟩) 4 c [⟨#[105, 110, 112, 117, 116]⟩, dg a, nm, dg b]) :
    Calls Tryz.prog 133 #[.slice (some ⟨g, 0, none⟩) 4 c] w fun e w' => ∃ A m d, e = .returned (.agg #[.int .i64 1, .string nm, .string ⟨#[]⟩, .slice A m d, .int .i64 a, .int .i64 b, .int .i64 0]) ∧ RdS w' A m d [] ∧ (∀ k, A.map (·.block) = some k → k < w'.heap.size ∧ (k = g ∨ w.heap.size ≤ k)) ∧ Bl w w' := by
  have e_input : ((⟨#[105, 110, 112, 117, 116]⟩ : ByteArray).toList == (⟨#[105, 110, 112, 117, 116]⟩ : ByteArray).toList) = true := by decide +kernel
  obtain ⟨hle1, hle2⟩ := h.le
  obtain ⟨x0, hg0, hx0, k0⟩ := h.at0_ (k := 0) (by omega)
  obtain rfl := Option.some.inj hx0
  obtain ⟨x1, hg1, hx1, k1⟩ := h.at0_ (k := 1) (by omega)
  obtain rfl := Option.some.inj hx1
  obtain ⟨x2, hg2, hx2, k2⟩ := h.at0_ (k := 2) (by omega)
  obtain rfl := Option.some.inj hx2
  obtain ⟨x3, hg3, hx3, k3⟩ := h.at0_ (k := 3) (by omega)
  obtain rfl := Option.some.inj hx3
  have hR := Blk.new w 92 #[.int .i64 0, .string ⟨#[]⟩, .string ⟨#[]⟩, .slice none 0 0, .int .i64 0, .int .i64 0, .int .i64 0] (g := w.heap.size)
  have hW1 := (Bl.refl w).alloc (.cells #[.int .i64 0, .string ⟨#[]⟩, .string ⟨#[]⟩, .slice none 0 0, .int .i64 0, .int .i64 0, .int .i64 0] 92)
  go_enter Tryz.func133, Tryz.ntmps133
  go_wp2_with fail
  generalize w.alloc (.cells #[.int .i64 0, .string ⟨#[]⟩, .string ⟨#[]⟩, .slice none 0 0, .int .i64 0, .int .i64 0, .int .i64 0] 92) = W0 at hR hW1 ⊢
  replace hR := hR.drew
  replace hW1 := hW1.drew
  have hR9 := hR.lt
  replace k0 := hW1.cells k0
  replace k1 := hW1.cells k1
  replace k2 := hW1.cells k2
  replace k3 := hW1.cells k3
  have hR_l := hR.lt; have hR_f := hR.frozen; have hR_0 := hR.cell 0 _ rfl; have hR_1 := hR.cell 1 _ rfl; have hR_2 := hR.cell 2 _ rfl; have hR_3 := hR.cell 3 _ rfl; have hR_4 := hR.cell 4 _ rfl; have hR_5 := hR.cell 5 _ rfl; have hR_6 := hR.cell 6 _ rfl
  have hgr : w.heap.size ≠ g := by omega
  refine wp_region_held_drew (S := (fun w' => w'.cell? ⟨g, 1, none⟩ = some (.string (dg a)) ∧ w'.cell? ⟨g, 2, none⟩ = some (.string (nm)) ∧ w'.cell? ⟨g, 3, none⟩ = some (.string (dg b)))) (by kernel_rfl) ?_ (fun hHeld => ?_)
  · (try dsimp only); exact ⟨k1, k2, k3⟩
  generalize W0.drew = W1 at hR hW1 hHeld k0 k1 k2 k3 hR9 hR_l hR_f hR_0 hR_1 hR_2 hR_3 hR_4 hR_5 hR_6 ⊢
  refine held_take (i := 0) (d := 15) (v := ?_) rfl rfl (by kernel_rfl) (by kernel_rfl) (by kernel_rfl) (fun _ _ _ h => h) (Or.inl ⟨by rfl, ?_⟩) (by assumption) ?_
  rotate_left
  · (intro w hSw; (try dsimp only at hSw); go_simp; (try with_reducible rfl))
  (try simp only [List.set_cons_zero, List.set_cons_succ])
  refine held_take (i := 1) (d := 16) (v := ?_) rfl rfl (by kernel_rfl) (by kernel_rfl) (by kernel_rfl) (fun _ _ _ h => h) (Or.inl ⟨by rfl, ?_⟩) (by assumption) ?_
  rotate_left
  · (intro w hSw; (try dsimp only at hSw); go_simp; (try with_reducible rfl))
  (try simp only [List.set_cons_zero, List.set_cons_succ])
  refine held_take (i := 2) (d := 17) (v := ?_) rfl rfl (by kernel_rfl) (by kernel_rfl) (by kernel_rfl) (fun _ _ _ h => h) (Or.inl ⟨by rfl, ?_⟩) (by assumption) ?_
  rotate_left
  · (intro w hSw; (try dsimp only at hSw); go_simp; (try with_reducible rfl))
  (try simp only [List.set_cons_zero, List.set_cons_succ])
  refine held_take (i := 4) (d := 19) (v := ?_) rfl rfl (by kernel_rfl) (by kernel_rfl) (by kernel_rfl) (fun _ _ _ h => h) (Or.inl ⟨by rfl, ?_⟩) (by assumption) ?_
  rotate_left
  · (intro w hSw; (try dsimp only at hSw); go_simp; (try with_reducible rfl))
  (try simp only [List.set_cons_zero, List.set_cons_succ])
  refine held_take (i := 5) (d := 20) (v := ?_) rfl rfl (by kernel_rfl) (by kernel_rfl) (by kernel_rfl) (fun _ _ _ h => h) (Or.inl ⟨by rfl, ?_⟩) (by assumption) ?_
  rotate_left
  · (intro w hSw; (try dsimp only at hSw); go_simp; (try with_reducible rfl))
  (try simp only [List.set_cons_zero, List.set_cons_succ])
  refine held_take (i := 6) (d := 21) (v := ?_) rfl rfl (by kernel_rfl) (by kernel_rfl) (by kernel_rfl) (fun _ _ _ h => h) (Or.inl ⟨by rfl, ?_⟩) (by assumption) ?_
  rotate_left
  · (intro w hSw; (try dsimp only at hSw); go_simp; (try with_reducible rfl))
  (try simp only [List.set_cons_zero, List.set_cons_succ])
  refine held_take (i := 7) (d := 22) (v := ?_) rfl rfl (by kernel_rfl) (by kernel_rfl) (by kernel_rfl) (fun _ _ _ h => h) (Or.inl ⟨by rfl, ?_⟩) (by assumption) ?_
  rotate_left
  · (intro w hSw; (try dsimp only at hSw); go_simp; (try with_reducible rfl))
  (try simp only [List.set_cons_zero, List.set_cons_succ])
  refine held_take (i := 8) (d := 23) (v := ?_) rfl rfl (by kernel_rfl) (by kernel_rfl) (by kernel_rfl) (fun _ _ _ h => h) (Or.inl ⟨by rfl, ?_⟩) (by assumption) ?_
  rotate_left
  · (intro w hSw; (try dsimp only at hSw); go_simp; (try with_reducible rfl))
  (try simp only [List.set_cons_zero, List.set_cons_succ])
  refine held_take (i := 9) (d := 24) (v := ?_) rfl rfl (by kernel_rfl) (by kernel_rfl) (by kernel_rfl) (fun _ _ _ h => h) (Or.inl ⟨by rfl, ?_⟩) (by assumption) ?_
  rotate_left
  · (intro w hSw; (try dsimp only at hSw); go_simp; (try with_reducible rfl))
  (try simp only [List.set_cons_zero, List.set_cons_succ])
  refine wpAnyH_ready (rs := [3]) (by kernel_rfl) (by simp) ?_
  refine AllReadyH.cons rfl (fun K hK => ?_) AllReadyH.nil
  go_simp
  refine (spec_l1Read a ha0 ha9 _).mono ?_; rintro e v3 ⟨rfl, rfl⟩
  go_wp2_with fail
  refine hK.out _ _ ?_ (fun hHeld => ?_)
  · (try dsimp only); exact ⟨k1, k2, k3⟩
  clear hK K
  (try simp only [Act.put]); (try simp only [List.setIfInBounds_toArray]); (try simp only [List.set_cons_succ]); (try simp only [List.set_cons_zero])
  refine wpAnyH_ready (rs := [10]) (by kernel_rfl) (by simp) ?_
  refine AllReadyH.cons rfl (fun K hK => ?_) AllReadyH.nil
  go_simp
  refine (spec_l1Read b hb0 hb9 _).mono ?_; rintro e v10 ⟨rfl, rfl⟩
  go_wp2_with fail
  refine hK.out _ _ ?_ (fun hHeld => ?_)
  · (try dsimp only); exact ⟨k1, k2, k3⟩
  clear hK K
  (try simp only [Act.put]); (try simp only [List.setIfInBounds_toArray]); (try simp only [List.set_cons_succ]); (try simp only [List.set_cons_zero])
  refine held_take (i := 11) (d := 26) (v := ?_) rfl rfl (by kernel_rfl) (by kernel_rfl) (by kernel_rfl) (fun _ _ _ h => h) (Or.inl ⟨by rfl, ?_⟩) (by assumption) ?_
  rotate_left
  · (intro w hSw; (try dsimp only at hSw); go_simp; (try with_reducible rfl))
  (try simp only [List.set_cons_zero, List.set_cons_succ])
  refine wpAnyH_ready (rs := [12]) (by kernel_rfl) (by simp) ?_
  refine AllReadyH.cons rfl (fun K hK => ?_) AllReadyH.nil
  go_simp
  refine hK.out _ _ ?_ (fun hHeld => ?_)
  · (try dsimp only); exact ⟨by go_simp, by go_simp, by go_simp⟩
  clear hK K
  (try simp only [Act.put]); (try simp only [List.setIfInBounds_toArray]); (try simp only [List.set_cons_succ]); (try simp only [List.set_cons_zero])
  refine wpAnyH_done (by kernel_rfl) ?_ _
  go_wp2_with fail
  refine bodyPost_ret (v := .agg #[.int .i64 1, .string nm, .string ⟨#[]⟩, .slice none 0 0, .int .i64 a, .int .i64 b, .int .i64 0]) (by simp only [results, Tryz.results133]; go_simp) rfl ⟨_, _, _, rfl, RdS.nil _, (fun k hk => by cases hk), (by (repeat (first | with_reducible assumption | with_reducible exact Bl.refl _ | with_reducible refine Bl.drewN ?_ _ | with_reducible refine Bl.drew ?_ | with_reducible refine Bl.alloc ?_ _ | with_reducible refine Bl.setCell ?_ (by first | (dsimp only; omega) | (simp; omega)) _ | (with_reducible refine Bl.call ?_ (by with_reducible assumption)))))⟩
set_option maxRecDepth 20000 in
set_option maxHeartbeats 4000000 in
theorem spec_laLine_const (g c : Nat) (nm : ByteArray) (a b : Int) (ha0 : 0 ≤ a) (ha9 : a ≤ 9) (hb0 : 0 ≤ b) (hb9 : b ≤ 9) (w : World) (h : RdS w (some ⟨g, 0, none⟩) 4 c [⟨#[99, 111, 110, 115, 116]⟩, nm, dg a, dg b]) :
    Calls Tryz.prog 133 #[.slice (some ⟨g, 0, none⟩) 4 c] w fun e w' => ∃ A m d, e = .returned (.agg #[.int .i64 2, .string nm, .string ⟨#[]⟩, .slice A m d, .int .i64 0, .int .i64 a, .int .i64 b]) ∧ RdS w' A m d [] ∧ (∀ k, A.map (·.block) = some k → k < w'.heap.size ∧ (k = g ∨ w.heap.size ≤ k)) ∧ Bl w w' := by
  have e_input : ((⟨#[99, 111, 110, 115, 116]⟩ : ByteArray).toList == (⟨#[105, 110, 112, 117, 116]⟩ : ByteArray).toList) = false := by decide +kernel
  have e_const : ((⟨#[99, 111, 110, 115, 116]⟩ : ByteArray).toList == (⟨#[99, 111, 110, 115, 116]⟩ : ByteArray).toList) = true := by decide +kernel
  obtain ⟨hle1, hle2⟩ := h.le
  obtain ⟨x0, hg0, hx0, k0⟩ := h.at0_ (k := 0) (by omega)
  obtain rfl := Option.some.inj hx0
  obtain ⟨x1, hg1, hx1, k1⟩ := h.at0_ (k := 1) (by omega)
  obtain rfl := Option.some.inj hx1
  obtain ⟨x2, hg2, hx2, k2⟩ := h.at0_ (k := 2) (by omega)
  obtain rfl := Option.some.inj hx2
  obtain ⟨x3, hg3, hx3, k3⟩ := h.at0_ (k := 3) (by omega)
  obtain rfl := Option.some.inj hx3
  have hR := Blk.new w 92 #[.int .i64 0, .string ⟨#[]⟩, .string ⟨#[]⟩, .slice none 0 0, .int .i64 0, .int .i64 0, .int .i64 0] (g := w.heap.size)
  have hW1 := (Bl.refl w).alloc (.cells #[.int .i64 0, .string ⟨#[]⟩, .string ⟨#[]⟩, .slice none 0 0, .int .i64 0, .int .i64 0, .int .i64 0] 92)
  go_enter Tryz.func133, Tryz.ntmps133
  go_wp2_with fail
  generalize w.alloc (.cells #[.int .i64 0, .string ⟨#[]⟩, .string ⟨#[]⟩, .slice none 0 0, .int .i64 0, .int .i64 0, .int .i64 0] 92) = W0 at hR hW1 ⊢
  replace hR := hR.drew
  replace hW1 := hW1.drew
  have hR9 := hR.lt
  replace k0 := hW1.cells k0
  replace k1 := hW1.cells k1
  replace k2 := hW1.cells k2
  replace k3 := hW1.cells k3
  have hR_l := hR.lt; have hR_f := hR.frozen; have hR_0 := hR.cell 0 _ rfl; have hR_1 := hR.cell 1 _ rfl; have hR_2 := hR.cell 2 _ rfl; have hR_3 := hR.cell 3 _ rfl; have hR_4 := hR.cell 4 _ rfl; have hR_5 := hR.cell 5 _ rfl; have hR_6 := hR.cell 6 _ rfl
  have hgr : w.heap.size ≠ g := by omega
  refine wp_region_held_drew (S := (fun w' => w'.cell? ⟨g, 1, none⟩ = some (.string (nm)) ∧ w'.cell? ⟨g, 2, none⟩ = some (.string (dg a)) ∧ w'.cell? ⟨g, 3, none⟩ = some (.string (dg b)))) (by kernel_rfl) ?_ (fun hHeld => ?_)
  · (try dsimp only); exact ⟨k1, k2, k3⟩
  generalize W0.drew = W1 at hR hW1 hHeld k0 k1 k2 k3 hR9 hR_l hR_f hR_0 hR_1 hR_2 hR_3 hR_4 hR_5 hR_6 ⊢
  refine held_take (i := 0) (d := 36) (v := ?_) rfl rfl (by kernel_rfl) (by kernel_rfl) (by kernel_rfl) (fun _ _ _ h => h) (Or.inl ⟨by rfl, ?_⟩) (by assumption) ?_
  rotate_left
  · (intro w hSw; (try dsimp only at hSw); go_simp; (try with_reducible rfl))
  (try simp only [List.set_cons_zero, List.set_cons_succ])
  refine held_take (i := 1) (d := 37) (v := ?_) rfl rfl (by kernel_rfl) (by kernel_rfl) (by kernel_rfl) (fun _ _ _ h => h) (Or.inl ⟨by rfl, ?_⟩) (by assumption) ?_
  rotate_left
  · (intro w hSw; (try dsimp only at hSw); go_simp; (try with_reducible rfl))
  (try simp only [List.set_cons_zero, List.set_cons_succ])
  refine held_take (i := 2) (d := 38) (v := ?_) rfl rfl (by kernel_rfl) (by kernel_rfl) (by kernel_rfl) (fun _ _ _ h => h) (Or.inl ⟨by rfl, ?_⟩) (by assumption) ?_
  rotate_left
  · (intro w hSw; (try dsimp only at hSw); go_simp; (try with_reducible rfl))
  (try simp only [List.set_cons_zero, List.set_cons_succ])
  refine held_take (i := 3) (d := 39) (v := ?_) rfl rfl (by kernel_rfl) (by kernel_rfl) (by kernel_rfl) (fun _ _ _ h => h) (Or.inl ⟨by rfl, ?_⟩) (by assumption) ?_
  rotate_left
  · (intro w hSw; (try dsimp only at hSw); go_simp; (try with_reducible rfl))
  (try simp only [List.set_cons_zero, List.set_cons_succ])
  refine held_take (i := 4) (d := 40) (v := ?_) rfl rfl (by kernel_rfl) (by kernel_rfl) (by kernel_rfl) (fun _ _ _ h => h) (Or.inl ⟨by rfl, ?_⟩) (by assumption) ?_
  rotate_left
  · (intro w hSw; (try dsimp only at hSw); go_simp; (try with_reducible rfl))
  (try simp only [List.set_cons_zero, List.set_cons_succ])
  refine held_take (i := 5) (d := 41) (v := ?_) rfl rfl (by kernel_rfl) (by kernel_rfl) (by kernel_rfl) (fun _ _ _ h => h) (Or.inl ⟨by rfl, ?_⟩) (by assumption) ?_
  rotate_left
  · (intro w hSw; (try dsimp only at hSw); go_simp; (try with_reducible rfl))
  (try simp only [List.set_cons_zero, List.set_cons_succ])
  refine held_take (i := 7) (d := 43) (v := ?_) rfl rfl (by kernel_rfl) (by kernel_rfl) (by kernel_rfl) (fun _ _ _ h => h) (Or.inl ⟨by rfl, ?_⟩) (by assumption) ?_
  rotate_left
  · (intro w hSw; (try dsimp only at hSw); go_simp; (try with_reducible rfl))
  (try simp only [List.set_cons_zero, List.set_cons_succ])
  refine held_take (i := 8) (d := 44) (v := ?_) rfl rfl (by kernel_rfl) (by kernel_rfl) (by kernel_rfl) (fun _ _ _ h => h) (Or.inl ⟨by rfl, ?_⟩) (by assumption) ?_
  rotate_left
  · (intro w hSw; (try dsimp only at hSw); go_simp; (try with_reducible rfl))
  (try simp only [List.set_cons_zero, List.set_cons_succ])
  refine held_take (i := 9) (d := 45) (v := ?_) rfl rfl (by kernel_rfl) (by kernel_rfl) (by kernel_rfl) (fun _ _ _ h => h) (Or.inl ⟨by rfl, ?_⟩) (by assumption) ?_
  rotate_left
  · (intro w hSw; (try dsimp only at hSw); go_simp; (try with_reducible rfl))
  (try simp only [List.set_cons_zero, List.set_cons_succ])
  refine wpAnyH_ready (rs := [6]) (by kernel_rfl) (by simp) ?_
  refine AllReadyH.cons rfl (fun K hK => ?_) AllReadyH.nil
  go_simp
  refine (spec_l1Read a ha0 ha9 _).mono ?_; rintro e v6 ⟨rfl, rfl⟩
  go_wp2_with fail
  refine hK.out _ _ ?_ (fun hHeld => ?_)
  · (try dsimp only); exact ⟨k1, k2, k3⟩
  clear hK K
  (try simp only [Act.put]); (try simp only [List.setIfInBounds_toArray]); (try simp only [List.set_cons_succ]); (try simp only [List.set_cons_zero])
  refine wpAnyH_ready (rs := [10]) (by kernel_rfl) (by simp) ?_
  refine AllReadyH.cons rfl (fun K hK => ?_) AllReadyH.nil
  go_simp
  refine (spec_l1Read b hb0 hb9 _).mono ?_; rintro e v10 ⟨rfl, rfl⟩
  go_wp2_with fail
  refine hK.out _ _ ?_ (fun hHeld => ?_)
  · (try dsimp only); exact ⟨k1, k2, k3⟩
  clear hK K
  (try simp only [Act.put]); (try simp only [List.setIfInBounds_toArray]); (try simp only [List.set_cons_succ]); (try simp only [List.set_cons_zero])
  refine held_take (i := 11) (d := 47) (v := ?_) rfl rfl (by kernel_rfl) (by kernel_rfl) (by kernel_rfl) (fun _ _ _ h => h) (Or.inl ⟨by rfl, ?_⟩) (by assumption) ?_
  rotate_left
  · (intro w hSw; (try dsimp only at hSw); go_simp; (try with_reducible rfl))
  (try simp only [List.set_cons_zero, List.set_cons_succ])
  refine wpAnyH_ready (rs := [12]) (by kernel_rfl) (by simp) ?_
  refine AllReadyH.cons rfl (fun K hK => ?_) AllReadyH.nil
  go_simp
  refine hK.out _ _ ?_ (fun hHeld => ?_)
  · (try dsimp only); exact ⟨by go_simp, by go_simp, by go_simp⟩
  clear hK K
  (try simp only [Act.put]); (try simp only [List.setIfInBounds_toArray]); (try simp only [List.set_cons_succ]); (try simp only [List.set_cons_zero])
  refine wpAnyH_done (by kernel_rfl) ?_ _
  go_wp2_with fail
  refine bodyPost_ret (v := .agg #[.int .i64 2, .string nm, .string ⟨#[]⟩, .slice none 0 0, .int .i64 0, .int .i64 a, .int .i64 b]) (by simp only [results, Tryz.results133]; go_simp) rfl ⟨_, _, _, rfl, RdS.nil _, (fun k hk => by cases hk), (by (repeat (first | with_reducible assumption | with_reducible exact Bl.refl _ | with_reducible refine Bl.drewN ?_ _ | with_reducible refine Bl.drew ?_ | with_reducible refine Bl.alloc ?_ _ | with_reducible refine Bl.setCell ?_ (by first | (dsimp only; omega) | (simp; omega)) _ | (with_reducible refine Bl.call ?_ (by with_reducible assumption)))))⟩
set_option maxRecDepth 20000 in
set_option maxHeartbeats 4000000 in
theorem spec_laLine_let (g c : Nat) (nm p op q : ByteArray) (w : World) (h : RdS w (some ⟨g, 0, none⟩) 5 c [⟨#[108, 101, 116]⟩, nm, p, op, q]) :
    Calls Tryz.prog 133 #[.slice (some ⟨g, 0, none⟩) 5 c] w fun e w' => ∃ A m d, e = .returned (.agg #[.int .i64 3, .string nm, .string op, .slice A m d, .int .i64 0, .int .i64 0, .int .i64 0]) ∧ RdS w' A m d [p, q] ∧ (∀ k, A.map (·.block) = some k → k < w'.heap.size ∧ (k = g ∨ w.heap.size ≤ k)) ∧ Bl w w' := by
  have e_input : ((⟨#[108, 101, 116]⟩ : ByteArray).toList == (⟨#[105, 110, 112, 117, 116]⟩ : ByteArray).toList) = false := by decide +kernel
  have e_const : ((⟨#[108, 101, 116]⟩ : ByteArray).toList == (⟨#[99, 111, 110, 115, 116]⟩ : ByteArray).toList) = false := by decide +kernel
  have e_let : ((⟨#[108, 101, 116]⟩ : ByteArray).toList == (⟨#[108, 101, 116]⟩ : ByteArray).toList) = true := by decide +kernel
  obtain ⟨hle1, hle2⟩ := h.le
  obtain ⟨x0, hg0, hx0, k0⟩ := h.at0_ (k := 0) (by omega)
  obtain rfl := Option.some.inj hx0
  obtain ⟨x1, hg1, hx1, k1⟩ := h.at0_ (k := 1) (by omega)
  obtain rfl := Option.some.inj hx1
  obtain ⟨x2, hg2, hx2, k2⟩ := h.at0_ (k := 2) (by omega)
  obtain rfl := Option.some.inj hx2
  obtain ⟨x3, hg3, hx3, k3⟩ := h.at0_ (k := 3) (by omega)
  obtain rfl := Option.some.inj hx3
  obtain ⟨x4, hg4, hx4, k4⟩ := h.at0_ (k := 4) (by omega)
  obtain rfl := Option.some.inj hx4
  have hR := Blk.new w 92 #[.int .i64 0, .string ⟨#[]⟩, .string ⟨#[]⟩, .slice none 0 0, .int .i64 0, .int .i64 0, .int .i64 0] (g := w.heap.size)
  have hW1 := (Bl.refl w).alloc (.cells #[.int .i64 0, .string ⟨#[]⟩, .string ⟨#[]⟩, .slice none 0 0, .int .i64 0, .int .i64 0, .int .i64 0] 92)
  go_enter Tryz.func133, Tryz.ntmps133
  go_wp2_with fail
  generalize w.alloc (.cells #[.int .i64 0, .string ⟨#[]⟩, .string ⟨#[]⟩, .slice none 0 0, .int .i64 0, .int .i64 0, .int .i64 0] 92) = W0 at hR hW1 ⊢
  replace hR := hR.drew
  replace hW1 := hW1.drew
  have hR9 := hR.lt
  have kw0 := k0
  have kw1 := k1
  have kw2 := k2
  have kw3 := k3
  have kw4 := k4
  replace k0 := hW1.cells k0
  replace k1 := hW1.cells k1
  replace k2 := hW1.cells k2
  replace k3 := hW1.cells k3
  replace k4 := hW1.cells k4
  have hR_l := hR.lt; have hR_f := hR.frozen; have hR_0 := hR.cell 0 _ rfl; have hR_1 := hR.cell 1 _ rfl; have hR_2 := hR.cell 2 _ rfl; have hR_3 := hR.cell 3 _ rfl; have hR_4 := hR.cell 4 _ rfl; have hR_5 := hR.cell 5 _ rfl; have hR_6 := hR.cell 6 _ rfl
  have hgr : w.heap.size ≠ g := by omega
  refine wp_region_held_drew (S := (fun w' => w'.cell? ⟨g, 1, none⟩ = some (.string (nm)) ∧ w'.cell? ⟨g, 2, none⟩ = some (.string (p)) ∧ w'.cell? ⟨g, 3, none⟩ = some (.string (op)) ∧ w'.cell? ⟨g, 4, none⟩ = some (.string (q)))) (by kernel_rfl) ?_ (fun hHeld => ?_)
  · (try dsimp only); exact ⟨k1, k2, k3, k4⟩
  generalize W0.drew = W1 at hR hW1 hHeld k0 k1 k2 k3 k4 hR9 hR_l hR_f hR_0 hR_1 hR_2 hR_3 hR_4 hR_5 hR_6 ⊢
  refine held_take (i := 0) (d := 57) (v := ?_) rfl rfl (by kernel_rfl) (by kernel_rfl) (by kernel_rfl) (fun _ _ _ h => h) (Or.inl ⟨by rfl, ?_⟩) (by assumption) ?_
  rotate_left
  · (intro w hSw; (try dsimp only at hSw); go_simp; (try with_reducible rfl))
  (try simp only [List.set_cons_zero, List.set_cons_succ])
  refine held_take (i := 1) (d := 58) (v := ?_) rfl rfl (by kernel_rfl) (by kernel_rfl) (by kernel_rfl) (fun _ _ _ h => h) (Or.inl ⟨by rfl, ?_⟩) (by assumption) ?_
  rotate_left
  · (intro w hSw; (try dsimp only at hSw); go_simp; (try with_reducible rfl))
  (try simp only [List.set_cons_zero, List.set_cons_succ])
  refine held_take (i := 2) (d := 59) (v := ?_) rfl rfl (by kernel_rfl) (by kernel_rfl) (by kernel_rfl) (fun _ _ _ h => h) (Or.inl ⟨by rfl, ?_⟩) (by assumption) ?_
  rotate_left
  · (intro w hSw; (try dsimp only at hSw); go_simp; (try with_reducible rfl))
  (try simp only [List.set_cons_zero, List.set_cons_succ])
  refine held_take (i := 3) (d := 60) (v := ?_) rfl rfl (by kernel_rfl) (by kernel_rfl) (by kernel_rfl) (fun _ _ _ h => h) (Or.inl ⟨by rfl, ?_⟩) (by assumption) ?_
  rotate_left
  · (intro w hSw; (try dsimp only at hSw); go_simp; (try with_reducible rfl))
  (try simp only [List.set_cons_zero, List.set_cons_succ])
  refine held_take (i := 4) (d := 61) (v := ?_) rfl rfl (by kernel_rfl) (by kernel_rfl) (by kernel_rfl) (fun _ _ _ h => h) (Or.inl ⟨by rfl, ?_⟩) (by assumption) ?_
  rotate_left
  · (intro w hSw; (try dsimp only at hSw); go_simp; (try with_reducible rfl))
  (try simp only [List.set_cons_zero, List.set_cons_succ])
  refine held_take (i := 5) (d := 62) (v := ?_) rfl rfl (by kernel_rfl) (by kernel_rfl) (by kernel_rfl) (fun _ _ _ h => h) (Or.inl ⟨by rfl, ?_⟩) (by assumption) ?_
  rotate_left
  · (intro w hSw; (try dsimp only at hSw); go_simp; (try with_reducible rfl))
  (try simp only [List.set_cons_zero, List.set_cons_succ])
  refine held_take (i := 6) (d := 63) (v := ?_) rfl rfl (by kernel_rfl) (by kernel_rfl) (by kernel_rfl) (fun _ _ _ h => h) (Or.inl ⟨by rfl, ?_⟩) (by assumption) ?_
  rotate_left
  · (intro w hSw; (try dsimp only at hSw); go_simp; (try with_reducible rfl))
  (try simp only [List.set_cons_zero, List.set_cons_succ])
  refine held_take (i := 7) (d := 64) (v := ?_) rfl rfl (by kernel_rfl) (by kernel_rfl) (by kernel_rfl) (fun _ _ _ h => h) (Or.inl ⟨by rfl, ?_⟩) (by assumption) ?_
  rotate_left
  · (intro w hSw; (try dsimp only at hSw); go_simp; (try with_reducible rfl))
  (try simp only [List.set_cons_zero, List.set_cons_succ])
  refine held_take (i := 8) (d := 65) (v := ?_) rfl rfl (by kernel_rfl) (by kernel_rfl) (by kernel_rfl) (fun _ _ _ h => h) (Or.inl ⟨by rfl, ?_⟩) (by assumption) ?_
  rotate_left
  · (intro w hSw; (try dsimp only at hSw); go_simp; (try with_reducible rfl))
  (try simp only [List.set_cons_zero, List.set_cons_succ])
  refine held_take (i := 9) (d := 66) (v := ?_) rfl rfl (by kernel_rfl) (by kernel_rfl) (by kernel_rfl) (fun _ _ _ h => h) (Or.inl ⟨by rfl, ?_⟩) (by assumption) ?_
  rotate_left
  · (intro w hSw; (try dsimp only at hSw); go_simp; (try with_reducible rfl))
  (try simp only [List.set_cons_zero, List.set_cons_succ])
  refine held_take (i := 10) (d := 67) (v := ?_) rfl rfl (by kernel_rfl) (by kernel_rfl) (by kernel_rfl) (fun _ _ _ h => h) (Or.inl ⟨by rfl, ?_⟩) (by assumption) ?_
  rotate_left
  · (intro w hSw; (try dsimp only at hSw); go_simp; (try with_reducible rfl))
  (try simp only [List.set_cons_zero, List.set_cons_succ])
  refine held_take (i := 11) (d := 68) (v := ?_) rfl rfl (by kernel_rfl) (by kernel_rfl) (by kernel_rfl) (fun _ _ _ h => h) (Or.inl ⟨by rfl, ?_⟩) (by assumption) ?_
  rotate_left
  · (intro w hSw; (try dsimp only at hSw); go_simp; (try with_reducible rfl))
  (try simp only [List.set_cons_zero, List.set_cons_succ])
  refine wpAnyH_ready (rs := [12]) (by kernel_rfl) (by simp) ?_
  refine AllReadyH.cons rfl (fun K hK => ?_) AllReadyH.nil
  go_simp
  refine hK.out _ _ ?_ (fun hHeld => ?_)
  · (try dsimp only); exact ⟨Bl.cells (by (repeat (first | with_reducible assumption | with_reducible exact Bl.refl _ | with_reducible refine Bl.drewN ?_ _ | with_reducible refine Bl.drew ?_ | with_reducible refine Bl.alloc ?_ _ | with_reducible refine Bl.setCell ?_ (by first | (dsimp only; omega) | (simp; omega)) _ | (with_reducible refine Bl.call ?_ (by with_reducible assumption))))) kw1, Bl.cells (by (repeat (first | with_reducible assumption | with_reducible exact Bl.refl _ | with_reducible refine Bl.drewN ?_ _ | with_reducible refine Bl.drew ?_ | with_reducible refine Bl.alloc ?_ _ | with_reducible refine Bl.setCell ?_ (by first | (dsimp only; omega) | (simp; omega)) _ | (with_reducible refine Bl.call ?_ (by with_reducible assumption))))) kw2, Bl.cells (by (repeat (first | with_reducible assumption | with_reducible exact Bl.refl _ | with_reducible refine Bl.drewN ?_ _ | with_reducible refine Bl.drew ?_ | with_reducible refine Bl.alloc ?_ _ | with_reducible refine Bl.setCell ?_ (by first | (dsimp only; omega) | (simp; omega)) _ | (with_reducible refine Bl.call ?_ (by with_reducible assumption))))) kw3, Bl.cells (by (repeat (first | with_reducible assumption | with_reducible exact Bl.refl _ | with_reducible refine Bl.drewN ?_ _ | with_reducible refine Bl.drew ?_ | with_reducible refine Bl.alloc ?_ _ | with_reducible refine Bl.setCell ?_ (by first | (dsimp only; omega) | (simp; omega)) _ | (with_reducible refine Bl.call ?_ (by with_reducible assumption))))) kw4⟩
  clear hK K
  (try simp only [Act.put]); (try simp only [List.setIfInBounds_toArray]); (try simp only [List.set_cons_succ]); (try simp only [List.set_cons_zero])
  refine held_take (i := 13) (d := 70) (v := ?_) rfl rfl (by kernel_rfl) (by kernel_rfl) (by kernel_rfl) (fun _ _ _ h => h) (Or.inl ⟨by rfl, ?_⟩) (by assumption) ?_
  rotate_left
  · (intro w hSw; (try dsimp only at hSw); go_simp; (try with_reducible rfl))
  (try simp only [List.set_cons_zero, List.set_cons_succ])
  refine wpAnyH_ready (rs := [14]) (by kernel_rfl) (by simp) ?_
  refine AllReadyH.cons rfl (fun K hK => ?_) AllReadyH.nil
  go_simp
  refine hK.out _ _ ?_ (fun hHeld => ?_)
  · (try dsimp only); exact ⟨Bl.cells (by (repeat (first | with_reducible assumption | with_reducible exact Bl.refl _ | with_reducible refine Bl.drewN ?_ _ | with_reducible refine Bl.drew ?_ | with_reducible refine Bl.alloc ?_ _ | with_reducible refine Bl.setCell ?_ (by first | (dsimp only; omega) | (simp; omega)) _ | (with_reducible refine Bl.call ?_ (by with_reducible assumption))))) kw1, Bl.cells (by (repeat (first | with_reducible assumption | with_reducible exact Bl.refl _ | with_reducible refine Bl.drewN ?_ _ | with_reducible refine Bl.drew ?_ | with_reducible refine Bl.alloc ?_ _ | with_reducible refine Bl.setCell ?_ (by first | (dsimp only; omega) | (simp; omega)) _ | (with_reducible refine Bl.call ?_ (by with_reducible assumption))))) kw2, Bl.cells (by (repeat (first | with_reducible assumption | with_reducible exact Bl.refl _ | with_reducible refine Bl.drewN ?_ _ | with_reducible refine Bl.drew ?_ | with_reducible refine Bl.alloc ?_ _ | with_reducible refine Bl.setCell ?_ (by first | (dsimp only; omega) | (simp; omega)) _ | (with_reducible refine Bl.call ?_ (by with_reducible assumption))))) kw3, Bl.cells (by (repeat (first | with_reducible assumption | with_reducible exact Bl.refl _ | with_reducible refine Bl.drewN ?_ _ | with_reducible refine Bl.drew ?_ | with_reducible refine Bl.alloc ?_ _ | with_reducible refine Bl.setCell ?_ (by first | (dsimp only; omega) | (simp; omega)) _ | (with_reducible refine Bl.call ?_ (by with_reducible assumption))))) kw4⟩
  clear hK K
  (try simp only [Act.put]); (try simp only [List.setIfInBounds_toArray]); (try simp only [List.set_cons_succ]); (try simp only [List.set_cons_zero])
  refine wpAnyH_done (by kernel_rfl) ?_ _
  have hsz2 : w.heap.size ≤ W1.heap.size := hW1.sz
  have hO : OwnS w.heap.size ((((((((W1.setCell ⟨w.heap.size, 0, none⟩ (.int .i64 3)).setCell ⟨w.heap.size, 1, none⟩ (.string nm)).setCell ⟨w.heap.size, 2, none⟩ (.string op)).setCell ⟨w.heap.size, 3, none⟩ (.slice (some ⟨W1.heap.size, 0, none⟩) 2 2)).setCell ⟨w.heap.size, 4, none⟩ (.int .i64 0)).setCell ⟨w.heap.size, 5, none⟩ (.int .i64 0)).setCell ⟨w.heap.size, 6, none⟩ (.int .i64 0)).alloc (.cells #[.string p, .string q] 9)) (some ⟨W1.heap.size, 0, none⟩) 2 2 [p, q] := own_strs (((((((W1.setCell ⟨w.heap.size, 0, none⟩ (.int .i64 3)).setCell ⟨w.heap.size, 1, none⟩ (.string nm)).setCell ⟨w.heap.size, 2, none⟩ (.string op)).setCell ⟨w.heap.size, 3, none⟩ (.slice (some ⟨W1.heap.size, 0, none⟩) 2 2)).setCell ⟨w.heap.size, 4, none⟩ (.int .i64 0)).setCell ⟨w.heap.size, 5, none⟩ (.int .i64 0)).setCell ⟨w.heap.size, 6, none⟩ (.int .i64 0)) [p, q] (by simp [World.setCell]) hsz2 (by simp)
  have hbz : Bl w ((((((((W1.setCell ⟨w.heap.size, 0, none⟩ (.int .i64 3)).setCell ⟨w.heap.size, 1, none⟩ (.string nm)).setCell ⟨w.heap.size, 2, none⟩ (.string op)).setCell ⟨w.heap.size, 3, none⟩ (.slice (some ⟨W1.heap.size, 0, none⟩) 2 2)).setCell ⟨w.heap.size, 4, none⟩ (.int .i64 0)).setCell ⟨w.heap.size, 5, none⟩ (.int .i64 0)).setCell ⟨w.heap.size, 6, none⟩ (.int .i64 0)).alloc (.cells #[.string p, .string q] 9)) := (by (repeat (first | with_reducible assumption | with_reducible exact Bl.refl _ | with_reducible refine Bl.drewN ?_ _ | with_reducible refine Bl.drew ?_ | with_reducible refine Bl.alloc ?_ _ | with_reducible refine Bl.setCell ?_ (by first | (dsimp only; omega) | (simp; omega)) _ | (with_reducible refine Bl.call ?_ (by with_reducible assumption)))))
  have hRz : Blk ((((((((W1.setCell ⟨w.heap.size, 0, none⟩ (.int .i64 3)).setCell ⟨w.heap.size, 1, none⟩ (.string nm)).setCell ⟨w.heap.size, 2, none⟩ (.string op)).setCell ⟨w.heap.size, 3, none⟩ (.slice (some ⟨W1.heap.size, 0, none⟩) 2 2)).setCell ⟨w.heap.size, 4, none⟩ (.int .i64 0)).setCell ⟨w.heap.size, 5, none⟩ (.int .i64 0)).setCell ⟨w.heap.size, 6, none⟩ (.int .i64 0)).alloc (.cells #[.string p, .string q] 9)) w.heap.size 92 #[.int .i64 3, .string nm, .string op, .slice (some ⟨W1.heap.size, 0, none⟩) 2 2, .int .i64 0, .int .i64 0, .int .i64 0] := (((((((hR.set_ 0 _).set_ 1 _).set_ 2 _).set_ 3 _).set_ 4 _).set_ 5 _).set_ 6 _).alloc _
  generalize (((((((W1.setCell ⟨w.heap.size, 0, none⟩ (.int .i64 3)).setCell ⟨w.heap.size, 1, none⟩ (.string nm)).setCell ⟨w.heap.size, 2, none⟩ (.string op)).setCell ⟨w.heap.size, 3, none⟩ (.slice (some ⟨W1.heap.size, 0, none⟩) 2 2)).setCell ⟨w.heap.size, 4, none⟩ (.int .i64 0)).setCell ⟨w.heap.size, 5, none⟩ (.int .i64 0)).setCell ⟨w.heap.size, 6, none⟩ (.int .i64 0)).alloc (.cells #[.string p, .string q] 9) = wz at hO hbz hRz ⊢
  clear hHeld hR hR_0 hR_1 hR_2 hR_3 hR_4 hR_5 hR_6 hR_l hR_f
  have hz_l := hRz.lt
  have hz_0 := hRz.cell 0 _ rfl
  have hz_1 := hRz.cell 1 _ rfl
  have hz_2 := hRz.cell 2 _ rfl
  have hz_3 := hRz.cell 3 _ rfl
  have hz_4 := hRz.cell 4 _ rfl
  have hz_5 := hRz.cell 5 _ rfl
  have hz_6 := hRz.cell 6 _ rfl
  go_wp2_with fail
  refine bodyPost_ret (v := .agg #[.int .i64 3, .string nm, .string op, .slice (some ⟨W1.heap.size, 0, none⟩) 2 2, .int .i64 0, .int .i64 0, .int .i64 0]) (by simp only [results, Tryz.results133]; go_simp) rfl ⟨_, _, _, rfl, hO.rd, (fun k hk => ⟨(OwnV.blk hO k hk).2, .inr (OwnV.blk hO k hk).1⟩), hbz⟩
set_option maxRecDepth 20000 in
set_option maxHeartbeats 4000000 in
theorem spec_laLine_not (g c : Nat) (nm p : ByteArray) (w : World) (h : RdS w (some ⟨g, 0, none⟩) 3 c [⟨#[110, 111, 116]⟩, nm, p]) :
    Calls Tryz.prog 133 #[.slice (some ⟨g, 0, none⟩) 3 c] w fun e w' => ∃ A m d, e = .returned (.agg #[.int .i64 4, .string nm, .string ⟨#[]⟩, .slice A m d, .int .i64 0, .int .i64 0, .int .i64 0]) ∧ RdS w' A m d [p] ∧ (∀ k, A.map (·.block) = some k → k < w'.heap.size ∧ (k = g ∨ w.heap.size ≤ k)) ∧ Bl w w' := by
  have e_input : ((⟨#[110, 111, 116]⟩ : ByteArray).toList == (⟨#[105, 110, 112, 117, 116]⟩ : ByteArray).toList) = false := by decide +kernel
  have e_const : ((⟨#[110, 111, 116]⟩ : ByteArray).toList == (⟨#[99, 111, 110, 115, 116]⟩ : ByteArray).toList) = false := by decide +kernel
  have e_let : ((⟨#[110, 111, 116]⟩ : ByteArray).toList == (⟨#[108, 101, 116]⟩ : ByteArray).toList) = false := by decide +kernel
  have e_not : ((⟨#[110, 111, 116]⟩ : ByteArray).toList == (⟨#[110, 111, 116]⟩ : ByteArray).toList) = true := by decide +kernel
  obtain ⟨hle1, hle2⟩ := h.le
  obtain ⟨x0, hg0, hx0, k0⟩ := h.at0_ (k := 0) (by omega)
  obtain rfl := Option.some.inj hx0
  obtain ⟨x1, hg1, hx1, k1⟩ := h.at0_ (k := 1) (by omega)
  obtain rfl := Option.some.inj hx1
  obtain ⟨x2, hg2, hx2, k2⟩ := h.at0_ (k := 2) (by omega)
  obtain rfl := Option.some.inj hx2
  have hc2 : ¬ c = 2 := by omega
  have hcut : RdS w (some ⟨g, 2, none⟩) 1 (c - 2) [p] := (by have := h.cut (k := 2) (by omega) (by omega); exact this)
  have hR := Blk.new w 92 #[.int .i64 0, .string ⟨#[]⟩, .string ⟨#[]⟩, .slice none 0 0, .int .i64 0, .int .i64 0, .int .i64 0] (g := w.heap.size)
  have hW1 := (Bl.refl w).alloc (.cells #[.int .i64 0, .string ⟨#[]⟩, .string ⟨#[]⟩, .slice none 0 0, .int .i64 0, .int .i64 0, .int .i64 0] 92)
  go_enter Tryz.func133, Tryz.ntmps133
  go_wp2_with fail
  generalize w.alloc (.cells #[.int .i64 0, .string ⟨#[]⟩, .string ⟨#[]⟩, .slice none 0 0, .int .i64 0, .int .i64 0, .int .i64 0] 92) = W0 at hR hW1 ⊢
  replace hR := hR.drew
  replace hW1 := hW1.drew
  have hR9 := hR.lt
  replace k0 := hW1.cells k0
  replace k1 := hW1.cells k1
  replace k2 := hW1.cells k2
  have hR_l := hR.lt; have hR_f := hR.frozen; have hR_0 := hR.cell 0 _ rfl; have hR_1 := hR.cell 1 _ rfl; have hR_2 := hR.cell 2 _ rfl; have hR_3 := hR.cell 3 _ rfl; have hR_4 := hR.cell 4 _ rfl; have hR_5 := hR.cell 5 _ rfl; have hR_6 := hR.cell 6 _ rfl
  have hgr : w.heap.size ≠ g := by omega
  refine wp_region_held_drew (S := (fun w' => w'.cell? ⟨g, 1, none⟩ = some (.string (nm)))) (by kernel_rfl) ?_ (fun hHeld => ?_)
  · (try dsimp only); exact k1
  generalize W0.drew = W1 at hR hW1 hHeld k0 k1 k2 hR9 hR_l hR_f hR_0 hR_1 hR_2 hR_3 hR_4 hR_5 hR_6 ⊢
  refine held_take (i := 0) (d := 80) (v := ?_) rfl rfl (by kernel_rfl) (by kernel_rfl) (by kernel_rfl) (fun _ _ _ h => h) (Or.inl ⟨by rfl, ?_⟩) (by assumption) ?_
  rotate_left
  · (intro w hSw; (try dsimp only at hSw); go_simp; (try with_reducible rfl))
  (try simp only [List.set_cons_zero, List.set_cons_succ])
  refine held_take (i := 1) (d := 81) (v := ?_) rfl rfl (by kernel_rfl) (by kernel_rfl) (by kernel_rfl) (fun _ _ _ h => h) (Or.inl ⟨by rfl, ?_⟩) (by assumption) ?_
  rotate_left
  · (intro w hSw; (try dsimp only at hSw); go_simp; (try with_reducible rfl))
  (try simp only [List.set_cons_zero, List.set_cons_succ])
  refine held_take (i := 2) (d := 82) (v := ?_) rfl rfl (by kernel_rfl) (by kernel_rfl) (by kernel_rfl) (fun _ _ _ h => h) (Or.inl ⟨by rfl, ?_⟩) (by assumption) ?_
  rotate_left
  · (intro w hSw; (try dsimp only at hSw); go_simp; (try with_reducible rfl))
  (try simp only [List.set_cons_zero, List.set_cons_succ])
  refine held_take (i := 3) (d := 83) (v := ?_) rfl rfl (by kernel_rfl) (by kernel_rfl) (by kernel_rfl) (fun _ _ _ h => h) (Or.inl ⟨by rfl, ?_⟩) (by assumption) ?_
  rotate_left
  · (intro w hSw; (try dsimp only at hSw); go_simp; (try with_reducible rfl))
  (try simp only [List.set_cons_zero, List.set_cons_succ])
  refine held_take (i := 4) (d := 84) (v := ?_) rfl rfl (by kernel_rfl) (by kernel_rfl) (by kernel_rfl) (fun _ _ _ h => h) (Or.inl ⟨by rfl, ?_⟩) (by assumption) ?_
  rotate_left
  · (intro w hSw; (try dsimp only at hSw); go_simp; (try with_reducible rfl))
  (try simp only [List.set_cons_zero, List.set_cons_succ])
  refine held_take (i := 5) (d := 85) (v := ?_) rfl rfl (by kernel_rfl) (by kernel_rfl) (by kernel_rfl) (fun _ _ _ h => h) (Or.inl ⟨by rfl, ?_⟩) (by assumption) ?_
  rotate_left
  · (intro w hSw; (try dsimp only at hSw); go_simp; (try with_reducible rfl))
  (try simp only [List.set_cons_zero, List.set_cons_succ])
  refine wpAnyH_ready (rs := [6]) (by kernel_rfl) (by simp) ?_
  refine AllReadyH.cons rfl (fun K hK => ?_) AllReadyH.nil
  go_simp
  refine hK.out _ _ ?_ (fun hHeld => ?_)
  · (try dsimp only); exact by go_simp
  clear hK K
  (try simp only [Act.put]); (try simp only [List.setIfInBounds_toArray]); (try simp only [List.set_cons_succ]); (try simp only [List.set_cons_zero])
  refine wpAnyH_done (by kernel_rfl) ?_ _
  go_wp2_with fail
  refine bodyPost_ret (v := .agg #[.int .i64 4, .string nm, .string ⟨#[]⟩, .slice (some ⟨g, 2, none⟩) 1 (c - 2), .int .i64 0, .int .i64 0, .int .i64 0]) (by simp only [results, Tryz.results133]; go_simp) rfl ⟨_, _, _, rfl, RdS.keep hcut (by (repeat (first | with_reducible assumption | with_reducible exact Bl.refl _ | with_reducible refine Bl.drewN ?_ _ | with_reducible refine Bl.drew ?_ | with_reducible refine Bl.alloc ?_ _ | with_reducible refine Bl.setCell ?_ (by first | (dsimp only; omega) | (simp; omega)) _ | (with_reducible refine Bl.call ?_ (by with_reducible assumption))))), (fun k hk => by injection hk with hk; subst hk; refine ⟨Nat.lt_of_lt_of_le hg0 (Bl.sz ?_), .inl rfl⟩; exact (by (repeat (first | with_reducible assumption | with_reducible exact Bl.refl _ | with_reducible refine Bl.drewN ?_ _ | with_reducible refine Bl.drew ?_ | with_reducible refine Bl.alloc ?_ _ | with_reducible refine Bl.setCell ?_ (by first | (dsimp only; omega) | (simp; omega)) _ | (with_reducible refine Bl.call ?_ (by with_reducible assumption)))))), (by (repeat (first | with_reducible assumption | with_reducible exact Bl.refl _ | with_reducible refine Bl.drewN ?_ _ | with_reducible refine Bl.drew ?_ | with_reducible refine Bl.alloc ?_ _ | with_reducible refine Bl.setCell ?_ (by first | (dsimp only; omega) | (simp; omega)) _ | (with_reducible refine Bl.call ?_ (by with_reducible assumption)))))⟩
set_option maxRecDepth 20000 in
set_option maxHeartbeats 4000000 in
theorem spec_laLine_pick (g c : Nat) (nm p q r : ByteArray) (w : World) (h : RdS w (some ⟨g, 0, none⟩) 5 c [⟨#[112, 105, 99, 107]⟩, nm, p, q, r]) :
    Calls Tryz.prog 133 #[.slice (some ⟨g, 0, none⟩) 5 c] w fun e w' => ∃ A m d, e = .returned (.agg #[.int .i64 5, .string nm, .string ⟨#[]⟩, .slice A m d, .int .i64 0, .int .i64 0, .int .i64 0]) ∧ RdS w' A m d [p, q, r] ∧ (∀ k, A.map (·.block) = some k → k < w'.heap.size ∧ (k = g ∨ w.heap.size ≤ k)) ∧ Bl w w' := by
  have e_input : ((⟨#[112, 105, 99, 107]⟩ : ByteArray).toList == (⟨#[105, 110, 112, 117, 116]⟩ : ByteArray).toList) = false := by decide +kernel
  have e_const : ((⟨#[112, 105, 99, 107]⟩ : ByteArray).toList == (⟨#[99, 111, 110, 115, 116]⟩ : ByteArray).toList) = false := by decide +kernel
  have e_let : ((⟨#[112, 105, 99, 107]⟩ : ByteArray).toList == (⟨#[108, 101, 116]⟩ : ByteArray).toList) = false := by decide +kernel
  have e_not : ((⟨#[112, 105, 99, 107]⟩ : ByteArray).toList == (⟨#[110, 111, 116]⟩ : ByteArray).toList) = false := by decide +kernel
  have e_pick : ((⟨#[112, 105, 99, 107]⟩ : ByteArray).toList == (⟨#[112, 105, 99, 107]⟩ : ByteArray).toList) = true := by decide +kernel
  obtain ⟨hle1, hle2⟩ := h.le
  obtain ⟨x0, hg0, hx0, k0⟩ := h.at0_ (k := 0) (by omega)
  obtain rfl := Option.some.inj hx0
  obtain ⟨x1, hg1, hx1, k1⟩ := h.at0_ (k := 1) (by omega)
  obtain rfl := Option.some.inj hx1
  obtain ⟨x2, hg2, hx2, k2⟩ := h.at0_ (k := 2) (by omega)
  obtain rfl := Option.some.inj hx2
  obtain ⟨x3, hg3, hx3, k3⟩ := h.at0_ (k := 3) (by omega)
  obtain rfl := Option.some.inj hx3
  obtain ⟨x4, hg4, hx4, k4⟩ := h.at0_ (k := 4) (by omega)
  obtain rfl := Option.some.inj hx4
  have hc2 : ¬ c = 2 := by omega
  have hcut : RdS w (some ⟨g, 2, none⟩) 3 (c - 2) [p, q, r] := (by have := h.cut (k := 2) (by omega) (by omega); exact this)
  have hR := Blk.new w 92 #[.int .i64 0, .string ⟨#[]⟩, .string ⟨#[]⟩, .slice none 0 0, .int .i64 0, .int .i64 0, .int .i64 0] (g := w.heap.size)
  have hW1 := (Bl.refl w).alloc (.cells #[.int .i64 0, .string ⟨#[]⟩, .string ⟨#[]⟩, .slice none 0 0, .int .i64 0, .int .i64 0, .int .i64 0] 92)
  go_enter Tryz.func133, Tryz.ntmps133
  go_wp2_with fail
  generalize w.alloc (.cells #[.int .i64 0, .string ⟨#[]⟩, .string ⟨#[]⟩, .slice none 0 0, .int .i64 0, .int .i64 0, .int .i64 0] 92) = W0 at hR hW1 ⊢
  replace hR := hR.drew
  replace hW1 := hW1.drew
  have hR9 := hR.lt
  replace k0 := hW1.cells k0
  replace k1 := hW1.cells k1
  replace k2 := hW1.cells k2
  replace k3 := hW1.cells k3
  replace k4 := hW1.cells k4
  have hR_l := hR.lt; have hR_f := hR.frozen; have hR_0 := hR.cell 0 _ rfl; have hR_1 := hR.cell 1 _ rfl; have hR_2 := hR.cell 2 _ rfl; have hR_3 := hR.cell 3 _ rfl; have hR_4 := hR.cell 4 _ rfl; have hR_5 := hR.cell 5 _ rfl; have hR_6 := hR.cell 6 _ rfl
  have hgr : w.heap.size ≠ g := by omega
  refine wp_region_held_drew (S := (fun w' => w'.cell? ⟨g, 1, none⟩ = some (.string (nm)))) (by kernel_rfl) ?_ (fun hHeld => ?_)
  · (try dsimp only); exact k1
  generalize W0.drew = W1 at hR hW1 hHeld k0 k1 k2 k3 k4 hR9 hR_l hR_f hR_0 hR_1 hR_2 hR_3 hR_4 hR_5 hR_6 ⊢
  refine held_take (i := 0) (d := 95) (v := ?_) rfl rfl (by kernel_rfl) (by kernel_rfl) (by kernel_rfl) (fun _ _ _ h => h) (Or.inl ⟨by rfl, ?_⟩) (by assumption) ?_
  rotate_left
  · (intro w hSw; (try dsimp only at hSw); go_simp; (try with_reducible rfl))
  (try simp only [List.set_cons_zero, List.set_cons_succ])
  refine held_take (i := 1) (d := 96) (v := ?_) rfl rfl (by kernel_rfl) (by kernel_rfl) (by kernel_rfl) (fun _ _ _ h => h) (Or.inl ⟨by rfl, ?_⟩) (by assumption) ?_
  rotate_left
  · (intro w hSw; (try dsimp only at hSw); go_simp; (try with_reducible rfl))
  (try simp only [List.set_cons_zero, List.set_cons_succ])
  refine held_take (i := 2) (d := 97) (v := ?_) rfl rfl (by kernel_rfl) (by kernel_rfl) (by kernel_rfl) (fun _ _ _ h => h) (Or.inl ⟨by rfl, ?_⟩) (by assumption) ?_
  rotate_left
  · (intro w hSw; (try dsimp only at hSw); go_simp; (try with_reducible rfl))
  (try simp only [List.set_cons_zero, List.set_cons_succ])
  refine held_take (i := 3) (d := 98) (v := ?_) rfl rfl (by kernel_rfl) (by kernel_rfl) (by kernel_rfl) (fun _ _ _ h => h) (Or.inl ⟨by rfl, ?_⟩) (by assumption) ?_
  rotate_left
  · (intro w hSw; (try dsimp only at hSw); go_simp; (try with_reducible rfl))
  (try simp only [List.set_cons_zero, List.set_cons_succ])
  refine held_take (i := 4) (d := 99) (v := ?_) rfl rfl (by kernel_rfl) (by kernel_rfl) (by kernel_rfl) (fun _ _ _ h => h) (Or.inl ⟨by rfl, ?_⟩) (by assumption) ?_
  rotate_left
  · (intro w hSw; (try dsimp only at hSw); go_simp; (try with_reducible rfl))
  (try simp only [List.set_cons_zero, List.set_cons_succ])
  refine held_take (i := 5) (d := 100) (v := ?_) rfl rfl (by kernel_rfl) (by kernel_rfl) (by kernel_rfl) (fun _ _ _ h => h) (Or.inl ⟨by rfl, ?_⟩) (by assumption) ?_
  rotate_left
  · (intro w hSw; (try dsimp only at hSw); go_simp; (try with_reducible rfl))
  (try simp only [List.set_cons_zero, List.set_cons_succ])
  refine wpAnyH_ready (rs := [6]) (by kernel_rfl) (by simp) ?_
  refine AllReadyH.cons rfl (fun K hK => ?_) AllReadyH.nil
  go_simp
  refine hK.out _ _ ?_ (fun hHeld => ?_)
  · (try dsimp only); exact by go_simp
  clear hK K
  (try simp only [Act.put]); (try simp only [List.setIfInBounds_toArray]); (try simp only [List.set_cons_succ]); (try simp only [List.set_cons_zero])
  refine wpAnyH_done (by kernel_rfl) ?_ _
  go_wp2_with fail
  refine bodyPost_ret (v := .agg #[.int .i64 5, .string nm, .string ⟨#[]⟩, .slice (some ⟨g, 2, none⟩) 3 (c - 2), .int .i64 0, .int .i64 0, .int .i64 0]) (by simp only [results, Tryz.results133]; go_simp) rfl ⟨_, _, _, rfl, RdS.keep hcut (by (repeat (first | with_reducible assumption | with_reducible exact Bl.refl _ | with_reducible refine Bl.drewN ?_ _ | with_reducible refine Bl.drew ?_ | with_reducible refine Bl.alloc ?_ _ | with_reducible refine Bl.setCell ?_ (by first | (dsimp only; omega) | (simp; omega)) _ | (with_reducible refine Bl.call ?_ (by with_reducible assumption))))), (fun k hk => by injection hk with hk; subst hk; refine ⟨Nat.lt_of_lt_of_le hg0 (Bl.sz ?_), .inl rfl⟩; exact (by (repeat (first | with_reducible assumption | with_reducible exact Bl.refl _ | with_reducible refine Bl.drewN ?_ _ | with_reducible refine Bl.drew ?_ | with_reducible refine Bl.alloc ?_ _ | with_reducible refine Bl.setCell ?_ (by first | (dsimp only; omega) | (simp; omega)) _ | (with_reducible refine Bl.call ?_ (by with_reducible assumption)))))), (by (repeat (first | with_reducible assumption | with_reducible exact Bl.refl _ | with_reducible refine Bl.drewN ?_ _ | with_reducible refine Bl.drew ?_ | with_reducible refine Bl.alloc ?_ _ | with_reducible refine Bl.setCell ?_ (by first | (dsimp only; omega) | (simp; omega)) _ | (with_reducible refine Bl.call ?_ (by with_reducible assumption)))))⟩
set_option maxRecDepth 20000 in
set_option maxHeartbeats 4000000 in
theorem spec_laLine_out (g c : Nat) (p : ByteArray) (w : World) (h : RdS w (some ⟨g, 0, none⟩) 2 c [⟨#[111, 117, 116]⟩, p]) :
    Calls Tryz.prog 133 #[.slice (some ⟨g, 0, none⟩) 2 c] w fun e w' => ∃ A m d, e = .returned (.agg #[.int .i64 6, .string ⟨#[]⟩, .string ⟨#[]⟩, .slice A m d, .int .i64 0, .int .i64 0, .int .i64 0]) ∧ RdS w' A m d [p] ∧ (∀ k, A.map (·.block) = some k → k < w'.heap.size ∧ (k = g ∨ w.heap.size ≤ k)) ∧ Bl w w' := by
  have e_input : ((⟨#[111, 117, 116]⟩ : ByteArray).toList == (⟨#[105, 110, 112, 117, 116]⟩ : ByteArray).toList) = false := by decide +kernel
  have e_const : ((⟨#[111, 117, 116]⟩ : ByteArray).toList == (⟨#[99, 111, 110, 115, 116]⟩ : ByteArray).toList) = false := by decide +kernel
  have e_let : ((⟨#[111, 117, 116]⟩ : ByteArray).toList == (⟨#[108, 101, 116]⟩ : ByteArray).toList) = false := by decide +kernel
  have e_not : ((⟨#[111, 117, 116]⟩ : ByteArray).toList == (⟨#[110, 111, 116]⟩ : ByteArray).toList) = false := by decide +kernel
  have e_pick : ((⟨#[111, 117, 116]⟩ : ByteArray).toList == (⟨#[112, 105, 99, 107]⟩ : ByteArray).toList) = false := by decide +kernel
  have e_out : ((⟨#[111, 117, 116]⟩ : ByteArray).toList == (⟨#[111, 117, 116]⟩ : ByteArray).toList) = true := by decide +kernel
  obtain ⟨hle1, hle2⟩ := h.le
  obtain ⟨x0, hg0, hx0, k0⟩ := h.at0_ (k := 0) (by omega)
  obtain rfl := Option.some.inj hx0
  obtain ⟨x1, hg1, hx1, k1⟩ := h.at0_ (k := 1) (by omega)
  obtain rfl := Option.some.inj hx1
  have hc2 : ¬ c = 1 := by omega
  have hcut : RdS w (some ⟨g, 1, none⟩) 1 (c - 1) [p] := (by have := h.cut (k := 1) (by omega) (by omega); exact this)
  have hR := Blk.new w 92 #[.int .i64 0, .string ⟨#[]⟩, .string ⟨#[]⟩, .slice none 0 0, .int .i64 0, .int .i64 0, .int .i64 0] (g := w.heap.size)
  have hW1 := (Bl.refl w).alloc (.cells #[.int .i64 0, .string ⟨#[]⟩, .string ⟨#[]⟩, .slice none 0 0, .int .i64 0, .int .i64 0, .int .i64 0] 92)
  go_enter Tryz.func133, Tryz.ntmps133
  go_wp2_with fail
  refine bodyPost_ret (v := .agg #[.int .i64 6, .string ⟨#[]⟩, .string ⟨#[]⟩, .slice (some ⟨g, 1, none⟩) 1 (c - 1), .int .i64 0, .int .i64 0, .int .i64 0]) (by simp only [results, Tryz.results133]; go_simp) rfl ⟨_, _, _, rfl, RdS.keep hcut (by (repeat (first | with_reducible assumption | with_reducible exact Bl.refl _ | with_reducible refine Bl.drewN ?_ _ | with_reducible refine Bl.drew ?_ | with_reducible refine Bl.alloc ?_ _ | with_reducible refine Bl.setCell ?_ (by first | (dsimp only; omega) | (simp; omega)) _ | (with_reducible refine Bl.call ?_ (by with_reducible assumption))))), (fun k hk => by injection hk with hk; subst hk; refine ⟨Nat.lt_of_lt_of_le hg0 (Bl.sz ?_), .inl rfl⟩; exact (by (repeat (first | with_reducible assumption | with_reducible exact Bl.refl _ | with_reducible refine Bl.drewN ?_ _ | with_reducible refine Bl.drew ?_ | with_reducible refine Bl.alloc ?_ _ | with_reducible refine Bl.setCell ?_ (by first | (dsimp only; omega) | (simp; omega)) _ | (with_reducible refine Bl.call ?_ (by with_reducible assumption)))))), (by (repeat (first | with_reducible assumption | with_reducible exact Bl.refl _ | with_reducible refine Bl.drewN ?_ _ | with_reducible refine Bl.drew ?_ | with_reducible refine Bl.alloc ?_ _ | with_reducible refine Bl.setCell ?_ (by first | (dsimp only; omega) | (simp; omega)) _ | (with_reducible refine Bl.call ?_ (by with_reducible assumption)))))⟩
end Go.Proofs.YtjggecbaladiiaaGreatDoor
