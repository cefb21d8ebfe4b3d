/- Contracts of EqualViews and the walk of its law.
   Conditions: none beyond the calls' own tests. -/
import Derived.Test.YtglgaicbcackbaaCnl
namespace Go.Proofs.Ytglgaicbcackbaa
open Go.RowKit
set_option linter.unusedVariables false
def evB (p x y q : Int) : Bool := inR p 2 3 && elemB p x && elemB p y && inR q 0 1
def evT (p x y q : Int) : Bool := decide (cntN p (fun code : Nat => rvL p x y q (digs p code 9).1) = cntN p (fun code : Nat => svL p q (if q = 0 then x else y) (x * y % p) (digs p code 9).1))
def evV (p x y q : Int) : Bool := evB p x y q && evT p x y q
theorem evB_facts {p x y q : Int} (h : evB p x y q = true) : (p = 2 ∨ p = 3) ∧ (0 ≤ x ∧ x < p) ∧ (0 ≤ y ∧ y < p) ∧ (q = 0 ∨ q = 1) ∧ inR p 2 3 = true ∧ elemB p x = true ∧ elemB p y = true ∧ inR q 0 1 = true := by
  simp only [evB, Bool.and_eq_true] at h
  obtain ⟨⟨⟨h1, h2⟩, h3⟩, h4⟩ := h
  have h2' := h2
  have h3' := h3
  simp only [elemB, Bool.and_eq_true] at h2' h3'
  have a := inR_iff.1 h1
  have b := inR_iff.1 h2'.2
  have c := inR_iff.1 h3'.2
  have d := inR_iff.1 h4
  exact ⟨by omega, by omega, by omega, by omega, h1, h2, h3, h4⟩
set_option maxHeartbeats 2000000 in
theorem spec_EqualViews_f (p x y q : Int) (w : World) (hB : evB p x y q = false) : Calls Try.prog 54 #[.int .i64 p, .int .i64 x, .int .i64 y, .int .i64 q] w fun e w' => e = .returned (.tuple #[.bool (evV p x y q), .bool (evB p x y q)]) ∧ Bl w w' := by
  have hBf := Lib.hid hB
  have hV := Lib.hid (show evV p x y q = false by simp [evV, hB])
  rcases h0 : inR p 2 3
  · go_enter Try.func54, Try.ntmps54
    go_wp2_with (first | (go_at_call 80; refine (spec_l1In _ _ _ _).mono ?_; rintro e w' ⟨rfl, rfl⟩) | (go_at_call 122; refine (fpIn2 _ _ _ _ _ (rd_new2 _ 3 _ _)).mono ?_; rintro e w' ⟨rfl, rfl⟩))
    go_ret2
    exact ⟨by rw [hV.out, hBf.out]; rfl, (by (repeat (first | assumption | with_reducible exact Bl.refl _ | with_reducible refine Bl.drewN ?_ _ | with_reducible refine Bl.drew ?_ | with_reducible refine Bl.alloc ?_ _ | (with_reducible refine Bl.call ?_ (by assumption)))))⟩
  · rcases h1 : elemsB p [x, y]
    · go_enter Try.func54, Try.ntmps54
      go_wp2_with (first | (go_at_call 80; refine (spec_l1In _ _ _ _).mono ?_; rintro e w' ⟨rfl, rfl⟩) | (go_at_call 122; refine (fpIn2 _ _ _ _ _ (rd_new2 _ 3 _ _)).mono ?_; rintro e w' ⟨rfl, rfl⟩))
      go_ret2
      exact ⟨by rw [hV.out, hBf.out]; rfl, (by (repeat (first | assumption | with_reducible exact Bl.refl _ | with_reducible refine Bl.drewN ?_ _ | with_reducible refine Bl.drew ?_ | with_reducible refine Bl.alloc ?_ _ | (with_reducible refine Bl.call ?_ (by assumption)))))⟩
    · rcases h2 : inR q 0 1
      · go_enter Try.func54, Try.ntmps54
        go_wp2_with (first | (go_at_call 80; refine (spec_l1In _ _ _ _).mono ?_; rintro e w' ⟨rfl, rfl⟩) | (go_at_call 122; refine (fpIn2 _ _ _ _ _ (rd_new2 _ 3 _ _)).mono ?_; rintro e w' ⟨rfl, rfl⟩))
        go_ret2
        exact ⟨by rw [hV.out, hBf.out]; rfl, (by (repeat (first | assumption | with_reducible exact Bl.refl _ | with_reducible refine Bl.drewN ?_ _ | with_reducible refine Bl.drew ?_ | with_reducible refine Bl.alloc ?_ _ | (with_reducible refine Bl.call ?_ (by assumption)))))⟩
      · exfalso
        simp_all [evB, elems2]
set_option maxRecDepth 20000 in
set_option maxHeartbeats 2000000 in
theorem spec_EqualViews_0 (p x y : Int) (w : World) (hB : evB p x y 0 = true) : Calls Try.prog 54 #[.int .i64 p, .int .i64 x, .int .i64 y, .int .i64 0] w fun e w' => e = .returned (.tuple #[.bool (evT p x y 0), .bool true]) ∧ Bl w w' := by
  obtain ⟨hp, hx, hy, _, h1, h2, h3, h4⟩ := evB_facts hB
  have hp2 : 2 ≤ p := by omega
  have hp7 : p ≤ 7 := by omega
  have M := md_bd (x * y) hp2
  have hm := mul_bd3 x y 3 3 (by omega) (by omega) (by omega) (by omega)
  have hmw : IntKind.i64.wrap (x * y) = x * y := IntWalk.i64_in _ (by omega)
  have hmt : (x * y).tmod p = x * y % p := Int.tmod_eq_emod_of_nonneg (by omega)
  have hp0 : (p == 0) = false := by simp; omega
  have hp1 : ¬ p = 0 := by omega
  have e12 : elemsB p [x, y] = true := by rw [elems2, h2, h3]; rfl
  have hV := Lib.hid (show evT p x y 0 = decide (cntN p (fun code : Nat => rvL p x y 0 (digs p code 9).1) = cntN p (fun code : Nat => svL p 0 x (x * y % p) (digs p code 9).1)) from rfl)
  clear hB hp h2 h3
  go_enter Try.func54, Try.ntmps54
  go_wp2_with (first | (go_at_call 80; refine (spec_l1In _ _ _ _).mono ?_; rintro e w' ⟨rfl, rfl⟩) | (go_at_call 122; refine (fpIn2 _ _ _ _ _ (rd_new2 _ 3 _ _)).mono ?_; rintro e w' ⟨rfl, rfl⟩))
  refine wp_region_held_drew (S := (fun w' => True)) (by kernel_rfl) ?_ (fun hHeld => ?_)
  · exact trivial
  refine held_take (i := 0) (d := 26) (v := ?_) rfl rfl (by kernel_rfl) (by kernel_rfl) (by kernel_rfl) (fun _ _ _ h => h) (Or.inl ⟨by rfl, ?_⟩) (by assumption) ?_
  rotate_left
  · (intro w hSw; (try dsimp only at hSw); go_simp; (try with_reducible rfl))
  (try simp only [List.set_cons_zero, List.set_cons_succ])
  refine held_take (i := 1) (d := 27) (v := ?_) rfl rfl (by kernel_rfl) (by kernel_rfl) (by kernel_rfl) (fun _ _ _ h => h) (Or.inl ⟨by rfl, ?_⟩) (by assumption) ?_
  rotate_left
  · (intro w hSw; (try dsimp only at hSw); go_simp; (try with_reducible rfl))
  (try simp only [List.set_cons_zero, List.set_cons_succ])
  refine held_take (i := 2) (d := 28) (v := ?_) rfl rfl (by kernel_rfl) (by kernel_rfl) (by kernel_rfl) (fun _ _ _ h => h) (Or.inl ⟨by rfl, ?_⟩) (by assumption) ?_
  rotate_left
  · (intro w hSw; (try dsimp only at hSw); go_simp; (try with_reducible rfl))
  (try simp only [List.set_cons_zero, List.set_cons_succ])
  refine held_take (i := 3) (d := 29) (v := ?_) rfl rfl (by kernel_rfl) (by kernel_rfl) (by kernel_rfl) (fun _ _ _ h => h) (Or.inl ⟨by rfl, ?_⟩) (by assumption) ?_
  rotate_left
  · (intro w hSw; (try dsimp only at hSw); go_simp; (try with_reducible rfl))
  (try simp only [List.set_cons_zero, List.set_cons_succ])
  refine held_take (i := 5) (d := 31) (v := ?_) rfl rfl (by kernel_rfl) (by kernel_rfl) (by kernel_rfl) (fun _ _ _ h => h) (Or.inl ⟨by rfl, ?_⟩) (by assumption) ?_
  rotate_left
  · (intro w hSw; (try dsimp only at hSw); go_simp; (try with_reducible rfl))
  (try simp only [List.set_cons_zero, List.set_cons_succ])
  refine held_take (i := 6) (d := 32) (v := ?_) rfl rfl (by kernel_rfl) (by kernel_rfl) (by kernel_rfl) (fun _ _ _ h => h) (Or.inl ⟨by rfl, ?_⟩) (by assumption) ?_
  rotate_left
  · (intro w hSw; (try dsimp only at hSw); go_simp; (try with_reducible rfl))
  (try simp only [List.set_cons_zero, List.set_cons_succ])
  refine held_take (i := 7) (d := 33) (v := ?_) rfl rfl (by kernel_rfl) (by kernel_rfl) (by kernel_rfl) (fun _ _ _ h => h) (Or.inl ⟨by rfl, ?_⟩) (by assumption) ?_
  rotate_left
  · (intro w hSw; (try dsimp only at hSw); go_simp; (try with_reducible rfl))
  (try simp only [List.set_cons_zero, List.set_cons_succ])
  refine held_take (i := 8) (d := 34) (v := ?_) rfl rfl (by kernel_rfl) (by kernel_rfl) (by kernel_rfl) (fun _ _ _ h => h) (Or.inl ⟨by rfl, ?_⟩) (by assumption) ?_
  rotate_left
  · (intro w hSw; (try dsimp only at hSw); go_simp; (try with_reducible rfl))
  (try simp only [List.set_cons_zero, List.set_cons_succ])
  refine held_take (i := 9) (d := 35) (v := ?_) rfl rfl (by kernel_rfl) (by kernel_rfl) (by kernel_rfl) (fun _ _ _ h => h) (Or.inl ⟨by rfl, ?_⟩) (by assumption) ?_
  rotate_left
  · (intro w hSw; (try dsimp only at hSw); go_simp; (try with_reducible rfl))
  (try simp only [List.set_cons_zero, List.set_cons_succ])
  refine held_take (i := 10) (d := 36) (v := ?_) rfl rfl (by kernel_rfl) (by kernel_rfl) (by kernel_rfl) (fun _ _ _ h => h) (Or.inl ⟨by rfl, ?_⟩) (by assumption) ?_
  rotate_left
  · (intro w hSw; (try dsimp only at hSw); go_simp; (try with_reducible rfl))
  (try simp only [List.set_cons_zero, List.set_cons_succ])
  refine held_take (i := 11) (d := 37) (v := ?_) rfl rfl (by kernel_rfl) (by kernel_rfl) (by kernel_rfl) (fun _ _ _ h => h) (Or.inl ⟨by rfl, ?_⟩) (by assumption) ?_
  rotate_left
  · (intro w hSw; (try dsimp only at hSw); go_simp; (try with_reducible rfl))
  (try simp only [List.set_cons_zero, List.set_cons_succ])
  refine held_take (i := 12) (d := 38) (v := ?_) rfl rfl (by kernel_rfl) (by kernel_rfl) (by kernel_rfl) (fun _ _ _ h => h) (Or.inl ⟨by rfl, ?_⟩) (by assumption) ?_
  rotate_left
  · (intro w hSw; (try dsimp only at hSw); go_simp; (try with_reducible rfl))
  (try simp only [List.set_cons_zero, List.set_cons_succ])
  refine held_take (i := 13) (d := 39) (v := ?_) rfl rfl (by kernel_rfl) (by kernel_rfl) (by kernel_rfl) (fun _ _ _ h => h) (Or.inl ⟨by rfl, ?_⟩) (by assumption) ?_
  rotate_left
  · (intro w hSw; (try dsimp only at hSw); go_simp; (try with_reducible rfl))
  (try simp only [List.set_cons_zero, List.set_cons_succ])
  refine wpAnyH_ready (rs := [4]) (by kernel_rfl) (by simp) ?_
  refine AllReadyH.cons rfl (fun K hK => ?_) AllReadyH.nil
  go_simp
  (refine (vwCounts_real p x y 0 _ hp2 hp7 hx hy (by first | exact .inl rfl | exact .inr rfl)).mono ?_; rintro e w1 ⟨A1, n1, c1, rfl, ho1, hb1⟩)
  go_wp2_with fail
  refine hK.out _ _ ?_ (fun hHeld => ?_)
  · exact trivial
  clear hK K
  (try simp only [Act.put]); (try simp only [List.setIfInBounds_toArray]); (try simp only [List.set_cons_succ]); (try simp only [List.set_cons_zero])
  refine wpAnyH_ready (rs := [14]) (by kernel_rfl) (by simp) ?_
  refine AllReadyH.cons rfl (fun K hK => ?_) AllReadyH.nil
  go_simp
  (refine (vwCounts_sim0 p x y (x * y % p) _ hp2 hp7 hx hy M).mono ?_; rintro e w2 ⟨A2, n2, c2, rfl, ho2, hb2⟩)
  go_wp2_with fail
  refine hK.out _ _ ?_ (fun hHeld => ?_)
  · exact trivial
  clear hK K
  (try simp only [Act.put]); (try simp only [List.setIfInBounds_toArray]); (try simp only [List.set_cons_succ]); (try simp only [List.set_cons_zero])
  refine wpAnyH_ready (rs := [15]) (by kernel_rfl) (by simp) ?_
  refine AllReadyH.cons rfl (fun K hK => ?_) AllReadyH.nil
  go_simp
  (refine (spec_l1Same _ _ _ _ _ _ _ _ _ (ho1.rd.keep (by (repeat (first | assumption | with_reducible exact Bl.refl _ | with_reducible refine Bl.drewN ?_ _ | with_reducible refine Bl.drew ?_ | with_reducible refine Bl.alloc ?_ _ | (with_reducible refine Bl.call ?_ (by assumption)))))) (ho2.rd.keep (by (repeat (first | assumption | with_reducible exact Bl.refl _ | with_reducible refine Bl.drewN ?_ _ | with_reducible refine Bl.drew ?_ | with_reducible refine Bl.alloc ?_ _ | (with_reducible refine Bl.call ?_ (by assumption))))))).mono ?_; rintro e w3 ⟨rfl, hb3⟩)
  go_wp2_with fail
  refine hK.out _ _ ?_ (fun hHeld => ?_)
  · exact trivial
  clear hK K
  (try simp only [Act.put]); (try simp only [List.setIfInBounds_toArray]); (try simp only [List.set_cons_succ]); (try simp only [List.set_cons_zero])
  refine held_take (i := 16) (d := 8) (v := ?_) rfl rfl (by kernel_rfl) (by kernel_rfl) (by kernel_rfl) (fun _ _ _ h => h) (Or.inl ⟨by rfl, ?_⟩) (by assumption) ?_
  rotate_left
  · (intro w hSw; (try dsimp only at hSw); go_simp; (try with_reducible rfl))
  (try simp only [List.set_cons_zero, List.set_cons_succ])
  refine held_take (i := 17) (d := 9) (v := ?_) rfl rfl (by kernel_rfl) (by kernel_rfl) (by kernel_rfl) (fun _ _ _ h => h) (Or.inl ⟨by rfl, ?_⟩) (by assumption) ?_
  rotate_left
  · (intro w hSw; (try dsimp only at hSw); go_simp; (try with_reducible rfl))
  (try simp only [List.set_cons_zero, List.set_cons_succ])
  refine wpAnyH_done (by kernel_rfl) ?_ _
  go_wp2_with fail
  go_ret2
  exact ⟨by rw [hV.out]; rfl, (by (repeat (first | assumption | with_reducible exact Bl.refl _ | with_reducible refine Bl.drewN ?_ _ | with_reducible refine Bl.drew ?_ | with_reducible refine Bl.alloc ?_ _ | (with_reducible refine Bl.call ?_ (by assumption)))))⟩
set_option maxRecDepth 20000 in
set_option maxHeartbeats 2000000 in
theorem spec_EqualViews_1 (p x y : Int) (w : World) (hB : evB p x y 1 = true) : Calls Try.prog 54 #[.int .i64 p, .int .i64 x, .int .i64 y, .int .i64 1] w fun e w' => e = .returned (.tuple #[.bool (evT p x y 1), .bool true]) ∧ Bl w w' := by
  obtain ⟨hp, hx, hy, _, h1, h2, h3, h4⟩ := evB_facts hB
  have hp2 : 2 ≤ p := by omega
  have hp7 : p ≤ 7 := by omega
  have M := md_bd (x * y) hp2
  have hm := mul_bd3 x y 3 3 (by omega) (by omega) (by omega) (by omega)
  have hmw : IntKind.i64.wrap (x * y) = x * y := IntWalk.i64_in _ (by omega)
  have hmt : (x * y).tmod p = x * y % p := Int.tmod_eq_emod_of_nonneg (by omega)
  have hp0 : (p == 0) = false := by simp; omega
  have hp1 : ¬ p = 0 := by omega
  have e12 : elemsB p [x, y] = true := by rw [elems2, h2, h3]; rfl
  have hV := Lib.hid (show evT p x y 1 = decide (cntN p (fun code : Nat => rvL p x y 1 (digs p code 9).1) = cntN p (fun code : Nat => svL p 1 y (x * y % p) (digs p code 9).1)) from rfl)
  clear hB hp h2 h3
  go_enter Try.func54, Try.ntmps54
  go_wp2_with (first | (go_at_call 80; refine (spec_l1In _ _ _ _).mono ?_; rintro e w' ⟨rfl, rfl⟩) | (go_at_call 122; refine (fpIn2 _ _ _ _ _ (rd_new2 _ 3 _ _)).mono ?_; rintro e w' ⟨rfl, rfl⟩))
  refine wp_region_held_drew (S := (fun w' => True)) (by kernel_rfl) ?_ (fun hHeld => ?_)
  · exact trivial
  refine held_take (i := 0) (d := 26) (v := ?_) rfl rfl (by kernel_rfl) (by kernel_rfl) (by kernel_rfl) (fun _ _ _ h => h) (Or.inl ⟨by rfl, ?_⟩) (by assumption) ?_
  rotate_left
  · (intro w hSw; (try dsimp only at hSw); go_simp; (try with_reducible rfl))
  (try simp only [List.set_cons_zero, List.set_cons_succ])
  refine held_take (i := 1) (d := 27) (v := ?_) rfl rfl (by kernel_rfl) (by kernel_rfl) (by kernel_rfl) (fun _ _ _ h => h) (Or.inl ⟨by rfl, ?_⟩) (by assumption) ?_
  rotate_left
  · (intro w hSw; (try dsimp only at hSw); go_simp; (try with_reducible rfl))
  (try simp only [List.set_cons_zero, List.set_cons_succ])
  refine held_take (i := 2) (d := 28) (v := ?_) rfl rfl (by kernel_rfl) (by kernel_rfl) (by kernel_rfl) (fun _ _ _ h => h) (Or.inl ⟨by rfl, ?_⟩) (by assumption) ?_
  rotate_left
  · (intro w hSw; (try dsimp only at hSw); go_simp; (try with_reducible rfl))
  (try simp only [List.set_cons_zero, List.set_cons_succ])
  refine held_take (i := 3) (d := 29) (v := ?_) rfl rfl (by kernel_rfl) (by kernel_rfl) (by kernel_rfl) (fun _ _ _ h => h) (Or.inl ⟨by rfl, ?_⟩) (by assumption) ?_
  rotate_left
  · (intro w hSw; (try dsimp only at hSw); go_simp; (try with_reducible rfl))
  (try simp only [List.set_cons_zero, List.set_cons_succ])
  refine held_take (i := 5) (d := 31) (v := ?_) rfl rfl (by kernel_rfl) (by kernel_rfl) (by kernel_rfl) (fun _ _ _ h => h) (Or.inl ⟨by rfl, ?_⟩) (by assumption) ?_
  rotate_left
  · (intro w hSw; (try dsimp only at hSw); go_simp; (try with_reducible rfl))
  (try simp only [List.set_cons_zero, List.set_cons_succ])
  refine held_take (i := 6) (d := 32) (v := ?_) rfl rfl (by kernel_rfl) (by kernel_rfl) (by kernel_rfl) (fun _ _ _ h => h) (Or.inl ⟨by rfl, ?_⟩) (by assumption) ?_
  rotate_left
  · (intro w hSw; (try dsimp only at hSw); go_simp; (try with_reducible rfl))
  (try simp only [List.set_cons_zero, List.set_cons_succ])
  refine held_take (i := 7) (d := 33) (v := ?_) rfl rfl (by kernel_rfl) (by kernel_rfl) (by kernel_rfl) (fun _ _ _ h => h) (Or.inl ⟨by rfl, ?_⟩) (by assumption) ?_
  rotate_left
  · (intro w hSw; (try dsimp only at hSw); go_simp; (try with_reducible rfl))
  (try simp only [List.set_cons_zero, List.set_cons_succ])
  refine held_take (i := 8) (d := 34) (v := ?_) rfl rfl (by kernel_rfl) (by kernel_rfl) (by kernel_rfl) (fun _ _ _ h => h) (Or.inl ⟨by rfl, ?_⟩) (by assumption) ?_
  rotate_left
  · (intro w hSw; (try dsimp only at hSw); go_simp; (try with_reducible rfl))
  (try simp only [List.set_cons_zero, List.set_cons_succ])
  refine held_take (i := 9) (d := 35) (v := ?_) rfl rfl (by kernel_rfl) (by kernel_rfl) (by kernel_rfl) (fun _ _ _ h => h) (Or.inl ⟨by rfl, ?_⟩) (by assumption) ?_
  rotate_left
  · (intro w hSw; (try dsimp only at hSw); go_simp; (try with_reducible rfl))
  (try simp only [List.set_cons_zero, List.set_cons_succ])
  refine held_take (i := 10) (d := 36) (v := ?_) rfl rfl (by kernel_rfl) (by kernel_rfl) (by kernel_rfl) (fun _ _ _ h => h) (Or.inl ⟨by rfl, ?_⟩) (by assumption) ?_
  rotate_left
  · (intro w hSw; (try dsimp only at hSw); go_simp; (try with_reducible rfl))
  (try simp only [List.set_cons_zero, List.set_cons_succ])
  refine held_take (i := 11) (d := 37) (v := ?_) rfl rfl (by kernel_rfl) (by kernel_rfl) (by kernel_rfl) (fun _ _ _ h => h) (Or.inl ⟨by rfl, ?_⟩) (by assumption) ?_
  rotate_left
  · (intro w hSw; (try dsimp only at hSw); go_simp; (try with_reducible rfl))
  (try simp only [List.set_cons_zero, List.set_cons_succ])
  refine held_take (i := 12) (d := 38) (v := ?_) rfl rfl (by kernel_rfl) (by kernel_rfl) (by kernel_rfl) (fun _ _ _ h => h) (Or.inl ⟨by rfl, ?_⟩) (by assumption) ?_
  rotate_left
  · (intro w hSw; (try dsimp only at hSw); go_simp; (try with_reducible rfl))
  (try simp only [List.set_cons_zero, List.set_cons_succ])
  refine held_take (i := 13) (d := 39) (v := ?_) rfl rfl (by kernel_rfl) (by kernel_rfl) (by kernel_rfl) (fun _ _ _ h => h) (Or.inl ⟨by rfl, ?_⟩) (by assumption) ?_
  rotate_left
  · (intro w hSw; (try dsimp only at hSw); go_simp; (try with_reducible rfl))
  (try simp only [List.set_cons_zero, List.set_cons_succ])
  refine wpAnyH_ready (rs := [4]) (by kernel_rfl) (by simp) ?_
  refine AllReadyH.cons rfl (fun K hK => ?_) AllReadyH.nil
  go_simp
  (refine (vwCounts_real p x y 1 _ hp2 hp7 hx hy (by first | exact .inl rfl | exact .inr rfl)).mono ?_; rintro e w1 ⟨A1, n1, c1, rfl, ho1, hb1⟩)
  go_wp2_with fail
  refine hK.out _ _ ?_ (fun hHeld => ?_)
  · exact trivial
  clear hK K
  (try simp only [Act.put]); (try simp only [List.setIfInBounds_toArray]); (try simp only [List.set_cons_succ]); (try simp only [List.set_cons_zero])
  refine wpAnyH_ready (rs := [14]) (by kernel_rfl) (by simp) ?_
  refine AllReadyH.cons rfl (fun K hK => ?_) AllReadyH.nil
  go_simp
  (refine (vwCounts_sim1 p x y (x * y % p) _ hp2 hp7 hx hy M).mono ?_; rintro e w2 ⟨A2, n2, c2, rfl, ho2, hb2⟩)
  go_wp2_with fail
  refine hK.out _ _ ?_ (fun hHeld => ?_)
  · exact trivial
  clear hK K
  (try simp only [Act.put]); (try simp only [List.setIfInBounds_toArray]); (try simp only [List.set_cons_succ]); (try simp only [List.set_cons_zero])
  refine wpAnyH_ready (rs := [15]) (by kernel_rfl) (by simp) ?_
  refine AllReadyH.cons rfl (fun K hK => ?_) AllReadyH.nil
  go_simp
  (refine (spec_l1Same _ _ _ _ _ _ _ _ _ (ho1.rd.keep (by (repeat (first | assumption | with_reducible exact Bl.refl _ | with_reducible refine Bl.drewN ?_ _ | with_reducible refine Bl.drew ?_ | with_reducible refine Bl.alloc ?_ _ | (with_reducible refine Bl.call ?_ (by assumption)))))) (ho2.rd.keep (by (repeat (first | assumption | with_reducible exact Bl.refl _ | with_reducible refine Bl.drewN ?_ _ | with_reducible refine Bl.drew ?_ | with_reducible refine Bl.alloc ?_ _ | (with_reducible refine Bl.call ?_ (by assumption))))))).mono ?_; rintro e w3 ⟨rfl, hb3⟩)
  go_wp2_with fail
  refine hK.out _ _ ?_ (fun hHeld => ?_)
  · exact trivial
  clear hK K
  (try simp only [Act.put]); (try simp only [List.setIfInBounds_toArray]); (try simp only [List.set_cons_succ]); (try simp only [List.set_cons_zero])
  refine held_take (i := 16) (d := 8) (v := ?_) rfl rfl (by kernel_rfl) (by kernel_rfl) (by kernel_rfl) (fun _ _ _ h => h) (Or.inl ⟨by rfl, ?_⟩) (by assumption) ?_
  rotate_left
  · (intro w hSw; (try dsimp only at hSw); go_simp; (try with_reducible rfl))
  (try simp only [List.set_cons_zero, List.set_cons_succ])
  refine held_take (i := 17) (d := 9) (v := ?_) rfl rfl (by kernel_rfl) (by kernel_rfl) (by kernel_rfl) (fun _ _ _ h => h) (Or.inl ⟨by rfl, ?_⟩) (by assumption) ?_
  rotate_left
  · (intro w hSw; (try dsimp only at hSw); go_simp; (try with_reducible rfl))
  (try simp only [List.set_cons_zero, List.set_cons_succ])
  refine wpAnyH_done (by kernel_rfl) ?_ _
  go_wp2_with fail
  go_ret2
  exact ⟨by rw [hV.out]; rfl, (by (repeat (first | assumption | with_reducible exact Bl.refl _ | with_reducible refine Bl.drewN ?_ _ | with_reducible refine Bl.drew ?_ | with_reducible refine Bl.alloc ?_ _ | (with_reducible refine Bl.call ?_ (by assumption)))))⟩
theorem spec_EqualViews (p x y q : Int) (w : World) : Calls Try.prog 54 #[.int .i64 p, .int .i64 x, .int .i64 y, .int .i64 q] w fun e w' => e = .returned (.tuple #[.bool (evV p x y q), .bool (evB p x y q)]) ∧ Bl w w' := by
  rcases hB : evB p x y q
  · have := spec_EqualViews_f p x y q w hB
    rwa [hB] at this
  · have hq := (evB_facts hB).2.2.2.1
    have hV : evV p x y q = evT p x y q := by simp [evV, hB]
    rw [hV]
    rcases hq with rfl | rfl
    · exact spec_EqualViews_0 p x y w hB
    · exact spec_EqualViews_1 p x y w hB
set_option maxRecDepth 20000 in
set_option maxHeartbeats 2000000 in
theorem EqualViews_2_0 (p x y : Int) (l : List Int) (gp gq gi gx gy : Nat) (A : Option Addr) (c : Nat) (w : World) (hl : RdI w A 9 c l) (hp : (2 : Int) ≤ p ∧ p ≤ 251) (hx : 0 ≤ x ∧ x < p) (hy : 0 ≤ y ∧ y < p) (hall0 : ∀ z ∈ l, 0 ≤ z ∧ z < p)
    (kp : w.cell? ⟨gp, 0, none⟩ = some (.int .i64 p)) (kq : w.cell? ⟨gq, 0, none⟩ = some (.int .i64 0)) (ki : w.cell? ⟨gi, 0, none⟩ = some (.int .i64 x)) (kx : w.cell? ⟨gx, 0, none⟩ = some (.int .i64 x)) (ky : w.cell? ⟨gy, 0, none⟩ = some (.int .i64 y)) :
    Calls Try.prog 125 #[.slice A 9 c, .pointer (some ⟨gp, 0, none⟩), .pointer (some ⟨gq, 0, none⟩), .pointer (some ⟨gi, 0, none⟩), .pointer (some ⟨gx, 0, none⟩), .pointer (some ⟨gy, 0, none⟩)] w
      fun r w' => ∃ A2 c2, r = .returned (.slice A2 11 c2) ∧ OwnI w.heap.size w' A2 11 c2 (svL p 0 x (x * y % p) l) ∧ Bl w w' := by
  have hall := Lib.hid hall0
  clear hall0
  have M := md_bd (x * y) hp.1
  have hm := mul_bd3 x y 251 251 (by omega) (by omega) (by omega) (by omega)
  have hmw : IntKind.i64.wrap (x * y) = x * y := IntWalk.i64_in _ (by omega)
  have hmt : (x * y).tmod p = x * y % p := Int.tmod_eq_emod_of_nonneg (by omega)
  have hp0 : (p == 0) = false := by simp; omega
  have hp1 : ¬ p = 0 := by omega
  go_enter Try.func125, Try.ntmps125
  go_wp2_with fail
  refine wp_region_held_drew (S := (fun w' => w'.cell? ⟨gp, 0, none⟩ = some (.int .i64 p) ∧ w'.cell? ⟨gq, 0, none⟩ = some (.int .i64 0) ∧ w'.cell? ⟨gi, 0, none⟩ = some (.int .i64 x) ∧ w'.cell? ⟨gx, 0, none⟩ = some (.int .i64 x) ∧ w'.cell? ⟨gy, 0, none⟩ = some (.int .i64 y))) (by kernel_rfl) ?_ (fun hHeld => ?_)
  · (try dsimp only); exact ⟨Bl.cells (by (repeat (first | assumption | with_reducible exact Bl.refl _ | with_reducible refine Bl.drewN ?_ _ | with_reducible refine Bl.drew ?_ | with_reducible refine Bl.alloc ?_ _ | (with_reducible refine Bl.call ?_ (by assumption))))) kp, Bl.cells (by (repeat (first | assumption | with_reducible exact Bl.refl _ | with_reducible refine Bl.drewN ?_ _ | with_reducible refine Bl.drew ?_ | with_reducible refine Bl.alloc ?_ _ | (with_reducible refine Bl.call ?_ (by assumption))))) kq, Bl.cells (by (repeat (first | assumption | with_reducible exact Bl.refl _ | with_reducible refine Bl.drewN ?_ _ | with_reducible refine Bl.drew ?_ | with_reducible refine Bl.alloc ?_ _ | (with_reducible refine Bl.call ?_ (by assumption))))) ki, Bl.cells (by (repeat (first | assumption | with_reducible exact Bl.refl _ | with_reducible refine Bl.drewN ?_ _ | with_reducible refine Bl.drew ?_ | with_reducible refine Bl.alloc ?_ _ | (with_reducible refine Bl.call ?_ (by assumption))))) kx, Bl.cells (by (repeat (first | assumption | with_reducible exact Bl.refl _ | with_reducible refine Bl.drewN ?_ _ | with_reducible refine Bl.drew ?_ | with_reducible refine Bl.alloc ?_ _ | (with_reducible refine Bl.call ?_ (by assumption))))) ky⟩
  refine held_take (i := 0) (d := 8) (v := ?_) rfl rfl (by kernel_rfl) (by kernel_rfl) (by kernel_rfl) (fun _ _ _ h => h) (Or.inl ⟨by rfl, ?_⟩) (by assumption) ?_
  rotate_left
  · (intro w hSw; (try dsimp only at hSw); go_simp; (try with_reducible rfl))
  (try simp only [List.set_cons_zero, List.set_cons_succ])
  refine held_take (i := 1) (d := 9) (v := ?_) rfl rfl (by kernel_rfl) (by kernel_rfl) (by kernel_rfl) (fun _ _ _ h => h) (Or.inl ⟨by rfl, ?_⟩) (by assumption) ?_
  rotate_left
  · (intro w hSw; (try dsimp only at hSw); go_simp; (try with_reducible rfl))
  (try simp only [List.set_cons_zero, List.set_cons_succ])
  refine held_take (i := 2) (d := 10) (v := ?_) rfl rfl (by kernel_rfl) (by kernel_rfl) (by kernel_rfl) (fun _ _ _ h => h) (Or.inl ⟨by rfl, ?_⟩) (by assumption) ?_
  rotate_left
  · (intro w hSw; (try dsimp only at hSw); go_simp; (try with_reducible rfl))
  (try simp only [List.set_cons_zero, List.set_cons_succ])
  refine held_take (i := 3) (d := 11) (v := ?_) rfl rfl (by kernel_rfl) (by kernel_rfl) (by kernel_rfl) (fun _ _ _ h => h) (Or.inl ⟨by rfl, ?_⟩) (by assumption) ?_
  rotate_left
  · (intro w hSw; (try dsimp only at hSw); go_simp; (try with_reducible rfl))
  (try simp only [List.set_cons_zero, List.set_cons_succ])
  refine held_take (i := 4) (d := 12) (v := ?_) rfl rfl (by kernel_rfl) (by kernel_rfl) (by kernel_rfl) (fun _ _ _ h => h) (Or.inl ⟨by rfl, ?_⟩) (by assumption) ?_
  rotate_left
  · (intro w hSw; (try dsimp only at hSw); go_simp; (try with_reducible rfl))
  (try simp only [List.set_cons_zero, List.set_cons_succ])
  refine held_take (i := 5) (d := 13) (v := ?_) rfl rfl (by kernel_rfl) (by kernel_rfl) (by kernel_rfl) (fun _ _ _ h => h) (Or.inl ⟨by rfl, ?_⟩) (by assumption) ?_
  rotate_left
  · (intro w hSw; (try dsimp only at hSw); go_simp; (try with_reducible rfl))
  (try simp only [List.set_cons_zero, List.set_cons_succ])
  refine held_take (i := 6) (d := 14) (v := ?_) rfl rfl (by kernel_rfl) (by kernel_rfl) (by kernel_rfl) (fun _ _ _ h => h) (Or.inl ⟨by rfl, ?_⟩) (by assumption) ?_
  rotate_left
  · (intro w hSw; (try dsimp only at hSw); go_simp; (try with_reducible rfl))
  (try simp only [List.set_cons_zero, List.set_cons_succ])
  refine held_take (i := 7) (d := 15) (v := ?_) rfl rfl (by kernel_rfl) (by kernel_rfl) (by kernel_rfl) (fun _ _ _ h => h) (Or.inl ⟨by rfl, ?_⟩) (by assumption) ?_
  rotate_left
  · (intro w hSw; (try dsimp only at hSw); go_simp; (try with_reducible rfl))
  (try simp only [List.set_cons_zero, List.set_cons_succ])
  refine held_take (i := 8) (d := 16) (v := ?_) rfl rfl (by kernel_rfl) (by kernel_rfl) (by kernel_rfl) (fun _ _ _ h => h) (Or.inl ⟨by rfl, ?_⟩) (by assumption) ?_
  rotate_left
  · (intro w hSw; (try dsimp only at hSw); go_simp; (try with_reducible rfl))
  (try simp only [List.set_cons_zero, List.set_cons_succ])
  refine held_take (i := 9) (d := 17) (v := ?_) rfl rfl (by kernel_rfl) (by kernel_rfl) (by kernel_rfl) (fun _ _ _ h => h) (Or.inl ⟨by rfl, ?_⟩) (by assumption) ?_
  rotate_left
  · (intro w hSw; (try dsimp only at hSw); go_simp; (try with_reducible rfl))
  (try simp only [List.set_cons_zero, List.set_cons_succ])
  refine held_take (i := 10) (d := 18) (v := ?_) rfl rfl (by kernel_rfl) (by kernel_rfl) (by kernel_rfl) (fun _ _ _ h => h) (Or.inl ⟨by rfl, ?_⟩) (by assumption) ?_
  rotate_left
  · (intro w hSw; (try dsimp only at hSw); go_simp; (try with_reducible rfl))
  (try simp only [List.set_cons_zero, List.set_cons_succ])
  refine wpAnyH_ready (rs := [11]) (by kernel_rfl) (by simp) ?_
  refine AllReadyH.cons rfl (fun K hK => ?_) AllReadyH.nil
  go_simp
  (refine (simView_L p 0 x (x * y % p) l A c _ (hl.keep (by (repeat (first | assumption | with_reducible exact Bl.refl _ | with_reducible refine Bl.drewN ?_ _ | with_reducible refine Bl.drew ?_ | with_reducible refine Bl.alloc ?_ _ | (with_reducible refine Bl.call ?_ (by assumption)))))) hp hx M (by first | exact .inl rfl | exact .inr rfl) hall.out).mono ?_; rintro e w8 ⟨A8, c8, rfl, ho8, hb8⟩)
  go_wp2_with fail
  refine hK.out _ _ ?_ (fun hHeld => ?_)
  · (try dsimp only); exact ⟨Bl.cells (by (repeat (first | assumption | with_reducible exact Bl.refl _ | with_reducible refine Bl.drewN ?_ _ | with_reducible refine Bl.drew ?_ | with_reducible refine Bl.alloc ?_ _ | (with_reducible refine Bl.call ?_ (by assumption))))) kp, Bl.cells (by (repeat (first | assumption | with_reducible exact Bl.refl _ | with_reducible refine Bl.drewN ?_ _ | with_reducible refine Bl.drew ?_ | with_reducible refine Bl.alloc ?_ _ | (with_reducible refine Bl.call ?_ (by assumption))))) kq, Bl.cells (by (repeat (first | assumption | with_reducible exact Bl.refl _ | with_reducible refine Bl.drewN ?_ _ | with_reducible refine Bl.drew ?_ | with_reducible refine Bl.alloc ?_ _ | (with_reducible refine Bl.call ?_ (by assumption))))) ki, Bl.cells (by (repeat (first | assumption | with_reducible exact Bl.refl _ | with_reducible refine Bl.drewN ?_ _ | with_reducible refine Bl.drew ?_ | with_reducible refine Bl.alloc ?_ _ | (with_reducible refine Bl.call ?_ (by assumption))))) kx, Bl.cells (by (repeat (first | assumption | with_reducible exact Bl.refl _ | with_reducible refine Bl.drewN ?_ _ | with_reducible refine Bl.drew ?_ | with_reducible refine Bl.alloc ?_ _ | (with_reducible refine Bl.call ?_ (by assumption))))) ky⟩
  clear hK K
  (try simp only [Act.put]); (try simp only [List.setIfInBounds_toArray]); (try simp only [List.set_cons_succ]); (try simp only [List.set_cons_zero])
  refine held_take (i := 12) (d := 7) (v := ?_) rfl rfl (by kernel_rfl) (by kernel_rfl) (by kernel_rfl) (fun _ _ _ h => h) (Or.inl ⟨by rfl, ?_⟩) (by assumption) ?_
  rotate_left
  · (intro w hSw; (try dsimp only at hSw); go_simp; (try with_reducible rfl))
  (try simp only [List.set_cons_zero, List.set_cons_succ])
  refine wpAnyH_done (by kernel_rfl) ?_ _
  go_wp2
  go_ret
  exact ⟨A8, c8, rfl, OwnI.mono ho8 (Bl.sz (by (repeat (first | assumption | with_reducible exact Bl.refl _ | with_reducible refine Bl.drewN ?_ _ | with_reducible refine Bl.drew ?_ | with_reducible refine Bl.alloc ?_ _ | (with_reducible refine Bl.call ?_ (by assumption)))))), (by (repeat (first | assumption | with_reducible exact Bl.refl _ | with_reducible refine Bl.drewN ?_ _ | with_reducible refine Bl.drew ?_ | with_reducible refine Bl.alloc ?_ _ | (with_reducible refine Bl.call ?_ (by assumption)))))⟩
set_option maxRecDepth 20000 in
set_option maxHeartbeats 2000000 in
theorem EqualViews_2_1 (p x y : Int) (l : List Int) (gp gq gi gx gy : Nat) (A : Option Addr) (c : Nat) (w : World) (hl : RdI w A 9 c l) (hp : (2 : Int) ≤ p ∧ p ≤ 251) (hx : 0 ≤ x ∧ x < p) (hy : 0 ≤ y ∧ y < p) (hall0 : ∀ z ∈ l, 0 ≤ z ∧ z < p)
    (kp : w.cell? ⟨gp, 0, none⟩ = some (.int .i64 p)) (kq : w.cell? ⟨gq, 0, none⟩ = some (.int .i64 1)) (ki : w.cell? ⟨gi, 1, none⟩ = some (.int .i64 y)) (kx : w.cell? ⟨gx, 0, none⟩ = some (.int .i64 x)) (ky : w.cell? ⟨gy, 0, none⟩ = some (.int .i64 y)) :
    Calls Try.prog 125 #[.slice A 9 c, .pointer (some ⟨gp, 0, none⟩), .pointer (some ⟨gq, 0, none⟩), .pointer (some ⟨gi, 0, none⟩), .pointer (some ⟨gx, 0, none⟩), .pointer (some ⟨gy, 0, none⟩)] w
      fun r w' => ∃ A2 c2, r = .returned (.slice A2 11 c2) ∧ OwnI w.heap.size w' A2 11 c2 (svL p 1 y (x * y % p) l) ∧ Bl w w' := by
  have hall := Lib.hid hall0
  clear hall0
  have M := md_bd (x * y) hp.1
  have hm := mul_bd3 x y 251 251 (by omega) (by omega) (by omega) (by omega)
  have hmw : IntKind.i64.wrap (x * y) = x * y := IntWalk.i64_in _ (by omega)
  have hmt : (x * y).tmod p = x * y % p := Int.tmod_eq_emod_of_nonneg (by omega)
  have hp0 : (p == 0) = false := by simp; omega
  have hp1 : ¬ p = 0 := by omega
  go_enter Try.func125, Try.ntmps125
  go_wp2_with fail
  refine wp_region_held_drew (S := (fun w' => w'.cell? ⟨gp, 0, none⟩ = some (.int .i64 p) ∧ w'.cell? ⟨gq, 0, none⟩ = some (.int .i64 1) ∧ w'.cell? ⟨gi, 1, none⟩ = some (.int .i64 y) ∧ w'.cell? ⟨gx, 0, none⟩ = some (.int .i64 x) ∧ w'.cell? ⟨gy, 0, none⟩ = some (.int .i64 y))) (by kernel_rfl) ?_ (fun hHeld => ?_)
  · (try dsimp only); exact ⟨Bl.cells (by (repeat (first | assumption | with_reducible exact Bl.refl _ | with_reducible refine Bl.drewN ?_ _ | with_reducible refine Bl.drew ?_ | with_reducible refine Bl.alloc ?_ _ | (with_reducible refine Bl.call ?_ (by assumption))))) kp, Bl.cells (by (repeat (first | assumption | with_reducible exact Bl.refl _ | with_reducible refine Bl.drewN ?_ _ | with_reducible refine Bl.drew ?_ | with_reducible refine Bl.alloc ?_ _ | (with_reducible refine Bl.call ?_ (by assumption))))) kq, Bl.cells (by (repeat (first | assumption | with_reducible exact Bl.refl _ | with_reducible refine Bl.drewN ?_ _ | with_reducible refine Bl.drew ?_ | with_reducible refine Bl.alloc ?_ _ | (with_reducible refine Bl.call ?_ (by assumption))))) ki, Bl.cells (by (repeat (first | assumption | with_reducible exact Bl.refl _ | with_reducible refine Bl.drewN ?_ _ | with_reducible refine Bl.drew ?_ | with_reducible refine Bl.alloc ?_ _ | (with_reducible refine Bl.call ?_ (by assumption))))) kx, Bl.cells (by (repeat (first | assumption | with_reducible exact Bl.refl _ | with_reducible refine Bl.drewN ?_ _ | with_reducible refine Bl.drew ?_ | with_reducible refine Bl.alloc ?_ _ | (with_reducible refine Bl.call ?_ (by assumption))))) ky⟩
  refine held_take (i := 0) (d := 8) (v := ?_) rfl rfl (by kernel_rfl) (by kernel_rfl) (by kernel_rfl) (fun _ _ _ h => h) (Or.inl ⟨by rfl, ?_⟩) (by assumption) ?_
  rotate_left
  · (intro w hSw; (try dsimp only at hSw); go_simp; (try with_reducible rfl))
  (try simp only [List.set_cons_zero, List.set_cons_succ])
  refine held_take (i := 1) (d := 9) (v := ?_) rfl rfl (by kernel_rfl) (by kernel_rfl) (by kernel_rfl) (fun _ _ _ h => h) (Or.inl ⟨by rfl, ?_⟩) (by assumption) ?_
  rotate_left
  · (intro w hSw; (try dsimp only at hSw); go_simp; (try with_reducible rfl))
  (try simp only [List.set_cons_zero, List.set_cons_succ])
  refine held_take (i := 2) (d := 10) (v := ?_) rfl rfl (by kernel_rfl) (by kernel_rfl) (by kernel_rfl) (fun _ _ _ h => h) (Or.inl ⟨by rfl, ?_⟩) (by assumption) ?_
  rotate_left
  · (intro w hSw; (try dsimp only at hSw); go_simp; (try with_reducible rfl))
  (try simp only [List.set_cons_zero, List.set_cons_succ])
  refine held_take (i := 3) (d := 11) (v := ?_) rfl rfl (by kernel_rfl) (by kernel_rfl) (by kernel_rfl) (fun _ _ _ h => h) (Or.inl ⟨by rfl, ?_⟩) (by assumption) ?_
  rotate_left
  · (intro w hSw; (try dsimp only at hSw); go_simp; (try with_reducible rfl))
  (try simp only [List.set_cons_zero, List.set_cons_succ])
  refine held_take (i := 4) (d := 12) (v := ?_) rfl rfl (by kernel_rfl) (by kernel_rfl) (by kernel_rfl) (fun _ _ _ h => h) (Or.inl ⟨by rfl, ?_⟩) (by assumption) ?_
  rotate_left
  · (intro w hSw; (try dsimp only at hSw); go_simp; (try with_reducible rfl))
  (try simp only [List.set_cons_zero, List.set_cons_succ])
  refine held_take (i := 5) (d := 13) (v := ?_) rfl rfl (by kernel_rfl) (by kernel_rfl) (by kernel_rfl) (fun _ _ _ h => h) (Or.inl ⟨by rfl, ?_⟩) (by assumption) ?_
  rotate_left
  · (intro w hSw; (try dsimp only at hSw); go_simp; (try with_reducible rfl))
  (try simp only [List.set_cons_zero, List.set_cons_succ])
  refine held_take (i := 6) (d := 14) (v := ?_) rfl rfl (by kernel_rfl) (by kernel_rfl) (by kernel_rfl) (fun _ _ _ h => h) (Or.inl ⟨by rfl, ?_⟩) (by assumption) ?_
  rotate_left
  · (intro w hSw; (try dsimp only at hSw); go_simp; (try with_reducible rfl))
  (try simp only [List.set_cons_zero, List.set_cons_succ])
  refine held_take (i := 7) (d := 15) (v := ?_) rfl rfl (by kernel_rfl) (by kernel_rfl) (by kernel_rfl) (fun _ _ _ h => h) (Or.inl ⟨by rfl, ?_⟩) (by assumption) ?_
  rotate_left
  · (intro w hSw; (try dsimp only at hSw); go_simp; (try with_reducible rfl))
  (try simp only [List.set_cons_zero, List.set_cons_succ])
  refine held_take (i := 8) (d := 16) (v := ?_) rfl rfl (by kernel_rfl) (by kernel_rfl) (by kernel_rfl) (fun _ _ _ h => h) (Or.inl ⟨by rfl, ?_⟩) (by assumption) ?_
  rotate_left
  · (intro w hSw; (try dsimp only at hSw); go_simp; (try with_reducible rfl))
  (try simp only [List.set_cons_zero, List.set_cons_succ])
  refine held_take (i := 9) (d := 17) (v := ?_) rfl rfl (by kernel_rfl) (by kernel_rfl) (by kernel_rfl) (fun _ _ _ h => h) (Or.inl ⟨by rfl, ?_⟩) (by assumption) ?_
  rotate_left
  · (intro w hSw; (try dsimp only at hSw); go_simp; (try with_reducible rfl))
  (try simp only [List.set_cons_zero, List.set_cons_succ])
  refine held_take (i := 10) (d := 18) (v := ?_) rfl rfl (by kernel_rfl) (by kernel_rfl) (by kernel_rfl) (fun _ _ _ h => h) (Or.inl ⟨by rfl, ?_⟩) (by assumption) ?_
  rotate_left
  · (intro w hSw; (try dsimp only at hSw); go_simp; (try with_reducible rfl))
  (try simp only [List.set_cons_zero, List.set_cons_succ])
  refine wpAnyH_ready (rs := [11]) (by kernel_rfl) (by simp) ?_
  refine AllReadyH.cons rfl (fun K hK => ?_) AllReadyH.nil
  go_simp
  (refine (simView_L p 1 y (x * y % p) l A c _ (hl.keep (by (repeat (first | assumption | with_reducible exact Bl.refl _ | with_reducible refine Bl.drewN ?_ _ | with_reducible refine Bl.drew ?_ | with_reducible refine Bl.alloc ?_ _ | (with_reducible refine Bl.call ?_ (by assumption)))))) hp hy M (by first | exact .inl rfl | exact .inr rfl) hall.out).mono ?_; rintro e w8 ⟨A8, c8, rfl, ho8, hb8⟩)
  go_wp2_with fail
  refine hK.out _ _ ?_ (fun hHeld => ?_)
  · (try dsimp only); exact ⟨Bl.cells (by (repeat (first | assumption | with_reducible exact Bl.refl _ | with_reducible refine Bl.drewN ?_ _ | with_reducible refine Bl.drew ?_ | with_reducible refine Bl.alloc ?_ _ | (with_reducible refine Bl.call ?_ (by assumption))))) kp, Bl.cells (by (repeat (first | assumption | with_reducible exact Bl.refl _ | with_reducible refine Bl.drewN ?_ _ | with_reducible refine Bl.drew ?_ | with_reducible refine Bl.alloc ?_ _ | (with_reducible refine Bl.call ?_ (by assumption))))) kq, Bl.cells (by (repeat (first | assumption | with_reducible exact Bl.refl _ | with_reducible refine Bl.drewN ?_ _ | with_reducible refine Bl.drew ?_ | with_reducible refine Bl.alloc ?_ _ | (with_reducible refine Bl.call ?_ (by assumption))))) ki, Bl.cells (by (repeat (first | assumption | with_reducible exact Bl.refl _ | with_reducible refine Bl.drewN ?_ _ | with_reducible refine Bl.drew ?_ | with_reducible refine Bl.alloc ?_ _ | (with_reducible refine Bl.call ?_ (by assumption))))) kx, Bl.cells (by (repeat (first | assumption | with_reducible exact Bl.refl _ | with_reducible refine Bl.drewN ?_ _ | with_reducible refine Bl.drew ?_ | with_reducible refine Bl.alloc ?_ _ | (with_reducible refine Bl.call ?_ (by assumption))))) ky⟩
  clear hK K
  (try simp only [Act.put]); (try simp only [List.setIfInBounds_toArray]); (try simp only [List.set_cons_succ]); (try simp only [List.set_cons_zero])
  refine held_take (i := 12) (d := 7) (v := ?_) rfl rfl (by kernel_rfl) (by kernel_rfl) (by kernel_rfl) (fun _ _ _ h => h) (Or.inl ⟨by rfl, ?_⟩) (by assumption) ?_
  rotate_left
  · (intro w hSw; (try dsimp only at hSw); go_simp; (try with_reducible rfl))
  (try simp only [List.set_cons_zero, List.set_cons_succ])
  refine wpAnyH_done (by kernel_rfl) ?_ _
  go_wp2
  go_ret
  exact ⟨A8, c8, rfl, OwnI.mono ho8 (Bl.sz (by (repeat (first | assumption | with_reducible exact Bl.refl _ | with_reducible refine Bl.drewN ?_ _ | with_reducible refine Bl.drew ?_ | with_reducible refine Bl.alloc ?_ _ | (with_reducible refine Bl.call ?_ (by assumption)))))), (by (repeat (first | assumption | with_reducible exact Bl.refl _ | with_reducible refine Bl.drewN ?_ _ | with_reducible refine Bl.drew ?_ | with_reducible refine Bl.alloc ?_ _ | (with_reducible refine Bl.call ?_ (by assumption)))))⟩
theorem enters_EqualViews_2 : Enters 125 := fun _ _ => by kernel_rfl
set_option maxHeartbeats 2000000 in
theorem impl_EqualViews_f (p x y q : Int) (w : World) (hB : evB p x y q = false) : Calls Try.prog 53 #[.int .i64 p, .int .i64 x, .int .i64 y, .int .i64 q] w fun e w' => e = .returned (.tuple #[.bool (evV p x y q), .bool (evB p x y q)]) ∧ Bl w w' := by
  have hBf := Lib.hid hB
  have hV := Lib.hid (show evV p x y q = false by simp [evV, hB])
  by_cases p2 : p = 2
  · subst p2
    have hi : inR 2 2 3 = true := rfl
    rcases h0 : elemB 2 x
    · go_enter Try.func53, Try.ntmps53
      go_wp2_with (first | (go_at_call 121; refine (impl_isElement _ _ _).mono ?_; rintro e w' ⟨rfl, rfl⟩) | (go_at_call 72; refine (impl_isBit _ _).mono ?_; rintro e w' ⟨rfl, rfl⟩))
      go_ret2
      exact ⟨by rw [hV.out, hBf.out]; rfl, (by (repeat (first | assumption | with_reducible exact Bl.refl _ | with_reducible refine Bl.drewN ?_ _ | with_reducible refine Bl.drew ?_ | with_reducible refine Bl.alloc ?_ _ | (with_reducible refine Bl.call ?_ (by assumption)))))⟩
    · rcases h1 : elemB 2 y
      · go_enter Try.func53, Try.ntmps53
        go_wp2_with (first | (go_at_call 121; refine (impl_isElement _ _ _).mono ?_; rintro e w' ⟨rfl, rfl⟩) | (go_at_call 72; refine (impl_isBit _ _).mono ?_; rintro e w' ⟨rfl, rfl⟩))
        go_ret2
        exact ⟨by rw [hV.out, hBf.out]; rfl, (by (repeat (first | assumption | with_reducible exact Bl.refl _ | with_reducible refine Bl.drewN ?_ _ | with_reducible refine Bl.drew ?_ | with_reducible refine Bl.alloc ?_ _ | (with_reducible refine Bl.call ?_ (by assumption)))))⟩
      · rcases h2 : inR q 0 1
        · go_enter Try.func53, Try.ntmps53
          go_wp2_with (first | (go_at_call 121; refine (impl_isElement _ _ _).mono ?_; rintro e w' ⟨rfl, rfl⟩) | (go_at_call 72; refine (impl_isBit _ _).mono ?_; rintro e w' ⟨rfl, rfl⟩))
          go_ret2
          exact ⟨by rw [hV.out, hBf.out]; rfl, (by (repeat (first | assumption | with_reducible exact Bl.refl _ | with_reducible refine Bl.drewN ?_ _ | with_reducible refine Bl.drew ?_ | with_reducible refine Bl.alloc ?_ _ | (with_reducible refine Bl.call ?_ (by assumption)))))⟩
        · exfalso
          simp_all [evB]
  · by_cases p3 : p = 3
    · subst p3
      have hi : inR 3 2 3 = true := rfl
      rcases h0 : elemB 3 x
      · go_enter Try.func53, Try.ntmps53
        go_wp2_with (first | (go_at_call 121; refine (impl_isElement _ _ _).mono ?_; rintro e w' ⟨rfl, rfl⟩) | (go_at_call 72; refine (impl_isBit _ _).mono ?_; rintro e w' ⟨rfl, rfl⟩))
        go_ret2
        exact ⟨by rw [hV.out, hBf.out]; rfl, (by (repeat (first | assumption | with_reducible exact Bl.refl _ | with_reducible refine Bl.drewN ?_ _ | with_reducible refine Bl.drew ?_ | with_reducible refine Bl.alloc ?_ _ | (with_reducible refine Bl.call ?_ (by assumption)))))⟩
      · rcases h1 : elemB 3 y
        · go_enter Try.func53, Try.ntmps53
          go_wp2_with (first | (go_at_call 121; refine (impl_isElement _ _ _).mono ?_; rintro e w' ⟨rfl, rfl⟩) | (go_at_call 72; refine (impl_isBit _ _).mono ?_; rintro e w' ⟨rfl, rfl⟩))
          go_ret2
          exact ⟨by rw [hV.out, hBf.out]; rfl, (by (repeat (first | assumption | with_reducible exact Bl.refl _ | with_reducible refine Bl.drewN ?_ _ | with_reducible refine Bl.drew ?_ | with_reducible refine Bl.alloc ?_ _ | (with_reducible refine Bl.call ?_ (by assumption)))))⟩
        · rcases h2 : inR q 0 1
          · go_enter Try.func53, Try.ntmps53
            go_wp2_with (first | (go_at_call 121; refine (impl_isElement _ _ _).mono ?_; rintro e w' ⟨rfl, rfl⟩) | (go_at_call 72; refine (impl_isBit _ _).mono ?_; rintro e w' ⟨rfl, rfl⟩))
            go_ret2
            exact ⟨by rw [hV.out, hBf.out]; rfl, (by (repeat (first | assumption | with_reducible exact Bl.refl _ | with_reducible refine Bl.drewN ?_ _ | with_reducible refine Bl.drew ?_ | with_reducible refine Bl.alloc ?_ _ | (with_reducible refine Bl.call ?_ (by assumption)))))⟩
          · exfalso
            simp_all [evB]
    · have d2 : (p == 2) = false := by simp; omega
      have d3 : (p == 3) = false := by simp; omega
      have d2' : (p != 2) = true := by simp; omega
      have d3' : (p != 3) = true := by simp; omega
      clear hB
      go_enter Try.func53, Try.ntmps53
      go_wp2_with (first | (go_at_call 121; refine (impl_isElement _ _ _).mono ?_; rintro e w' ⟨rfl, rfl⟩) | (go_at_call 72; refine (impl_isBit _ _).mono ?_; rintro e w' ⟨rfl, rfl⟩))
      go_ret2
      exact ⟨by rw [hV.out, hBf.out]; rfl, (by (repeat (first | assumption | with_reducible exact Bl.refl _ | with_reducible refine Bl.drewN ?_ _ | with_reducible refine Bl.drew ?_ | with_reducible refine Bl.alloc ?_ _ | (with_reducible refine Bl.call ?_ (by assumption)))))⟩
set_option maxHeartbeats 4000000 in
theorem impl_EqualViews_0 (p x y : Int) (w : World) (hB : evB p x y 0 = true) : Calls Try.prog 53 #[.int .i64 p, .int .i64 x, .int .i64 y, .int .i64 0] w fun e w' => e = .returned (.tuple #[.bool (evT p x y 0), .bool true]) ∧ Bl w w' := by
  obtain ⟨hp, hx, hy, _, h1, h2, h3, h4⟩ := evB_facts hB
  have hp2 : 2 ≤ p := by omega
  have hp7 : p ≤ 7 := by omega
  have hp251 : (2 : Int) ≤ p ∧ p ≤ 251 := ⟨hp2, by omega⟩
  have M := md_bd (x * y) hp2
  have Bp : Blk (((((w.alloc (.cells #[.int .i64 p] 3)).alloc (.cells #[.int .i64 x] 3)).alloc (.cells #[.int .i64 y] 3)).alloc (.cells #[.int .i64 0] 3)).alloc (.cells #[.int .i64 x, .int .i64 y] 82)) (w.heap.size) 3 #[.int .i64 p] := Blk.keep (Blk.new w 3 #[.int .i64 p] (g := w.heap.size) (by simp)) (by (repeat (first | assumption | with_reducible exact Bl.refl _ | with_reducible refine Bl.drewN ?_ _ | with_reducible refine Bl.drew ?_ | with_reducible refine Bl.alloc ?_ _ | (with_reducible refine Bl.call ?_ (by assumption)))))
  have Bx : Blk (((((w.alloc (.cells #[.int .i64 p] 3)).alloc (.cells #[.int .i64 x] 3)).alloc (.cells #[.int .i64 y] 3)).alloc (.cells #[.int .i64 0] 3)).alloc (.cells #[.int .i64 x, .int .i64 y] 82)) (w.heap.size + 1) 3 #[.int .i64 x] := Blk.keep (Blk.new (w.alloc (.cells #[.int .i64 p] 3)) 3 #[.int .i64 x] (g := w.heap.size + 1) (by simp)) (by (repeat (first | assumption | with_reducible exact Bl.refl _ | with_reducible refine Bl.drewN ?_ _ | with_reducible refine Bl.drew ?_ | with_reducible refine Bl.alloc ?_ _ | (with_reducible refine Bl.call ?_ (by assumption)))))
  have By : Blk (((((w.alloc (.cells #[.int .i64 p] 3)).alloc (.cells #[.int .i64 x] 3)).alloc (.cells #[.int .i64 y] 3)).alloc (.cells #[.int .i64 0] 3)).alloc (.cells #[.int .i64 x, .int .i64 y] 82)) (w.heap.size + 1 + 1) 3 #[.int .i64 y] := Blk.keep (Blk.new ((w.alloc (.cells #[.int .i64 p] 3)).alloc (.cells #[.int .i64 x] 3)) 3 #[.int .i64 y] (g := w.heap.size + 1 + 1) (by simp)) (by (repeat (first | assumption | with_reducible exact Bl.refl _ | with_reducible refine Bl.drewN ?_ _ | with_reducible refine Bl.drew ?_ | with_reducible refine Bl.alloc ?_ _ | (with_reducible refine Bl.call ?_ (by assumption)))))
  have Bq : Blk (((((w.alloc (.cells #[.int .i64 p] 3)).alloc (.cells #[.int .i64 x] 3)).alloc (.cells #[.int .i64 y] 3)).alloc (.cells #[.int .i64 0] 3)).alloc (.cells #[.int .i64 x, .int .i64 y] 82)) (w.heap.size + 1 + 1 + 1) 3 #[.int .i64 0] := Blk.keep (Blk.new (((w.alloc (.cells #[.int .i64 p] 3)).alloc (.cells #[.int .i64 x] 3)).alloc (.cells #[.int .i64 y] 3)) 3 #[.int .i64 0] (g := w.heap.size + 1 + 1 + 1) (by simp)) (by (repeat (first | assumption | with_reducible exact Bl.refl _ | with_reducible refine Bl.drewN ?_ _ | with_reducible refine Bl.drew ?_ | with_reducible refine Bl.alloc ?_ _ | (with_reducible refine Bl.call ?_ (by assumption)))))
  have Bi : Blk (((((w.alloc (.cells #[.int .i64 p] 3)).alloc (.cells #[.int .i64 x] 3)).alloc (.cells #[.int .i64 y] 3)).alloc (.cells #[.int .i64 0] 3)).alloc (.cells #[.int .i64 x, .int .i64 y] 82)) (w.heap.size + 1 + 1 + 1 + 1) 82 #[.int .i64 x, .int .i64 y] := Blk.keep (Blk.new ((((w.alloc (.cells #[.int .i64 p] 3)).alloc (.cells #[.int .i64 x] 3)).alloc (.cells #[.int .i64 y] 3)).alloc (.cells #[.int .i64 0] 3)) 82 #[.int .i64 x, .int .i64 y] (g := w.heap.size + 1 + 1 + 1 + 1) (by simp)) (by (repeat (first | assumption | with_reducible exact Bl.refl _ | with_reducible refine Bl.drewN ?_ _ | with_reducible refine Bl.drew ?_ | with_reducible refine Bl.alloc ?_ _ | (with_reducible refine Bl.call ?_ (by assumption)))))
  have hW4 : Bl w (((((w.alloc (.cells #[.int .i64 p] 3)).alloc (.cells #[.int .i64 x] 3)).alloc (.cells #[.int .i64 y] 3)).alloc (.cells #[.int .i64 0] 3)).alloc (.cells #[.int .i64 x, .int .i64 y] 82)) := (by (repeat (first | assumption | with_reducible exact Bl.refl _ | with_reducible refine Bl.drewN ?_ _ | with_reducible refine Bl.drew ?_ | with_reducible refine Bl.alloc ?_ _ | (with_reducible refine Bl.call ?_ (by assumption)))))
  have hG1 : Sees (((((w.alloc (.cells #[.int .i64 p] 3)).alloc (.cells #[.int .i64 x] 3)).alloc (.cells #[.int .i64 y] 3)).alloc (.cells #[.int .i64 0] 3)).alloc (.cells #[.int .i64 x, .int .i64 y] 82)) p 124 #[.pointer (some ⟨w.heap.size, 0, none⟩), .pointer (some ⟨w.heap.size + 1, 0, none⟩), .pointer (some ⟨w.heap.size + 1 + 1, 0, none⟩), .pointer (some ⟨w.heap.size + 1 + 1 + 1, 0, none⟩)] (fun code : Nat => rvL p x y 0 (digs p code 9).1) := fun code c A W' hW' hr =>
    EqualViews_1_0 p x y _ _ _ _ _ A c W' hr hp251 hx hy (digs_mem p code (by omega) 9) ((Bp.keep hW').cell 0 _ rfl) ((Bx.keep hW').cell 0 _ rfl) ((By.keep hW').cell 0 _ rfl) ((Bq.keep hW').cell 0 _ rfl)
  have hG2 : Sees (((((w.alloc (.cells #[.int .i64 p] 3)).alloc (.cells #[.int .i64 x] 3)).alloc (.cells #[.int .i64 y] 3)).alloc (.cells #[.int .i64 0] 3)).alloc (.cells #[.int .i64 x, .int .i64 y] 82)) p 125 #[.pointer (some ⟨w.heap.size, 0, none⟩), .pointer (some ⟨w.heap.size + 1 + 1 + 1, 0, none⟩), .pointer (some ⟨w.heap.size + 1 + 1 + 1 + 1, 0, none⟩), .pointer (some ⟨w.heap.size + 1, 0, none⟩), .pointer (some ⟨w.heap.size + 1 + 1, 0, none⟩)] (fun code : Nat => svL p 0 x (x * y % p) (digs p code 9).1) := fun code c A W' hW' hr =>
    EqualViews_2_0 p x y _ _ _ _ _ _ A c W' hr hp251 hx hy (digs_mem p code (by omega) 9) ((Bp.keep hW').cell 0 _ rfl) ((Bq.keep hW').cell 0 _ rfl) ((Bi.keep hW').cell 0 _ rfl) ((Bx.keep hW').cell 0 _ rfl) ((By.keep hW').cell 0 _ rfl)
  have HC1 := Lib.hid (impl_counts p 124 _ _ _ hp2 hp7 enters_EqualViews_1 hG1 (fun code => rvL_mem p x y 0 _ hp2 hx hy (digs_len p code 9) (digs_mem p code (by omega) 9)))
  have HC2 := fun (W : World) (hb : Bl (((((w.alloc (.cells #[.int .i64 p] 3)).alloc (.cells #[.int .i64 x] 3)).alloc (.cells #[.int .i64 y] 3)).alloc (.cells #[.int .i64 0] 3)).alloc (.cells #[.int .i64 x, .int .i64 y] 82)) W) => Lib.hid (impl_counts p 125 _ _ W hp2 hp7 enters_EqualViews_2 (fun code c A W' hW' hr => hG2 code c A W' (hb.call hW') hr) (fun code => svL_mem p 0 x (x * y % p) _ hp2 hx (digs_len p code 9) (digs_mem p code (by omega) 9)))
  have HH2 := Lib.hid HC2
  have kp := Bp.cell 0 _ rfl
  have hV := Lib.hid (show evT p x y 0 = decide (cntN p (fun code : Nat => rvL p x y 0 (digs p code 9).1) = cntN p (fun code : Nat => svL p 0 x (x * y % p) (digs p code 9).1)) from rfl)
  clear hG1 hG2 HC2
  have hc : p = 2 ∨ p = 3 := hp
  clear hp hB
  rcases hc with rfl | rfl
  all_goals
    go_enter Try.func53, Try.ntmps53
    go_wp2_with (first | (go_at_call 121; refine (impl_isElement _ _ _).mono ?_; rintro e w' ⟨rfl, rfl⟩) | (go_at_call 72; refine (impl_isBit _ _).mono ?_; rintro e w' ⟨rfl, rfl⟩))
    go_wp2_with fail
    refine HC1.out.mono ?_
    rintro e w1 ⟨A1, n1, c1, rfl, ho1, hb1⟩
    have kp1 := hb1.cells kp
    go_wp2_with fail
    refine (HH2.out _ hb1).out.mono ?_
    rintro e w2 ⟨A2, n2, c2, rfl, ho2, hb2⟩
    go_wp2_with fail
    refine (slices_Equal _ _ _ _ _ _ _ _ _ (ho1.rd.keep hb2) ho2.rd).mono ?_
    rintro e w3 ⟨rfl, hb3⟩
    go_wp2
    go_ret2
    exact ⟨by rw [hV.out]; rfl, (by (repeat (first | assumption | with_reducible exact Bl.refl _ | with_reducible refine Bl.drewN ?_ _ | with_reducible refine Bl.drew ?_ | with_reducible refine Bl.alloc ?_ _ | (with_reducible refine Bl.call ?_ (by assumption)))))⟩
set_option maxHeartbeats 4000000 in
theorem impl_EqualViews_1 (p x y : Int) (w : World) (hB : evB p x y 1 = true) : Calls Try.prog 53 #[.int .i64 p, .int .i64 x, .int .i64 y, .int .i64 1] w fun e w' => e = .returned (.tuple #[.bool (evT p x y 1), .bool true]) ∧ Bl w w' := by
  obtain ⟨hp, hx, hy, _, h1, h2, h3, h4⟩ := evB_facts hB
  have hp2 : 2 ≤ p := by omega
  have hp7 : p ≤ 7 := by omega
  have hp251 : (2 : Int) ≤ p ∧ p ≤ 251 := ⟨hp2, by omega⟩
  have M := md_bd (x * y) hp2
  have Bp : Blk (((((w.alloc (.cells #[.int .i64 p] 3)).alloc (.cells #[.int .i64 x] 3)).alloc (.cells #[.int .i64 y] 3)).alloc (.cells #[.int .i64 1] 3)).alloc (.cells #[.int .i64 x, .int .i64 y] 82)) (w.heap.size) 3 #[.int .i64 p] := Blk.keep (Blk.new w 3 #[.int .i64 p] (g := w.heap.size) (by simp)) (by (repeat (first | assumption | with_reducible exact Bl.refl _ | with_reducible refine Bl.drewN ?_ _ | with_reducible refine Bl.drew ?_ | with_reducible refine Bl.alloc ?_ _ | (with_reducible refine Bl.call ?_ (by assumption)))))
  have Bx : Blk (((((w.alloc (.cells #[.int .i64 p] 3)).alloc (.cells #[.int .i64 x] 3)).alloc (.cells #[.int .i64 y] 3)).alloc (.cells #[.int .i64 1] 3)).alloc (.cells #[.int .i64 x, .int .i64 y] 82)) (w.heap.size + 1) 3 #[.int .i64 x] := Blk.keep (Blk.new (w.alloc (.cells #[.int .i64 p] 3)) 3 #[.int .i64 x] (g := w.heap.size + 1) (by simp)) (by (repeat (first | assumption | with_reducible exact Bl.refl _ | with_reducible refine Bl.drewN ?_ _ | with_reducible refine Bl.drew ?_ | with_reducible refine Bl.alloc ?_ _ | (with_reducible refine Bl.call ?_ (by assumption)))))
  have By : Blk (((((w.alloc (.cells #[.int .i64 p] 3)).alloc (.cells #[.int .i64 x] 3)).alloc (.cells #[.int .i64 y] 3)).alloc (.cells #[.int .i64 1] 3)).alloc (.cells #[.int .i64 x, .int .i64 y] 82)) (w.heap.size + 1 + 1) 3 #[.int .i64 y] := Blk.keep (Blk.new ((w.alloc (.cells #[.int .i64 p] 3)).alloc (.cells #[.int .i64 x] 3)) 3 #[.int .i64 y] (g := w.heap.size + 1 + 1) (by simp)) (by (repeat (first | assumption | with_reducible exact Bl.refl _ | with_reducible refine Bl.drewN ?_ _ | with_reducible refine Bl.drew ?_ | with_reducible refine Bl.alloc ?_ _ | (with_reducible refine Bl.call ?_ (by assumption)))))
  have Bq : Blk (((((w.alloc (.cells #[.int .i64 p] 3)).alloc (.cells #[.int .i64 x] 3)).alloc (.cells #[.int .i64 y] 3)).alloc (.cells #[.int .i64 1] 3)).alloc (.cells #[.int .i64 x, .int .i64 y] 82)) (w.heap.size + 1 + 1 + 1) 3 #[.int .i64 1] := Blk.keep (Blk.new (((w.alloc (.cells #[.int .i64 p] 3)).alloc (.cells #[.int .i64 x] 3)).alloc (.cells #[.int .i64 y] 3)) 3 #[.int .i64 1] (g := w.heap.size + 1 + 1 + 1) (by simp)) (by (repeat (first | assumption | with_reducible exact Bl.refl _ | with_reducible refine Bl.drewN ?_ _ | with_reducible refine Bl.drew ?_ | with_reducible refine Bl.alloc ?_ _ | (with_reducible refine Bl.call ?_ (by assumption)))))
  have Bi : Blk (((((w.alloc (.cells #[.int .i64 p] 3)).alloc (.cells #[.int .i64 x] 3)).alloc (.cells #[.int .i64 y] 3)).alloc (.cells #[.int .i64 1] 3)).alloc (.cells #[.int .i64 x, .int .i64 y] 82)) (w.heap.size + 1 + 1 + 1 + 1) 82 #[.int .i64 x, .int .i64 y] := Blk.keep (Blk.new ((((w.alloc (.cells #[.int .i64 p] 3)).alloc (.cells #[.int .i64 x] 3)).alloc (.cells #[.int .i64 y] 3)).alloc (.cells #[.int .i64 1] 3)) 82 #[.int .i64 x, .int .i64 y] (g := w.heap.size + 1 + 1 + 1 + 1) (by simp)) (by (repeat (first | assumption | with_reducible exact Bl.refl _ | with_reducible refine Bl.drewN ?_ _ | with_reducible refine Bl.drew ?_ | with_reducible refine Bl.alloc ?_ _ | (with_reducible refine Bl.call ?_ (by assumption)))))
  have hW4 : Bl w (((((w.alloc (.cells #[.int .i64 p] 3)).alloc (.cells #[.int .i64 x] 3)).alloc (.cells #[.int .i64 y] 3)).alloc (.cells #[.int .i64 1] 3)).alloc (.cells #[.int .i64 x, .int .i64 y] 82)) := (by (repeat (first | assumption | with_reducible exact Bl.refl _ | with_reducible refine Bl.drewN ?_ _ | with_reducible refine Bl.drew ?_ | with_reducible refine Bl.alloc ?_ _ | (with_reducible refine Bl.call ?_ (by assumption)))))
  have hG1 : Sees (((((w.alloc (.cells #[.int .i64 p] 3)).alloc (.cells #[.int .i64 x] 3)).alloc (.cells #[.int .i64 y] 3)).alloc (.cells #[.int .i64 1] 3)).alloc (.cells #[.int .i64 x, .int .i64 y] 82)) p 124 #[.pointer (some ⟨w.heap.size, 0, none⟩), .pointer (some ⟨w.heap.size + 1, 0, none⟩), .pointer (some ⟨w.heap.size + 1 + 1, 0, none⟩), .pointer (some ⟨w.heap.size + 1 + 1 + 1, 0, none⟩)] (fun code : Nat => rvL p x y 1 (digs p code 9).1) := fun code c A W' hW' hr =>
    EqualViews_1_1 p x y _ _ _ _ _ A c W' hr hp251 hx hy (digs_mem p code (by omega) 9) ((Bp.keep hW').cell 0 _ rfl) ((Bx.keep hW').cell 0 _ rfl) ((By.keep hW').cell 0 _ rfl) ((Bq.keep hW').cell 0 _ rfl)
  have hG2 : Sees (((((w.alloc (.cells #[.int .i64 p] 3)).alloc (.cells #[.int .i64 x] 3)).alloc (.cells #[.int .i64 y] 3)).alloc (.cells #[.int .i64 1] 3)).alloc (.cells #[.int .i64 x, .int .i64 y] 82)) p 125 #[.pointer (some ⟨w.heap.size, 0, none⟩), .pointer (some ⟨w.heap.size + 1 + 1 + 1, 0, none⟩), .pointer (some ⟨w.heap.size + 1 + 1 + 1 + 1, 0, none⟩), .pointer (some ⟨w.heap.size + 1, 0, none⟩), .pointer (some ⟨w.heap.size + 1 + 1, 0, none⟩)] (fun code : Nat => svL p 1 y (x * y % p) (digs p code 9).1) := fun code c A W' hW' hr =>
    EqualViews_2_1 p x y _ _ _ _ _ _ A c W' hr hp251 hx hy (digs_mem p code (by omega) 9) ((Bp.keep hW').cell 0 _ rfl) ((Bq.keep hW').cell 0 _ rfl) ((Bi.keep hW').cell 1 _ rfl) ((Bx.keep hW').cell 0 _ rfl) ((By.keep hW').cell 0 _ rfl)
  have HC1 := Lib.hid (impl_counts p 124 _ _ _ hp2 hp7 enters_EqualViews_1 hG1 (fun code => rvL_mem p x y 1 _ hp2 hx hy (digs_len p code 9) (digs_mem p code (by omega) 9)))
  have HC2 := fun (W : World) (hb : Bl (((((w.alloc (.cells #[.int .i64 p] 3)).alloc (.cells #[.int .i64 x] 3)).alloc (.cells #[.int .i64 y] 3)).alloc (.cells #[.int .i64 1] 3)).alloc (.cells #[.int .i64 x, .int .i64 y] 82)) W) => Lib.hid (impl_counts p 125 _ _ W hp2 hp7 enters_EqualViews_2 (fun code c A W' hW' hr => hG2 code c A W' (hb.call hW') hr) (fun code => svL_mem p 1 y (x * y % p) _ hp2 hy (digs_len p code 9) (digs_mem p code (by omega) 9)))
  have HH2 := Lib.hid HC2
  have kp := Bp.cell 0 _ rfl
  have hV := Lib.hid (show evT p x y 1 = decide (cntN p (fun code : Nat => rvL p x y 1 (digs p code 9).1) = cntN p (fun code : Nat => svL p 1 y (x * y % p) (digs p code 9).1)) from rfl)
  clear hG1 hG2 HC2
  have hc : p = 2 ∨ p = 3 := hp
  clear hp hB
  rcases hc with rfl | rfl
  all_goals
    go_enter Try.func53, Try.ntmps53
    go_wp2_with (first | (go_at_call 121; refine (impl_isElement _ _ _).mono ?_; rintro e w' ⟨rfl, rfl⟩) | (go_at_call 72; refine (impl_isBit _ _).mono ?_; rintro e w' ⟨rfl, rfl⟩))
    go_wp2_with fail
    refine HC1.out.mono ?_
    rintro e w1 ⟨A1, n1, c1, rfl, ho1, hb1⟩
    have kp1 := hb1.cells kp
    go_wp2_with fail
    refine (HH2.out _ hb1).out.mono ?_
    rintro e w2 ⟨A2, n2, c2, rfl, ho2, hb2⟩
    go_wp2_with fail
    refine (slices_Equal _ _ _ _ _ _ _ _ _ (ho1.rd.keep hb2) ho2.rd).mono ?_
    rintro e w3 ⟨rfl, hb3⟩
    go_wp2
    go_ret2
    exact ⟨by rw [hV.out]; rfl, (by (repeat (first | assumption | with_reducible exact Bl.refl _ | with_reducible refine Bl.drewN ?_ _ | with_reducible refine Bl.drew ?_ | with_reducible refine Bl.alloc ?_ _ | (with_reducible refine Bl.call ?_ (by assumption)))))⟩
theorem impl_EqualViews (p x y q : Int) (w : World) : Calls Try.prog 53 #[.int .i64 p, .int .i64 x, .int .i64 y, .int .i64 q] w fun e w' => e = .returned (.tuple #[.bool (evV p x y q), .bool (evB p x y q)]) ∧ Bl w w' := by
  rcases hB : evB p x y q
  · have := impl_EqualViews_f p x y q w hB
    rwa [hB] at this
  · have hq := (evB_facts hB).2.2.2.1
    have hV : evV p x y q = evT p x y q := by simp [evV, hB]
    rw [hV]
    rcases hq with rfl | rfl
    · exact impl_EqualViews_0 p x y w hB
    · exact impl_EqualViews_1 p x y w hB
end Go.Proofs.Ytglgaicbcackbaa
