/- Contracts of the reference's texts of numbers.
   Conditions: numbers of at most three digits. -/
import Derived.Test.YtjggecbaladiiaaGreatDoorLnb
namespace Go.Proofs.YtjggecbaladiiaaGreatDoor
open Go.RowKit
set_option linter.unusedVariables false
theorem convG (W : World) (g : Nat) (b : UInt8) (z : Int) (hz : (b.toNat : Int) = z) (hc : W.cell? ⟨g, 0, none⟩ = some (.int .u8 z)) : (convert 32 9 (.slice (some ⟨g, 0, none⟩) 1 1)).run Tryz.prog W = .ok (.string ⟨#[b]⟩) W := by
  refine run_convert_bytes_back (P := Tryz.prog) _ _ _ 5 _ 1 [b] Tryz.underlying32 Tryz.underlying5 Tryz.underlying9 (fun j hj => ?_)
  obtain rfl : j = 0 := by simpa using hj
  rw [← hz] at hc
  exact hc
set_option maxRecDepth 20000 in
set_option maxHeartbeats 2000000 in
theorem l1Num_up (n q d : Int) (s : ByteArray) (h0 : 10 ≤ n) (h1 : n ≤ 999) (hq : n / 10 = q) (hd : n % 10 = d) (hs : s.size ≤ 100) (hr : ∀ w, Calls Tryz.prog 52 #[.int .i64 q] w fun e w' => e = .returned (.string s) ∧ Bl w w') (w : World) :
    Calls Tryz.prog 52 #[.int .i64 n] w fun e w' => e = .returned (.string (s ++ toB [UInt8.ofNat (48 + d.toNat)])) ∧ Bl w w' := by
  have HR := Lib.hid hr
  have m1 : Int.tdiv n 10 = q := by rw [Int.tdiv_eq_ediv_of_nonneg (by omega)]; exact hq
  have m2 : Int.tmod n 10 = d := by rw [Int.tmod_eq_emod_of_nonneg (by omega)]; exact hd
  have hd0 : 0 ≤ d := by omega
  have hd9 : d ≤ 9 := by omega
  have n10 : ¬ n < 10 := by omega
  have w1 := Go.IntWalk.i64_in q (by omega)
  have w2 := Go.IntWalk.u8_in (48 + d) (by omega)
  have w3 := Go.IntWalk.i64_in (48 + d) (by omega)
  obtain ⟨b, hb⟩ : ∃ b : UInt8, UInt8.ofNat (48 + d.toNat) = b := ⟨_, rfl⟩
  have hz : (b.toNat : Int) = 48 + d := by
    rw [← hb]
    rcases (by omega : d = 0 ∨ d = 1 ∨ d = 2 ∨ d = 3 ∨ d = 4 ∨ d = 5 ∨ d = 6 ∨ d = 7 ∨ d = 8 ∨ d = 9) with rfl | rfl | rfl | rfl | rfl | rfl | rfl | rfl | rfl | rfl <;> rfl
  rw [hb]
  have kc := fun W g hc => convG W g b (48 + d) hz hc
  have hs2 : ¬ (9223372036854775807 < s.size + 1) := by omega
  clear hr hq hd hz hb
  go_enter Tryz.func52, Tryz.ntmps52
  go_wp2_with fail
  refine wp_region_held_drew (S := (fun w' => True)) (by kernel_rfl) ?_ (fun hHeld => ?_)
  · exact trivial
  refine held_take (i := 0) (d := 10) (v := ?_) rfl rfl (by kernel_rfl) (by kernel_rfl) (by kernel_rfl) (fun _ _ _ h => h) (Or.inl ⟨by rfl, ?_⟩) (by assumption) ?_
  rotate_left
  · (intro w hSw; (try dsimp only at hSw); go_simp; (try with_reducible rfl))
  (try simp only [List.set_cons_zero, List.set_cons_succ])
  refine held_take (i := 1) (d := 11) (v := ?_) rfl rfl (by kernel_rfl) (by kernel_rfl) (by kernel_rfl) (fun _ _ _ h => h) (Or.inl ⟨by rfl, ?_⟩) (by assumption) ?_
  rotate_left
  · (intro w hSw; (try dsimp only at hSw); go_simp; (try with_reducible rfl))
  (try simp only [List.set_cons_zero, List.set_cons_succ])
  refine held_take (i := 3) (d := 13) (v := ?_) rfl rfl (by kernel_rfl) (by kernel_rfl) (by kernel_rfl) (fun _ _ _ h => h) (Or.inl ⟨by rfl, ?_⟩) (by assumption) ?_
  rotate_left
  · (intro w hSw; (try dsimp only at hSw); go_simp; (try with_reducible rfl))
  (try simp only [List.set_cons_zero, List.set_cons_succ])
  refine held_take (i := 4) (d := 14) (v := ?_) rfl rfl (by kernel_rfl) (by kernel_rfl) (by kernel_rfl) (fun _ _ _ h => h) (Or.inl ⟨by rfl, ?_⟩) (by assumption) ?_
  rotate_left
  · (intro w hSw; (try dsimp only at hSw); go_simp; (try with_reducible rfl))
  (try simp only [List.set_cons_zero, List.set_cons_succ])
  refine held_take (i := 5) (d := 15) (v := ?_) rfl rfl (by kernel_rfl) (by kernel_rfl) (by kernel_rfl) (fun _ _ _ h => h) (Or.inl ⟨by rfl, ?_⟩) (by assumption) ?_
  rotate_left
  · (intro w hSw; (try dsimp only at hSw); go_simp; (try with_reducible rfl))
  (try simp only [List.set_cons_zero, List.set_cons_succ])
  refine held_take (i := 6) (d := 16) (v := ?_) rfl rfl (by kernel_rfl) (by kernel_rfl) (by kernel_rfl) (fun _ _ _ h => h) (Or.inl ⟨by rfl, ?_⟩) (by assumption) ?_
  rotate_left
  · (intro w hSw; (try dsimp only at hSw); go_simp; (try with_reducible rfl))
  (try simp only [List.set_cons_zero, List.set_cons_succ])
  refine wpAnyH_ready (rs := [2, 7]) (by kernel_rfl) (by simp) ?_
  refine AllReadyH.cons rfl (fun K hK => ?_) (AllReadyH.cons rfl (fun K hK => ?_) AllReadyH.nil)
  · go_simp
    refine (HR.out _).mono ?_; rintro e w5 ⟨rfl, hb5⟩; have hB5 := (Bl.refl w).drew.call hb5
    go_wp2_with fail
    refine hK.out _ _ ?_ (fun hHeld => ?_)
    · exact trivial
    clear hK K
    (try simp only [Act.put]); (try simp only [List.setIfInBounds_toArray]); (try simp only [List.set_cons_succ]); (try simp only [List.set_cons_zero])
    refine wpAnyH_ready (rs := [7]) (by kernel_rfl) (by simp) ?_
    refine AllReadyH.cons rfl (fun K hK => ?_) AllReadyH.nil
    go_simp
    have hc7 : ((w5.alloc (.cells #[.int .u8 (48 + d)] 5)).drew).cell? ⟨w5.heap.size, 0, none⟩ = some (.int .u8 (48 + d)) := by go_simp
    have hB7 := (hB5.alloc (.cells #[.int .u8 (48 + d)] 5)).drew
    refine hK.out _ _ ?_ (fun hHeld => ?_)
    · exact trivial
    clear hK K
    (try simp only [Act.put]); (try simp only [List.setIfInBounds_toArray]); (try simp only [List.set_cons_succ]); (try simp only [List.set_cons_zero])
    refine wpAnyH_ready (rs := [8]) (by kernel_rfl) (by simp) ?_
    refine AllReadyH.cons rfl (fun K hK => ?_) AllReadyH.nil
    go_simp
    refine hK.out _ _ ?_ (fun hHeld => ?_)
    · exact trivial
    clear hK K
    (try simp only [Act.put]); (try simp only [List.setIfInBounds_toArray]); (try simp only [List.set_cons_succ]); (try simp only [List.set_cons_zero])
    refine held_take (i := 9) (d := 19) (v := ?_) rfl rfl (by kernel_rfl) (by kernel_rfl) (by kernel_rfl) (fun _ _ _ h => h) (Or.inl ⟨by rfl, ?_⟩) (by assumption) ?_
    rotate_left
    · (intro w hSw; (try dsimp only at hSw); go_simp; (try with_reducible rfl))
    (try simp only [List.set_cons_zero, List.set_cons_succ])
    refine held_take (i := 10) (d := 2) (v := ?_) rfl rfl (by kernel_rfl) (by kernel_rfl) (by kernel_rfl) (fun _ _ _ h => h) (Or.inl ⟨by rfl, ?_⟩) (by assumption) ?_
    rotate_left
    · (intro w hSw; (try dsimp only at hSw); go_simp; (try with_reducible rfl))
    (try simp only [List.set_cons_zero, List.set_cons_succ])
    refine wpAnyH_done (by kernel_rfl) ?_ _
    go_wp2_with fail
    go_ret
    exact ⟨rfl, by first | assumption | exact hB5.alloc _⟩
  · go_simp
    have hc7 : ((w.alloc (.cells #[.int .u8 (48 + d)] 5)).drew).cell? ⟨w.heap.size, 0, none⟩ = some (.int .u8 (48 + d)) := by go_simp
    have hB7 := ((Bl.refl w).alloc (.cells #[.int .u8 (48 + d)] 5)).drew
    refine hK.out _ _ ?_ (fun hHeld => ?_)
    · exact trivial
    clear hK K
    (try simp only [Act.put]); (try simp only [List.setIfInBounds_toArray]); (try simp only [List.set_cons_succ]); (try simp only [List.set_cons_zero])
    refine wpAnyH_ready (rs := [2, 8]) (by kernel_rfl) (by simp) ?_
    refine AllReadyH.cons rfl (fun K hK => ?_) (AllReadyH.cons rfl (fun K hK => ?_) AllReadyH.nil)
    · go_simp
      refine (HR.out _).mono ?_; rintro e w5 ⟨rfl, hb5⟩; have hc5 := hb5.cells hc7; have hB5 := hB7.call hb5
      go_wp2_with fail
      refine hK.out _ _ ?_ (fun hHeld => ?_)
      · exact trivial
      clear hK K
      (try simp only [Act.put]); (try simp only [List.setIfInBounds_toArray]); (try simp only [List.set_cons_succ]); (try simp only [List.set_cons_zero])
      refine wpAnyH_ready (rs := [8]) (by kernel_rfl) (by simp) ?_
      refine AllReadyH.cons rfl (fun K hK => ?_) AllReadyH.nil
      go_simp
      refine hK.out _ _ ?_ (fun hHeld => ?_)
      · exact trivial
      clear hK K
      (try simp only [Act.put]); (try simp only [List.setIfInBounds_toArray]); (try simp only [List.set_cons_succ]); (try simp only [List.set_cons_zero])
      refine held_take (i := 9) (d := 19) (v := ?_) rfl rfl (by kernel_rfl) (by kernel_rfl) (by kernel_rfl) (fun _ _ _ h => h) (Or.inl ⟨by rfl, ?_⟩) (by assumption) ?_
      rotate_left
      · (intro w hSw; (try dsimp only at hSw); go_simp; (try with_reducible rfl))
      (try simp only [List.set_cons_zero, List.set_cons_succ])
      refine held_take (i := 10) (d := 2) (v := ?_) rfl rfl (by kernel_rfl) (by kernel_rfl) (by kernel_rfl) (fun _ _ _ h => h) (Or.inl ⟨by rfl, ?_⟩) (by assumption) ?_
      rotate_left
      · (intro w hSw; (try dsimp only at hSw); go_simp; (try with_reducible rfl))
      (try simp only [List.set_cons_zero, List.set_cons_succ])
      refine wpAnyH_done (by kernel_rfl) ?_ _
      go_wp2_with fail
      go_ret
      exact ⟨rfl, by first | assumption | exact hB5.alloc _⟩
    · go_simp
      refine hK.out _ _ ?_ (fun hHeld => ?_)
      · exact trivial
      clear hK K
      (try simp only [Act.put]); (try simp only [List.setIfInBounds_toArray]); (try simp only [List.set_cons_succ]); (try simp only [List.set_cons_zero])
      refine wpAnyH_ready (rs := [2]) (by kernel_rfl) (by simp) ?_
      refine AllReadyH.cons rfl (fun K hK => ?_) AllReadyH.nil
      go_simp
      refine (HR.out _).mono ?_; rintro e w5 ⟨rfl, hb5⟩; have hc5 := hb5.cells hc7; have hB5 := hB7.call hb5
      go_wp2_with fail
      refine hK.out _ _ ?_ (fun hHeld => ?_)
      · exact trivial
      clear hK K
      (try simp only [Act.put]); (try simp only [List.setIfInBounds_toArray]); (try simp only [List.set_cons_succ]); (try simp only [List.set_cons_zero])
      refine held_take (i := 9) (d := 19) (v := ?_) rfl rfl (by kernel_rfl) (by kernel_rfl) (by kernel_rfl) (fun _ _ _ h => h) (Or.inl ⟨by rfl, ?_⟩) (by assumption) ?_
      rotate_left
      · (intro w hSw; (try dsimp only at hSw); go_simp; (try with_reducible rfl))
      (try simp only [List.set_cons_zero, List.set_cons_succ])
      refine held_take (i := 10) (d := 2) (v := ?_) rfl rfl (by kernel_rfl) (by kernel_rfl) (by kernel_rfl) (fun _ _ _ h => h) (Or.inl ⟨by rfl, ?_⟩) (by assumption) ?_
      rotate_left
      · (intro w hSw; (try dsimp only at hSw); go_simp; (try with_reducible rfl))
      (try simp only [List.set_cons_zero, List.set_cons_succ])
      refine wpAnyH_done (by kernel_rfl) ?_ _
      go_wp2_with fail
      go_ret
      exact ⟨rfl, by first | assumption | exact hB5.alloc _⟩
theorem itoa_up {n : Int} (h : 10 ≤ n) : toB (Lib.itoa (n / 10)) ++ toB [UInt8.ofNat (48 + (n % 10).toNat)] = toB (Lib.itoa n) := by
  obtain ⟨u, rfl⟩ : ∃ u : Nat, n = u := ⟨n.toNat, by omega⟩
  have e1 : ((u : Int) / 10) = ((u / 10 : Nat) : Int) := by omega
  have e2 : (((u : Int) % 10).toNat) = u % 10 := by omega
  rw [e1, e2, Lib.itoa_nonneg, Lib.itoa_nonneg, toB_app]
  congr 1
  conv => rhs; rw [Lib.decDigits, dif_neg (by omega)]
theorem spec_l1NumT (n : Int) (h0 : 0 ≤ n) (h1 : n ≤ 999) (w : World) :
    Calls Tryz.prog 52 #[.int .i64 n] w fun e w' => e = .returned (.string (toB (Lib.itoa n))) ∧ Bl w w' := by
  have A1 : ∀ m : Int, 0 ≤ m → m ≤ 9 → ∀ w, Calls Tryz.prog 52 #[.int .i64 m] w fun e w' => e = .returned (.string (toB (Lib.itoa m))) ∧ Bl w w' := by
    intro m a b w
    have e : dg m = toB (Lib.itoa m) := by
      rcases (by omega : m = 0 ∨ m = 1 ∨ m = 2 ∨ m = 3 ∨ m = 4 ∨ m = 5 ∨ m = 6 ∨ m = 7 ∨ m = 8 ∨ m = 9) with rfl | rfl | rfl | rfl | rfl | rfl | rfl | rfl | rfl | rfl <;> decide +kernel
    rw [← e]
    exact spec_l1Num m a b w
  have A2 : ∀ m : Int, 0 ≤ m → m ≤ 99 → ∀ w, Calls Tryz.prog 52 #[.int .i64 m] w fun e w' => e = .returned (.string (toB (Lib.itoa m))) ∧ Bl w w' := by
    intro m a b w
    by_cases h : m ≤ 9
    · exact A1 m a h w
    · rw [← itoa_up (by omega : 10 ≤ m)]
      exact l1Num_up m _ _ _ (by omega) (by omega) rfl rfl (Nat.le_trans (itoa_size (by omega)) (by omega)) (A1 (m / 10) (by omega) (by omega)) w
  by_cases h : n ≤ 9
  · exact A1 n h0 h w
  · rw [← itoa_up (by omega : 10 ≤ n)]
    exact l1Num_up n _ _ _ (by omega) (by omega) rfl rfl (Nat.le_trans (itoa_size (by omega)) (by omega)) (A2 (n / 10) (by omega) (by omega)) w
end Go.Proofs.YtjggecbaladiiaaGreatDoor
