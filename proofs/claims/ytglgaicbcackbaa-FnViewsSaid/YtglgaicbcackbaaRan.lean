/- Contracts of digits, powers and the random choices with a number, and the walk of their law.
   Conditions: small bases and exponents. -/
import Derived.Test.YtglgaicbcackbaaFld
import Derived.Test.YtglgaicbcackbaaLst
import Derived.Test.YtglgaicbcackbaaMrk
import Derived.Test.YtglgaicbcackbaaAps
namespace Go.Proofs.Ytglgaicbcackbaa
open Go.RowKit
set_option linter.unusedVariables false
/-- A power, factor by factor. -/
def pw (p : Int) : Nat → Int
  | 0 => 1
  | k + 1 => pw p k * p
theorem pw7 : ∀ k, k ≤ 12 → pw 7 k ≤ 13841287201 := by decide
theorem pw_le (p : Int) (h0 : 0 ≤ p) (h7 : p ≤ 7) : ∀ k, 0 ≤ pw p k ∧ pw p k ≤ pw 7 k
  | 0 => by simp [pw]
  | k + 1 => by
    obtain ⟨a, b⟩ := pw_le p h0 h7 k
    exact ⟨Int.mul_nonneg a h0, Int.mul_le_mul b h7 h0 (by omega)⟩
theorem pw_bd (p : Int) (h0 : 0 ≤ p) (h7 : p ≤ 7) (k : Nat) (hk : k ≤ 12) : 0 ≤ pw p k ∧ pw p k ≤ 13841287201 := by
  have := pw_le p h0 h7 k
  have := pw7 k hk
  omega
/-- k digits of a number, the lowest one first; what is left of it. -/
def digs (p c : Int) : Nat → List Int × Int
  | 0 => ([], c)
  | k + 1 => ((digs p c k).1 ++ [(digs p c k).2 % p], (digs p c k).2 / p)
theorem digs_len (p c : Int) (k : Nat) : (digs p c k).1.length = k := by
  induction k with
  | zero => rfl
  | succ k ih => simp [digs, ih]
theorem digs_bd (p c : Int) (hp : 1 ≤ p) (hc : 0 ≤ c) (k : Nat) : 0 ≤ (digs p c k).2 ∧ (digs p c k).2 ≤ c := by
  induction k with
  | zero => exact ⟨hc, Int.le_refl _⟩
  | succ k ih =>
    have h1 : 0 ≤ (digs p c k).2 / p := Int.ediv_nonneg ih.1 (by omega)
    have h2 : (digs p c k).2 / p ≤ (digs p c k).2 := Int.ediv_le_self _ ih.1
    exact ⟨h1, by simp only [digs]; omega⟩
theorem digs_mem (p c : Int) (hp : 1 ≤ p) (k : Nat) : ∀ x ∈ (digs p c k).1, 0 ≤ x ∧ x < p := by
  induction k with
  | zero => intro x hx; cases hx
  | succ k ih =>
    intro x hx
    simp only [digs, List.mem_append, List.mem_singleton] at hx
    rcases hx with hx | rfl
    · exact ih x hx
    · exact ⟨Int.emod_nonneg _ (by omega), Int.emod_lt_of_pos _ (by omega)⟩
def smallB (p : Int) : Bool := primeB p && decide (p ≤ 7)
theorem smallB_bd {p : Int} (h : smallB p = true) : 2 ≤ p ∧ p ≤ 7 := by
  simp only [smallB, Bool.and_eq_true, decide_eq_true_eq] at h
  have := primeB_bd h.1
  omega
theorem spec_vwSmall (p : Int) (w : World) : Calls Try.prog 114 #[.int .i64 p] w fun e w' => e = .returned (.bool (smallB p)) ∧ w = w' := by
  rcases h : primeB p
  all_goals
    go_enter Try.func114, Try.ntmps114
    go_wp2_with (first | (go_at_call 147; refine (spec_fpGood _ _).mono ?_; rintro e w' ⟨rfl, rfl⟩))
    go_ret
    exact ⟨ret_bool (by simp [smallB, h]), rfl⟩
theorem impl_isSmallField (p : Int) (w : World) : Calls Try.prog 111 #[.int .i64 p] w fun e w' => e = .returned (.bool (smallB p)) ∧ w = w' := by
  rcases h : primeB p
  all_goals
    go_enter Try.func111, Try.ntmps111
    go_wp2_with (first | (go_at_call 146; refine (impl_IsPrime _ _).mono ?_; rintro e w' ⟨rfl, rfl⟩))
    go_ret
    exact ⟨ret_bool (by simp [smallB, h]), rfl⟩
theorem spec_vwPower (p : Int) (n : Nat) (w : World) (h0 : 0 ≤ p) (h7 : p ≤ 7) (hn : n ≤ 11) : Calls Try.prog 115 #[.int .i64 p, .int .i64 n] w fun e w' => e = .returned (.int .i64 (pw p n)) ∧ w = w' := by
  go_enter Try.func115, Try.ntmps115
  go_wp2
  go_loop [1, 5] (fun i o => ∃ k : Nat, k ≤ n ∧ i = .int .i64 ((n : Int) - k) ∧ o = .int .i64 (pw p k)) (fun i o => (intOf i).toNat)
  case atStart => exact ⟨0, by omega, by first | rfl | simp, rfl⟩
  case round =>
    obtain ⟨k, hk, rfl, rfl⟩ := hrel
    have hb := pw_bd p h0 h7 (k + 1) (by omega)
    have hb0 := pw_bd p h0 h7 k (by omega)
    simp only [pw] at hb
    by_cases hlt : k < n
    · go_wp2
      go_round
      case rel => exact ⟨k + 1, by omega, by go_num, rfl⟩
      case measure => simp [intOf]; omega
    · have he : k = n := by omega
      subst he
      go_wp2
      go_ret
      exact ⟨rfl, rfl⟩
theorem impl_powerOf (p : Int) (n : Nat) (w : World) (h0 : 0 ≤ p) (h7 : p ≤ 7) (hn : n ≤ 11) : Calls Try.prog 112 #[.int .i64 p, .int .i64 n] w fun e w' => e = .returned (.int .i64 (pw p n)) ∧ w = w' := by
  go_enter Try.func112, Try.ntmps112
  go_wp2
  go_loop [5, 7] (fun o i => ∃ k : Nat, k ≤ n ∧ i = .int .i64 k ∧ o = .int .i64 (pw p k)) (fun o i => n - (intOf i).toNat)
  case atStart => exact ⟨0, by omega, by first | rfl | simp, rfl⟩
  case round =>
    obtain ⟨k, hk, rfl, rfl⟩ := hrel
    have hb := pw_bd p h0 h7 (k + 1) (by omega)
    have hb0 := pw_bd p h0 h7 k (by omega)
    simp only [pw] at hb
    by_cases hlt : k < n
    · go_wp2
      go_round
      case rel => exact ⟨k + 1, by omega, by go_num, rfl⟩
      case measure => simp [intOf]; omega
    · have he : k = n := by omega
      subst he
      go_wp2
      go_ret
      exact ⟨rfl, rfl⟩
set_option maxHeartbeats 1000000 in
theorem impl_digitsOf (p c : Int) (n : Nat) (w : World) (hp : 1 ≤ p) (hp2 : p ≤ 1000000) (hc : 0 ≤ c) (hc2 : c ≤ 1000000000000) (hn : n ≤ 1000) :
    Calls Try.prog 113 #[.int .i64 p, .int .i64 c, .int .i64 n] w fun e w' => ∃ A c', e = .returned (.slice A n c') ∧ OwnI w.heap.size w' A n c' (digs p c n).1 ∧ Bl w w' := by
  have hown0 := own_made w
  have hW0 := (Bl.refl w).alloc (.cells #[] 3)
  have hp0 : (p == 0) = false := by simp; omega
  go_enter Try.func113, Try.ntmps113
  go_wp2
  go_loopw [1, 7, 10] (fun cc q i wr => ∃ k A c', k ≤ n ∧ i = .int .i64 (k : Nat) ∧ cc = .int .i64 (digs p c k).2 ∧ q = .slice A k c' ∧ OwnI w.heap.size wr A k c' (digs p c k).1 ∧ Bl w wr) (fun cc q i _ => n - (intOf i).toNat)
  case atStart => exact ⟨0, _, _, by omega, by first | rfl | simp, rfl, rfl, hown0, hW0⟩
  case round =>
    obtain ⟨k, A, c', hk, rfl, rfl, rfl, hown, hW⟩ := hrel
    clear hown0 hW0
    have hb := digs_bd p c hp hc k
    by_cases hlt : k < n
    · have hs : Hid ((digs p c (k + 1)).1 = (digs p c k).1 ++ [(digs p c k).2 % p] ∧ (digs p c (k + 1)).2 = (digs p c k).2 / p) := ⟨rfl, rfl⟩
      generalize (digs p c k).1 = L at *
      generalize (digs p c k).2 = D at *
      have e1 : D.tmod p = D % p := Int.tmod_eq_emod_of_nonneg (by omega)
      have e2 : D.tdiv p = D / p := Int.tdiv_eq_ediv_of_nonneg (by omega)
      have f1 := Int.ediv_nonneg (a := D) (b := p) (by omega) (by omega)
      have f2 := Int.ediv_le_self p (a := D) (by omega)
      have f3 : ¬ p = 0 := by omega
      have f4 : IntKind.i64.wrap (D / p) = D / p := IntWalk.i64_in _ (by omega)
      go_wp2
      refine wp_region_held_drew (S := (fun w' => True)) (by kernel_rfl) ?_ (fun hHeld => ?_)
      · exact trivial
      refine held_take (i := 0) (d := 12) (v := ?_) rfl rfl (by kernel_rfl) (by kernel_rfl) (by kernel_rfl) (fun _ _ _ h => h) (Or.inl ⟨by rfl, ?_⟩) (by assumption) ?_
      rotate_left
      · (intro w hSw; (try dsimp only at hSw); go_simp; (try with_reducible rfl))
      simp only [List.set_cons_zero, List.set_cons_succ]
      refine held_take (i := 1) (d := 13) (v := ?_) rfl rfl (by kernel_rfl) (by kernel_rfl) (by kernel_rfl) (fun _ _ _ h => h) (Or.inl ⟨by rfl, ?_⟩) (by assumption) ?_
      rotate_left
      · (intro w hSw; (try dsimp only at hSw); go_simp; (try with_reducible rfl))
      simp only [List.set_cons_zero, List.set_cons_succ]
      refine held_take (i := 2) (d := 14) (v := ?_) rfl rfl (by kernel_rfl) (by kernel_rfl) (by kernel_rfl) (fun _ _ _ h => h) (Or.inl ⟨by rfl, ?_⟩) (by assumption) ?_
      rotate_left
      · (intro w hSw; (try dsimp only at hSw); go_simp; (try with_reducible rfl))
      simp only [List.set_cons_zero, List.set_cons_succ]
      refine held_take (i := 3) (d := 15) (v := ?_) rfl rfl (by kernel_rfl) (by kernel_rfl) (by kernel_rfl) (fun _ _ _ h => h) (Or.inl ⟨by rfl, ?_⟩) (by assumption) ?_
      rotate_left
      · (intro w hSw; (try dsimp only at hSw); go_simp; (try with_reducible rfl))
      simp only [List.set_cons_zero, List.set_cons_succ]
      refine held_take (i := 6) (d := 18) (v := ?_) rfl rfl (by kernel_rfl) (by kernel_rfl) (by kernel_rfl) (fun _ _ _ h => h) (Or.inl ⟨by rfl, ?_⟩) (by assumption) ?_
      rotate_left
      · (intro w hSw; (try dsimp only at hSw); go_simp; (try with_reducible rfl))
      simp only [List.set_cons_zero, List.set_cons_succ]
      refine held_take (i := 7) (d := 19) (v := ?_) rfl rfl (by kernel_rfl) (by kernel_rfl) (by kernel_rfl) (fun _ _ _ h => h) (Or.inl ⟨by rfl, ?_⟩) (by assumption) ?_
      rotate_left
      · (intro w hSw; (try dsimp only at hSw); go_simp; (try with_reducible rfl))
      simp only [List.set_cons_zero, List.set_cons_succ]
      refine held_take (i := 8) (d := 20) (v := ?_) rfl rfl (by kernel_rfl) (by kernel_rfl) (by kernel_rfl) (fun _ _ _ h => h) (Or.inl ⟨by rfl, ?_⟩) (by assumption) ?_
      rotate_left
      · (intro w hSw; (try dsimp only at hSw); go_simp; (try with_reducible rfl))
      simp only [List.set_cons_zero, List.set_cons_succ]
      refine wpAnyH_ready (rs := [4]) (by kernel_rfl) (by simp) ?_
      refine AllReadyH.cons rfl (fun K hK => ?_) AllReadyH.nil
      go_simp
      refine hK.out _ _ ?_ (fun hHeld => ?_)
      · exact trivial
      clear hK K
      (try simp only [Act.put]); (try simp only [List.setIfInBounds_toArray]); (try simp only [List.set_cons_succ]); (try simp only [List.set_cons_zero])
      refine wpAnyH_ready (rs := [5]) (by kernel_rfl) (by simp) ?_
      refine AllReadyH.cons rfl (fun K hK => ?_) AllReadyH.nil
      (first | (refine ap_int_step rfl rfl rfl (hown.alloc _).drew rfl (rd_new1 _ _ _).drew (by omega) (by have := hW.sz; simp; omega) ?_; intro A2 c2 w2 hown2 hg2 hat2; replace hW := (hW.alloc _).drew.grown hg2 (fun k hk => (hown.blk k hk).1)))
      refine hK.out _ _ ?_ (fun hHeld => ?_)
      · exact trivial
      clear hK K
      (try simp only [Act.put]); (try simp only [List.setIfInBounds_toArray]); (try simp only [List.set_cons_succ]); (try simp only [List.set_cons_zero])
      refine held_take (i := 9) (d := 7) (v := ?_) rfl rfl (by kernel_rfl) (by kernel_rfl) (by kernel_rfl) (fun _ _ _ h => h) (Or.inl ⟨by rfl, ?_⟩) (by assumption) ?_
      rotate_left
      · (intro w hSw; (try dsimp only at hSw); go_simp; (try with_reducible rfl))
      simp only [List.set_cons_zero, List.set_cons_succ]
      refine held_take (i := 10) (d := 1) (v := ?_) rfl rfl (by kernel_rfl) (by kernel_rfl) (by kernel_rfl) (fun _ _ _ h => h) (Or.inl ⟨by rfl, ?_⟩) (by assumption) ?_
      rotate_left
      · (intro w hSw; (try dsimp only at hSw); go_simp; (try with_reducible rfl))
      simp only [List.set_cons_zero, List.set_cons_succ]
      refine wpAnyH_done (by kernel_rfl) ?_ _
      go_wp2
      go_roundw
      case rel => exact ⟨k + 1, A2, c2, by omega, by go_num, by rw [hs.out.2], rfl, by rw [hs.out.1]; exact hown2, hW⟩
      case measure => simp [intOf]; omega
    · have he : k = n := by omega
      subst he
      go_wp2
      go_ret
      exact ⟨A, c', rfl, hown, hW⟩
set_option maxHeartbeats 1000000 in
theorem spec_vwDigits (p c : Int) (n : Nat) (w : World) (hp : 1 ≤ p) (hp2 : p ≤ 1000000) (hc : 0 ≤ c) (hc2 : c ≤ 1000000000000) (hn : n ≤ 1000) :
    Calls Try.prog 105 #[.int .i64 p, .int .i64 c, .int .i64 n] w fun e w' => ∃ A c', e = .returned (.slice A n c') ∧ OwnI w.heap.size w' A n c' (digs p c n).1 ∧ Bl w w' := by
  have hown0 := OwnI.nil w.heap.size w
  have hW0 := Bl.refl w
  have hp0 : (p == 0) = false := by simp; omega
  go_enter Try.func105, Try.ntmps105
  go_wp2
  go_loopw [1, 2, 7] (fun cc i q wr => ∃ k A c', k ≤ n ∧ i = .int .i64 ((n : Int) - (k : Nat)) ∧ cc = .int .i64 (digs p c k).2 ∧ q = .slice A k c' ∧ OwnI w.heap.size wr A k c' (digs p c k).1 ∧ Bl w wr) (fun cc i q _ => (intOf i).toNat)
  case atStart => exact ⟨0, _, _, by omega, by first | rfl | simp, rfl, rfl, hown0, hW0⟩
  case round =>
    obtain ⟨k, A, c', hk, rfl, rfl, rfl, hown, hW⟩ := hrel
    clear hown0 hW0
    have hb := digs_bd p c hp hc k
    by_cases hlt : k < n
    · have hs : Hid ((digs p c (k + 1)).1 = (digs p c k).1 ++ [(digs p c k).2 % p] ∧ (digs p c (k + 1)).2 = (digs p c k).2 / p) := ⟨rfl, rfl⟩
      generalize (digs p c k).1 = L at *
      generalize (digs p c k).2 = D at *
      have e1 : D.tmod p = D % p := Int.tmod_eq_emod_of_nonneg (by omega)
      have e2 : D.tdiv p = D / p := Int.tdiv_eq_ediv_of_nonneg (by omega)
      have f1 := Int.ediv_nonneg (a := D) (b := p) (by omega) (by omega)
      have f2 := Int.ediv_le_self p (a := D) (by omega)
      have f3 : ¬ p = 0 := by omega
      have f4 : IntKind.i64.wrap (D / p) = D / p := IntWalk.i64_in _ (by omega)
      go_wp2_with (first | (at_builtin; refine ap_int rfl rfl rfl (hown.alloc _) rfl (rd_new1 _ _ _) (by omega) (by have := hW.sz; simp; omega) ?_; intro A2 c2 w2 hown2 hg2 hat2; replace hW := (hW.alloc _).grown hg2 (fun k hk => (hown.blk k hk).1)))
      go_roundw
      case rel => exact ⟨k + 1, A2, c2, by omega, by go_num, by rw [hs.out.2], rfl, by rw [hs.out.1]; exact hown2, hW⟩
      case measure => simp [intOf]; omega
    · have he : k = n := by omega
      subst he
      go_wp2
      go_ret
      exact ⟨A, c', rfl, hown, hW⟩
end Go.Proofs.Ytglgaicbcackbaa
