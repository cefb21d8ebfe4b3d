/- Contracts of primes and elements of a field.
   Conditions: none. -/
import Derived.Test.YtglgaicbcackbaaDig
namespace Go.Proofs.Ytglgaicbcackbaa
open Go.RowKit
set_option linter.unusedVariables false
/-- Trial division from d on. -/
def prL (p : Int) : Nat → Int → Bool
  | 0, _ => true
  | f + 1, d => if d * d ≤ p then (if p % d = 0 then false else prL p f (d + 1)) else true
/-- A prime of at most 251. -/
def primeB (p : Int) : Bool := inR p 2 251 && prL p 20 2
theorem primeB_bd {p : Int} (h : primeB p = true) : 2 ≤ p ∧ p ≤ 251 := by
  simp only [primeB, Bool.and_eq_true] at h; exact inR_iff.1 h.1
theorem prL_y {p : Int} {f : Nat} {d : Int} (h : d * d ≤ p) (h0 : (p % d == 0) = true) : prL p (f + 1) d = false := by
  have : p % d = 0 := by simpa using h0
  simp [prL, h, this]
theorem prL_n {p : Int} {f : Nat} {d : Int} (h : d * d ≤ p) (h0 : (p % d == 0) = false) : prL p (f + 1) d = prL p f (d + 1) := by
  have : ¬ p % d = 0 := by simpa using h0
  simp [prL, h, this]
theorem prL_e {p : Int} {f : Nat} {d : Int} (h : ¬ d * d ≤ p) : prL p (f + 1) d = true := by simp [prL, h]
theorem sq_bd (d : Nat) (h : d ≤ 17) : 0 ≤ (d : Int) * d ∧ (d : Int) * d ≤ 289 := by
  have := Int.mul_le_mul (show (d : Int) ≤ 17 by omega) (show (d : Int) ≤ 17 by omega) (by omega) (by omega)
  exact ⟨Int.mul_nonneg (by omega) (by omega), by omega⟩
theorem sq_big (d : Nat) (h : 16 ≤ d) : (256 : Int) ≤ (d : Int) * d := by
  have := Int.mul_le_mul (show (16 : Int) ≤ d by omega) (show (16 : Int) ≤ d by omega) (by omega) (by omega)
  omega
/-- An element of a field. -/
def elemB (p a : Int) : Bool := primeB p && inR a 0 (p - 1)
/-- Every number in a range. -/
def allR (l : List Int) (lo hi : Int) : Bool := l.all fun n => inR n lo hi
theorem allR_step {l : List Int} {k : Nat} {x lo hi : Int} (h : allR (l.take k) lo hi = true) (hx : l[k]? = some x) (hg : inR x lo hi = true) : allR (l.take (k + 1)) lo hi = true := by
  unfold allR at *
  rw [List.take_add_one, hx, List.all_append, h]; simp [hg]
theorem allR_not {l : List Int} {k : Nat} {x lo hi : Int} (hx : l[k]? = some x) (hg : inR x lo hi = false) : allR l lo hi = false := by
  rw [Bool.eq_false_iff]; intro h
  have := List.all_eq_true.1 h x (List.mem_of_getElem? hx)
  rw [hg] at this; cases this
theorem allR_mem {l : List Int} {x lo hi : Int} (h : allR l lo hi = true) (hx : x ∈ l) : lo ≤ x ∧ x ≤ hi := inR_iff.1 (List.all_eq_true.1 h x hx)
set_option maxHeartbeats 1000000 in
theorem spec_fpGood (p : Int) (w : World) :
    Calls Try.prog 147 #[.int .i64 p] w fun e w' => e = .returned (.bool (primeB p)) ∧ w = w' := by
  rcases h1 : inR p 2 251
  · go_enter Try.func147, Try.ntmps147
    go_wp2_with (first | (go_at_call 80; refine (spec_l1In _ _ _ _).mono ?_; rintro e w' ⟨rfl, rfl⟩))
    go_ret
    exact ⟨ret_bool (by simp [primeB, h1]), rfl⟩
  · have i1 := inR_iff.1 h1
    have hP := Lib.hid (show primeB p = prL p 20 2 by simp [primeB, h1])
    go_enter Try.func147, Try.ntmps147
    go_wp2_with (first | (go_at_call 80; refine (spec_l1In _ _ _ _).mono ?_; rintro e w' ⟨rfl, rfl⟩))
    go_loop [3] (fun d => ∃ k : Nat, 2 ≤ k ∧ k ≤ 16 ∧ d = .int .i64 k ∧ Hid (primeB p = prL p (22 - k) k)) (fun d => 16 - (intOf d).toNat)
    case atStart => exact ⟨2, by omega, by omega, rfl, hP⟩
    case round =>
      obtain ⟨k, hk2, hk, rfl, hq⟩ := hrel
      have hs := sq_bd k (by omega)
      have hk0 : ((k : Int) == 0) = false := by simp; omega
      by_cases hlt : (k : Int) * k ≤ p
      · have hk15 : k ≤ 15 := by
          rcases Nat.lt_or_ge k 16 with h | h
          · omega
          · have := sq_big k h; omega
        rcases h0 : (p % k == 0)
        · have hst : Hid (primeB p = prL p (22 - (k + 1)) ((k : Int) + 1)) := by
            have e := hq.out
            rw [show 22 - k = (22 - (k + 1)) + 1 by omega, prL_n hlt h0] at e
            exact e
          go_wp2
          go_round
          case rel => exact ⟨k + 1, by omega, by omega, by go_num, hst⟩
          case measure => simp [intOf]; omega
        · have hst := Lib.hid (show primeB p = false by
            have e := hq.out
            rw [show 22 - k = (22 - (k + 1)) + 1 by omega, prL_y hlt h0] at e
            exact e)
          go_wp2
          go_ret
          exact ⟨ret_bool hst.out.symm, rfl⟩
      · have hst := Lib.hid (show primeB p = true by
          have e := hq.out
          rw [show 22 - k = (22 - (k + 1)) + 1 by omega, prL_e hlt] at e
          exact e)
        go_wp2
        go_ret
        exact ⟨ret_bool hst.out.symm, rfl⟩
set_option maxHeartbeats 1000000 in
theorem impl_IsPrime (p : Int) (w : World) :
    Calls Try.prog 146 #[.int .i64 p] w fun e w' => e = .returned (.bool (primeB p)) ∧ w = w' := by
  rcases h1 : inR p 2 251
  · go_enter Try.func146, Try.ntmps146
    go_wp2_with (first | (go_at_call 75; refine (impl_within _ _ _ _).mono ?_; rintro e w' ⟨rfl, rfl⟩))
    go_ret
    exact ⟨ret_bool (by simp [primeB, h1]), rfl⟩
  · have i1 := inR_iff.1 h1
    have hP := Lib.hid (show primeB p = prL p 20 2 by simp [primeB, h1])
    go_enter Try.func146, Try.ntmps146
    go_wp2_with (first | (go_at_call 75; refine (impl_within _ _ _ _).mono ?_; rintro e w' ⟨rfl, rfl⟩))
    go_loop [3] (fun d => ∃ k : Nat, 2 ≤ k ∧ k ≤ 16 ∧ d = .int .i64 k ∧ Hid (primeB p = prL p (22 - k) k)) (fun d => 16 - (intOf d).toNat)
    case atStart => exact ⟨2, by omega, by omega, rfl, hP⟩
    case round =>
      obtain ⟨k, hk2, hk, rfl, hq⟩ := hrel
      have hs := sq_bd k (by omega)
      have hk0 : ((k : Int) == 0) = false := by simp; omega
      by_cases hlt : (k : Int) * k ≤ p
      · have hk15 : k ≤ 15 := by
          rcases Nat.lt_or_ge k 16 with h | h
          · omega
          · have := sq_big k h; omega
        rcases h0 : (p % k == 0)
        · have hst : Hid (primeB p = prL p (22 - (k + 1)) ((k : Int) + 1)) := by
            have e := hq.out
            rw [show 22 - k = (22 - (k + 1)) + 1 by omega, prL_n hlt h0] at e
            exact e
          go_wp2
          go_round
          case rel => exact ⟨k + 1, by omega, by omega, by go_num, hst⟩
          case measure => simp [intOf]; omega
        · have hst := Lib.hid (show primeB p = false by
            have e := hq.out
            rw [show 22 - k = (22 - (k + 1)) + 1 by omega, prL_y hlt h0] at e
            exact e)
          go_wp2
          go_ret
          exact ⟨ret_bool hst.out.symm, rfl⟩
      · have hst := Lib.hid (show primeB p = true by
          have e := hq.out
          rw [show 22 - k = (22 - (k + 1)) + 1 by omega, prL_e hlt] at e
          exact e)
        go_wp2
        go_ret
        exact ⟨ret_bool hst.out.symm, rfl⟩
theorem impl_isElement (p a : Int) (w : World) :
    Calls Try.prog 121 #[.int .i64 p, .int .i64 a] w fun e w' => e = .returned (.bool (elemB p a)) ∧ w = w' := by
  rcases h : primeB p
  · go_enter Try.func121, Try.ntmps121
    go_wp2_with (first | (go_at_call 146; refine (impl_IsPrime _ _).mono ?_; rintro e w' ⟨rfl, rfl⟩) | (go_at_call 75; refine (impl_within _ _ _ _).mono ?_; rintro e w' ⟨rfl, rfl⟩))
    go_ret
    exact ⟨ret_bool (by simp [elemB, h]), rfl⟩
  · have hb := primeB_bd h
    go_enter Try.func121, Try.ntmps121
    go_wp2_with (first | (go_at_call 146; refine (impl_IsPrime _ _).mono ?_; rintro e w' ⟨rfl, rfl⟩) | (go_at_call 75; refine (impl_within _ _ _ _).mono ?_; rintro e w' ⟨rfl, rfl⟩))
    go_ret
    exact ⟨ret_bool (by simp [elemB, h]), rfl⟩
set_option maxHeartbeats 1000000 in
theorem spec_l1All (A : Option Addr) (n c : Nat) (l : List Int) (lo hi : Int) (w : World) (h : RdI w A n c l) :
    Calls Try.prog 104 #[.slice A n c, .int .i64 lo, .int .i64 hi] w fun e w' => e = .returned (.bool (allR l lo hi)) ∧ w = w' := by
  obtain ⟨hle1, hle2⟩ := h.le
  have hl := Lib.hid h.length
  go_enter Try.func104, Try.ntmps104
  go_wp2
  go_loop [11] (fun i => ∃ k : Nat, k ≤ n ∧ i = .int .i64 k ∧ Hid (allR (l.take k) lo hi = true)) (fun i => n - (intOf i).toNat)
  case atStart => exact ⟨0, by omega, rfl, Lib.hid (by simp [allR])⟩
  case round =>
    obtain ⟨k, hk, rfl, hq⟩ := hrel
    by_cases hlt : k < n
    · obtain ⟨ad, x, rfl, hadb, hx, hcell⟩ := h.at_ hlt
      have HX := Lib.hid hx
      clear hx
      rcases hg : inR x lo hi
      · have hst := Lib.hid (allR_not HX.out hg)
        go_wp2_with (first | (go_at_call 80; refine (spec_l1In _ _ _ _).mono ?_; rintro e w' ⟨rfl, rfl⟩))
        go_ret
        exact ⟨ret_bool hst.out.symm, rfl⟩
      · have hst := Lib.hid (allR_step hq.out HX.out hg)
        go_wp2_with (first | (go_at_call 80; refine (spec_l1In _ _ _ _).mono ?_; rintro e w' ⟨rfl, rfl⟩))
        go_round
        case rel => exact ⟨k + 1, by omega, by go_num, hst⟩
        case measure => simp [intOf]; omega
    · have he : k = n := by omega
      have hst := Lib.hid (show allR l lo hi = true by
        have e := hq.out
        rwa [List.take_of_length_le (by rw [hl.out]; omega)] at e)
      go_wp2
      go_ret
      exact ⟨ret_bool hst.out.symm, rfl⟩
theorem spec_fpIn (A : Option Addr) (n c : Nat) (l : List Int) (p : Int) (w : World) (h : RdI w A n c l) :
    Calls Try.prog 122 #[.int .i64 p, .slice A n c] w fun e w' => e = .returned (.bool (primeB p && allR l 0 (p - 1))) ∧ w = w' := by
  rcases hp : primeB p
  · go_enter Try.func122, Try.ntmps122
    go_wp2_with (first | (go_at_call 147; refine (spec_fpGood _ _).mono ?_; rintro e w' ⟨rfl, rfl⟩))
    go_ret
    exact ⟨ret_bool (by simp), rfl⟩
  · have hb := primeB_bd hp
    go_enter Try.func122, Try.ntmps122
    go_wp2_with (first | (go_at_call 147; refine (spec_fpGood _ _).mono ?_; rintro e w' ⟨rfl, rfl⟩) | (go_at_call 104; refine (spec_l1All _ _ _ _ _ _ _ h).mono ?_; rintro e w' ⟨rfl, rfl⟩))
    go_ret
    exact ⟨ret_bool (by simp), rfl⟩
end Go.Proofs.Ytglgaicbcackbaa
