/- Contracts of primes and elements of a field.
   Conditions: none. -/
import Derived.Test.YtjggecbaladiiaaGreatDoorDig
namespace Go.Proofs.YtjggecbaladiiaaGreatDoor
open Go.RowKit
set_option linter.unusedVariables false
/-- Trial division from d on. -/
def prL (p : Int) : Nat → Int → Bool
  | 0, _ => true
  | f + 1, d => if d * d ≤ p then (if p % d = 0 then false else prL p f (d + 1)) else true
/-- A prime of at most 251. -/
def primeB (p : Int) : Bool := inR p 2 251 && prL p 20 2
theorem primeB_bd {p : Int} (h : primeB p = true) : 2 ≤ p ∧ p ≤ 251 := by
  simp only [primeB, Bool.and_eq_true] at h; exact inR_iff.1 h.1
theorem prL_y {p : Int} {f : Nat} {d : Int} (h : d * d ≤ p) (h0 : (p % d == 0) = true) : prL p (f + 1) d = false := by
  have : p % d = 0 := by simpa using h0
  simp [prL, h, this]
theorem prL_n {p : Int} {f : Nat} {d : Int} (h : d * d ≤ p) (h0 : (p % d == 0) = false) : prL p (f + 1) d = prL p f (d + 1) := by
  have : ¬ p % d = 0 := by simpa using h0
  simp [prL, h, this]
theorem prL_e {p : Int} {f : Nat} {d : Int} (h : ¬ d * d ≤ p) : prL p (f + 1) d = true := by simp [prL, h]
theorem sq_bd (d : Nat) (h : d ≤ 17) : 0 ≤ (d : Int) * d ∧ (d : Int) * d ≤ 289 := by
  have := Int.mul_le_mul (show (d : Int) ≤ 17 by omega) (show (d : Int) ≤ 17 by omega) (by omega) (by omega)
  exact ⟨Int.mul_nonneg (by omega) (by omega), by omega⟩
theorem sq_big (d : Nat) (h : 16 ≤ d) : (256 : Int) ≤ (d : Int) * d := by
  have := Int.mul_le_mul (show (16 : Int) ≤ d by omega) (show (16 : Int) ≤ d by omega) (by omega) (by omega)
  omega
/-- An element of a field. -/
def elemB (p a : Int) : Bool := primeB p && inR a 0 (p - 1)
/-- Every number in a range. -/
def allR (l : List Int) (lo hi : Int) : Bool := l.all fun n => inR n lo hi
theorem allR_step {l : List Int} {k : Nat} {x lo hi : Int} (h : allR (l.take k) lo hi = true) (hx : l[k]? = some x) (hg : inR x lo hi = true) : allR (l.take (k + 1)) lo hi = true := by
  unfold allR at *
  rw [List.take_add_one, hx, List.all_append, h]; simp [hg]
theorem allR_not {l : List Int} {k : Nat} {x lo hi : Int} (hx : l[k]? = some x) (hg : inR x lo hi = false) : allR l lo hi = false := by
  rw [Bool.eq_false_iff]; intro h
  have := List.all_eq_true.1 h x (List.mem_of_getElem? hx)
  rw [hg] at this; cases this
theorem allR_mem {l : List Int} {x lo hi : Int} (h : allR l lo hi = true) (hx : x ∈ l) : lo ≤ x ∧ x ≤ hi := inR_iff.1 (List.all_eq_true.1 h x hx)
set_option maxHeartbeats 1000000 in
theorem spec_l1All (A : Option Addr) (n c : Nat) (l : List Int) (lo hi : Int) (w : World) (h : RdI w A n c l) :
    Calls Tryz.prog 180 #[.slice A n c, .int .i64 lo, .int .i64 hi] w fun e w' => e = .returned (.bool (allR l lo hi)) ∧ w = w' := by
  obtain ⟨hle1, hle2⟩ := h.le
  have hl := Lib.hid h.length
  go_enter Tryz.func180, Tryz.ntmps180
  go_wp2
  go_loop [11] (fun i => ∃ k : Nat, k ≤ n ∧ i = .int .i64 k ∧ Hid (allR (l.take k) lo hi = true)) (fun i => n - (intOf i).toNat)
  case atStart => exact ⟨0, by omega, rfl, Lib.hid (by simp [allR])⟩
  case round =>
    obtain ⟨k, hk, rfl, hq⟩ := hrel
    by_cases hlt : k < n
    · obtain ⟨ad, x, rfl, hadb, hx, hcell⟩ := h.at_ hlt
      have HX := Lib.hid hx
      clear hx
      rcases hg : inR x lo hi
      · have hst := Lib.hid (allR_not HX.out hg)
        go_wp2_with (first | (go_at_call 43; refine (spec_l1In _ _ _ _).mono ?_; rintro e w' ⟨rfl, rfl⟩))
        go_ret
        exact ⟨ret_bool hst.out.symm, rfl⟩
      · have hst := Lib.hid (allR_step hq.out HX.out hg)
        go_wp2_with (first | (go_at_call 43; refine (spec_l1In _ _ _ _).mono ?_; rintro e w' ⟨rfl, rfl⟩))
        go_round
        case rel => exact ⟨k + 1, by omega, by go_num, hst⟩
        case measure => simp [intOf]; omega
    · have he : k = n := by omega
      have hst := Lib.hid (show allR l lo hi = true by
        have e := hq.out
        rwa [List.take_of_length_le (by rw [hl.out]; omega)] at e)
      go_wp2
      go_ret
      exact ⟨ret_bool hst.out.symm, rfl⟩
end Go.Proofs.YtjggecbaladiiaaGreatDoor
