/- Contracts of sameInts and big.
   Conditions: the slices read as lists. -/
import Derived.Test.YtlmlffiajgofeaaLst
import Derived.Test.YtlmlffiajgofeaaCur
namespace Go.Proofs.Ytlmlffiajgofeaa
open Go.RowKit
set_option linter.unusedVariables false
theorem bool_or (b : Bool) : Ending.returned (.bool b) = .returned (.bool false) ∨ Ending.returned (.bool b) = .returned (.bool true) := by cases b <;> simp
set_option maxHeartbeats 1000000 in
theorem same_q (A B : Option Addr) (n c m d : Nat) (l l' : List Int) (w : World) (h : RdI w A n c l) (h' : RdI w B m d l') :
    Calls Try.prog 21 #[.slice A n c, .slice B m d] w fun e w' => e = .returned (.bool (decide (l = l'))) ∧ ∃ N, w.drewN N = w' := by
  obtain ⟨hle1, hle2⟩ := h.le
  obtain ⟨hle3, hle4⟩ := h'.le
  have hl := Lib.hid h.length
  have hl' := Lib.hid h'.length
  by_cases hnm : n = m
  · subst hnm
    have hd0 : (!decide (n = n)) = false := by simp
    go_enter Try.func21, Try.ntmps21
    go_wp2
    go_loopw [13] (fun i wr => ∃ k N : Nat, k ≤ n ∧ wr = w.drewN N ∧ i = .int .i64 k ∧ l.take k = l'.take k) (fun i _ => n - (intOf i).toNat)
    case atStart => exact ⟨0, 0, by omega, rfl, rfl, by simp⟩
    case round =>
      obtain ⟨k, N, hk, rfl, rfl, htk⟩ := hrel
      have HT := Lib.hid htk
      clear htk
      by_cases hlt : k < n
      · obtain ⟨ad, x, rfl, hadb, hx, hcell⟩ := h.at_ hlt
        obtain ⟨ad', y, rfl, hadb', hy, hcell'⟩ := h'.at_ hlt
        have HX := Lib.hid hx
        have HY := Lib.hid hy
        clear hx hy
        rcases hxy : (x == y)
        · have hxy' : ¬ x = y := by simpa using hxy
          have hfin := Lib.hid (show decide (l = l') = false by rw [decide_eq_false_iff_not]; exact ne_of_get HX.out HY.out hxy')
          clear hxy'
          have hxd : (x != y) = true := by simpa using hxy
          have i1 : (k : Int) < n := by omega
          go_wp2
          go_quiet (fail)
          go_wp2
          go_ret
          exact ⟨ret_bool hfin.out.symm, _, (drewN_two _ _ _).symm⟩
        · have hxy' : x = y := by simpa using hxy
          subst hxy'
          have i1 : (k : Int) < n := by omega
          have hst := Lib.hid (take_eq_step HT.out HX.out HY.out)
          go_wp2
          go_quiet (fail)
          go_wp2
          go_roundw
          case rel => exact ⟨k + 1, _, by omega, rfl, by go_num, hst.out⟩
          case measure => simp [intOf]; omega
      · have hfin := Lib.hid (show decide (l = l') = true by
          rw [decide_eq_true_iff]; exact eq_of_takes HT.out (by rw [hl.out]; omega) (by rw [hl'.out]; omega))
        go_wp2
        go_ret
        exact ⟨ret_bool hfin.out.symm, _, rfl⟩
  · have hfin := Lib.hid (show decide (l = l') = false by
      rw [decide_eq_false_iff_not]; intro he; exact hnm (by rw [← hl.out, ← hl'.out, he]))
    go_enter Try.func21, Try.ntmps21
    go_wp2
    go_ret
    exact ⟨ret_bool hfin.out.symm, 0, rfl⟩
theorem same (A B : Option Addr) (n c m d : Nat) (l l' : List Int) (w : World) (h : RdI w A n c l) (h' : RdI w B m d l') :
    Calls Try.prog 21 #[.slice A n c, .slice B m d] w fun e w' => e = .returned (.bool (decide (l = l'))) ∧ Bl w w' :=
  (same_q A B n c m d l l' w h h').mono fun _ _ ⟨he, N, hw⟩ => ⟨he, hw ▸ Bl.of_drewN w N⟩
theorem same_t (A B : Option Addr) (n c m d : Nat) (l : List Int) (w : World) (h : RdI w A n c l) (h' : RdI w B m d l) :
    Calls Try.prog 21 #[.slice A n c, .slice B m d] w fun e w' => e = .returned (.bool true) ∧ Bl w w' := by
  refine (same_q A B n c m d l l w h h').mono ?_
  rintro e w' ⟨rfl, N, rfl⟩
  exact ⟨by simp, Bl.of_drewN _ _⟩
set_option maxHeartbeats 1000000 in
theorem big_c (A B : Option Addr) (n c m d : Nat) (l l' : List Int) (w : World) (h : RdB w A n c l) (h' : RdB w B m d l') :
    Calls Try.prog 17 #[.slice A n c, .slice B m d] w fun e w' => ∃ b, e = .returned (.bool b) ∧ w = w' := by
  have h1 := h.1.cap
  have h2 := h.1.max
  have h3 := h'.1.cap
  have h4 := h'.1.max
  unfold maxLen at h2 h4
  by_cases hn : 1048576 < n
  · go_enter Try.func17, Try.ntmps17
    go_wp2
    go_ret
    first | exact ⟨_, rfl, rfl⟩ | exact ⟨bool_or _, rfl⟩ | exact bool_or _
  · by_cases hm : (1048576 : Int) - n < m
    · go_enter Try.func17, Try.ntmps17
      go_wp2
      go_ret
      first | exact ⟨_, rfl, rfl⟩ | exact ⟨bool_or _, rfl⟩ | exact bool_or _
    · go_enter Try.func17, Try.ntmps17
      go_wp2
      go_ret
      first | exact ⟨_, rfl, rfl⟩ | exact ⟨bool_or _, rfl⟩ | exact bool_or _
end Go.Proofs.Ytlmlffiajgofeaa
