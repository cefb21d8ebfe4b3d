/- Contracts of comparing, marking and asking again a slice of numbers.
   Conditions: the slices read as lists; what is marked lies in a block of its own. -/
import Derived.Test.YtjggecbaladiiaaGreatDoorBase
namespace Go.Proofs.YtjggecbaladiiaaGreatDoor
open Go.RowKit
set_option linter.unusedVariables false
theorem Bl.of_drewN (w : World) (n : Nat) : Bl w (w.drewN n) := (Bl.refl w).drewN n
theorem drewN_two (w : World) (a b : Nat) : (w.drewN a).drewN b = w.drewN (a + b) := by first | exact World.drewN_drewN w a b | exact World.drewN_drewN ..
theorem take_eq_step {l l' : List Int} {k : Nat} {x : Int} (h : l.take k = l'.take k) (hx : l[k]? = some x) (hy : l'[k]? = some x) : l.take (k + 1) = l'.take (k + 1) := by
  rw [List.take_add_one, List.take_add_one, h, hx, hy]
theorem ne_of_get {l l' : List Int} {k : Nat} {x y : Int} (hx : l[k]? = some x) (hy : l'[k]? = some y) (h : x ≠ y) : l ≠ l' := by
  rintro rfl; rw [hx] at hy; injection hy; contradiction
theorem eq_of_takes {l l' : List Int} {k : Nat} (h : l.take k = l'.take k) (h1 : l.length ≤ k) (h2 : l'.length ≤ k) : l = l' := by
  rwa [List.take_of_length_le h1, List.take_of_length_le h2] at h
set_option maxHeartbeats 1000000 in
theorem laws_eqIntS_q (A B : Option Addr) (n c m d : Nat) (l l' : List Int) (w : World) (h : RdI w A n c l) (h' : RdI w B m d l') :
    Calls Tryz.prog 16 #[.slice A n c, .slice B m d] w fun e w' => e = .returned (.bool (decide (l = l'))) ∧ ∃ N, w.drewN N = w' := by
  obtain ⟨hle1, hle2⟩ := h.le
  obtain ⟨hle3, hle4⟩ := h'.le
  have hl := Lib.hid h.length
  have hl' := Lib.hid h'.length
  by_cases hnm : n = m
  · subst hnm
    have hd0 : (!decide (n = n)) = false := by simp
    go_enter Tryz.func16, Tryz.ntmps16
    go_wp2
    go_loopw [5] (fun i wr => ∃ k N : Nat, k ≤ n ∧ wr = w.drewN N ∧ i = .int .i64 k ∧ l.take k = l'.take k) (fun i _ => n - (intOf i).toNat)
    case atStart => exact ⟨0, 0, by omega, rfl, rfl, by simp⟩
    case round =>
      obtain ⟨k, N, hk, rfl, rfl, htk⟩ := hrel
      have HT := Lib.hid htk
      clear htk
      by_cases hlt : k < n
      · obtain ⟨ad, x, rfl, hadb, hx, hcell⟩ := h.at_ hlt
        obtain ⟨ad', y, rfl, hadb', hy, hcell'⟩ := h'.at_ hlt
        have HX := Lib.hid hx
        have HY := Lib.hid hy
        clear hx hy
        rcases hxy : (x == y)
        · have hxy' : ¬ x = y := by simpa using hxy
          have hfin := Lib.hid (show decide (l = l') = false by rw [decide_eq_false_iff_not]; exact ne_of_get HX.out HY.out hxy')
          clear hxy'
          have hxd : (x != y) = true := by simpa using hxy
          have i1 : (k : Int) < n := by omega
          go_wp2
          go_quiet (fail)
          go_wp2
          go_ret
          exact ⟨ret_bool hfin.out.symm, _, (drewN_two _ _ _).symm⟩
        · have hxy' : x = y := by simpa using hxy
          subst hxy'
          have i1 : (k : Int) < n := by omega
          have hst := Lib.hid (take_eq_step HT.out HX.out HY.out)
          go_wp2
          go_quiet (fail)
          go_wp2
          go_roundw
          case rel => exact ⟨k + 1, _, by omega, rfl, by go_num, hst.out⟩
          case measure => simp [intOf]; omega
      · have hfin := Lib.hid (show decide (l = l') = true by
          rw [decide_eq_true_iff]; exact eq_of_takes HT.out (by rw [hl.out]; omega) (by rw [hl'.out]; omega))
        go_wp2
        go_ret
        exact ⟨ret_bool hfin.out.symm, _, rfl⟩
  · have hfin := Lib.hid (show decide (l = l') = false by
      rw [decide_eq_false_iff_not]; intro he; exact hnm (by rw [← hl.out, ← hl'.out, he]))
    go_enter Tryz.func16, Tryz.ntmps16
    go_wp2
    go_ret
    exact ⟨ret_bool hfin.out.symm, 0, rfl⟩
theorem laws_eqIntS (A B : Option Addr) (n c m d : Nat) (l l' : List Int) (w : World) (h : RdI w A n c l) (h' : RdI w B m d l') :
    Calls Tryz.prog 16 #[.slice A n c, .slice B m d] w fun e w' => e = .returned (.bool (decide (l = l'))) ∧ Bl w w' :=
  (laws_eqIntS_q A B n c m d l l' w h h').mono fun _ _ ⟨he, N, hw⟩ => ⟨he, hw ▸ Bl.of_drewN w N⟩
end Go.Proofs.YtjggecbaladiiaaGreatDoor
