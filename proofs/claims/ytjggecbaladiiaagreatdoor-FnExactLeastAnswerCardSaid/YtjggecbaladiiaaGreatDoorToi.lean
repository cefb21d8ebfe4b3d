/- Copying a slice of numbers.
   Conditions: none. -/
import Derived.Test.YtjggecbaladiiaaGreatDoorMak
import Derived.Test.YtjggecbaladiiaaGreatDoorRow
namespace Go.Proofs.YtjggecbaladiiaaGreatDoor
open Go.RowKit
set_option linter.unusedVariables false
set_option maxHeartbeats 1000000 in
theorem laws_toIntS (A : Option Addr) (n c : Nat) (l : List Int) (w : World) (h : RdI w A n c l) (hn : n ≤ 35184372088832) :
    Calls Tryz.prog 14 #[.slice A n c] w fun e w' => ∃ A' c', e = .returned (.slice A' n c') ∧ OwnI w.heap.size w' A' n c' l ∧ Bl w w' := by
  obtain ⟨hle1, hle2⟩ := h.le
  have hl := Lib.hid h.length
  have hmk := make_ints n hn
  have hown0 := own_zeros w n (by omega)
  have hW0 := (Bl.refl w).alloc (.cells (madeCells #[.int .i64 0] n) 3)
  go_enter Tryz.func14, Tryz.ntmps14
  go_wp2
  go_loopw [4] (fun i wr => ∃ k, k ≤ n ∧ i = .int .i64 (k : Nat) ∧ OwnI w.heap.size wr (some ⟨w.heap.size, 0, none⟩) n n (filled 0 l k) ∧ Bl w wr) (fun i _ => n - (intOf i).toNat)
  case atStart => exact ⟨0, by omega, rfl, by rw [filled_zero, hl.out]; exact hown0, hW0⟩
  case round =>
    obtain ⟨k, hk, rfl, hown, hW⟩ := hrel
    clear hmk hown0 hW0
    by_cases hlt : k < n
    · obtain ⟨ad, x, rfl, hadb, hx, hcell⟩ := (h.keep hW).at_ hlt
      have HX := Lib.hid hx
      clear hx
      have i1 : (k : Int) < n := by omega
      obtain ⟨g, hg, hbg, hgl, hc2, hfr⟩ := hown.form (by omega)
      have hc3 := hc2 k _ (List.getElem?_eq_getElem (by rw [filled_length _ _ _ (by rw [hl.out]; omega), hl.out]; exact hlt))
      have hf3 := hfr k
      injection hg with hg
      injection hg with hg
      subst hg
      clear hc2 hfr
      go_wp2
      go_roundw
      case rel => exact ⟨k + 1, by omega, by go_num, by rw [← filled_step _ _ _ _ HX.out]; exact hown.set_ k x hlt, hW.setCell (Nat.le_refl _) _⟩
      case measure => simp [intOf]; omega
    · have he : k = n := by omega
      subst he
      have hfa := Lib.hid (filled_all 0 l k hl.out)
      go_wp2
      go_ret
      exact ⟨_, _, rfl, by rw [← hfa.out]; exact hown, hW⟩
end Go.Proofs.YtjggecbaladiiaaGreatDoor
