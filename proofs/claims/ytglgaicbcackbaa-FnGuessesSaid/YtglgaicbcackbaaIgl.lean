/- The walk of the law on ideal guesses.
   Conditions: none. -/
import Derived.Test.YtglgaicbcackbaaIdg
import Derived.Test.YtglgaicbcackbaaGub
namespace Go.Proofs.Ytglgaicbcackbaa
open Go.RowKit
set_option linter.unusedVariables false
theorem ig0 : sumMax (tally 2 (fun _ => 0) 512) (tally 2 (fun _ => 0) 512) 2 = 512 := by kernel_rfl
theorem ig1 : sumMax (tally 2 (fun _ => 0) 512) (tally 2 (fun _ => 1) 512) 2 = 1024 := by kernel_rfl
def igF (i : Int) (o c : Nat) : Nat := (i * (o : Int)).toNat
theorem igF0 : sumMax (tally 2 (igF 0 0) 512) (tally 2 (igF 0 1) 512) 2 = 512 := ig0
theorem igF1 : sumMax (tally 2 (igF 1 0) 512) (tally 2 (igF 1 1) 512) 2 = 1024 := ig1
theorem enters_IdealGuesses_1 : Enters 110 := fun _ _ => by kernel_rfl
theorem impl_IdealGuesses_1 (i : Int) (h0 : 0 ≤ i) (h1 : i ≤ 1) (g o : Nat) (ho : o ≤ 1) (A : Option Addr) (c : Nat) (w : World) (hc : w.cell? ⟨g, 0, none⟩ = some (.int .i64 i)) :
    Calls Try.prog 110 #[.int .i64 o, .slice A 9 c, .pointer (some ⟨g, 0, none⟩)] w fun e w' => e = .returned (.int .i64 (((i * o).toNat : Nat) : Int)) ∧ w = w' := by
  have hm : 0 ≤ i * o ∧ i * o ≤ 1 * 1 := ⟨Int.mul_nonneg h0 (by omega), Int.mul_le_mul h1 (by omega) (by omega) (by omega)⟩
  go_enter Try.func110, Try.ntmps110
  go_wp2
  go_ret
  exact ⟨ret_int (by omega), rfl⟩
set_option maxHeartbeats 1000000 in
theorem impl_IdealGuesses (q i : Int) (w : World) :
    Calls Try.prog 41 #[.int .i64 q, .int .i64 i] w fun e w' => e = .returned (.tuple #[.int .i64 (igR q i), .bool (igB q i)]) ∧ Bl w w' := by
  have hW := (Bl.refl w).alloc (.cells #[.int .i64 i] 3)
  rcases hB : igB q i
  · have hR := Lib.hid (show igR q i = 0 by simp [igR, hB])
    rcases hq : inR q 0 1
    · go_enter Try.func41, Try.ntmps41
      go_wp2_with (go_at_call 72; refine (impl_isBit _ _).mono ?_; rintro e w' ⟨rfl, rfl⟩)
      go_ret2
      exact ⟨by rw [hR.out]; rfl, hW⟩
    · have hi : inR i 0 1 = false := by simpa [igB, hq] using hB
      go_enter Try.func41, Try.ntmps41
      go_wp2_with (go_at_call 72; refine (impl_isBit _ _).mono ?_; rintro e w' ⟨rfl, rfl⟩)
      go_ret2
      exact ⟨by rw [hR.out]; rfl, hW⟩
  · have h2 : inR q 0 1 = true ∧ inR i 0 1 = true := by simpa [igB] using hB
    obtain ⟨hq, hi⟩ := h2
    have h4 := inR_iff.1 hi
    have hG : Guess (w.alloc (.cells #[.int .i64 i] 3)) 110 #[.pointer (some ⟨w.heap.size, 0, none⟩)] (igF i) := fun o code c A W' ho _ hW' _ =>
      (impl_IdealGuesses_1 i h4.1 h4.2 w.heap.size o ho A c W' (((Blk.new w 3 #[.int .i64 i]).keep hW').cell 0 _ rfl)).mono fun e w' ⟨he, hw⟩ => ⟨he, hw ▸ Bl.refl _⟩
    have hii : i = 0 ∨ i = 1 := by omega
    have hR : sumMax (tally 2 (igF i 0) 512) (tally 2 (igF i 1) 512) 2 = igR q i := by
      have hx : igR q i = if i = 0 then 512 else 1024 := by unfold igR; rw [hB]; rfl
      rw [hx]
      rcases hii with rfl | rfl
      · exact igF0
      · exact igF1
    have HC0 := impl_guesses 2 110 _ _ _ (by omega) (by omega) enters_IdealGuesses_1 hG (by
      intro o c ho _
      have hoo : o = 0 ∨ o = 1 := by omega
      rcases hii with rfl | rfl <;> rcases hoo with rfl | rfl <;> simp [igF])
    rw [hR] at HC0
    have HC := Lib.hid HC0
    clear HC0 hR
    clear hG hii hB
    go_enter Try.func41, Try.ntmps41
    go_wp2_with (first | (go_at_call 72; refine (impl_isBit _ _).mono ?_; rintro e w' ⟨rfl, rfl⟩) | (go_at_call 99; refine HC.out.mono ?_; rintro e w1 ⟨rfl, hb1⟩))
    go_ret2
    exact ⟨rfl, hW.call hb1⟩
end Go.Proofs.Ytglgaicbcackbaa
