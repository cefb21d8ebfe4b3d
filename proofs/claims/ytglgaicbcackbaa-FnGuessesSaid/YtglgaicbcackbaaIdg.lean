/- The contract of the reference's IdealGuesses.
   Conditions: none. -/
import Derived.Test.YtglgaicbcackbaaCin
namespace Go.Proofs.Ytglgaicbcackbaa
open Go.RowKit
set_option linter.unusedVariables false
def igB (q i : Int) : Bool := inR q 0 1 && inR i 0 1
def igR (q i : Int) : Int := if igB q i then (if i = 0 then 512 else 1024) else 0
set_option maxHeartbeats 1000000 in
theorem spec_IdealGuesses_f (q i : Int) (w : World) (h : igB q i = false) :
    Calls Try.prog 42 #[.int .i64 q, .int .i64 i] w fun e w' => e = .returned (.tuple #[.int .i64 (igR q i), .bool (igB q i)]) ∧ Bl w w' := by
  have hR := Lib.hid (show igR q i = 0 by simp [igR, h])
  have hall : allR [q, i] 0 1 = false := by simpa [allR, igB] using h
  rw [h]
  go_enter Try.func42, Try.ntmps42
  go_wp2_with (first | (go_at_call 104; refine (spec_l1All _ _ _ [q, i] _ _ _ (rd_new2 _ _ _ _)).mono ?_; rintro e w' ⟨rfl, rfl⟩; rw [hall]))
  go_ret2
  exact ⟨by rw [hR.out]; rfl, (Bl.refl w).alloc _⟩
set_option maxHeartbeats 1000000 in
theorem spec_IdealGuesses_00 (w : World) :
    Calls Try.prog 42 #[.int .i64 0, .int .i64 0] w fun e w' => e = .returned (.tuple #[.int .i64 512, .bool true]) ∧ Bl w w' := by
  have hall : allR [0, 0] 0 1 = true := by decide
  have hW0 := (Bl.refl w).alloc (.cells #[.int .i64 0, .int .i64 0] 3)
  go_enter Try.func42, Try.ntmps42
  go_wp2_with (first | (go_at_call 104; refine (spec_l1All _ _ _ [0, 0] _ _ _ (rd_new2 _ _ _ _)).mono ?_; rintro e w' ⟨rfl, rfl⟩; rw [hall]))
  go_loopw [6, 7] (fun o i wr => ∃ k : Nat, k ≤ 2 ∧ i = .int .i64 (k : Nat) ∧ o = .int .i64 (match k with | 0 => 0 | 1 => 512 | _ => 512) ∧ Bl w wr) (fun _ i _ => 2 - (intOf i).toNat)
  case atStart => exact ⟨0, by omega, rfl, rfl, hW0⟩
  case round =>
    obtain ⟨k, hk, rfl, rfl, hW⟩ := hrel
    clear hW0 hall
    have hc : k = 0 ∨ k = 1 ∨ k = 2 := by omega
    rcases hc with rfl | rfl | rfl
    · have e1 : consR 2 0 0 0 = [0, 1] := by decide
      have e2 : consB 2 0 0 0 = true := by decide
      go_wp2_with (first | (go_at_call 51; refine (spec_ConsistentInputs 2 0 0 0 _).mono ?_; rintro e w1 ⟨A1, n1, c1, rfl, ho1, hb1⟩; have hl1 := ho1.length; rw [e1] at hl1; replace hW := hW.call hb1; have hn1 : 0 < n1 := (by simp at hl1; omega); clear hl1 e1 e2))
      go_roundw
      case rel => exact ⟨1, by omega, rfl, rfl, hW⟩
      case measure => simp [intOf]
    · have e1 : consR 2 0 0 1 = [] := by decide
      have e2 : consB 2 0 0 1 = true := by decide
      go_wp2_with (first | (go_at_call 51; refine (spec_ConsistentInputs 2 0 0 1 _).mono ?_; rintro e w1 ⟨A1, n1, c1, rfl, ho1, hb1⟩; have hl1 := ho1.length; rw [e1] at hl1; replace hW := hW.call hb1; have hn1 : n1 = 0 := (by simp at hl1; omega); clear hl1 e1 e2))
      go_roundw
      case rel => exact ⟨2, by omega, rfl, rfl, hW⟩
      case measure => simp [intOf]
    · go_wp2
      go_ret2
      exact ⟨rfl, hW⟩
set_option maxHeartbeats 1000000 in
theorem spec_IdealGuesses_01 (w : World) :
    Calls Try.prog 42 #[.int .i64 0, .int .i64 1] w fun e w' => e = .returned (.tuple #[.int .i64 1024, .bool true]) ∧ Bl w w' := by
  have hall : allR [0, 1] 0 1 = true := by decide
  have hW0 := (Bl.refl w).alloc (.cells #[.int .i64 0, .int .i64 1] 3)
  go_enter Try.func42, Try.ntmps42
  go_wp2_with (first | (go_at_call 104; refine (spec_l1All _ _ _ [0, 1] _ _ _ (rd_new2 _ _ _ _)).mono ?_; rintro e w' ⟨rfl, rfl⟩; rw [hall]))
  go_loopw [6, 7] (fun o i wr => ∃ k : Nat, k ≤ 2 ∧ i = .int .i64 (k : Nat) ∧ o = .int .i64 (match k with | 0 => 0 | 1 => 512 | _ => 1024) ∧ Bl w wr) (fun _ i _ => 2 - (intOf i).toNat)
  case atStart => exact ⟨0, by omega, rfl, rfl, hW0⟩
  case round =>
    obtain ⟨k, hk, rfl, rfl, hW⟩ := hrel
    clear hW0 hall
    have hc : k = 0 ∨ k = 1 ∨ k = 2 := by omega
    rcases hc with rfl | rfl | rfl
    · have e1 : consR 2 0 1 0 = [0] := by decide
      have e2 : consB 2 0 1 0 = true := by decide
      go_wp2_with (first | (go_at_call 51; refine (spec_ConsistentInputs 2 0 1 0 _).mono ?_; rintro e w1 ⟨A1, n1, c1, rfl, ho1, hb1⟩; have hl1 := ho1.length; rw [e1] at hl1; replace hW := hW.call hb1; have hn1 : 0 < n1 := (by simp at hl1; omega); clear hl1 e1 e2))
      go_roundw
      case rel => exact ⟨1, by omega, rfl, rfl, hW⟩
      case measure => simp [intOf]
    · have e1 : consR 2 0 1 1 = [1] := by decide
      have e2 : consB 2 0 1 1 = true := by decide
      go_wp2_with (first | (go_at_call 51; refine (spec_ConsistentInputs 2 0 1 1 _).mono ?_; rintro e w1 ⟨A1, n1, c1, rfl, ho1, hb1⟩; have hl1 := ho1.length; rw [e1] at hl1; replace hW := hW.call hb1; have hn1 : 0 < n1 := (by simp at hl1; omega); clear hl1 e1 e2))
      go_roundw
      case rel => exact ⟨2, by omega, rfl, rfl, hW⟩
      case measure => simp [intOf]
    · go_wp2
      go_ret2
      exact ⟨rfl, hW⟩
set_option maxHeartbeats 1000000 in
theorem spec_IdealGuesses_10 (w : World) :
    Calls Try.prog 42 #[.int .i64 1, .int .i64 0] w fun e w' => e = .returned (.tuple #[.int .i64 512, .bool true]) ∧ Bl w w' := by
  have hall : allR [1, 0] 0 1 = true := by decide
  have hW0 := (Bl.refl w).alloc (.cells #[.int .i64 1, .int .i64 0] 3)
  go_enter Try.func42, Try.ntmps42
  go_wp2_with (first | (go_at_call 104; refine (spec_l1All _ _ _ [1, 0] _ _ _ (rd_new2 _ _ _ _)).mono ?_; rintro e w' ⟨rfl, rfl⟩; rw [hall]))
  go_loopw [6, 7] (fun o i wr => ∃ k : Nat, k ≤ 2 ∧ i = .int .i64 (k : Nat) ∧ o = .int .i64 (match k with | 0 => 0 | 1 => 512 | _ => 512) ∧ Bl w wr) (fun _ i _ => 2 - (intOf i).toNat)
  case atStart => exact ⟨0, by omega, rfl, rfl, hW0⟩
  case round =>
    obtain ⟨k, hk, rfl, rfl, hW⟩ := hrel
    clear hW0 hall
    have hc : k = 0 ∨ k = 1 ∨ k = 2 := by omega
    rcases hc with rfl | rfl | rfl
    · have e1 : consR 2 1 0 0 = [0, 1] := by decide
      have e2 : consB 2 1 0 0 = true := by decide
      go_wp2_with (first | (go_at_call 51; refine (spec_ConsistentInputs 2 1 0 0 _).mono ?_; rintro e w1 ⟨A1, n1, c1, rfl, ho1, hb1⟩; have hl1 := ho1.length; rw [e1] at hl1; replace hW := hW.call hb1; have hn1 : 0 < n1 := (by simp at hl1; omega); clear hl1 e1 e2))
      go_roundw
      case rel => exact ⟨1, by omega, rfl, rfl, hW⟩
      case measure => simp [intOf]
    · have e1 : consR 2 1 0 1 = [] := by decide
      have e2 : consB 2 1 0 1 = true := by decide
      go_wp2_with (first | (go_at_call 51; refine (spec_ConsistentInputs 2 1 0 1 _).mono ?_; rintro e w1 ⟨A1, n1, c1, rfl, ho1, hb1⟩; have hl1 := ho1.length; rw [e1] at hl1; replace hW := hW.call hb1; have hn1 : n1 = 0 := (by simp at hl1; omega); clear hl1 e1 e2))
      go_roundw
      case rel => exact ⟨2, by omega, rfl, rfl, hW⟩
      case measure => simp [intOf]
    · go_wp2
      go_ret2
      exact ⟨rfl, hW⟩
set_option maxHeartbeats 1000000 in
theorem spec_IdealGuesses_11 (w : World) :
    Calls Try.prog 42 #[.int .i64 1, .int .i64 1] w fun e w' => e = .returned (.tuple #[.int .i64 1024, .bool true]) ∧ Bl w w' := by
  have hall : allR [1, 1] 0 1 = true := by decide
  have hW0 := (Bl.refl w).alloc (.cells #[.int .i64 1, .int .i64 1] 3)
  go_enter Try.func42, Try.ntmps42
  go_wp2_with (first | (go_at_call 104; refine (spec_l1All _ _ _ [1, 1] _ _ _ (rd_new2 _ _ _ _)).mono ?_; rintro e w' ⟨rfl, rfl⟩; rw [hall]))
  go_loopw [6, 7] (fun o i wr => ∃ k : Nat, k ≤ 2 ∧ i = .int .i64 (k : Nat) ∧ o = .int .i64 (match k with | 0 => 0 | 1 => 512 | _ => 1024) ∧ Bl w wr) (fun _ i _ => 2 - (intOf i).toNat)
  case atStart => exact ⟨0, by omega, rfl, rfl, hW0⟩
  case round =>
    obtain ⟨k, hk, rfl, rfl, hW⟩ := hrel
    clear hW0 hall
    have hc : k = 0 ∨ k = 1 ∨ k = 2 := by omega
    rcases hc with rfl | rfl | rfl
    · have e1 : consR 2 1 1 0 = [0] := by decide
      have e2 : consB 2 1 1 0 = true := by decide
      go_wp2_with (first | (go_at_call 51; refine (spec_ConsistentInputs 2 1 1 0 _).mono ?_; rintro e w1 ⟨A1, n1, c1, rfl, ho1, hb1⟩; have hl1 := ho1.length; rw [e1] at hl1; replace hW := hW.call hb1; have hn1 : 0 < n1 := (by simp at hl1; omega); clear hl1 e1 e2))
      go_roundw
      case rel => exact ⟨1, by omega, rfl, rfl, hW⟩
      case measure => simp [intOf]
    · have e1 : consR 2 1 1 1 = [1] := by decide
      have e2 : consB 2 1 1 1 = true := by decide
      go_wp2_with (first | (go_at_call 51; refine (spec_ConsistentInputs 2 1 1 1 _).mono ?_; rintro e w1 ⟨A1, n1, c1, rfl, ho1, hb1⟩; have hl1 := ho1.length; rw [e1] at hl1; replace hW := hW.call hb1; have hn1 : 0 < n1 := (by simp at hl1; omega); clear hl1 e1 e2))
      go_roundw
      case rel => exact ⟨2, by omega, rfl, rfl, hW⟩
      case measure => simp [intOf]
    · go_wp2
      go_ret2
      exact ⟨rfl, hW⟩
theorem spec_IdealGuesses (q i : Int) (w : World) :
    Calls Try.prog 42 #[.int .i64 q, .int .i64 i] w fun e w' => e = .returned (.tuple #[.int .i64 (igR q i), .bool (igB q i)]) ∧ Bl w w' := by
  rcases h : igB q i
  · have := spec_IdealGuesses_f q i w h
    rwa [h] at this
  · have h2 : inR q 0 1 = true ∧ inR i 0 1 = true := by simpa [igB] using h
    have h3 := inR_iff.1 h2.1
    have h4 := inR_iff.1 h2.2
    have hq : q = 0 ∨ q = 1 := by omega
    have hi : i = 0 ∨ i = 1 := by omega
    rcases hq with rfl | rfl <;> rcases hi with rfl | rfl
    · exact spec_IdealGuesses_00 w
    · exact spec_IdealGuesses_01 w
    · exact spec_IdealGuesses_10 w
    · exact spec_IdealGuesses_11 w
end Go.Proofs.Ytglgaicbcackbaa
