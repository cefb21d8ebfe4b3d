/- Contracts of the draws of what the views and the guesses are given.
   Conditions: the text is bytes. -/
import Derived.Test.YtglgaicbcackbaaCuv
namespace Go.Proofs.Ytglgaicbcackbaa
open Go.RowKit
set_option linter.unusedVariables false
set_option maxRecDepth 20000 in
set_option maxHeartbeats 4000000 in
theorem spec_DrawEqualViews (w : World) (A : Option Addr) (n c : Nat) (l : List Int) (h : RdB w A n c l) :
    Calls Try.prog 52 #[.slice A n c] w fun e w' => ∃ p q r s, e = .returned (.tuple #[.int .i64 p, .int .i64 q, .int .i64 r, .int .i64 s]) ∧ Bl w w' := by
  have hC := Cur.new w h
  have hG := World.grownBy.refl (w.alloc (.cells #[.slice A n c, .int .i64 0, .int .u64 0] 67)) (some w.heap.size)
  go_enter Try.func52, Try.ntmps52
  go_wp2_with (first | (go_at_call 71; refine (cur_among_v _ _ _ hC (by omega) _ _ (by rfl) _ (by rfl) (by simp) (by first | with_reducible rfl | simp)).mono ?_; rintro e w1 ⟨p, rfl, hmp, hC1, hG1⟩; have hpb : p ≤ 300 := (by simp at hmp; omega); replace hG := Lib.grownBy_trans hG hG1; replace hC := hC1; clear hC1 hG1) | (go_at_call 120; refine (cur_element _ _ _ hC (by omega) _ (by omega)).mono ?_; rintro e w1 ⟨x, rfl, hC1, hG1⟩; skip; replace hG := Lib.grownBy_trans hG hG1; replace hC := hC1; clear hC1 hG1) | (go_at_call 98; refine (cur_party _ _ _ hC (by omega)).mono ?_; rintro e w1 ⟨q, rfl, hC1, hG1⟩; skip; replace hG := Lib.grownBy_trans hG hG1; replace hC := hC1; clear hC1 hG1))
  all_goals (((try simp only [Exit.inBlock, Exit.then]); refine bodyPost_ret (results_tmpV4 rfl _ _ _) rfl ?_); exact ⟨_, _, _, _, rfl, Bl.grown ((Bl.refl w).alloc _) hG (fun k hk => by cases hk; exact Nat.le_refl _)⟩)
set_option maxRecDepth 20000 in
set_option maxHeartbeats 4000000 in
theorem spec_DrawRealCounts (w : World) (A : Option Addr) (n c : Nat) (l : List Int) (h : RdB w A n c l) :
    Calls Try.prog 59 #[.slice A n c] w fun e w' => ∃ p q r, e = .returned (.tuple #[.int .i64 p, .int .i64 q, .int .i64 r]) ∧ Bl w w' := by
  have hC := Cur.new w h
  have hG := World.grownBy.refl (w.alloc (.cells #[.slice A n c, .int .i64 0, .int .u64 0] 67)) (some w.heap.size)
  go_enter Try.func59, Try.ntmps59
  go_wp2_with (first | (go_at_call 98; refine (cur_party _ _ _ hC (by omega)).mono ?_; rintro e w1 ⟨q, rfl, hC1, hG1⟩; skip; replace hG := Lib.grownBy_trans hG hG1; replace hC := hC1; clear hC1 hG1))
  go_ret3
  exact ⟨_, _, _, rfl, Bl.grown ((Bl.refl w).alloc _) hG (fun k hk => by cases hk; exact Nat.le_refl _)⟩
set_option maxRecDepth 20000 in
set_option maxHeartbeats 4000000 in
theorem spec_DrawSimCounts (w : World) (A : Option Addr) (n c : Nat) (l : List Int) (h : RdB w A n c l) :
    Calls Try.prog 65 #[.slice A n c] w fun e w' => ∃ p q r, e = .returned (.tuple #[.int .i64 p, .int .i64 q, .int .i64 r]) ∧ Bl w w' := by
  go_enter Try.func65, Try.ntmps65
  go_wp2_with (go_at_call 59; refine (spec_DrawRealCounts w A n c l h).mono ?_; rintro e w1 ⟨p, q, r, rfl, hb⟩)
  go_ret3
  exact ⟨_, _, _, rfl, hb⟩
set_option maxRecDepth 20000 in
set_option maxHeartbeats 4000000 in
theorem spec_DrawRealView (w : World) (A : Option Addr) (n c : Nat) (l : List Int) (h : RdB w A n c l) :
    Calls Try.prog 55 #[.slice A n c] w fun e w' => ∃ p x y q A n c l, e = .returned (.tuple #[.int .i64 p, .int .i64 x, .int .i64 y, .int .i64 q, .slice A n c]) ∧ OwnI w.heap.size w' A n c l ∧ Bl w w' := by
  have hC := Cur.new w h
  have hG := World.grownBy.refl (w.alloc (.cells #[.slice A n c, .int .i64 0, .int .u64 0] 67)) (some w.heap.size)
  have hsz : w.heap.size ≤ (w.alloc (.cells #[.slice A n c, .int .i64 0, .int .u64 0] 67)).heap.size := by simp
  go_enter Try.func55, Try.ntmps55
  go_wp2_with (first | (go_at_call 119; refine (cur_anyPrime _ _ _ hC (by omega)).mono ?_; rintro e w1 ⟨p, rfl, hpb, hC1, hG1⟩; skip; replace hG := Lib.grownBy_trans hG hG1; replace hC := hC1; clear hC1 hG1) | (go_at_call 69; refine (cur_one _ _ _ hC (by omega) _ (by omega)).mono ?_; rintro e w1 ⟨b, rfl, hC1, hG1⟩; replace hG := Lib.grownBy_trans hG hG1; replace hC := hC1; clear hC1 hG1; cases b) | (go_at_call 67; refine (cur_pick _ _ _ hC (by omega) _ (by omega)).mono ?_; rintro e w1 ⟨z, rfl, hz0, hz1, hC1, hG1⟩; replace hG := Lib.grownBy_trans hG hG1; replace hC := hC1; clear hC1 hG1) | (go_at_call 120; refine (cur_element _ _ _ hC (by omega) _ (by omega)).mono ?_; rintro e w1 ⟨x, rfl, hC1, hG1⟩; skip; replace hG := Lib.grownBy_trans hG hG1; replace hC := hC1; clear hC1 hG1) | (go_at_call 98; refine (cur_party _ _ _ hC (by omega)).mono ?_; rintro e w1 ⟨q, rfl, hC1, hG1⟩; skip; replace hG := Lib.grownBy_trans hG hG1; replace hC := hC1; clear hC1 hG1) | (go_at_call 116; refine (cur_elements _ _ _ hC (by omega) _ (by omega) _ (by omega)).mono ?_; rintro e w1 ⟨A2, n2, c2, l2, rfl, hown, hC1, hG1⟩; skip; have hGe := hG; replace hG := Lib.grownBy_trans hG hG1; replace hC := hC1; clear hC1 hG1))
  all_goals (replace hown := OwnI.mono hown (Nat.le_trans hsz hGe.size))
  all_goals (((try simp only [Exit.inBlock, Exit.then]); refine bodyPost_ret (results_tmpV5 rfl _ _ _) rfl ?_); exact ⟨_, _, _, _, _, _, _, _, rfl, hown, Bl.grown ((Bl.refl w).alloc _) hG (fun k hk => by cases hk; exact Nat.le_refl _)⟩)
set_option maxRecDepth 20000 in
set_option maxHeartbeats 4000000 in
theorem spec_DrawSimView (w : World) (A : Option Addr) (n c : Nat) (l : List Int) (h : RdB w A n c l) :
    Calls Try.prog 63 #[.slice A n c] w fun e w' => ∃ p x y q A n c l, e = .returned (.tuple #[.int .i64 p, .int .i64 x, .int .i64 y, .int .i64 q, .slice A n c]) ∧ OwnI w.heap.size w' A n c l ∧ Bl w w' := by
  have hC := Cur.new w h
  have hG := World.grownBy.refl (w.alloc (.cells #[.slice A n c, .int .i64 0, .int .u64 0] 67)) (some w.heap.size)
  have hW0 := (Bl.refl w).alloc (.cells #[.slice A n c, .int .i64 0, .int .u64 0] 67)
  have hs0 : (w.alloc (.cells #[.slice A n c, .int .i64 0, .int .u64 0] 67)).heap.size = w.heap.size + 1 := by simp
  go_enter Try.func63, Try.ntmps63
  go_wp2_with (first | (go_at_call 55; refine (spec_DrawRealView _ _ _ _ _ (h.keep hW0)).mono ?_; rintro e w1 ⟨p, x, y, q, A2, n2, c2, l2, rfl, hown, hb1⟩; replace hC := hC.keep hb1; replace hG := Lib.grownBy_below hG hb1; rw [hs0] at hown; clear hb1) | (go_at_call 67; refine (cur_pick _ _ _ hC (by omega) _ (by omega)).mono ?_; rintro e w1 ⟨z, rfl, hz0, hz1, hC1, hG1⟩; replace hown := OwnI.grownC hown hG1 (Nat.lt_succ_self _); replace hG := Lib.grownBy_trans hG hG1; replace hC := hC1; clear hC1 hG1))
  all_goals (((try simp only [Exit.inBlock, Exit.then]); refine bodyPost_ret (results_tmpV5 rfl _ _ _) rfl ?_); exact ⟨_, _, _, _, _, _, _, _, rfl, OwnI.mono hown (Nat.le_succ _), Bl.grown ((Bl.refl w).alloc _) hG (fun k hk => by cases hk; exact Nat.le_refl _)⟩)
set_option maxRecDepth 20000 in
set_option maxHeartbeats 4000000 in
theorem spec_DrawConsistentInputs (w : World) (A : Option Addr) (n c : Nat) (l : List Int) (h : RdB w A n c l) :
    Calls Try.prog 49 #[.slice A n c] w fun e w' => ∃ p q r s, e = .returned (.tuple #[.int .i64 p, .int .i64 q, .int .i64 r, .int .i64 s]) ∧ Bl w w' := by
  have hC := Cur.new w h
  have hG := World.grownBy.refl (w.alloc (.cells #[.slice A n c, .int .i64 0, .int .u64 0] 67)) (some w.heap.size)
  go_enter Try.func49, Try.ntmps49
  go_wp2_with (first | (go_at_call 119; refine (cur_anyPrime _ _ _ hC (by omega)).mono ?_; rintro e w1 ⟨p, rfl, hpb, hC1, hG1⟩; skip; replace hG := Lib.grownBy_trans hG hG1; replace hC := hC1; clear hC1 hG1) | (go_at_call 120; refine (cur_element _ _ _ hC (by omega) _ (by omega)).mono ?_; rintro e w1 ⟨x, rfl, hC1, hG1⟩; skip; replace hG := Lib.grownBy_trans hG hG1; replace hC := hC1; clear hC1 hG1) | (go_at_call 98; refine (cur_party _ _ _ hC (by omega)).mono ?_; rintro e w1 ⟨q, rfl, hC1, hG1⟩; skip; replace hG := Lib.grownBy_trans hG hG1; replace hC := hC1; clear hC1 hG1))
  all_goals (((try simp only [Exit.inBlock, Exit.then]); refine bodyPost_ret (results_tmpV4 rfl _ _ _) rfl ?_); exact ⟨_, _, _, _, rfl, Bl.grown ((Bl.refl w).alloc _) hG (fun k hk => by cases hk; exact Nat.le_refl _)⟩)
set_option maxRecDepth 20000 in
set_option maxHeartbeats 4000000 in
theorem spec_DrawBestGuesses (w : World) (A : Option Addr) (n c : Nat) (l : List Int) (h : RdB w A n c l) :
    Calls Try.prog 38 #[.slice A n c] w fun e w' => ∃ p q r, e = .returned (.tuple #[.int .i64 p, .int .i64 q, .int .i64 r]) ∧ Bl w w' := by
  have hC := Cur.new w h
  have hG := World.grownBy.refl (w.alloc (.cells #[.slice A n c, .int .i64 0, .int .u64 0] 67)) (some w.heap.size)
  have t1 := True.intro
  have t2 := True.intro
  go_enter Try.func38, Try.ntmps38
  go_wp2_with (first | (go_at_call 98; refine (cur_party _ _ _ hC (by omega)).mono ?_; rintro e w1 ⟨q, rfl, hC1, hG1⟩; skip; replace hG := Lib.grownBy_trans hG hG1; replace hC := hC1; clear hC1 hG1) | (have tk := t1; clear tk t1; go_at_call 67; refine (cur_pick _ _ _ hC (by omega) _ (by omega)).mono ?_; rintro e w1 ⟨x, rfl, hx0, hx1, hC1, hG1⟩; replace hG := Lib.grownBy_trans hG hG1; replace hC := hC1; clear hC1 hG1) | (have tk := t2; clear tk t2; go_at_call 67; refine (cur_pick _ _ _ hC (by omega) _ (by omega)).mono ?_; rintro e w1 ⟨y, rfl, hy0, hy1, hC1, hG1⟩; replace hG := Lib.grownBy_trans hG hG1; replace hC := hC1; clear hC1 hG1))
  go_ret3
  exact ⟨_, _, _, rfl, Bl.grown ((Bl.refl w).alloc _) hG (fun k hk => by cases hk; exact Nat.le_refl _)⟩
set_option maxRecDepth 20000 in
set_option maxHeartbeats 4000000 in
theorem spec_DrawRandomOf (w : World) (A : Option Addr) (n c : Nat) (l : List Int) (h : RdB w A n c l) :
    Calls Try.prog 43 #[.slice A n c] w fun e w' => ∃ p q, e = .returned (.tuple #[.int .i64 p, .int .i64 q]) ∧ Bl w w' := by
  have hC := Cur.new w h
  have hG := World.grownBy.refl (w.alloc (.cells #[.slice A n c, .int .i64 0, .int .u64 0] 67)) (some w.heap.size)
  have t1 := True.intro
  have t2 := True.intro
  go_enter Try.func43, Try.ntmps43
  go_wp2_with (first | (have tk := t1; clear tk t1; go_at_call 71; refine (cur_among_v _ _ _ hC (by omega) _ _ (by rfl) _ (by rfl) (by simp) (by first | with_reducible rfl | simp)).mono ?_; rintro e w1 ⟨x, rfl, hmx, hC1, hG1⟩; skip; replace hG := Lib.grownBy_trans hG hG1; replace hC := hC1; clear hC1 hG1) | (have tk := t2; clear tk t2; go_at_call 71; refine (cur_among_v _ _ _ hC (by omega) _ _ (by rfl) _ (by rfl) (by simp) (by first | with_reducible rfl | simp)).mono ?_; rintro e w1 ⟨y, rfl, hmy, hC1, hG1⟩; skip; replace hG := Lib.grownBy_trans hG hG1; replace hC := hC1; clear hC1 hG1) | (go_at_call 67; refine (cur_pick _ _ _ hC (by omega) _ (by omega)).mono ?_; rintro e w1 ⟨z, rfl, hz0, hz1, hC1, hG1⟩; replace hG := Lib.grownBy_trans hG hG1; replace hC := hC1; clear hC1 hG1))
  go_ret2
  exact ⟨_, _, rfl, Bl.grown ((Bl.refl w).alloc _) hG (fun k hk => by cases hk; exact Nat.le_refl _)⟩
set_option maxRecDepth 20000 in
set_option maxHeartbeats 4000000 in
theorem spec_DrawViewCode (w : World) (A : Option Addr) (n c : Nat) (l : List Int) (h : RdB w A n c l) :
    Calls Try.prog 46 #[.slice A n c] w fun e w' => ∃ p A n c l, e = .returned (.tuple #[.int .i64 p, .slice A n c]) ∧ OwnI w.heap.size w' A n c l ∧ Bl w w' := by
  have hC := Cur.new w h
  have hG := World.grownBy.refl (w.alloc (.cells #[.slice A n c, .int .i64 0, .int .u64 0] 67)) (some w.heap.size)
  have hsz : w.heap.size ≤ (w.alloc (.cells #[.slice A n c, .int .i64 0, .int .u64 0] 67)).heap.size := by simp
  go_enter Try.func46, Try.ntmps46
  go_wp2_with (first | (go_at_call 71; refine (cur_among_v _ _ _ hC (by omega) _ _ (by rfl) _ (by rfl) (by simp) (by first | with_reducible rfl | simp)).mono ?_; rintro e w1 ⟨p, rfl, hmp, hC1, hG1⟩; have hpb : p ≤ 300 := (by simp at hmp; omega); replace hG := Lib.grownBy_trans hG hG1; replace hC := hC1; clear hC1 hG1) | (go_at_call 69; refine (cur_one _ _ _ hC (by omega) _ (by omega)).mono ?_; rintro e w1 ⟨b, rfl, hC1, hG1⟩; replace hG := Lib.grownBy_trans hG hG1; replace hC := hC1; clear hC1 hG1; cases b) | (go_at_call 67; refine (cur_pick _ _ _ hC (by omega) _ (by omega)).mono ?_; rintro e w1 ⟨z, rfl, hz0, hz1, hC1, hG1⟩; replace hG := Lib.grownBy_trans hG hG1; replace hC := hC1; clear hC1 hG1) | (go_at_call 116; refine (cur_elements _ _ _ hC (by omega) _ (by omega) _ (by omega)).mono ?_; rintro e w1 ⟨A2, n2, c2, l2, rfl, hown, hC1, hG1⟩; skip; have hGe := hG; replace hG := Lib.grownBy_trans hG hG1; replace hC := hC1; clear hC1 hG1))
  all_goals (replace hown := OwnI.mono hown (Nat.le_trans hsz hGe.size))
  all_goals (go_ret2; exact ⟨_, _, _, _, _, rfl, hown, Bl.grown ((Bl.refl w).alloc _) hG (fun k hk => by cases hk; exact Nat.le_refl _)⟩)
end Go.Proofs.Ytglgaicbcackbaa
