/- Contracts of the draws of numbers: labels, secrets, small values, and what BlindsFor, FirstClash and CoinCounts are given.
   Conditions: the cursor lies in a block of its own; the bytes are bytes. -/
import Derived.Test.YtglgaicbcackbaaCur
import Derived.Test.YtglgaicbcackbaaCom
namespace Go.Proofs.Ytglgaicbcackbaa
open Go.RowKit
set_option linter.unusedVariables false
def isI (u : Value) : Bool := match u with
  | .int .i64 _ => true
  | _ => false
theorem ints_of_isI (cs : List Value) (h : cs.all isI = true) : ∃ l, cs = ints l := by
  induction cs with
  | nil => exact ⟨[], rfl⟩
  | cons u cs ih =>
    rw [List.all_cons, Bool.and_eq_true] at h
    obtain ⟨l, rfl⟩ := ih h.2
    have h1 := h.1
    unfold isI at h1
    split at h1
    · rename_i z
      exact ⟨z :: l, rfl⟩
    · cases h1
theorem cur_among_new (w : World) (g k : Nat) (h : Cur w g k) (hk : k < 900000000) (cs : Array Value) (t : TypeId) (hcs : cs.toList.all isI = true) (n : Nat) (hn : n = cs.size) (h1 : 1 ≤ cs.size ∧ cs.size ≤ 60000) {b : Nat} (hb : w.heap.size = b) :
    Calls Try.prog 71 #[.pointer (some ⟨g, 0, none⟩), .slice (some ⟨b, 0, none⟩) n n] (w.alloc (.cells cs t)) fun e w' => ∃ x, e = .returned (.int .i64 x) ∧ Cur w' g (k + 2) ∧ w.grownBy w' (some g) := by
  subst hn
  obtain ⟨l, hl⟩ := ints_of_isI _ hcs
  have hr : RdI (w.alloc (.cells cs t)) (some ⟨b, 0, none⟩) cs.size cs.size l := by
    have := rd_new w cs t (by simp [maxLen]; omega) hb
    rw [hl] at this
    exact this
  have hlt := h.lt
  refine (cur_among _ g k (h.keep ((Bl.refl w).alloc _)) hk _ _ _ l hr (by omega) (fun _ a ha => by injection ha with ha; subst ha; dsimp only; omega)).mono ?_
  rintro e w' ⟨x, rfl, hx, hC, hG⟩
  exact ⟨x, rfl, hC, Lib.grownBy_trans (World.grownBy_alloc w _ _) hG⟩
theorem results_tmp4 {fn : Func} {t u v x : Tmp} (h : fn.results = #[.tmp t, .tmp u, .tmp v, .tmp x]) (tmps : Array Value) (P : Program) (w : World) :
    (results fn tmps).run P w = .ok (.tuple #[tmps.getD t undef, tmps.getD u undef, tmps.getD v undef, tmps.getD x undef]) w := by
  simp [results, h]
set_option maxRecDepth 20000 in
set_option maxHeartbeats 2000000 in
theorem cur_label (w : World) (g k : Nat) (h : Cur w g k) (hk : k < 800000000) :
    Calls Try.prog 70 #[.pointer (some ⟨g, 0, none⟩)] w fun e w' => ∃ x, e = .returned (.int .i64 x) ∧ Cur w' g (k + 10) ∧ w.grownBy w' (some g) := by
  have hC := h
  have hG := World.grownBy.refl w (some g)
  clear h
  go_enter Try.func70, Try.ntmps70
  go_wp2_with (first | (go_at_call 67; refine (cur_pick _ _ _ hC (by omega) _ (by omega)).mono ?_; rintro e w1 ⟨x, rfl, hb0, hb1, hC1, hG1⟩; replace hG := Lib.grownBy_trans hG hG1; replace hC := hC1; clear hC1 hG1) | (go_at_call 69; refine (cur_one _ _ _ hC (by omega) _ (by omega)).mono ?_; rintro e w1 ⟨b, rfl, hC1, hG1⟩; replace hG := Lib.grownBy_trans hG hG1; replace hC := hC1; clear hC1 hG1; cases b) | (go_at_call 71; refine (cur_among_new _ _ _ hC (by omega) _ _ (by rfl) _ (by rfl) (by simp) (by first | with_reducible rfl | simp)).mono ?_; rintro e w1 ⟨x, rfl, hC1, hG1⟩; replace hG := Lib.grownBy_trans hG hG1; replace hC := hC1; clear hC1 hG1))
  all_goals (go_ret; exact ⟨_, rfl, hC.mono (by omega), hG⟩)
set_option maxRecDepth 20000 in
set_option maxHeartbeats 2000000 in
theorem cur_secret (w : World) (g k : Nat) (h : Cur w g k) (hk : k < 800000000) :
    Calls Try.prog 84 #[.pointer (some ⟨g, 0, none⟩)] w fun e w' => ∃ x, e = .returned (.int .i64 x) ∧ Cur w' g (k + 10) ∧ w.grownBy w' (some g) := by
  have hC := h
  have hG := World.grownBy.refl w (some g)
  clear h
  go_enter Try.func84, Try.ntmps84
  go_wp2_with (first | (go_at_call 67; refine (cur_pick _ _ _ hC (by omega) _ (by omega)).mono ?_; rintro e w1 ⟨x, rfl, hb0, hb1, hC1, hG1⟩; replace hG := Lib.grownBy_trans hG hG1; replace hC := hC1; clear hC1 hG1) | (go_at_call 69; refine (cur_one _ _ _ hC (by omega) _ (by omega)).mono ?_; rintro e w1 ⟨b, rfl, hC1, hG1⟩; replace hG := Lib.grownBy_trans hG hG1; replace hC := hC1; clear hC1 hG1; cases b) | (go_at_call 71; refine (cur_among_new _ _ _ hC (by omega) _ _ (by rfl) _ (by rfl) (by simp) (by first | with_reducible rfl | simp)).mono ?_; rintro e w1 ⟨x, rfl, hC1, hG1⟩; replace hG := Lib.grownBy_trans hG hG1; replace hC := hC1; clear hC1 hG1))
  all_goals (go_ret; exact ⟨_, rfl, hC.mono (by omega), hG⟩)
set_option maxRecDepth 20000 in
set_option maxHeartbeats 2000000 in
theorem cur_small (w : World) (g k : Nat) (h : Cur w g k) (hk : k < 800000000) :
    Calls Try.prog 83 #[.pointer (some ⟨g, 0, none⟩)] w fun e w' => ∃ x, e = .returned (.int .i64 x) ∧ Cur w' g (k + 10) ∧ w.grownBy w' (some g) := by
  have hC := h
  have hG := World.grownBy.refl w (some g)
  clear h
  go_enter Try.func83, Try.ntmps83
  go_wp2_with (first | (go_at_call 67; refine (cur_pick _ _ _ hC (by omega) _ (by omega)).mono ?_; rintro e w1 ⟨x, rfl, hb0, hb1, hC1, hG1⟩; replace hG := Lib.grownBy_trans hG hG1; replace hC := hC1; clear hC1 hG1) | (go_at_call 71; refine (cur_among_new _ _ _ hC (by omega) _ _ (by rfl) _ (by rfl) (by simp) (by first | with_reducible rfl | simp)).mono ?_; rintro e w1 ⟨x, rfl, hC1, hG1⟩; replace hG := Lib.grownBy_trans hG hG1; replace hC := hC1; clear hC1 hG1))
  all_goals (go_ret; exact ⟨_, rfl, hC.mono (by omega), hG⟩)
set_option maxRecDepth 20000 in
set_option maxHeartbeats 4000000 in
theorem spec_DrawBlindsFor (w : World) (A : Option Addr) (n c : Nat) (l : List Int) (h : RdB w A n c l) :
    Calls Try.prog 8 #[.slice A n c] w fun e w' => ∃ p q r s, e = .returned (.tuple #[.int .i64 p, .int .i64 q, .int .i64 r, .int .i64 s]) ∧ Bl w w' := by
  have hC := Cur.new w h
  have hG := World.grownBy.refl (w.alloc (.cells #[.slice A n c, .int .i64 0, .int .u64 0] 67)) (some w.heap.size)
  go_enter Try.func8, Try.ntmps8
  go_wp2_with (first | (go_at_call 67; refine (cur_pick _ _ _ hC (by omega) _ (by omega)).mono ?_; rintro e w1 ⟨x, rfl, hb0, hb1, hC1, hG1⟩; replace hG := Lib.grownBy_trans hG hG1; replace hC := hC1; clear hC1 hG1) | (go_at_call 69; refine (cur_one _ _ _ hC (by omega) _ (by omega)).mono ?_; rintro e w1 ⟨b, rfl, hC1, hG1⟩; replace hG := Lib.grownBy_trans hG hG1; replace hC := hC1; clear hC1 hG1; cases b) | (go_at_call 70; refine (cur_label _ _ _ hC (by omega)).mono ?_; rintro e w1 ⟨x, rfl, hC1, hG1⟩; replace hG := Lib.grownBy_trans hG hG1; replace hC := hC1; clear hC1 hG1) | (go_at_call 68; refine (spec_cmMark _ _ _ _ (by omega) (by omega) (by omega)).mono ?_; rintro e w1 ⟨rfl, hb1⟩; replace hG := Lib.grownBy_below hG hb1; replace hC := hC.keep hb1; clear hb1) | (go_at_call 71; refine (cur_among_new _ _ _ hC (by omega) _ _ (by rfl) _ (by rfl) (by simp) (by first | with_reducible rfl | simp)).mono ?_; rintro e w1 ⟨x, rfl, hC1, hG1⟩; replace hG := Lib.grownBy_trans hG hG1; replace hC := hC1; clear hC1 hG1))
  all_goals (((try simp only [Exit.inBlock, Exit.then]); refine bodyPost_ret (results_tmp4 rfl _ _ _) rfl ?_); exact ⟨_, _, _, _, rfl, Bl.grown ((Bl.refl w).alloc _) hG (fun k hk => by cases hk; exact Nat.le_refl _)⟩)
set_option maxRecDepth 20000 in
set_option maxHeartbeats 4000000 in
theorem spec_DrawFirstClash (w : World) (A : Option Addr) (n c : Nat) (l : List Int) (h : RdB w A n c l) :
    Calls Try.prog 13 #[.slice A n c] w fun e w' => ∃ p q r s, e = .returned (.tuple #[.int .i64 p, .int .i64 q, .int .i64 r, .int .i64 s]) ∧ Bl w w' := by
  have hC := Cur.new w h
  have hG := World.grownBy.refl (w.alloc (.cells #[.slice A n c, .int .i64 0, .int .u64 0] 67)) (some w.heap.size)
  go_enter Try.func13, Try.ntmps13
  go_wp2_with (first | (go_at_call 67; refine (cur_pick _ _ _ hC (by omega) _ (by omega)).mono ?_; rintro e w1 ⟨x, rfl, hb0, hb1, hC1, hG1⟩; replace hG := Lib.grownBy_trans hG hG1; replace hC := hC1; clear hC1 hG1) | (go_at_call 71; refine (cur_among_new _ _ _ hC (by omega) _ _ (by rfl) _ (by rfl) (by simp) (by first | with_reducible rfl | simp)).mono ?_; rintro e w1 ⟨x, rfl, hC1, hG1⟩; replace hG := Lib.grownBy_trans hG hG1; replace hC := hC1; clear hC1 hG1))
  all_goals (((try simp only [Exit.inBlock, Exit.then]); refine bodyPost_ret (results_tmp4 rfl _ _ _) rfl ?_); exact ⟨_, _, _, _, rfl, Bl.grown ((Bl.refl w).alloc _) hG (fun k hk => by cases hk; exact Nat.le_refl _)⟩)
set_option maxRecDepth 20000 in
set_option maxHeartbeats 4000000 in
theorem spec_DrawCoinCounts (w : World) (A : Option Addr) (n c : Nat) (l : List Int) (h : RdB w A n c l) :
    Calls Try.prog 16 #[.slice A n c] w fun e w' => ∃ p q r s, e = .returned (.tuple #[.int .i64 p, .int .i64 q, .int .i64 r, .int .i64 s]) ∧ Bl w w' := by
  have hC := Cur.new w h
  have hG := World.grownBy.refl (w.alloc (.cells #[.slice A n c, .int .i64 0, .int .u64 0] 67)) (some w.heap.size)
  go_enter Try.func16, Try.ntmps16
  go_wp2_with (first | (go_at_call 83; refine (cur_small _ _ _ hC (by omega)).mono ?_; rintro e w1 ⟨x, rfl, hC1, hG1⟩; replace hG := Lib.grownBy_trans hG hG1; replace hC := hC1; clear hC1 hG1) | (go_at_call 84; refine (cur_secret _ _ _ hC (by omega)).mono ?_; rintro e w1 ⟨x, rfl, hC1, hG1⟩; replace hG := Lib.grownBy_trans hG hG1; replace hC := hC1; clear hC1 hG1) | (go_at_call 71; refine (cur_among_new _ _ _ hC (by omega) _ _ (by rfl) _ (by rfl) (by simp) (by first | with_reducible rfl | simp)).mono ?_; rintro e w1 ⟨x, rfl, hC1, hG1⟩; replace hG := Lib.grownBy_trans hG hG1; replace hC := hC1; clear hC1 hG1))
  all_goals (((try simp only [Exit.inBlock, Exit.then]); refine bodyPost_ret (results_tmp4 rfl _ _ _) rfl ?_); exact ⟨_, _, _, _, rfl, Bl.grown ((Bl.refl w).alloc _) hG (fun k hk => by cases hk; exact Nat.le_refl _)⟩)
end Go.Proofs.Ytglgaicbcackbaa
