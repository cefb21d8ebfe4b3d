/- The reference's programs of the dozen.
   Conditions: none. -/
import Derived.Test.YtjggecbaladiiaaGreatDoorPty
namespace Go.Proofs.YtjggecbaladiiaaGreatDoor
open Go.RowKit
set_option linter.unusedVariables false
theorem spec_pgGood (a b : Int) (w : World) : Calls Tryz.prog 37 #[.int .i64 a, .int .i64 b] w fun e w' => e = .returned (.bool (pgB a b)) ∧ w = w' := by
  unfold pgB
  rcases h : inR a 0 11
  all_goals
    go_enter Tryz.func37, Tryz.ntmps37
    go_wp2_with (go_at_call 43; refine (spec_l1In _ _ _ _).mono ?_; rintro e w1 ⟨rfl, rfl⟩; try rw [h])
    go_ret
    exact ⟨rfl, rfl⟩
set_option maxHeartbeats 2000000 in
theorem spec_pgInputs (k : Nat) (hk : k < 12) (w : World) :
    Calls Tryz.prog 85 #[.int .i64 (k : Nat)] w fun e w' => ∃ g1 n1 g2 n2, e = .returned (.tuple #[.slice (some ⟨g1, 0, none⟩) n1 n1, .slice (some ⟨g2, 0, none⟩) n2 n2]) ∧ RdS w' (some ⟨g1, 0, none⟩) n1 n1 (inA k) ∧ RdS w' (some ⟨g2, 0, none⟩) n2 n2 (inB k) ∧ Bl w w' := by
  rcases (by omega : k = 0 ∨ k = 1 ∨ k = 2 ∨ k = 3 ∨ k = 4 ∨ k = 5 ∨ k = 6 ∨ k = 7 ∨ k = 8 ∨ k = 9 ∨ k = 10 ∨ k = 11) with rfl | rfl | rfl | rfl | rfl | rfl | rfl | rfl | rfl | rfl | rfl | rfl
  · go_enter Tryz.func85, Tryz.ntmps85
    go_wp2_with fail
    go_ret2
    exact ⟨_, _, _, _, rfl, (own_strs w [⟨#[120]⟩] rfl (Nat.le_refl _) (by decide)).rd.keep ((Bl.refl _).alloc _), (own_strs (base := w.heap.size + 1) (g := w.heap.size + 1) (w.alloc _) [⟨#[121]⟩] (by simp) (Nat.le_refl _) (by decide)).rd, ((Bl.refl _).alloc _).alloc _⟩
  · go_enter Tryz.func85, Tryz.ntmps85
    go_wp2_with fail
    go_ret2
    exact ⟨_, _, _, _, rfl, (own_strs w [⟨#[120]⟩] rfl (Nat.le_refl _) (by decide)).rd.keep ((Bl.refl _).alloc _), (own_strs (base := w.heap.size + 1) (g := w.heap.size + 1) (w.alloc _) [⟨#[121]⟩] (by simp) (Nat.le_refl _) (by decide)).rd, ((Bl.refl _).alloc _).alloc _⟩
  · go_enter Tryz.func85, Tryz.ntmps85
    go_wp2_with fail
    go_ret2
    exact ⟨_, _, _, _, rfl, (own_strs w [⟨#[120]⟩] rfl (Nat.le_refl _) (by decide)).rd.keep ((Bl.refl _).alloc _), (own_strs (base := w.heap.size + 1) (g := w.heap.size + 1) (w.alloc _) [⟨#[121]⟩] (by simp) (Nat.le_refl _) (by decide)).rd, ((Bl.refl _).alloc _).alloc _⟩
  · go_enter Tryz.func85, Tryz.ntmps85
    go_wp2_with fail
    go_ret2
    exact ⟨_, _, _, _, rfl, (own_strs w [⟨#[120]⟩] rfl (Nat.le_refl _) (by decide)).rd.keep ((Bl.refl _).alloc _), (own_strs (base := w.heap.size + 1) (g := w.heap.size + 1) (w.alloc _) [⟨#[121]⟩] (by simp) (Nat.le_refl _) (by decide)).rd, ((Bl.refl _).alloc _).alloc _⟩
  · go_enter Tryz.func85, Tryz.ntmps85
    go_wp2_with fail
    go_ret2
    exact ⟨_, _, _, _, rfl, (own_strs w [⟨#[120]⟩] rfl (Nat.le_refl _) (by decide)).rd.keep ((Bl.refl _).alloc _), (own_strs (base := w.heap.size + 1) (g := w.heap.size + 1) (w.alloc _) [⟨#[121]⟩] (by simp) (Nat.le_refl _) (by decide)).rd, ((Bl.refl _).alloc _).alloc _⟩
  · go_enter Tryz.func85, Tryz.ntmps85
    go_wp2_with fail
    go_ret2
    exact ⟨_, _, _, _, rfl, (own_strs w [⟨#[120]⟩, ⟨#[121]⟩] rfl (Nat.le_refl _) (by decide)).rd.keep ((Bl.refl _).alloc _), (own_strs (base := w.heap.size + 1) (g := w.heap.size + 1) (w.alloc _) [⟨#[117]⟩] (by simp) (Nat.le_refl _) (by decide)).rd, ((Bl.refl _).alloc _).alloc _⟩
  · go_enter Tryz.func85, Tryz.ntmps85
    go_wp2_with fail
    go_ret2
    exact ⟨_, _, _, _, rfl, (own_strs w [⟨#[120]⟩] rfl (Nat.le_refl _) (by decide)).rd.keep ((Bl.refl _).alloc _), (own_strs (base := w.heap.size + 1) (g := w.heap.size + 1) (w.alloc _) [⟨#[121]⟩] (by simp) (Nat.le_refl _) (by decide)).rd, ((Bl.refl _).alloc _).alloc _⟩
  · go_enter Tryz.func85, Tryz.ntmps85
    go_wp2_with fail
    go_ret2
    exact ⟨_, _, _, _, rfl, (own_strs w [⟨#[120]⟩] rfl (Nat.le_refl _) (by decide)).rd.keep ((Bl.refl _).alloc _), (own_strs (base := w.heap.size + 1) (g := w.heap.size + 1) (w.alloc _) [⟨#[121]⟩] (by simp) (Nat.le_refl _) (by decide)).rd, ((Bl.refl _).alloc _).alloc _⟩
  · go_enter Tryz.func85, Tryz.ntmps85
    go_wp2_with fail
    go_ret2
    exact ⟨_, _, _, _, rfl, (own_strs w [⟨#[120]⟩, ⟨#[121]⟩] rfl (Nat.le_refl _) (by decide)).rd.keep ((Bl.refl _).alloc _), (own_strs (base := w.heap.size + 1) (g := w.heap.size + 1) (w.alloc _) [⟨#[117]⟩] (by simp) (Nat.le_refl _) (by decide)).rd, ((Bl.refl _).alloc _).alloc _⟩
  · go_enter Tryz.func85, Tryz.ntmps85
    go_wp2_with fail
    go_ret2
    exact ⟨_, _, _, _, rfl, (own_strs w [⟨#[120]⟩] rfl (Nat.le_refl _) (by decide)).rd.keep ((Bl.refl _).alloc _), (own_strs (base := w.heap.size + 1) (g := w.heap.size + 1) (w.alloc _) [⟨#[121]⟩] (by simp) (Nat.le_refl _) (by decide)).rd, ((Bl.refl _).alloc _).alloc _⟩
  · go_enter Tryz.func85, Tryz.ntmps85
    go_wp2_with fail
    go_ret2
    exact ⟨_, _, _, _, rfl, (own_strs w [⟨#[120]⟩, ⟨#[121]⟩] rfl (Nat.le_refl _) (by decide)).rd.keep ((Bl.refl _).alloc _), (own_strs (base := w.heap.size + 1) (g := w.heap.size + 1) (w.alloc _) [⟨#[115]⟩] (by simp) (Nat.le_refl _) (by decide)).rd, ((Bl.refl _).alloc _).alloc _⟩
  · go_enter Tryz.func85, Tryz.ntmps85
    go_wp2_with fail
    go_ret2
    exact ⟨_, _, _, _, rfl, (own_strs w [⟨#[120]⟩] rfl (Nat.le_refl _) (by decide)).rd.keep ((Bl.refl _).alloc _), (own_strs (base := w.heap.size + 1) (g := w.heap.size + 1) (w.alloc _) [⟨#[115]⟩] (by simp) (Nat.le_refl _) (by decide)).rd, ((Bl.refl _).alloc _).alloc _⟩
set_option maxHeartbeats 4000000 in
theorem spec_pgLines (k : Nat) (hk : k < 12) (w : World) :
    Calls Tryz.prog 86 #[.int .i64 (k : Nat)] w fun e w' => ∃ g n, e = .returned (.slice (some ⟨g, 0, none⟩) n n) ∧ RdS w' (some ⟨g, 0, none⟩) n n (pgTx k) ∧ Bl w w' := by
  rcases (by omega : k = 0 ∨ k = 1 ∨ k = 2 ∨ k = 3 ∨ k = 4 ∨ k = 5 ∨ k = 6 ∨ k = 7 ∨ k = 8 ∨ k = 9 ∨ k = 10 ∨ k = 11) with rfl | rfl | rfl | rfl | rfl | rfl | rfl | rfl | rfl | rfl | rfl | rfl
  · go_enter Tryz.func86, Tryz.ntmps86
    go_wp2_with fail
    go_ret
    refine ⟨_, _, rfl, RdS.keep ?_ (((((((((((((Bl.refl _).alloc _).alloc _).alloc _).alloc _).alloc _).alloc _).alloc _).alloc _).alloc _).alloc _).alloc _).alloc _), (((((((((((((Bl.refl _).alloc _).alloc _).alloc _).alloc _).alloc _).alloc _).alloc _).alloc _).alloc _).alloc _).alloc _).alloc _).alloc _⟩
    exact (own_strs (base := 0) _ [⟨#[108, 101, 116, 32, 114, 32, 121, 32, 60, 32, 120]⟩, ⟨#[111, 117, 116, 32, 114]⟩] (by simp) (Nat.zero_le _) (by decide)).rd
  · go_enter Tryz.func86, Tryz.ntmps86
    go_wp2_with fail
    go_ret
    refine ⟨_, _, rfl, RdS.keep ?_ ((((((((((((Bl.refl _).alloc _).alloc _).alloc _).alloc _).alloc _).alloc _).alloc _).alloc _).alloc _).alloc _).alloc _), (((((((((((((Bl.refl _).alloc _).alloc _).alloc _).alloc _).alloc _).alloc _).alloc _).alloc _).alloc _).alloc _).alloc _).alloc _).alloc _⟩
    exact (own_strs (base := 0) _ [⟨#[108, 101, 116, 32, 114, 32, 120, 32, 61, 32, 121]⟩, ⟨#[111, 117, 116, 32, 114]⟩] (by simp) (Nat.zero_le _) (by decide)).rd
  · go_enter Tryz.func86, Tryz.ntmps86
    go_wp2_with fail
    go_ret
    refine ⟨_, _, rfl, RdS.keep ?_ (((((((((((Bl.refl _).alloc _).alloc _).alloc _).alloc _).alloc _).alloc _).alloc _).alloc _).alloc _).alloc _), (((((((((((((Bl.refl _).alloc _).alloc _).alloc _).alloc _).alloc _).alloc _).alloc _).alloc _).alloc _).alloc _).alloc _).alloc _).alloc _⟩
    exact (own_strs (base := 0) _ [⟨#[108, 101, 116, 32, 115, 32, 120, 32, 60, 32, 121]⟩, ⟨#[112, 105, 99, 107, 32, 114, 32, 115, 32, 121, 32, 120]⟩, ⟨#[111, 117, 116, 32, 114]⟩] (by simp) (Nat.zero_le _) (by decide)).rd
  · go_enter Tryz.func86, Tryz.ntmps86
    go_wp2_with fail
    go_ret
    refine ⟨_, _, rfl, RdS.keep ?_ ((((((((((Bl.refl _).alloc _).alloc _).alloc _).alloc _).alloc _).alloc _).alloc _).alloc _).alloc _), (((((((((((((Bl.refl _).alloc _).alloc _).alloc _).alloc _).alloc _).alloc _).alloc _).alloc _).alloc _).alloc _).alloc _).alloc _).alloc _⟩
    exact (own_strs (base := 0) _ [⟨#[108, 101, 116, 32, 115, 32, 120, 32, 60, 32, 121]⟩, ⟨#[112, 105, 99, 107, 32, 114, 32, 115, 32, 120, 32, 121]⟩, ⟨#[111, 117, 116, 32, 114]⟩] (by simp) (Nat.zero_le _) (by decide)).rd
  · go_enter Tryz.func86, Tryz.ntmps86
    go_wp2_with fail
    go_ret
    refine ⟨_, _, rfl, RdS.keep ?_ (((((((((Bl.refl _).alloc _).alloc _).alloc _).alloc _).alloc _).alloc _).alloc _).alloc _), (((((((((((((Bl.refl _).alloc _).alloc _).alloc _).alloc _).alloc _).alloc _).alloc _).alloc _).alloc _).alloc _).alloc _).alloc _).alloc _⟩
    exact (own_strs (base := 0) _ [⟨#[108, 101, 116, 32, 115, 32, 120, 32, 60, 32, 121]⟩, ⟨#[108, 101, 116, 32, 100, 32, 120, 32, 45, 32, 121]⟩, ⟨#[108, 101, 116, 32, 101, 32, 121, 32, 45, 32, 120]⟩, ⟨#[112, 105, 99, 107, 32, 114, 32, 115, 32, 101, 32, 100]⟩, ⟨#[111, 117, 116, 32, 114]⟩] (by simp) (Nat.zero_le _) (by decide)).rd
  · go_enter Tryz.func86, Tryz.ntmps86
    go_wp2_with fail
    go_ret
    refine ⟨_, _, rfl, RdS.keep ?_ ((((((((Bl.refl _).alloc _).alloc _).alloc _).alloc _).alloc _).alloc _).alloc _), (((((((((((((Bl.refl _).alloc _).alloc _).alloc _).alloc _).alloc _).alloc _).alloc _).alloc _).alloc _).alloc _).alloc _).alloc _).alloc _⟩
    exact (own_strs (base := 0) _ [⟨#[108, 101, 116, 32, 97, 32, 120, 32, 60, 32, 121]⟩, ⟨#[112, 105, 99, 107, 32, 108, 111, 32, 97, 32, 120, 32, 121]⟩, ⟨#[112, 105, 99, 107, 32, 104, 105, 32, 97, 32, 121, 32, 120]⟩, ⟨#[108, 101, 116, 32, 98, 32, 117, 32, 60, 32, 108, 111]⟩, ⟨#[108, 101, 116, 32, 99, 32, 104, 105, 32, 60, 32, 117]⟩, ⟨#[112, 105, 99, 107, 32, 100, 32, 99, 32, 104, 105, 32, 117]⟩, ⟨#[112, 105, 99, 107, 32, 114, 32, 98, 32, 108, 111, 32, 100]⟩, ⟨#[111, 117, 116, 32, 114]⟩] (by simp) (Nat.zero_le _) (by decide)).rd
  · go_enter Tryz.func86, Tryz.ntmps86
    go_wp2_with fail
    go_ret
    refine ⟨_, _, rfl, RdS.keep ?_ (((((((Bl.refl _).alloc _).alloc _).alloc _).alloc _).alloc _).alloc _), (((((((((((((Bl.refl _).alloc _).alloc _).alloc _).alloc _).alloc _).alloc _).alloc _).alloc _).alloc _).alloc _).alloc _).alloc _).alloc _⟩
    exact (own_strs (base := 0) _ [⟨#[108, 101, 116, 32, 114, 32, 120, 32, 38, 32, 121]⟩, ⟨#[99, 111, 110, 115, 116, 32, 122, 101, 114, 111, 32, 87, 32, 48]⟩, ⟨#[108, 101, 116, 32, 110, 32, 114, 32, 61, 32, 122, 101, 114, 111]⟩, ⟨#[110, 111, 116, 32, 115, 111, 109, 101, 32, 110]⟩, ⟨#[111, 117, 116, 32, 114]⟩, ⟨#[111, 117, 116, 32, 115, 111, 109, 101]⟩] (by simp) (Nat.zero_le _) (by decide)).rd
  · go_enter Tryz.func86, Tryz.ntmps86
    go_wp2_with fail
    go_ret
    refine ⟨_, _, rfl, RdS.keep ?_ ((((((Bl.refl _).alloc _).alloc _).alloc _).alloc _).alloc _), (((((((((((((Bl.refl _).alloc _).alloc _).alloc _).alloc _).alloc _).alloc _).alloc _).alloc _).alloc _).alloc _).alloc _).alloc _).alloc _⟩
    exact (own_strs (base := 0) _ [⟨#[108, 101, 116, 32, 115, 32, 120, 32, 60, 32, 121]⟩, ⟨#[112, 105, 99, 107, 32, 114, 32, 115, 32, 120, 32, 121]⟩, ⟨#[111, 117, 116, 32, 115]⟩, ⟨#[111, 117, 116, 32, 114]⟩] (by simp) (Nat.zero_le _) (by decide)).rd
  · go_enter Tryz.func86, Tryz.ntmps86
    go_wp2_with fail
    go_ret
    refine ⟨_, _, rfl, RdS.keep ?_ (((((Bl.refl _).alloc _).alloc _).alloc _).alloc _), (((((((((((((Bl.refl _).alloc _).alloc _).alloc _).alloc _).alloc _).alloc _).alloc _).alloc _).alloc _).alloc _).alloc _).alloc _).alloc _⟩
    exact (own_strs (base := 0) _ [⟨#[108, 101, 116, 32, 97, 32, 120, 32, 38, 32, 121]⟩, ⟨#[108, 101, 116, 32, 98, 32, 120, 32, 38, 32, 117]⟩, ⟨#[108, 101, 116, 32, 99, 32, 121, 32, 38, 32, 117]⟩, ⟨#[108, 101, 116, 32, 100, 32, 97, 32, 124, 32, 98]⟩, ⟨#[108, 101, 116, 32, 114, 32, 100, 32, 124, 32, 99]⟩, ⟨#[111, 117, 116, 32, 114]⟩] (by simp) (Nat.zero_le _) (by decide)).rd
  · go_enter Tryz.func86, Tryz.ntmps86
    go_wp2_with fail
    go_ret
    refine ⟨_, _, rfl, RdS.keep ?_ ((((Bl.refl _).alloc _).alloc _).alloc _), (((((((((((((Bl.refl _).alloc _).alloc _).alloc _).alloc _).alloc _).alloc _).alloc _).alloc _).alloc _).alloc _).alloc _).alloc _).alloc _⟩
    exact (own_strs (base := 0) _ [⟨#[108, 101, 116, 32, 114, 32, 120, 32, 42, 32, 121]⟩, ⟨#[111, 117, 116, 32, 114]⟩] (by simp) (Nat.zero_le _) (by decide)).rd
  · go_enter Tryz.func86, Tryz.ntmps86
    go_wp2_with fail
    go_ret
    refine ⟨_, _, rfl, RdS.keep ?_ (((Bl.refl _).alloc _).alloc _), (((((((((((((Bl.refl _).alloc _).alloc _).alloc _).alloc _).alloc _).alloc _).alloc _).alloc _).alloc _).alloc _).alloc _).alloc _).alloc _⟩
    exact (own_strs (base := 0) _ [⟨#[112, 105, 99, 107, 32, 97, 32, 115, 32, 121, 32, 120]⟩, ⟨#[112, 105, 99, 107, 32, 98, 32, 115, 32, 120, 32, 121]⟩, ⟨#[111, 117, 116, 32, 97]⟩, ⟨#[111, 117, 116, 32, 98]⟩] (by simp) (Nat.zero_le _) (by decide)).rd
  · go_enter Tryz.func86, Tryz.ntmps86
    go_wp2_with fail
    go_ret
    refine ⟨_, _, rfl, RdS.keep ?_ ((Bl.refl _).alloc _), (((((((((((((Bl.refl _).alloc _).alloc _).alloc _).alloc _).alloc _).alloc _).alloc _).alloc _).alloc _).alloc _).alloc _).alloc _).alloc _⟩
    exact (own_strs (base := 0) _ [⟨#[99, 111, 110, 115, 116, 32, 122, 101, 114, 111, 32, 87, 32, 48]⟩, ⟨#[99, 111, 110, 115, 116, 32, 111, 110, 101, 32, 87, 32, 49]⟩, ⟨#[112, 105, 99, 107, 32, 100, 32, 115, 32, 111, 110, 101, 32, 122, 101, 114, 111]⟩, ⟨#[108, 101, 116, 32, 114, 32, 120, 32, 43, 32, 100]⟩, ⟨#[111, 117, 116, 32, 114]⟩] (by simp) (Nat.zero_le _) (by decide)).rd
set_option maxRecDepth 20000 in
set_option maxHeartbeats 4000000 in
theorem spec_pgFor (k : Nat) (hk : k < 12) (wd : Int) (hwd : inR wd 1 4 = true) (w : World) :
    Calls Tryz.prog 39 #[.int .i64 (k : Nat), .int .i64 wd] w fun e w' => ∃ A n c l, e = .returned (.slice A n c) ∧ RdL w' A n c l ∧ l.map (·.2) = pgL k wd ∧ Bl w w' := by
  obtain ⟨⟨p1, p2, p3⟩, p4, p5, p6, p7⟩ := pgOk_at hk hwd
  have HP := Lib.hid p4
  have HP5 := Lib.hid p5
  have HP6 := Lib.hid p6
  have HP7 := Lib.hid p7
  have hw1 := inR_iff.1 hwd
  obtain ⟨⟨a1, a2, a3⟩, a4, a5⟩ := pgTx_small k hk
  have HN := Lib.hid (show ∀ t ∈ inA k ++ inB k, t.size ≤ 10 from fun t ht => of_decide_eq_true (List.all_eq_true.1 a3 t ht))
  have HX := Lib.hid (show ∀ t ∈ pgTx k, t.size ≤ 60 ∧ (spS 32 t).length ≤ 10 ∧ 0 < (spS 32 t).length ∧ ∀ u ∈ spS 32 t, u.size ≤ 10 from fun t ht => by
    have := List.all_eq_true.1 a5 t ht
    simp only [Bool.and_eq_true, decide_eq_true_eq, List.all_eq_true] at this
    exact ⟨this.1.1.1, this.1.1.2, this.1.2, this.2⟩)
  clear p4 p5 p6 p7 a3 a5
  obtain ⟨T0, hT0⟩ : ∃ T, txI k wd 0 ⟨#[]⟩ (inA k) = T := ⟨_, rfl⟩
  obtain ⟨T1, hT1⟩ : ∃ T, txI k wd 1 T0 (inB k) = T := ⟨_, rfl⟩
  obtain ⟨T2, hT2⟩ : ∃ T, txN wd T1 (pgTx k) = T := ⟨_, rfl⟩
  have hT : pgT k wd = T2 := by unfold pgT; rw [hT0, hT1, hT2]
  rw [hT] at p1 p2 p3 HP HP6 HP7
  have H0 := Lib.hid hT0
  have H1 := Lib.hid hT1
  have H2 := Lib.hid hT2
  clear hT0 hT1 hT2 hT
  go_enter Tryz.func39, Tryz.ntmps39
  go_wp2_with fail
  refine (spec_pgInputs k hk _).mono ?_
  rintro e w1 ⟨g1, n1, g2, n2, rfl, hr1, hr2, hb1⟩
  rw [hr1.length] at a1
  rw [hr2.length] at a2
  obtain ⟨P0, hP0⟩ : ∃ P, dg 0 = P := ⟨_, rfl⟩
  obtain ⟨P1, hP1⟩ : ∃ P, dg 1 = P := ⟨_, rfl⟩
  obtain ⟨PW, hPW⟩ : ∃ P, dg wd = P := ⟨_, rfl⟩
  have z0 : P0.size = 1 := by rw [← hP0]; rfl
  have z1 : P1.size = 1 := by rw [← hP1]; rfl
  have zw : PW.size = 1 := by rw [← hPW]; rfl
  have zl : (⟨#[105, 110, 112, 117, 116, 32]⟩ : ByteArray).size = 6 := rfl
  have HP0 := Lib.hid hP0
  have HP1 := Lib.hid hP1
  have HPW := Lib.hid hPW
  clear hP0 hP1 hPW
  have HL1 := Lib.hid hr1.length
  have HL2 := Lib.hid hr2.length
  have hX := Blk.new w1 65 #[.slice (some ⟨g1, 0, none⟩) n1 n1, .slice (some ⟨g2, 0, none⟩) n2 n2] (g := w1.heap.size)
  have hW := hb1.alloc (.cells #[.slice (some ⟨g1, 0, none⟩) n1 n1, .slice (some ⟨g2, 0, none⟩) n2 n2] 65)
  replace hr1 := hr1.keep ((Bl.refl _).alloc (.cells #[.slice (some ⟨g1, 0, none⟩) n1 n1, .slice (some ⟨g2, 0, none⟩) n2 n2] 65))
  replace hr2 := hr2.keep ((Bl.refl _).alloc (.cells #[.slice (some ⟨g1, 0, none⟩) n1 n1, .slice (some ⟨g2, 0, none⟩) n2 n2] 65))
  go_wp2_with fail
  generalize w1.alloc (.cells #[.slice (some ⟨g1, 0, none⟩) n1 n1, .slice (some ⟨g2, 0, none⟩) n2 n2] 65) = u0 at hX hW hr1 hr2 ⊢
  generalize w1.heap.size = b5 at hX ⊢
  go_loopw [7, 28] (fun o i wr => ((i = .int .i64 0 ∧ o = .string ⟨#[]⟩) ∨ (i = .int .i64 1 ∧ o = .string T0 ∧ T0.size ≤ 200) ∨ (i = .int .i64 2 ∧ o = .string T1 ∧ T1.size ≤ 400)) ∧ Bl u0 wr) (fun _ i _ => 2 - (intOf i).toNat)
  case atStart => exact ⟨.inl ⟨rfl, rfl⟩, Bl.refl _⟩
  case round =>
    obtain ⟨⟨rfl, rfl⟩ | ⟨rfl, rfl, hz⟩ | ⟨rfl, rfl, hz⟩, hB⟩ := hrel
    · have hX_l := Nat.lt_of_lt_of_le hX.lt hB.sz
      have q0 := Bl.cells hB (hX.cell 0 _ rfl)
      have hze : (⟨#[]⟩ : ByteArray).size = 0 := rfl
      go_wp2_with fail
      go_loopw [7, 35] (fun o i wr => ∃ (j : Nat) (s : ByteArray), j ≤ n1 ∧ i = .int .i64 (j : Nat) ∧ o = .string s ∧ Hid (txI k wd 0 s ((inA k).drop j) = T0) ∧ s.size ≤ 0 + 50 * j ∧ Bl u0 wr) (fun _ i _ => n1 - (intOf i).toNat)
      case atStart => exact ⟨0, ⟨#[]⟩, by omega, rfl, rfl, Lib.hid H0.out, by omega, hB⟩
      case round =>
        clear hB
        obtain ⟨j, s, hj, rfl, rfl, HS, hsz, hB⟩ := hrel
        by_cases hlt : j < n1
        · obtain ⟨t, hgt, hx0, hc⟩ := (RdS.keep hr1 hB).at0_ hlt
          have hts := HN.out t (by have := List.mem_of_getElem? hx0; simp [this])
          have HT := Lib.hid (txI_step hx0 HS.out)
          clear hx0
          have j1 : (j : Int) < n1 := by omega
          have HSZ := Lib.hid (txI_size s t 0 (wdI k wd t))
          by_cases h8 : (k : Int) = 8
          · have HW := Lib.hid (show wdI k wd t = 1 by unfold wdI; rw [if_pos (.inl (by omega))])
            rw [HW.out, HP0.out, HP1.out] at HSZ
            have e8 : ((k : Int) == 8) = true := by simpa using h8
            clear h8
            rw [HW.out, HP0.out, HP1.out] at HT
            go_wp2_with fail
            refine (spec_l1Num 0 (by omega) (by omega) _).mono ?_
            rintro e v1 ⟨rfl, hv1⟩
            rw [HP0.out]
            go_wp2_with fail
            refine (spec_l1Num 1 (by omega) (by omega) _).mono ?_
            rintro e v2 ⟨rfl, hv2⟩
            rw [HP1.out]
            go_wp2_with fail
            go_roundw
            case rel => exact ⟨j + 1, _, by omega, by go_num, rfl, HT, by have := HSZ.out; omega, (hB.call hv1).call hv2⟩
            case measure => simp [intOf]; omega
          · have e8 : ((k : Int) == 8) = false := by simpa using h8
            by_cases hs : t = ⟨#[115]⟩
            · have HW := Lib.hid (show wdI k wd t = 1 by unfold wdI; rw [if_pos (.inr hs)])
              rw [HW.out, HP0.out, HP1.out] at HSZ
              have hsb : (t.toList == (⟨#[115]⟩ : ByteArray).toList) = true := by rw [sb_eq]; simpa using hs
              have hsc : (t.toList == [115]) = true := by rw [show ([115] : List UInt8) = (⟨#[115]⟩ : ByteArray).toList from by decide +kernel]; exact hsb
              clear hs h8
              rw [HW.out, HP0.out, HP1.out] at HT
              go_wp2_with fail
              refine (spec_l1Num 0 (by omega) (by omega) _).mono ?_
              rintro e v1 ⟨rfl, hv1⟩
              rw [HP0.out]
              go_wp2_with fail
              refine (spec_l1Num 1 (by omega) (by omega) _).mono ?_
              rintro e v2 ⟨rfl, hv2⟩
              rw [HP1.out]
              go_wp2_with fail
              go_roundw
              case rel => exact ⟨j + 1, _, by omega, by go_num, rfl, HT, by have := HSZ.out; omega, (hB.call hv1).call hv2⟩
              case measure => simp [intOf]; omega
            · have HW := Lib.hid (show wdI k wd t = wd by unfold wdI; rw [if_neg (fun e => e.elim (fun e => h8 (by omega)) hs)])
              rw [HW.out, HP0.out, HPW.out] at HSZ
              have hsb : (t.toList == (⟨#[115]⟩ : ByteArray).toList) = false := by rw [sb_eq]; simpa using hs
              have hsc : (t.toList == [115]) = false := by rw [show ([115] : List UInt8) = (⟨#[115]⟩ : ByteArray).toList from by decide +kernel]; exact hsb
              clear hs h8
              rw [HW.out, HP0.out, HPW.out] at HT
              go_wp2_with fail
              refine (spec_l1Num 0 (by omega) (by omega) _).mono ?_
              rintro e v1 ⟨rfl, hv1⟩
              rw [HP0.out]
              go_wp2_with fail
              refine (spec_l1Num wd (by omega) (by omega) _).mono ?_
              rintro e v2 ⟨rfl, hv2⟩
              rw [HPW.out]
              go_wp2_with fail
              go_roundw
              case rel => exact ⟨j + 1, _, by omega, by go_num, rfl, HT, by have := HSZ.out; omega, (hB.call hv1).call hv2⟩
              case measure => simp [intOf]; omega
        · obtain rfl : j = n1 := by omega
          have HE := Lib.hid (show s = T0 by have e := HS.out; rw [List.drop_eq_nil_of_le (by rw [HL1.out]; exact Nat.le_refl _)] at e; exact e)
          have j1 : ¬ (j : Int) < j := by omega
          have hzz : s.size ≤ 0 + 100 := by omega
          rw [HE.out] at hzz
          rw [HE.out]
          clear HS HE hsz
          go_wp2_with fail
          go_roundw
          case rel => exact ⟨.inr (.inl ⟨rfl, rfl, by omega⟩), hB⟩
          case measure => simp [intOf]
    · have hX_l := Nat.lt_of_lt_of_le hX.lt hB.sz
      have q1 := Bl.cells hB (hX.cell 1 _ rfl)
      go_wp2_with fail
      go_loopw [7, 35] (fun o i wr => ∃ (j : Nat) (s : ByteArray), j ≤ n2 ∧ i = .int .i64 (j : Nat) ∧ o = .string s ∧ Hid (txI k wd 1 s ((inB k).drop j) = T1) ∧ s.size ≤ 200 + 50 * j ∧ Bl u0 wr) (fun _ i _ => n2 - (intOf i).toNat)
      case atStart => exact ⟨0, T0, by omega, rfl, rfl, Lib.hid H1.out, by omega, hB⟩
      case round =>
        clear hB
        obtain ⟨j, s, hj, rfl, rfl, HS, hsz, hB⟩ := hrel
        by_cases hlt : j < n2
        · obtain ⟨t, hgt, hx0, hc⟩ := (RdS.keep hr2 hB).at0_ hlt
          have hts := HN.out t (by have := List.mem_of_getElem? hx0; simp [this])
          have HT := Lib.hid (txI_step hx0 HS.out)
          clear hx0
          have j1 : (j : Int) < n2 := by omega
          have HSZ := Lib.hid (txI_size s t 1 (wdI k wd t))
          by_cases h8 : (k : Int) = 8
          · have HW := Lib.hid (show wdI k wd t = 1 by unfold wdI; rw [if_pos (.inl (by omega))])
            rw [HW.out, HP1.out] at HSZ
            have e8 : ((k : Int) == 8) = true := by simpa using h8
            clear h8
            rw [HW.out, HP1.out] at HT
            go_wp2_with fail
            refine (spec_l1Num 1 (by omega) (by omega) _).mono ?_
            rintro e v1 ⟨rfl, hv1⟩
            rw [HP1.out]
            go_wp2_with fail
            refine (spec_l1Num 1 (by omega) (by omega) _).mono ?_
            rintro e v2 ⟨rfl, hv2⟩
            rw [HP1.out]
            go_wp2_with fail
            go_roundw
            case rel => exact ⟨j + 1, _, by omega, by go_num, rfl, HT, by have := HSZ.out; omega, (hB.call hv1).call hv2⟩
            case measure => simp [intOf]; omega
          · have e8 : ((k : Int) == 8) = false := by simpa using h8
            by_cases hs : t = ⟨#[115]⟩
            · have HW := Lib.hid (show wdI k wd t = 1 by unfold wdI; rw [if_pos (.inr hs)])
              rw [HW.out, HP1.out] at HSZ
              have hsb : (t.toList == (⟨#[115]⟩ : ByteArray).toList) = true := by rw [sb_eq]; simpa using hs
              have hsc : (t.toList == [115]) = true := by rw [show ([115] : List UInt8) = (⟨#[115]⟩ : ByteArray).toList from by decide +kernel]; exact hsb
              clear hs h8
              rw [HW.out, HP1.out] at HT
              go_wp2_with fail
              refine (spec_l1Num 1 (by omega) (by omega) _).mono ?_
              rintro e v1 ⟨rfl, hv1⟩
              rw [HP1.out]
              go_wp2_with fail
              refine (spec_l1Num 1 (by omega) (by omega) _).mono ?_
              rintro e v2 ⟨rfl, hv2⟩
              rw [HP1.out]
              go_wp2_with fail
              go_roundw
              case rel => exact ⟨j + 1, _, by omega, by go_num, rfl, HT, by have := HSZ.out; omega, (hB.call hv1).call hv2⟩
              case measure => simp [intOf]; omega
            · have HW := Lib.hid (show wdI k wd t = wd by unfold wdI; rw [if_neg (fun e => e.elim (fun e => h8 (by omega)) hs)])
              rw [HW.out, HP1.out, HPW.out] at HSZ
              have hsb : (t.toList == (⟨#[115]⟩ : ByteArray).toList) = false := by rw [sb_eq]; simpa using hs
              have hsc : (t.toList == [115]) = false := by rw [show ([115] : List UInt8) = (⟨#[115]⟩ : ByteArray).toList from by decide +kernel]; exact hsb
              clear hs h8
              rw [HW.out, HP1.out, HPW.out] at HT
              go_wp2_with fail
              refine (spec_l1Num 1 (by omega) (by omega) _).mono ?_
              rintro e v1 ⟨rfl, hv1⟩
              rw [HP1.out]
              go_wp2_with fail
              refine (spec_l1Num wd (by omega) (by omega) _).mono ?_
              rintro e v2 ⟨rfl, hv2⟩
              rw [HPW.out]
              go_wp2_with fail
              go_roundw
              case rel => exact ⟨j + 1, _, by omega, by go_num, rfl, HT, by have := HSZ.out; omega, (hB.call hv1).call hv2⟩
              case measure => simp [intOf]; omega
        · obtain rfl : j = n2 := by omega
          have HE := Lib.hid (show s = T1 by have e := HS.out; rw [List.drop_eq_nil_of_le (by rw [HL2.out]; exact Nat.le_refl _)] at e; exact e)
          have j1 : ¬ (j : Int) < j := by omega
          have hzz : s.size ≤ 200 + 100 := by omega
          rw [HE.out] at hzz
          rw [HE.out]
          clear HS HE hsz
          go_wp2_with fail
          go_roundw
          case rel => exact ⟨.inr (.inr ⟨rfl, rfl, by omega⟩), hB⟩
          case measure => simp [intOf]
    · go_wp2_with fail
      refine (spec_pgLines k hk _).mono ?_
      rintro e w5 ⟨g5, n5, rfl, hr5, hb5⟩
      have HL5 := Lib.hid hr5.length
      rw [hr5.length] at a4
      have hB5 := hW.call (hB.call hb5)
      clear hB hr1 hr2 hX
      go_wp2_with fail
      go_loopw [7, 64] (fun o i wr => ∃ (j : Nat) (s : ByteArray), j ≤ n5 ∧ i = .int .i64 (j : Nat) ∧ o = .string s ∧ Hid (txN wd s ((pgTx k).drop j) = T2) ∧ s.size ≤ 400 + 200 * j ∧ Bl w5 wr) (fun _ i _ => n5 - (intOf i).toNat)
      case atStart => exact ⟨0, T1, by omega, rfl, rfl, Lib.hid H2.out, by omega, Bl.refl _⟩
      case round =>
        clear hz
        obtain ⟨j, s, hj, rfl, rfl, HS, hsz, hB⟩ := hrel
        by_cases hlt : j < n5
        · obtain ⟨t, hgt, hx0, hc⟩ := (RdS.keep hr5 hB).at0_ hlt
          obtain ⟨t1, t2, t3, t4⟩ := HX.out t (List.mem_of_getElem? hx0)
          have HT := Lib.hid (txN_step hx0 HS.out)
          clear hx0
          have j1 : (j : Int) < n5 := by omega
          go_wp2_with fail
          refine (spec_l1Split 32 32 rfl t _ (by omega)).mono ?_
          rintro e v6 ⟨g6, n6, c6, rfl, hg6, hr6, hb6⟩
          rw [hr6.length] at t2 t3
          obtain ⟨Q, hQ⟩ : ∃ Q, txW wd s (spS 32 t) = Q := ⟨_, rfl⟩
          rw [hQ] at HT
          have HQ := Lib.hid hQ
          clear hQ
          have H4 := Lib.hid t4
          clear t4
          generalize spS 32 t = WS at HQ hr6 H4
          have HL6 := Lib.hid hr6.length
          have hle6 := hr6.le
          go_wp2_with fail
          go_loopw [7, 71] (fun o i wr => ∃ (q : Nat) (u : ByteArray), q ≤ n6 ∧ i = .int .i64 (q : Nat) ∧ o = .string u ∧ Hid (txW wd u (WS.drop q) = Q) ∧ u.size ≤ s.size + 12 * q ∧ q ≤ u.size ∧ Bl v6 wr) (fun _ i _ => n6 - (intOf i).toNat)
          case atStart => exact ⟨0, s, by omega, rfl, rfl, Lib.hid HQ.out, by omega, by omega, Bl.refl _⟩
          case round =>
            obtain ⟨q, u, hq, rfl, rfl, HU, hu1, hu2, hB6⟩ := hrel
            by_cases hlt2 : q < n6
            · obtain ⟨x, hgx, hx0, hcx⟩ := (RdS.keep hr6 hB6).at0_ hlt2
              have hxs := H4.out x (List.mem_of_getElem? hx0)
              have HT2 := Lib.hid (txW_step hx0 HU.out)
              clear hx0
              have j2 : (q : Int) < n6 := by omega
              by_cases hw : x = ⟨#[87]⟩
              · have HW := Lib.hid (show wdW wd x = PW by unfold wdW; rw [if_pos hw, HPW.out])
                have HSZ := Lib.hid (show (u ++ (PW ++ (⟨#[32]⟩ : ByteArray))).size = u.size + 2 by rw [ByteArray.size_append, ByteArray.size_append, zw]; rfl)
                rw [HW.out] at HT2
                have hsb : (x.toList == (⟨#[87]⟩ : ByteArray).toList) = true := by rw [sb_eq]; simpa using hw
                have hsc : (x.toList == [87]) = true := by rw [show ([87] : List UInt8) = (⟨#[87]⟩ : ByteArray).toList from by decide +kernel]; exact hsb
                clear hw
                go_wp2_with fail
                refine (spec_l1Num wd (by omega) (by omega) _).mono ?_
                rintro e v7 ⟨rfl, hv7⟩
                rw [HPW.out]
                go_wp2_with fail
                go_roundw
                case rel => exact ⟨q + 1, _, by omega, by go_num, rfl, HT2, by have := HSZ.out; omega, by have := HSZ.out; omega, hB6.call hv7⟩
                case measure => simp [intOf]; omega
              · have HW := Lib.hid (show wdW wd x = x by unfold wdW; rw [if_neg hw])
                have HSZ := Lib.hid (show (u ++ (x ++ (⟨#[32]⟩ : ByteArray))).size = u.size + (x.size + 1) by rw [ByteArray.size_append, ByteArray.size_append]; rfl)
                rw [HW.out] at HT2
                have hsb : (x.toList == (⟨#[87]⟩ : ByteArray).toList) = false := by rw [sb_eq]; simpa using hw
                have hsc : (x.toList == [87]) = false := by rw [show ([87] : List UInt8) = (⟨#[87]⟩ : ByteArray).toList from by decide +kernel]; exact hsb
                clear hw
                go_wp2_with fail
                go_roundw
                case rel => exact ⟨q + 1, _, by omega, by go_num, rfl, HT2, by have := HSZ.out; omega, by have := HSZ.out; omega, hB6⟩
                case measure => simp [intOf]; omega
            · obtain rfl : q = n6 := by omega
              have HE := Lib.hid (show u = Q by have e := HU.out; rw [List.drop_eq_nil_of_le (by rw [HL6.out]; exact Nat.le_refl _)] at e; exact e)
              have j2 : ¬ (q : Int) < q := by omega
              rw [HE.out] at hu1 hu2
              rw [HE.out]
              have HSZ := Lib.hid (show (Q.extract 0 (Q.size - 1) ++ (⟨#[10]⟩ : ByteArray)).size = Q.size - 1 + 1 by rw [ByteArray.size_append, ByteArray.size_extract]; show min (Q.size - 1) Q.size - 0 + 1 = _; omega)
              clear HU HE
              go_wp2_with fail
              go_roundw
              case rel => exact ⟨j + 1, _, by omega, by go_num, rfl, HT, by have := HSZ.out; omega, (hB.call hb6).call hB6⟩
              case measure => simp [intOf]; omega
        · obtain rfl : j = n5 := by omega
          have HE := Lib.hid (show s = T2 by have e := HS.out; rw [List.drop_eq_nil_of_le (by rw [HL5.out]; exact Nat.le_refl _)] at e; exact e)
          have j1 : ¬ (j : Int) < j := by omega
          rw [HE.out]
          clear HS HE hsz
          go_wp2_with fail
          refine (spec_laParse T2 (pgL k wd) _ (by omega) p2 p3 HP.out HP5.out HP6.out HP7.out).mono ?_
          rintro e v9 ⟨A9, n9, c9, l9, rfl, hr9, hm9, hb9⟩
          have HM9 := Lib.hid hm9
          clear hm9
          go_wp2_with fail
          go_ret
          exact ⟨A9, n9, c9, l9, rfl, hr9, HM9.out, (hB5.call hB).call hb9⟩
set_option maxHeartbeats 1000000 in
theorem spec_ProgramFor (a b : Int) (w : World) :
    Calls Tryz.prog 26 #[.int .i64 a, .int .i64 b] w fun e w' => ∃ A n c l, e = .returned (.tuple #[.slice A n c, .bool (pgB a b)]) ∧ RdL w' A n c l ∧ l.map (·.2) = pgR a b ∧ Bl w w' := by
  rcases hB : pgB a b
  · have HR := Lib.hid (show pgR a b = [] by unfold pgR; rw [hB]; rfl)
    go_enter Tryz.func26, Tryz.ntmps26
    go_wp2_with fail
    refine (spec_pgGood a b _).mono ?_
    rintro e w1 ⟨rfl, rfl⟩
    rw [hB]
    go_wp2_with fail
    go_ret2
    exact ⟨none, 0, 0, [], rfl, RdL.nil _, by rw [HR.out]; rfl, Bl.refl _⟩
  · have hB' := hB
    unfold pgB at hB'
    rw [Bool.and_eq_true] at hB'
    obtain ⟨h1, h2⟩ := hB'
    have ha := inR_iff.1 h1
    obtain ⟨k, rfl⟩ : ∃ k : Nat, a = (k : Int) := ⟨a.toNat, by omega⟩
    have HR := Lib.hid (show pgR (k : Int) b = pgL k b by unfold pgR; rw [if_pos hB, Int.toNat_natCast])
    go_enter Tryz.func26, Tryz.ntmps26
    go_wp2_with fail
    refine (spec_pgGood k b _).mono ?_
    rintro e w1 ⟨rfl, rfl⟩
    rw [hB]
    go_wp2_with fail
    refine (spec_pgFor k (by omega) b h2 _).mono ?_
    rintro e w2 ⟨A, n, c, l, rfl, hr, hm, hb⟩
    have HM := Lib.hid hm
    clear hm
    go_wp2_with fail
    go_ret2
    exact ⟨A, n, c, l, rfl, hr, by rw [HR.out]; exact HM.out, hb⟩
end Go.Proofs.YtjggecbaladiiaaGreatDoor
