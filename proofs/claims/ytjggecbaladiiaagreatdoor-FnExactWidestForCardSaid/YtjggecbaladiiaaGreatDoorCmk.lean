/- Contracts of the numbers of gates of all kinds.
   Conditions: the four kinds. -/
import Derived.Test.YtjggecbaladiiaaGreatDoorGts
import Derived.Test.YtjggecbaladiiaaGreatDoorMak
namespace Go.Proofs.YtjggecbaladiiaaGreatDoor
open Go.RowKit
set_option linter.unusedVariables false
/-- How many of the first gates are of a kind. -/
def kN (K : Int) (gl : List Gt) : Nat → Nat
  | 0 => 0
  | k + 1 => kN K gl k + if (gl[k]?.getD Gt.zero).k = K then 1 else 0
theorem kN_le (K : Int) (gl : List Gt) (k : Nat) : kN K gl k ≤ k := by
  induction k with
  | zero => simp [kN]
  | succ k ih => simp only [kN]; split <;> omega
/-- The numbers of the first gates of all kinds. -/
def knL (gl : List Gt) (k : Nat) : List Int := [(kN 0 gl k : Int), (kN 1 gl k : Int), (kN 2 gl k : Int), (kN 3 gl k : Int)]
theorem knL_step {gl : List Gt} {k K : Nat} {x y : Int} (h : gl[k]? = some ⟨(K : Int), x, y⟩) (hK : K < 4) : ∃ v : Nat, (knL gl k)[K]? = some (v : Int) ∧ v ≤ k ∧ (knL gl k).set K ((v : Int) + 1) = knL gl (k + 1) := by
  rcases (by omega : K = 0 ∨ K = 1 ∨ K = 2 ∨ K = 3) with rfl | rfl | rfl | rfl
  · exact ⟨kN 0 gl k, rfl, kN_le _ _ _, by simp [knL, kN, h]⟩
  · exact ⟨kN 1 gl k, rfl, kN_le _ _ _, by simp [knL, kN, h]⟩
  · exact ⟨kN 2 gl k, rfl, kN_le _ _ _, by simp [knL, kN, h]⟩
  · exact ⟨kN 3 gl k, rfl, kN_le _ _ _, by simp [knL, kN, h]⟩
/-- All gates are of one of the four kinds. -/
def Kinds (gl : List Gt) : Prop := ∀ (i : Nat) (g : Gt), gl[i]? = some g → g.k = 0 ∨ g.k = 1 ∨ g.k = 2 ∨ g.k = 3
set_option maxHeartbeats 2000000 in
theorem impl_countKinds (A : Option Addr) (n c : Nat) (gl : List Gt) (w : World) (h : RdG w A n c gl) (hk : Kinds gl) (hn : n ≤ 100000) :
    Calls Tryz.prog 42 #[.slice A n c] w fun e w' => ∃ A', e = .returned (.slice A' 4 4) ∧ OwnI w.heap.size w' A' 4 4 (knL gl n) ∧ Bl w w' := by
  obtain ⟨hle1, hle2⟩ := h.le
  have hmk : ∀ w : World, (Instr.makeSlice 27 (.int .i64 4) (.int .i64 4)).run Tryz.prog w = .ok (.slice (some ⟨w.heap.size, 0, none⟩) 4 4) (w.alloc (.cells (madeCells #[.int .i64 0] 4) 3)) := make_ints 4 (by omega)
  have hown0 : OwnI w.heap.size (w.alloc (.cells (madeCells #[.int .i64 0] 4) 3)) (some ⟨w.heap.size, 0, none⟩) 4 4 (knL gl 0) := own_zeros w 4 (by omega)
  have hW0 := (Bl.refl w).alloc (.cells (madeCells #[.int .i64 0] 4) 3)
  go_enter Tryz.func42, Tryz.ntmps42
  go_wp2_with fail
  go_loopw [9] (fun i wr => ∃ k : Nat, k ≤ n ∧ i = .int .i64 (k : Nat) ∧ OwnI w.heap.size wr (some ⟨w.heap.size, 0, none⟩) 4 4 (knL gl k) ∧ Bl w wr) (fun i _ => n - (intOf i).toNat)
  case atStart => exact ⟨0, by omega, rfl, hown0, hW0⟩
  case round =>
    clear hmk hown0 hW0
    obtain ⟨k, hkn, rfl, hown, hW⟩ := hrel
    by_cases hlt : k < n
    · obtain ⟨ad, K, x, y, rfl, hx, c0, c1, c2⟩ := (h.keep hW).at_ hlt
      have i1 : (k : Int) < n := by omega
      obtain ⟨K, rfl⟩ : ∃ q : Nat, K = (q : Int) := ⟨K.toNat, by have := hk k _ hx; dsimp only at this; omega⟩
      have hK4 : K < 4 := by have := hk k _ hx; dsimp only at this; omega
      obtain ⟨v, hv, hvk, hst⟩ := knL_step hx hK4
      have HX := Lib.hid hst
      clear hst hx
      obtain ⟨g, hg, hbg, hgl, hc2, hfr⟩ := hown.form (by omega)
      injection hg with hg
      injection hg with hg
      subst hg
      have hcv := hc2 K _ hv
      have hfv := hfr K
      clear hc2 hfr hv
      have iK : (K : Int) < 4 := by omega
      go_wp2_with fail
      go_roundw
      case rel => exact ⟨k + 1, by omega, by go_num, by rw [← HX.out]; exact (hown.set_ K _ hK4).alloc _, (hW.setCell (Nat.le_refl _) _).alloc _⟩
      case measure => simp [intOf]; omega
    · have he : k = n := by omega
      subst he
      go_wp2_with fail
      go_ret
      exact ⟨_, rfl, hown, hW⟩
set_option maxHeartbeats 2000000 in
theorem spec_ciCounts (a b : Int) (A Ao : Option Addr) (n c m co : Nat) (gl : List Gt) (w : World) (h : RdG w A n c gl) (hk : Kinds gl) (hn : n ≤ 100000) :
    Calls Tryz.prog 40 #[.agg #[.int .i64 a, .int .i64 b, .slice A n c, .slice Ao m co]] w fun e w' => ∃ A', e = .returned (.slice A' 4 4) ∧ OwnI w.heap.size w' A' 4 4 (knL gl n) ∧ Bl w w' := by
  obtain ⟨hle1, hle2⟩ := h.le
  have hmk : ∀ w : World, (Instr.makeSlice 27 (.int .i64 4) (.int .i64 4)).run Tryz.prog w = .ok (.slice (some ⟨w.heap.size, 0, none⟩) 4 4) (w.alloc (.cells (madeCells #[.int .i64 0] 4) 3)) := make_ints 4 (by omega)
  have hV := (Bl.refl w).alloc (.cells #[.int .i64 a, .int .i64 b, .slice A n c, .slice Ao m co] 53)
  have hs : (w.alloc (.cells #[.int .i64 a, .int .i64 b, .slice A n c, .slice Ao m co] 53)).heap.size = w.heap.size + 1 := by simp
  have hown0 : OwnI w.heap.size ((w.alloc (.cells #[.int .i64 a, .int .i64 b, .slice A n c, .slice Ao m co] 53)).alloc (.cells (madeCells #[.int .i64 0] 4) 3)) (some ⟨w.heap.size + 1, 0, none⟩) 4 4 (knL gl 0) :=
    (own_zeros (w.alloc (.cells #[.int .i64 a, .int .i64 b, .slice A n c, .slice Ao m co] 53)) 4 (by omega) (g := w.heap.size + 1) hs).mono (by omega)
  have hW0 := hV.alloc (.cells (madeCells #[.int .i64 0] 4) 3)
  clear hV hs
  go_enter Tryz.func40, Tryz.ntmps40
  go_wp2_with fail
  go_loopw [10] (fun i wr => ∃ k : Nat, k ≤ n ∧ i = .int .i64 (k : Nat) ∧ OwnI w.heap.size wr (some ⟨w.heap.size + 1, 0, none⟩) 4 4 (knL gl k) ∧ Bl w wr) (fun i _ => n - (intOf i).toNat)
  case atStart => exact ⟨0, by omega, rfl, hown0, hW0⟩
  case round =>
    clear hmk hown0 hW0
    obtain ⟨k, hkn, rfl, hown, hW⟩ := hrel
    by_cases hlt : k < n
    · obtain ⟨ad, K, x, y, rfl, hx, c0, c1, c2⟩ := (h.keep hW).at_ hlt
      have i1 : (k : Int) < n := by omega
      obtain ⟨K, rfl⟩ : ∃ q : Nat, K = (q : Int) := ⟨K.toNat, by have := hk k _ hx; dsimp only at this; omega⟩
      have hK4 : K < 4 := by have := hk k _ hx; dsimp only at this; omega
      obtain ⟨v, hv, hvk, hst⟩ := knL_step hx hK4
      have HX := Lib.hid hst
      clear hst hx
      obtain ⟨g, hg, hbg, hgl, hc2, hfr⟩ := hown.form (by omega)
      injection hg with hg
      injection hg with hg
      subst hg
      have hcv := hc2 K _ hv
      have hfv := hfr K
      clear hc2 hfr hv
      have iK : (K : Int) < 4 := by omega
      go_wp2_with fail
      go_roundw
      case rel => exact ⟨k + 1, by omega, by go_num, by rw [← HX.out]; exact (hown.set_ K _ hK4).alloc _, (hW.setCell (by show w.heap.size ≤ w.heap.size + 1; omega) _).alloc _⟩
      case measure => simp [intOf]; omega
    · have he : k = n := by omega
      subst he
      go_wp2_with fail
      go_ret
      exact ⟨_, rfl, hown, hW⟩
end Go.Proofs.YtjggecbaladiiaaGreatDoor
