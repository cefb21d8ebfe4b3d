/- make([]int, n), and what a slice of counters holds.
   Conditions: none. -/
import Derived.Test.YtjggecbaladiiaaGreatDoorMrk
import Derived.Deep.OwnRows
namespace Go.Proofs.YtjggecbaladiiaaGreatDoor
open Go.RowKit
set_option linter.unusedVariables false
theorem own_zeros (w : World) (n : Nat) (hn : n ≤ 9223372036854775807) {g : Nat} (hg : w.heap.size = g := by first | with_reducible rfl | simp) :
    OwnI w.heap.size (w.alloc (.cells (madeCells #[.int .i64 0] n) 3)) (some ⟨g, 0, none⟩) n n (List.replicate n 0) := by
  subst hg
  refine ⟨by simp, .inr ⟨w.heap.size, n, _, rfl, Nat.le_refl _, heap_alloc_new w _, Nat.le_refl _, by unfold maxLen; exact hn, by simp [size_madeCells], ?_⟩⟩
  rw [toList_madeCells_one, Nat.mul_one, List.take_of_length_le (by simp)]
  simp [ints]
theorem make_ints (n : Nat) (hn : n ≤ 35184372088832) : ∀ w : World, (Instr.makeSlice 27 (.int .i64 (n : Int)) (.int .i64 (n : Int))).run Tryz.prog w = .ok (.slice (some ⟨w.heap.size, 0, none⟩) n n) (w.alloc (.cells (madeCells #[.int .i64 0] n) 3)) :=
  fun w => run_make_row' 27 3 _ 8 Tryz.underlying27 int_info rfl _ _ n (by omega) (by omega) w
/-- One more at place c. -/
def bump (l : List Int) (c : Nat) : List Int := l.set c (l[c]?.getD 0 + 1)
theorem bump_length (l : List Int) (c : Nat) : (bump l c).length = l.length := by simp [bump]
/-- Counters after k rounds at the places f 0 .. f (k-1). -/
def tally (n : Nat) (f : Nat → Nat) : Nat → List Int
  | 0 => List.replicate n 0
  | k + 1 => bump (tally n f k) (f k)
theorem tally_length (n : Nat) (f : Nat → Nat) (k : Nat) : (tally n f k).length = n := by
  induction k with
  | zero => simp [tally]
  | succ k ih => rw [tally, bump_length, ih]
theorem tally_bd (n : Nat) (f : Nat → Nat) (k c : Nat) : 0 ≤ (tally n f k)[c]?.getD 0 ∧ (tally n f k)[c]?.getD 0 ≤ k := by
  induction k generalizing c with
  | zero =>
    have : (List.replicate n (0 : Int))[c]?.getD 0 = 0 := by
      rw [List.getElem?_replicate]; split <;> rfl
    simp only [tally, this]; omega
  | succ k ih =>
    have h := ih c
    have h2 := ih (f k)
    simp only [tally, bump, List.getElem?_set]
    split
    · split
      · simp; omega
      · simp; omega
    · omega
end Go.Proofs.YtjggecbaladiiaaGreatDoor
