/- Contracts of marking a slice of numbers that lies in a block of its own, and of asking the marks again.
   Conditions: the slice lies in a block of its own; the marks fit. -/
import Derived.Test.YtjggecbaladiiaaGreatDoorBase
namespace Go.Proofs.YtjggecbaladiiaaGreatDoor
open Go.RowKit
set_option linter.unusedVariables false
section
variable {w w' : World} {base n c : Nat} {A : Option Addr} {l : List Int}
theorem OwnI.form (h : OwnI base w A n c l) (hn : 0 < n) : ∃ g, A = some ⟨g, 0, none⟩ ∧ base ≤ g ∧ g < w.heap.size ∧ (∀ k x, l[k]? = some x → w.cell? ⟨g, k, none⟩ = some (.int .i64 x)) ∧ ∀ k, w.frozen? ⟨g, k, none⟩ = false := by
  rcases h.2 with ⟨_, h0⟩ | ⟨g, cap, cur, hv, hg, hh, hc, hm, hs, ht⟩
  · omega
  · injection hv with h1 h2 h3
    refine ⟨g, h1, hg, (Array.getElem?_eq_some_iff.1 hh).1, fun k x hx => ?_, fun k => by simp [World.frozen?, hh]⟩
    have hcell := World.ownsRow.cells (g := g) h (by rw [h1]; rfl) k (.int .i64 x) (by rw [ints_get, hx]; rfl)
    have hadd : (⟨g, 0, none⟩ : Addr).add k = ⟨g, k, none⟩ := by unfold Addr.add; split <;> simp_all
    rwa [hadd] at hcell
theorem OwnI.set_ {g : Nat} (h : OwnI base w (some ⟨g, 0, none⟩) n c l) (k : Nat) (x : Int) (hk : k < n) : OwnI base (w.setCell ⟨g, k, none⟩ (.int .i64 x)) (some ⟨g, 0, none⟩) n c (l.set k x) := by
  have hl := h.length
  rcases h.2 with ⟨hv, _⟩ | ⟨g', cap, cur, hv, hg, hh, hc, hm, hs, ht⟩
  · cases hv
  · injection hv with h1 h2 h3
    injection h1 with h1
    have hgg : g = g' := by injection h1
    subst hgg
    subst h3
    refine ⟨by simpa using hl, .inr ⟨g, c, cur.setIfInBounds k (.int .i64 x), rfl, hg, ?_, hc, hm, by simpa using hs, ?_⟩⟩
    · simp [World.setCell, Array.getElem?_modify, hh]
    · rw [Array.toList_setIfInBounds, List.take_set, ht]
      simp [ints]
theorem grownBy_setCell (w : World) (g k : Nat) (u : Value) : w.grownBy (w.setCell ⟨g, k, none⟩ u) (some g) :=
  ⟨rfl, rfl, rfl, by simp [World.setCell], fun i _ hne => Below.heap_setCell w ⟨g, k, none⟩ u i (fun e => hne (by rw [e]))⟩
theorem grownBy_trans {a b d : World} {row : Option Nat} (h : a.grownBy b row) (k : b.grownBy d row) : a.grownBy d row :=
  ⟨k.os.trans h.os, k.tape.trans h.tape, k.output.trans h.output, Nat.le_trans h.size k.size, fun i hi hne => (k.block i (Nat.lt_of_lt_of_le hi h.size) hne).trans (h.block i hi hne)⟩
theorem RdI.grown {row : Option Nat} (h : RdI w A n c l) (hg : w.grownBy w' row) (hne : ∀ a, A = some a → some a.block ≠ row) : RdI w' A n c l :=
  ⟨h.len, h.cap, h.max, fun hn => by
    obtain ⟨ad, e, hl, hc⟩ := h.at0 hn
    exact ⟨ad, e, Nat.lt_of_lt_of_le hl hg.size, fun j u hu => hg.cell (hc j u hu) (by rw [block_of_add]; exact hne ad e)⟩⟩
theorem own_apart {w1 w2 : World} {b n1 c1 n2 c2 base : Nat} {A1 A2 : Option Addr} {l1 l2 : List Int} (h1 : OwnI b w1 A1 n1 c1 l1) (h2 : OwnI base w2 A2 n2 c2 l2) (hle : w1.heap.size ≤ base) :
    ∀ a, A1 = some a → some a.block ≠ A2.map (·.block) := by
  rintro a rfl he
  have e1 := h1.blk a.block rfl
  have e2 := h2.blk a.block he.symm
  omega
end
/-- n numbers from k on. -/
def marks (k : Int) (n : Nat) : List Int := (List.range n).map fun i => k + (i : Nat)
theorem marks_get (k : Int) (n i : Nat) (h : i < n) : (marks k n)[i]? = some (k + i) := by simp [marks, h]
theorem marks_length (k : Int) (n : Nat) : (marks k n).length = n := by simp [marks]
/-- The first i cells are marked. -/
def marked (k : Int) (l : List Int) (i : Nat) : List Int := marks k i ++ l.drop i
theorem marked_zero (k : Int) (l : List Int) : marked k l 0 = l := by simp [marked, marks]
theorem marked_all (k : Int) (l : List Int) (n : Nat) (h : l.length = n) : marked k l n = marks k n := by subst h; simp [marked]
theorem marked_step (k : Int) (l : List Int) (i : Nat) (h : i < l.length) : (marked k l i).set i (k + i) = marked k l (i + 1) := by
  unfold marked
  rw [List.set_append_right _ _ (by simp [marks_length]), marks_length, Nat.sub_self, List.drop_eq_getElem_cons h, List.set_cons_zero]
  simp [marks, List.range_succ]
theorem marked_length (k : Int) (l : List Int) (i : Nat) (h : i ≤ l.length) : (marked k l i).length = l.length := by simp [marked, marks_length]; omega
end Go.Proofs.YtjggecbaladiiaaGreatDoor
