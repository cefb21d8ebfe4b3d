/- The contract of the program's guesses.
   Conditions: the function value answers below the bound and only makes new blocks. -/
import Derived.Test.YtglgaicbcackbaaRan
import Derived.Test.YtglgaicbcackbaaMak
import Derived.Test.YtglgaicbcackbaaRow
import Derived.Deep.DeepCutAuto
namespace Go.Proofs.Ytglgaicbcackbaa
open Go.RowKit
set_option linter.unusedVariables false
/-- Both lists of counters, each in a block of its own, and the array that holds them. -/
def Two (w wx : World) (g g0 g1 N : Nat) (l0 l1 : List Int) : Prop :=
  Blk wx g 83 #[.slice (some ⟨g0, 0, none⟩) N N, .slice (some ⟨g1, 0, none⟩) N N] ∧ OwnI w.heap.size wx (some ⟨g0, 0, none⟩) N N l0 ∧ OwnI w.heap.size wx (some ⟨g1, 0, none⟩) N N l1 ∧ g0 ≠ g1 ∧ g ≠ g0 ∧ g ≠ g1 ∧ w.heap.size ≤ g ∧ Bl w wx
theorem own_blk {w : World} {g base n : Nat} (h : Blk w g 3 (madeCells #[.int .i64 0] n)) (hn : n ≤ 4096) (hb : base ≤ g) : OwnI base w (some ⟨g, 0, none⟩) n n (List.replicate n 0) := by
  refine ⟨by simp, .inr ⟨g, n, _, rfl, hb, h, Nat.le_refl _, by unfold maxLen; omega, by simp [size_madeCells], ?_⟩⟩
  rw [toList_madeCells_one, Nat.mul_one, List.take_of_length_le (by simp)]
  simp [ints]
section
variable (w : World) {t u v : TypeId} (x y z : Array Value)
theorem three_a : Blk (((w.alloc (.cells x t)).alloc (.cells y u)).alloc (.cells z v)).drew w.heap.size t x := (((Blk.new w t x).alloc _).alloc _).drew
theorem three_b : Blk (((w.alloc (.cells x t)).alloc (.cells y u)).alloc (.cells z v)).drew (w.heap.size + 1) u y := ((Blk.new _ u y).alloc _).drew
theorem three_c : Blk (((w.alloc (.cells x t)).alloc (.cells y u)).alloc (.cells z v)).drew (w.heap.size + 1 + 1) v z := (Blk.new _ v z).drew
theorem three_bl : Bl w (((w.alloc (.cells x t)).alloc (.cells y u)).alloc (.cells z v)).drew := ((((Bl.refl w).alloc _).alloc _).alloc _).drew
end
theorem two_of {w wx : World} {g g0 g1 N : Nat} (hN : N ≤ 4096) (hb : Blk wx g 83 #[.slice (some ⟨g0, 0, none⟩) N N, .slice (some ⟨g1, 0, none⟩) N N])
    (h0 : Blk wx g0 3 (madeCells #[.int .i64 0] N)) (h1 : Blk wx g1 3 (madeCells #[.int .i64 0] N)) (hW : Bl w wx)
    (a : g0 ≠ g1) (b : g ≠ g0) (c : g ≠ g1) (d : w.heap.size ≤ g) (e : w.heap.size ≤ g0) (f : w.heap.size ≤ g1) :
    Two w wx g g0 g1 N (List.replicate N 0) (List.replicate N 0) := ⟨hb, own_blk h0 hN e, own_blk h1 hN f, a, b, c, d, hW⟩
theorem OwnI.far {w : World} {base n c g p k : Nat} {l : List Int} (h : OwnI base w (some ⟨g, 0, none⟩) n c l) (hp : g ≠ p) (u : Value) : OwnI base (w.setCell ⟨p, k, none⟩ u) (some ⟨g, 0, none⟩) n c l :=
  World.ownsRow.kept (row := some p) h (grownBy_setCell w p k u) (by rw [ownBlock_slice]; simpa using hp)
theorem Two.keep {w wx wy : World} {g g0 g1 N : Nat} {l0 l1 : List Int} (h : Two w wx g g0 g1 N l0 l1) (hb : Bl wx wy) : Two w wy g g0 g1 N l0 l1 :=
  ⟨h.1.keep hb, h.2.1.keep hb, h.2.2.1.keep hb, h.2.2.2.1, h.2.2.2.2.1, h.2.2.2.2.2.1, h.2.2.2.2.2.2.1, h.2.2.2.2.2.2.2.call hb⟩
theorem Two.set0 {w wx : World} {g g0 g1 N : Nat} {l0 l1 : List Int} (h : Two w wx g g0 g1 N l0 l1) (k : Nat) (x : Int) (hk : k < N) : Two w (wx.setCell ⟨g0, k, none⟩ (.int .i64 x)) g g0 g1 N (l0.set k x) l1 :=
  ⟨h.1.far h.2.2.2.2.1 _, h.2.1.set_ k x hk, h.2.2.1.far (Ne.symm h.2.2.2.1) _, h.2.2.2.1, h.2.2.2.2.1, h.2.2.2.2.2.1, h.2.2.2.2.2.2.1, h.2.2.2.2.2.2.2.setCell (h.2.1.blk g0 rfl).1 _⟩
theorem Two.set1 {w wx : World} {g g0 g1 N : Nat} {l0 l1 : List Int} (h : Two w wx g g0 g1 N l0 l1) (k : Nat) (x : Int) (hk : k < N) : Two w (wx.setCell ⟨g1, k, none⟩ (.int .i64 x)) g g0 g1 N l0 (l1.set k x) :=
  ⟨h.1.far h.2.2.2.2.2.1 _, h.2.1.far h.2.2.2.1 _, h.2.2.1.set_ k x hk, h.2.2.2.1, h.2.2.2.2.1, h.2.2.2.2.2.1, h.2.2.2.2.2.2.1, h.2.2.2.2.2.2.2.setCell (h.2.2.1.blk g1 rfl).1 _⟩
/-- What the walk reads of the two lists at place k. -/
theorem Two.read {w wx : World} {g g0 g1 N : Nat} {l0 l1 : List Int} (h : Two w wx g g0 g1 N l0 l1) (hN : 0 < N) :
    wx.cell? ⟨g, 0, none⟩ = some (.slice (some ⟨g0, 0, none⟩) N N) ∧ wx.cell? ⟨g, 1, none⟩ = some (.slice (some ⟨g1, 0, none⟩) N N) ∧ (∀ i, wx.frozen? ⟨g, i, none⟩ = false) ∧
    (∀ k x, l0[k]? = some x → wx.cell? ⟨g0, k, none⟩ = some (.int .i64 x)) ∧ (∀ k x, l1[k]? = some x → wx.cell? ⟨g1, k, none⟩ = some (.int .i64 x)) ∧ (∀ k, wx.frozen? ⟨g0, k, none⟩ = false) ∧ ∀ k, wx.frozen? ⟨g1, k, none⟩ = false := by
  obtain ⟨q0, e0, _, _, c0, f0⟩ := h.2.1.form hN
  obtain ⟨q1, e1, _, _, c1, f1⟩ := h.2.2.1.form hN
  injection e0 with e0; injection e0 with e0; subst e0
  injection e1 with e1; injection e1 with e1; subst e1
  exact ⟨h.1.cell 0 _ rfl, h.1.cell 1 _ rfl, h.1.frozen, c0, c1, f0, f1⟩
/-- A function value guesses f below N, of the place and of the nine bits. -/
def Guess (W : World) (K : Nat) (caps : Array Value) (f : Nat → Nat → Nat) : Prop :=
  ∀ (o code c : Nat) (A : Option Addr) (W' : World), o ≤ 1 → code < 512 → Bl W W' → RdI W' A 9 c (digs 2 code 9).1 → Calls Try.prog K (#[.int .i64 o, .slice A 9 c] ++ caps) W' fun e w' => e = .returned (.int .i64 (f o code)) ∧ Bl W' w'
end Go.Proofs.Ytglgaicbcackbaa
