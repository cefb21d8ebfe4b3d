/- Small words: calls that leave the world alone inside a drawn region, five numbers of a slice, residues, lists with further numbers.
   Conditions: none beyond the sizes. -/
import Derived.Test.YtjggecbaladiiaaGreatDoorDig
import Derived.Test.YtjggecbaladiiaaGreatDoorAps
import Derived.Test.YtjggecbaladiiaaGreatDoorMrk
namespace Go.Proofs.YtjggecbaladiiaaGreatDoor
open Go.RowKit
set_option linter.unusedVariables false
theorem quiet_gen {P : Program} {f : FuncId} {args : Array Value} {W : World} {F : Nat → World} {v : Value} (h : Calls P f args W fun e w' => e = .returned v ∧ W = w') (m : Nat) (hm : W = F m) :
    Calls P f args W fun e w'' => e = .returned v ∧ ∃ k, w'' = F k := h.mono fun _ _ ⟨he, hw⟩ => ⟨he, m, by rw [← hw, hm]⟩
/-- The cells of a slice of numbers, by their places as the walk writes them. -/
theorem RdI.lit {w : World} {A : Option Addr} {n c : Nat} {l : List Int} (h : RdI w A n c l) (hn : 0 < n) :
    ∃ ad, A = some ad ∧ ad.block < w.heap.size ∧ (∀ x, l[0]? = some x → w.cell? ad = some (.int .i64 x)) ∧ ∀ k x, 0 < k → l[k]? = some x → w.cell? ⟨ad.block, ad.off + k, none⟩ = some (.int .i64 x) := by
  obtain ⟨ad, rfl, hb, hc⟩ := h.at0 hn
  refine ⟨ad, rfl, hb, fun x hx => ?_, fun k x hk hx => ?_⟩
  · have := hc 0 (.int .i64 x) (by rw [ints_get, hx]; rfl)
    rwa [show ad.add 0 = ad from rfl] at this
  · have := hc k (.int .i64 x) (by rw [ints_get, hx]; rfl)
    rwa [show ad.add k = ⟨ad.block, ad.off + k, none⟩ by unfold Addr.add; rw [if_neg (by omega)]] at this
/-- A literal slice lies in a block of its own. -/
theorem own_lit (w : World) (l : List Int) {base g : Nat} (hg : w.heap.size = g) (hb : base ≤ g) (hm : l.length ≤ 1000000) : OwnI base (w.alloc (.cells (l.map (Value.int .i64)).toArray 3)) (some ⟨g, 0, none⟩) l.length l.length l := by
  subst hg
  refine ⟨by simp, .inr ⟨w.heap.size, l.length, _, rfl, hb, heap_alloc_new w _, Nat.le_refl _, by unfold maxLen; omega, by simp, ?_⟩⟩
  rw [Nat.mul_one, List.take_of_length_le (by simp)]
  simp [ints]
theorem own_lit1 (w : World) (a : Int) {base g : Nat} (hb : base ≤ g) (hg : w.heap.size = g) : OwnI base (w.alloc (.cells #[.int .i64 a] 3)) (some ⟨g, 0, none⟩) 1 1 [a] := own_lit w [a] hg hb (by simp)
theorem own_lit2 (w : World) (a b : Int) {base g : Nat} (hb : base ≤ g) (hg : w.heap.size = g) : OwnI base (w.alloc (.cells #[.int .i64 a, .int .i64 b] 3)) (some ⟨g, 0, none⟩) 2 2 [a, b] := own_lit w [a, b] hg hb (by simp)
theorem RdI.far {w : World} {A : Option Addr} {n c : Nat} {l : List Int} {g : Nat} (hne : ∀ a, A = some a → a.block ≠ g) (k : Nat) (u : Value) (h : RdI w A n c l) : RdI (w.setCell ⟨g, k, none⟩ u) A n c l :=
  h.grown (grownBy_setCell w g k u) (fun a ha he => hne a ha (by injection he))
/-- A piece of a slice, as the walk writes it. -/
theorem RdI.mid {w : World} {ad : Addr} {n c : Nat} {l : List Int} (h : RdI w (some ad) n c l) {k : Nat} (m : Nat) (hk : 0 < k) (hm : 0 < m) (hkm : k + m ≤ n) :
    RdI w (some ⟨ad.block, ad.off + k, none⟩) m (c - k) ((l.drop k).take m) := by
  have hc := h.cap
  have h1 := Rd.take (Rd.cut h (k := k) (by omega)) (k := m) (by omega)
  rw [if_neg (by omega)] at h1
  have e1 : ints ((l.drop k).take m) = List.take (m * 1) (List.drop (k * 1) (ints l)) := by simp [ints, List.map_drop, List.map_take]
  have e2 : (some ad).map (·.add (k * 1)) = some ⟨ad.block, ad.off + k, none⟩ := by
    show some (ad.add (k * 1)) = _
    rw [Nat.mul_one]; unfold Addr.add; rw [if_neg (by omega)]
  unfold RdI
  rw [e1, ← e2]
  exact h1
theorem RdI.five {w : World} {A : Option Addr} {c : Nat} {x0 x1 x2 x3 x4 : Int} (h : RdI w A 5 c [x0, x1, x2, x3, x4]) :
    ∃ ad, A = some ad ∧ ad.block < w.heap.size ∧ w.cell? ad = some (.int .i64 x0) ∧ w.cell? ⟨ad.block, ad.off + 1, none⟩ = some (.int .i64 x1) ∧ w.cell? ⟨ad.block, ad.off + 2, none⟩ = some (.int .i64 x2) ∧ w.cell? ⟨ad.block, ad.off + 3, none⟩ = some (.int .i64 x3) ∧ w.cell? ⟨ad.block, ad.off + 4, none⟩ = some (.int .i64 x4) := by
  obtain ⟨ad, e, hb, h0, hc⟩ := h.lit (by omega)
  exact ⟨ad, e, hb, h0 _ rfl, hc 1 _ (by omega) rfl, hc 2 _ (by omega) rfl, hc 3 _ (by omega) rfl, hc 4 _ (by omega) rfl⟩
theorem with_ints (A B : Option Addr) (n c m d : Nat) (l l' : List Int) (w : World) (h : RdI w A n c l) (h' : RdI w B m d l') (hn : n ≤ 1000000000000) (hm : m ≤ 1000000000000) :
    Calls Tryz.prog 78 #[.slice A n c, .slice B m d] w fun e w' => ∃ A' c', e = .returned (.slice A' (n + m) c') ∧ OwnI w.heap.size w' A' (n + m) c' (l ++ l') ∧ Bl w w' := by
  go_enter Tryz.func78, Tryz.ntmps78
  go_wp2_with (first
    | (go_at_call 124; refine (slices_Clone A n c l w h (by omega)).mono ?_; rintro e w1 ⟨A1, c1, rfl, hown1, hb1⟩)
    | (at_builtin; refine ap_int rfl rfl rfl hown1 rfl (h'.keep hb1) (by omega) hb1.size ?_; intro A2 c2 w2 hown2 hg2 hat2))
  go_ret
  exact ⟨A2, c2, rfl, hown2, hb1.grown hg2 (fun k hk => (hown1.blk k hk).1)⟩
end Go.Proofs.YtjggecbaladiiaaGreatDoor
