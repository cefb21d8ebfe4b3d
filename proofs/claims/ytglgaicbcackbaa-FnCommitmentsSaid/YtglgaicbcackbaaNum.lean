/- Contracts of lists with a further number and of numbers below a bound.
   Conditions: the digest's, and a bound of at least 1. -/
import Derived.Test.YtglgaicbcackbaaDig
namespace Go.Proofs.Ytglgaicbcackbaa
open Go.RowKit
set_option linter.unusedVariables false
/-- A number below n that belongs to a list. -/
def nf (l : List Int) (n : Int) : Int := dig (l ++ [n]) % n
theorem nf_bd (l : List Int) (n : Int) (h : 1 ≤ n) : 0 ≤ nf l n ∧ nf l n < n := by
  unfold nf; exact ⟨Int.emod_nonneg _ (by omega), Int.emod_lt_of_pos _ (by omega)⟩
theorem Words.snoc {l : List Int} {n : Int} (h : Words l) (h1 : -1000000000000000 ≤ n) (h2 : n ≤ 1000000000000000) : Words (l ++ [n]) := by
  intro x hx
  simp only [List.mem_append, List.mem_cons, List.not_mem_nil, or_false] at hx
  rcases hx with hx | rfl
  · exact h x hx
  · exact ⟨h1, h2⟩
theorem words0 : Words [] := by intro x hx; cases hx
theorem words_cons {a : Int} {l : List Int} (ha : -1000000000000000 ≤ a ∧ a ≤ 1000000000000000) (h : Words l) : Words (a :: l) := by
  intro x hx
  rcases List.mem_cons.1 hx with rfl | hx
  · exact ha
  · exact h x hx
theorem impl_with (A B : Option Addr) (n c m d : Nat) (l l' : List Int) (w : World) (h : RdI w A n c l) (h' : RdI w B m d l') (hn : n ≤ 1000000000000) (hm : m ≤ 1000000000000) :
    Calls Try.prog 142 #[.slice A n c, .slice B m d] w fun e w' => ∃ A' c', e = .returned (.slice A' (n + m) c') ∧ OwnI w.heap.size w' A' (n + m) c' (l ++ l') ∧ Bl w w' := by
  go_enter Try.func142, Try.ntmps142
  go_wp2_with (first
    | (go_at_call 136; refine (slices_Clone A n c l w h (by omega)).mono ?_; rintro e w1 ⟨A1, c1, rfl, hown1, hb1⟩)
    | (at_builtin; refine ap_int rfl rfl rfl hown1 rfl (h'.keep hb1) (by omega) hb1.size ?_; intro A2 c2 w2 hown2 hg2 hat2))
  go_ret
  exact ⟨A2, c2, rfl, hown2, hb1.grown hg2 (fun k hk => (hown1.blk k hk).1)⟩
theorem spec_dgWith (A : Option Addr) (n c : Nat) (l : List Int) (x : Int) (w : World) (h : RdI w A n c l) (hn : n ≤ 1000000000000) :
    Calls Try.prog 152 #[.slice A n c, .int .i64 x] w fun e w' => ∃ A' c', e = .returned (.slice A' (n + 1) c') ∧ OwnI w.heap.size w' A' (n + 1) c' (l ++ [x]) ∧ Bl w w' := by
  go_enter Try.func152, Try.ntmps152
  go_wp2_with (first
    | (go_at_call 151; refine (spec_l1Own A n c l w h (by omega)).mono ?_; rintro e w1 ⟨A1, c1, rfl, hown1, hb1⟩)
    | (at_builtin; refine ap_int rfl rfl rfl (hown1.alloc _) rfl (rd_new1 _ _ _) (by omega) (by have := hb1.size; simp; omega) ?_; intro A2 c2 w2 hown2 hg2 hat2))
  go_ret
  exact ⟨A2, c2, rfl, hown2, (hb1.alloc _).grown hg2 (fun k hk => (hown1.blk k hk).1)⟩
theorem impl_numberFrom (A : Option Addr) (n c : Nat) (l : List Int) (x : Int) (w : World) (h : RdI w A n c l) (hw : Words l) (hn : n ≤ 100000) (hx : 1 ≤ x) (hx2 : x ≤ 1000000000000000) :
    Calls Try.prog 137 #[.slice A n c, .int .i64 x] w fun e w' => e = .returned (.int .i64 (nf l x)) ∧ Bl w w' := by
  have hx0 : (x == 0) = false := by simp; omega
  have hd := dig_bd (l ++ [x])
  go_enter Try.func137, Try.ntmps137
  go_wp2_with (first
    | (go_at_call 142; refine (impl_with A _ n c 1 1 l [x] _ (h.keep ((Bl.refl w).alloc _)) (rd_new1 _ _ _) (by omega) (by omega)).mono ?_; rintro e w1 ⟨A1, c1, rfl, hown1, hb1⟩)
    | (go_at_call 76; refine (impl_digest A1 (n + 1) c1 (l ++ [x]) w1 hown1.rd (hw.snoc (by omega) (by omega)) (by omega)).mono ?_; rintro e w2 ⟨rfl, hb2⟩))
  go_ret
  refine ⟨ret_int ?_, (((Bl.refl w).alloc _).call hb1).call hb2⟩
  first | rfl | (unfold nf; omega)
theorem spec_dgBelow (A : Option Addr) (n c : Nat) (l : List Int) (x : Int) (w : World) (h : RdI w A n c l) (hw : Words l) (hn : n ≤ 100000) (hx : 1 ≤ x) (hx2 : x ≤ 1000000000000000) :
    Calls Try.prog 138 #[.slice A n c, .int .i64 x] w fun e w' => e = .returned (.int .i64 (nf l x)) ∧ Bl w w' := by
  have hx0 : (x == 0) = false := by simp; omega
  have hd := dig_bd (l ++ [x])
  go_enter Try.func138, Try.ntmps138
  go_wp2_with (first
    | (go_at_call 152; refine (spec_dgWith A n c l x w h (by omega)).mono ?_; rintro e w1 ⟨A1, c1, rfl, hown1, hb1⟩)
    | (go_at_call 135; refine (spec_dgMix A1 (n + 1) c1 (l ++ [x]) w1 hown1.rd (hw.snoc (by omega) (by omega)) (by omega)).mono ?_; rintro e w2 ⟨rfl, hb2⟩))
  go_ret
  refine ⟨ret_int ?_, hb1.call hb2⟩
  first | rfl | (unfold nf; omega)
end Go.Proofs.Ytglgaicbcackbaa
