/- Contracts of the small number tests and of the digest: each call returns what the plain function says and leaves old memory alone.
   Conditions: the digest's numbers lie within plus and minus 10^15 and are at most 10^6. -/
import Derived.Test.YtjggecbaladiiaaGreatDoorBase
namespace Go.Proofs.YtjggecbaladiiaaGreatDoor
open Go.RowKit
set_option linter.unusedVariables false
theorem impl_within (n lo hi : Int) (w : World) :
    Calls Tryz.prog 45 #[.int .i64 n, .int .i64 lo, .int .i64 hi] w fun e w' => e = .returned (.bool (inR n lo hi)) ∧ w = w' := by
  go_enter Tryz.func45, Tryz.ntmps45
  go_wp2
  all_goals go_ret
  all_goals (refine ⟨ret_bool ?_, rfl⟩; simp only [inR]; first | (rw [Bool.eq_iff_iff]; simp; omega) | (simp; omega))
theorem spec_l1In (n lo hi : Int) (w : World) :
    Calls Tryz.prog 43 #[.int .i64 n, .int .i64 lo, .int .i64 hi] w fun e w' => e = .returned (.bool (inR n lo hi)) ∧ w = w' := by
  go_enter Tryz.func43, Tryz.ntmps43
  go_wp2
  all_goals go_ret
  all_goals (refine ⟨ret_bool ?_, rfl⟩; simp only [inR]; first | (rw [Bool.eq_iff_iff]; simp; omega) | (simp; omega))
theorem impl_isBit (n : Int) (w : World) :
    Calls Tryz.prog 95 #[.int .i64 n] w fun e w' => e = .returned (.bool (inR n 0 1)) ∧ w = w' := by
  go_enter Tryz.func95, Tryz.ntmps95
  go_wp2
  all_goals go_ret
  all_goals (refine ⟨ret_bool ?_, rfl⟩; simp only [inR]; first | (rw [Bool.eq_iff_iff]; simp; omega) | (simp; omega))
theorem impl_bit (b : Bool) (w : World) :
    Calls Tryz.prog 100 #[.bool b] w fun e w' => e = .returned (.int .i64 (if b then 1 else 0)) ∧ w = w' := by
  cases b <;> go_enter Tryz.func100, Tryz.ntmps100 <;> go_wp2 <;> go_ret <;> exact ⟨rfl, rfl⟩
theorem spec_btMod (a m : Int) (w : World) (ha : -1000000000000000000 ≤ a) (ha' : a ≤ 1000000000000000000) (hm : 1 ≤ m) (hm' : m ≤ 1000000000000000000) :
    Calls Tryz.prog 201 #[.int .i64 a, .int .i64 m] w fun e w' => e = .returned (.int .i64 (a % m)) ∧ w = w' := by
  have hm0 : (m == 0) = false := by simp; omega
  have h1 := Int.tmod_lt_of_pos a (show 0 < m by omega)
  have h2 : -m < a.tmod m := by
    have := Int.lt_tmod_of_pos a (show 0 < m by omega); omega
  go_enter Tryz.func201, Tryz.ntmps201
  go_wp2
  go_ret
  refine ⟨ret_int ?_, rfl⟩
  exact tmod_fix a m
theorem slices_Clone (A : Option Addr) (n c : Nat) (l : List Int) (w : World) (h : RdI w A n c l) (hn : n ≤ 17592186044415) :
    Calls Tryz.prog 124 #[.slice A n c] w fun e w' => ∃ A' c', e = .returned (.slice A' n c') ∧ OwnI w.heap.size w' A' n c' l ∧ Bl w w' := by
  have hown := own_made w
  have hr := h.keep ((Bl.refl w).alloc (.cells #[] 3))
  rcases A with _ | ad
  · have h0 : n = 0 := by
      rcases Nat.eq_zero_or_pos n with h0 | h0
      · exact h0
      · obtain ⟨ad, h, _⟩ := h.at0 h0
        cases h
    subst h0
    have hl : l = [] := List.eq_nil_of_length_eq_zero h.length
    subst hl
    have hnil := fun (w : World) (n c : Nat) => Lib.run_eql_slice_nil (P := Tryz.prog) w 27 3 none n c 0 0 Tryz.underlying27
    go_enter Tryz.func124, Tryz.ntmps124
    go_wp2
    go_ret
    exact ⟨none, 0, by simp, OwnI.nil _ _, Bl.refl _⟩
  · have hnil := fun (w : World) (n c : Nat) => Lib.run_eql_slice_nil (P := Tryz.prog) w 27 3 (some ad) n c 0 0 Tryz.underlying27
    go_enter Tryz.func124, Tryz.ntmps124
    go_wp2_with (at_builtin; refine ap_int rfl rfl rfl hown rfl hr (by omega) (by simp) ?_; intro A1 c1 w1 hown1 hg1 hat1)
    go_ret
    refine ⟨A1, c1, by simp, by simpa using hown1, ((Bl.refl w).alloc _).grown hg1 ?_⟩
    simp
theorem spec_l1Own (A : Option Addr) (n c : Nat) (l : List Int) (w : World) (h : RdI w A n c l) (hn : n ≤ 17592186044415) :
    Calls Tryz.prog 210 #[.slice A n c] w fun e w' => ∃ A' c', e = .returned (.slice A' n c') ∧ OwnI w.heap.size w' A' n c' l ∧ Bl w w' := by
  have hown := own_made w
  have hr := h.keep ((Bl.refl w).alloc (.cells #[] 3))
  go_enter Tryz.func210, Tryz.ntmps210
  go_wp2_with (at_builtin; refine ap_int rfl rfl rfl hown rfl hr (by omega) (by simp) ?_; intro A1 c1 w1 hown1 hg1 hat1)
  go_ret
  refine ⟨A1, c1, by simp, by simpa using hown1, ((Bl.refl w).alloc _).grown hg1 ?_⟩
  simp
/-- One round of the digest. -/
def dstep (a x : Int) : Int := (25214 * a + x + 17) % 1000003 * ((25214 * a + x + 17) % 1000003 / 64 + 5) % 1000003
/-- The digest of a list. -/
def dig (l : List Int) : Int := ((l ++ [8, 1]).foldl dstep (40503 + l.length)) % 65536
def Words (l : List Int) : Prop := ∀ x ∈ l, -1000000000000000 ≤ x ∧ x ≤ 1000000000000000
theorem prod_bd (G : Int) (h0 : 0 ≤ G) (h1 : G < 1000003) : 0 ≤ G * (G / 64 + 5) ∧ G * (G / 64 + 5) ≤ 1000000000000 := by
  have a : 0 ≤ G / 64 + 5 := by omega
  have b : G / 64 + 5 ≤ 16000 := by omega
  refine ⟨Int.mul_nonneg h0 a, ?_⟩
  have := Int.mul_le_mul (show G ≤ 1000003 by omega) b a (by omega)
  omega
theorem dstep_eq (F x G : Int) (h : (25214 * F + x + 17) % 1000003 = G) : dstep F x = G * (G / 64 + 5) % 1000003 := by unfold dstep; rw [h]
theorem dstep_bd (a x : Int) : 0 ≤ dstep a x ∧ dstep a x < 1000003 := by unfold dstep; omega
theorem dig_bd (l : List Int) : 0 ≤ dig l ∧ dig l ≤ 65535 := by unfold dig; omega
theorem dfold_bd (l : List Int) (a : Int) (h : 0 ≤ a ∧ a ≤ 2000000) : 0 ≤ l.foldl dstep a ∧ l.foldl dstep a ≤ 2000000 := by
  induction l generalizing a with
  | nil => exact h
  | cons x l ih => exact ih _ (by have := dstep_bd a x; omega)
theorem foldl_snoc {α β : Type} (f : α → β → α) (a : α) (l : List β) (k : Nat) (x : β) (hx : l[k]? = some x) : (l.take (k + 1)).foldl f a = f ((l.take k).foldl f a) x := by
  rw [List.take_add_one, hx]; simp
end Go.Proofs.YtjggecbaladiiaaGreatDoor
