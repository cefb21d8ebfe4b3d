/- Contracts of the small number tests and of the digest: each call returns what the plain function says and leaves old memory alone.
   Conditions: the digest's numbers lie within plus and minus 10^15 and are at most 10^6. -/
import Derived.Test.YtdndkkaacfbkkaaDoorBase
namespace Go.Proofs.YtdndkkaacfbkkaaDoor
open Go.RowKit
set_option linter.unusedVariables false
theorem impl_within (n lo hi : Int) (w : World) :
    Calls Tryd.prog 24 #[.int .i64 n, .int .i64 lo, .int .i64 hi] w fun e w' => e = .returned (.bool (inR n lo hi)) ∧ w = w' := by
  go_enter Tryd.func24, Tryd.ntmps24
  go_wp2
  all_goals go_ret
  all_goals (refine ⟨ret_bool ?_, rfl⟩; simp only [inR]; first | (rw [Bool.eq_iff_iff]; simp; omega) | (simp; omega))
theorem spec_l1In (n lo hi : Int) (w : World) :
    Calls Tryd.prog 18 #[.int .i64 n, .int .i64 lo, .int .i64 hi] w fun e w' => e = .returned (.bool (inR n lo hi)) ∧ w = w' := by
  go_enter Tryd.func18, Tryd.ntmps18
  go_wp2
  all_goals go_ret
  all_goals (refine ⟨ret_bool ?_, rfl⟩; simp only [inR]; first | (rw [Bool.eq_iff_iff]; simp; omega) | (simp; omega))
/-- One round of the digest. -/
def dstep (a x : Int) : Int := (25214 * a + x + 17) % 1000003 * ((25214 * a + x + 17) % 1000003 / 64 + 5) % 1000003
/-- The digest of a list. -/
def dig (l : List Int) : Int := ((l ++ [8, 1]).foldl dstep (40503 + l.length)) % 65536
def Words (l : List Int) : Prop := ∀ x ∈ l, -1000000000000000 ≤ x ∧ x ≤ 1000000000000000
theorem prod_bd (G : Int) (h0 : 0 ≤ G) (h1 : G < 1000003) : 0 ≤ G * (G / 64 + 5) ∧ G * (G / 64 + 5) ≤ 1000000000000 := by
  have a : 0 ≤ G / 64 + 5 := by omega
  have b : G / 64 + 5 ≤ 16000 := by omega
  refine ⟨Int.mul_nonneg h0 a, ?_⟩
  have := Int.mul_le_mul (show G ≤ 1000003 by omega) b a (by omega)
  omega
theorem dstep_eq (F x G : Int) (h : (25214 * F + x + 17) % 1000003 = G) : dstep F x = G * (G / 64 + 5) % 1000003 := by unfold dstep; rw [h]
theorem dstep_bd (a x : Int) : 0 ≤ dstep a x ∧ dstep a x < 1000003 := by unfold dstep; omega
theorem dig_bd (l : List Int) : 0 ≤ dig l ∧ dig l ≤ 65535 := by unfold dig; omega
theorem dfold_bd (l : List Int) (a : Int) (h : 0 ≤ a ∧ a ≤ 2000000) : 0 ≤ l.foldl dstep a ∧ l.foldl dstep a ≤ 2000000 := by
  induction l generalizing a with
  | nil => exact h
  | cons x l ih => exact ih _ (by have := dstep_bd a x; omega)
theorem foldl_snoc {α β : Type} (f : α → β → α) (a : α) (l : List β) (k : Nat) (x : β) (hx : l[k]? = some x) : (l.take (k + 1)).foldl f a = f ((l.take k).foldl f a) x := by
  rw [List.take_add_one, hx]; simp
end Go.Proofs.YtdndkkaacfbkkaaDoor
