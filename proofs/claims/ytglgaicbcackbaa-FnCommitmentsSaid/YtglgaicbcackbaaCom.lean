/- Contracts of the commitments: what each call of the program and of the reference returns, by one plain function for both.
   Conditions: none beyond those that the calls' own tests lay. -/
import Derived.Test.YtglgaicbcackbaaDig
namespace Go.Proofs.Ytglgaicbcackbaa
open Go.RowKit
set_option linter.unusedVariables false
/-- The digest of a commitment. -/
def markF (p v k : Int) : Int := dig [p, v, k, 51]
theorem markF_bd (p v k : Int) : 0 ≤ markF p v k ∧ markF p v k ≤ 65535 := dig_bd _
theorem words4 {a b c d : Int} (ha : -1000000000000000 ≤ a ∧ a ≤ 1000000000000000) (hb : -1000000000000000 ≤ b ∧ b ≤ 1000000000000000)
    (hc : -1000000000000000 ≤ c ∧ c ≤ 1000000000000000) (hd : -1000000000000000 ≤ d ∧ d ≤ 1000000000000000) : Words [a, b, c, d] := by
  intro x hx
  simp only [List.mem_cons, List.not_mem_nil, or_false] at hx
  rcases hx with rfl | rfl | rfl | rfl <;> assumption
theorem spec_cmMark (p v k : Int) (w : World) (hp : -1000000000000000 ≤ p ∧ p ≤ 1000000000000000) (hv : -1000000000000000 ≤ v ∧ v ≤ 1000000000000000)
    (hk : -1000000000000000 ≤ k ∧ k ≤ 1000000000000000) :
    Calls Try.prog 68 #[.int .i64 p, .int .i64 v, .int .i64 k] w fun e w' => e = .returned (.int .i64 (markF p v k)) ∧ Bl w w' := by
  have hw := words4 hp hv hk (d := 51) (by omega)
  go_enter Try.func68, Try.ntmps68
  go_wp2_with (go_at_call 135; refine (spec_dgMix _ _ _ _ _ (rd_new4 _ _ _ _ _ _) hw (by omega)).mono ?_; rintro e w1 ⟨rfl, hb1⟩)
  go_ret
  exact ⟨rfl, ((Bl.refl w).alloc _).call hb1⟩
theorem impl_mark (p v k : Int) (w : World) (hp : -1000000000000000 ≤ p ∧ p ≤ 1000000000000000) (hv : -1000000000000000 ≤ v ∧ v ≤ 1000000000000000)
    (hk : -1000000000000000 ≤ k ∧ k ≤ 1000000000000000) :
    Calls Try.prog 82 #[.int .i64 p, .int .i64 v, .int .i64 k] w fun e w' => e = .returned (.int .i64 (markF p v k)) ∧ Bl w w' := by
  have hw := words4 hp hv hk (d := 51) (by omega)
  go_enter Try.func82, Try.ntmps82
  go_wp2_with (go_at_call 76; refine (impl_digest _ _ _ _ _ (rd_new4 _ _ _ _ _ _) hw (by omega)).mono ?_; rintro e w1 ⟨rfl, hb1⟩)
  go_ret
  exact ⟨rfl, ((Bl.refl w).alloc _).call hb1⟩
/-- The three tests of a commitment. -/
def comB (p v k : Int) : Bool := inR p 0 1 && inR v 0 65535 && inR k 0 1000000000
def comF (p v k : Int) : Int := if comB p v k then markF p v k else 0
theorem spec_CommitTo (p v k : Int) (w : World) :
    Calls Try.prog 35 #[.int .i64 p, .int .i64 v, .int .i64 k] w fun e w' => e = .returned (.tuple #[.int .i64 (comF p v k), .bool (comB p v k)]) ∧ Bl w w' := by
  rcases h1 : inR p 0 1 <;> rcases h2 : inR v 0 65535 <;> rcases h3 : inR k 0 1000000000
  case true.true.true =>
    have i1 := inR_iff.1 h1
    have i2 := inR_iff.1 h2
    have i3 := inR_iff.1 h3
    go_enter Try.func35, Try.ntmps35
    go_wp2_with (first
      | (go_at_call 77; refine (spec_cmParty _ _).mono ?_; rintro e w' ⟨rfl, rfl⟩)
      | (go_at_call 78; refine (spec_cmValue _ _).mono ?_; rintro e w' ⟨rfl, rfl⟩)
      | (go_at_call 86; refine (spec_shKey _ _).mono ?_; rintro e w' ⟨rfl, rfl⟩)
      | (go_at_call 68; refine (spec_cmMark _ _ _ _ (by omega) (by omega) (by omega)).mono ?_; rintro e w1 ⟨rfl, hb1⟩))
    go_ret2
    exact ⟨by simp [comF, comB, h1, h2, h3], hb1⟩
  all_goals
    go_enter Try.func35, Try.ntmps35
    go_wp2_with (first
      | (go_at_call 77; refine (spec_cmParty _ _).mono ?_; rintro e w' ⟨rfl, rfl⟩)
      | (go_at_call 78; refine (spec_cmValue _ _).mono ?_; rintro e w' ⟨rfl, rfl⟩)
      | (go_at_call 86; refine (spec_shKey _ _).mono ?_; rintro e w' ⟨rfl, rfl⟩))
    go_ret2
    exact ⟨by simp [comF, comB, h1, h2, h3], Bl.refl _⟩
theorem impl_CommitTo (p v k : Int) (w : World) :
    Calls Try.prog 12 #[.int .i64 p, .int .i64 v, .int .i64 k] w fun e w' => e = .returned (.tuple #[.int .i64 (comF p v k), .bool (comB p v k)]) ∧ Bl w w' := by
  rcases h1 : inR p 0 1 <;> rcases h2 : inR v 0 65535 <;> rcases h3 : inR k 0 1000000000
  case true.true.true =>
    have i1 := inR_iff.1 h1
    have i2 := inR_iff.1 h2
    have i3 := inR_iff.1 h3
    go_enter Try.func12, Try.ntmps12
    go_wp2_with (first
      | (go_at_call 72; refine (impl_isBit _ _).mono ?_; rintro e w' ⟨rfl, rfl⟩)
      | (go_at_call 73; refine (impl_isValue _ _).mono ?_; rintro e w' ⟨rfl, rfl⟩)
      | (go_at_call 81; refine (impl_isKey _ _).mono ?_; rintro e w' ⟨rfl, rfl⟩)
      | (go_at_call 82; refine (impl_mark _ _ _ _ (by omega) (by omega) (by omega)).mono ?_; rintro e w1 ⟨rfl, hb1⟩))
    go_ret2
    exact ⟨by simp [comF, comB, h1, h2, h3], hb1⟩
  all_goals
    go_enter Try.func12, Try.ntmps12
    go_wp2_with (first
      | (go_at_call 72; refine (impl_isBit _ _).mono ?_; rintro e w' ⟨rfl, rfl⟩)
      | (go_at_call 73; refine (impl_isValue _ _).mono ?_; rintro e w' ⟨rfl, rfl⟩)
      | (go_at_call 81; refine (impl_isKey _ _).mono ?_; rintro e w' ⟨rfl, rfl⟩))
    go_ret2
    exact ⟨by simp [comF, comB, h1, h2, h3], Bl.refl _⟩
end Go.Proofs.Ytglgaicbcackbaa
