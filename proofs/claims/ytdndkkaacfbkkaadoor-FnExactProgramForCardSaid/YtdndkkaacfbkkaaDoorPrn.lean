/- The walk of the law FnExactProgramFor.
   Conditions: the library's tables are laid. -/
import Derived.Test.YtdndkkaacfbkkaaDoorPrk
import Derived.Test.YtdndkkaacfbkkaaDoorPrl
namespace Go.Proofs.YtdndkkaacfbkkaaDoor
open Go.RowKit
set_option linter.unusedVariables false
def totP : List Ln → Nat
  | [] => 0
  | x :: r => cntL x + totP r
theorem totL_map : ∀ l : List (Hd × Ln), totL l = totP (l.map (·.2))
  | [] => rfl
  | p :: r => by rw [totL, List.map_cons, totP, totL_map r]
theorem pgL_tot (k : Nat) (w : Int) : totP (pgL k w) ≤ 1000 := by
  unfold pgL
  split <;> simp [totP, cntL]
theorem pgR_tot (a b : Int) : totP (pgR a b) ≤ 1000 := by
  unfold pgR
  split
  · exact pgL_tot _ _
  · exact Nat.zero_le _
set_option maxHeartbeats 2000000 in
theorem law_ProgramFor (a b : Int) (w : World) (ht : Tb w) :
    Calls Tryd.prog 3 #[.int .i64 a, .int .i64 b] w fun e w' => e = .returned (.bool true) ∧ Bl w w' := by
  have HT := Lib.hid (pgR_tot a b)
  have S := Lib.hid (fun w => spec_ProgramFor a b w)
  have I := Lib.hid (fun w hw => impl_ProgramFor a b w hw)
  obtain ⟨B, hB⟩ : ∃ B, pgB a b = B := ⟨_, rfl⟩
  obtain ⟨R, hR⟩ : ∃ R, pgR a b = R := ⟨_, rfl⟩
  rw [hB, hR] at S I
  rw [hR] at HT
  clear hB hR
  go_enter Tryd.func3, Tryd.ntmps3
  go_wp2_with fail
  refine (S.out _).mono ?_
  rintro e w1 ⟨A0, n0, c0, l0, rfl, hr0, hm0, hb1⟩
  go_wp2_with fail
  refine (I.out _ (ht.keep hb1)).mono ?_
  rintro e w2 ⟨A1, n1, c1, l1, rfl, ho1, hm1, hb2⟩
  have hml := Lib.hid (hm1.trans hm0.symm)
  have htt : totL l1 ≤ 1000 := by rw [totL_map, hm1]; exact HT.out
  clear hm1
  go_wp2_with fail
  refine (laws_eqLineS _ _ _ _ _ _ l1 l0 _ ho1.rd (hr0.keep hb2) hml.out).mono ?_
  rintro e w3 ⟨rfl, hb3⟩
  go_wp2_with fail
  refine (laws_markLineS A1 n1 c1 _ l1 1 _ (ho1.keep hb3) (by omega) (by omega)).mono ?_
  rintro e w4 ⟨rfl, ho4, hk4⟩
  have hb4 := hk4 w1 (hb2.call hb3) (Nat.le_refl _)
  clear hk4
  go_wp2_with fail
  refine (laws_heldLineS A1 n1 c1 l1 1 _ ho4.rd (by omega) (by omega)).mono ?_
  rintro e w5 ⟨rfl, hb5⟩
  go_wp2_with fail
  refine (I.out _ (ht.keep (hb1.call (hb4.call hb5)))).mono ?_
  rintro e w6 ⟨A2, n2, c2, l2, rfl, ho2, hm2, hb6⟩
  have hml2 := Lib.hid (hm2.trans hm0.symm)
  clear hm2
  go_wp2_with fail
  refine (laws_eqLineS _ _ _ _ _ _ l2 l0 _ ho2.rd (hr0.keep (hb4.call (hb5.call hb6))) hml2.out).mono ?_
  rintro e w7 ⟨rfl, hb7⟩
  go_wp2_with fail
  refine (laws_heldLineS A1 n1 c1 l1 1 _ (ho4.rd.keep (hb5.call (hb6.call hb7))) (by omega) (by omega)).mono ?_
  rintro e w8 ⟨rfl, hb8⟩
  go_wp2_with fail
  go_ret
  exact ⟨rfl, hb1.call (hb4.call (hb5.call (hb6.call (hb7.call hb8))))⟩
end Go.Proofs.YtdndkkaacfbkkaaDoor
