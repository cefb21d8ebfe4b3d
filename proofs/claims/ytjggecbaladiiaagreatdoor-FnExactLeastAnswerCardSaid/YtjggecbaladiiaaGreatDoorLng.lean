/- The walk of the law FnExactLeastAnswer.
   Conditions: the library's tables are laid. -/
import Derived.Test.YtjggecbaladiiaaGreatDoorLnf
import Derived.Test.YtjggecbaladiiaaGreatDoorToi
import Derived.Test.YtjggecbaladiiaaGreatDoorLst
import Derived.Test.YtjggecbaladiiaaGreatDoorMrk
namespace Go.Proofs.YtjggecbaladiiaaGreatDoor
open Go.RowKit
set_option linter.unusedVariables false
set_option maxHeartbeats 2000000 in
theorem law_LeastAnswer (a b p : Int) (A : Option Addr) (n c : Nat) (l : List Int) (w : World) (h : RdI w A n c l) (ht : Tb w) (h10 : Lib.TabIs Tryz.prog w "internal/strconv.uint64pow10" .u64 Lib.pow10Tab) :
    Calls Tryz.prog 5 #[.int .i64 a, .int .i64 b, .int .i64 p, .slice A n c] w fun e w' => e = .returned (.bool true) ∧ Bl w w' := by
  obtain ⟨hle1, hle2⟩ := h.le
  by_cases hn : (1048576 : Int) < n
  · go_enter Tryz.func5, Tryz.ntmps5
    go_wp2
    go_ret
    exact ⟨rfl, Bl.refl _⟩
  have S := Lib.hid (fun A n c w hx => spec_LeastAnswer a b p A n c l w hx)
  have I := Lib.hid (fun A n c w hx ht h10 => impl_LeastAnswer a b p A n c l w hx ht h10)
  obtain ⟨E, hE⟩ : ∃ E, lqB a b p l = E := ⟨_, rfl⟩
  obtain ⟨R, hR⟩ : ∃ R, lqV a b p l = R := ⟨_, rfl⟩
  rw [hE, hR] at S I
  clear hE hR
  go_enter Tryz.func5, Tryz.ntmps5
  go_wp2_with fail
  refine (laws_toIntS A n c l _ h (by omega)).mono ?_
  rintro e w1 ⟨A1, c1, rfl, h1, hb1⟩
  go_wp2_with fail
  refine (S.out _ _ _ _ h1.rd).mono ?_
  rintro e w2 ⟨rfl, hb2⟩
  have hW2 := hb1.call hb2
  go_wp2_with fail
  refine (laws_toIntS A n c l _ (h.keep hW2) (by omega)).mono ?_
  rintro e w3 ⟨A3, c3, rfl, h3, hb3⟩
  have hW3 := hW2.call hb3
  go_wp2_with fail
  refine (I.out _ _ _ _ h3.rd (ht.keep hW3) (tab_keep h10 hW3)).mono ?_
  rintro e w4 ⟨rfl, hb4⟩
  have hW4 := hW3.call hb4
  go_wp2_with fail
  refine (laws_toIntS A n c l _ (h.keep hW4) (by omega)).mono ?_
  rintro e w5 ⟨A5, c5, rfl, h5, hb5⟩
  have hW5 := hW4.call hb5
  go_wp2_with fail
  refine (laws_eqIntS _ _ _ _ _ _ l l _ ((h3.rd.keep hb4).keep hb5) h5.rd).mono ?_
  rintro e w6 ⟨rfl, hb6⟩
  rw [decide_eq_true rfl]
  go_wp2_with fail
  go_ret
  exact ⟨rfl, hW5.call hb6⟩
end Go.Proofs.YtjggecbaladiiaaGreatDoor
