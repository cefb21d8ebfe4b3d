/- Contracts of WidestFor on both sides, and the walk of its law.
   Conditions: the library's tables are laid, for the program's side. -/
import Derived.Test.YtjggecbaladiiaaGreatDoorCml
namespace Go.Proofs.YtjggecbaladiiaaGreatDoor
open Go.RowKit
set_option linter.unusedVariables false
def wfL (k m : Int) : Nat → Int × Bool
  | 0 => (0, false)
  | j + 1 => if cosA k ((j + 1 : Nat) : Int) ≤ m then (((j + 1 : Nat) : Int), true) else wfL k m j
/-- The widest width of a program with at most so many gates GtAnd. -/
def wfR (k m : Int) : Int × Bool := if inR k 0 11 = true ∧ inR m 0 1000 = true then wfL k m 4 else (0, false)
set_option maxRecDepth 20000 in
set_option maxHeartbeats 2000000 in
theorem impl_WidestFor (a m : Int) (w : World) (ht : Tb w) :
    Calls Tryz.prog 12 #[.int .i64 a, .int .i64 m] w fun e w' => e = .returned (.tuple #[.int .i64 (wfR a m).1, .bool (wfR a m).2]) ∧ Bl w w' := by
  rcases h1 : inR a 0 11
  · have HR := Lib.hid (show wfR a m = (0, false) by unfold wfR; rw [if_neg (by rw [h1]; simp)])
    go_enter Tryz.func12, Tryz.ntmps12
    go_wp2_with (first
      | (go_at_call 44; refine (impl_isNumbered a _).mono ?_; rintro e w1 ⟨rfl, rfl⟩; rw [h1])
      | (go_at_call 45; refine (impl_within _ _ _ _).mono ?_; rintro e w2 ⟨rfl, rfl⟩))
    go_ret2
    exact ⟨by rw [HR.out]; rfl, (by (repeat (first | with_reducible assumption | with_reducible exact Bl.refl _ | with_reducible refine Bl.drewN ?_ _ | with_reducible refine Bl.drew ?_ | with_reducible refine Bl.alloc ?_ _ | with_reducible refine Bl.setCell ?_ (by first | (dsimp only; omega) | (simp; omega)) _ | (with_reducible refine Bl.call ?_ (by with_reducible assumption)))))⟩
  · rcases h2 : inR m 0 1000
    · have HR := Lib.hid (show wfR a m = (0, false) by unfold wfR; rw [if_neg (by rw [h2]; simp)])
      go_enter Tryz.func12, Tryz.ntmps12
      go_wp2_with (first
        | (go_at_call 44; refine (impl_isNumbered a _).mono ?_; rintro e w1 ⟨rfl, rfl⟩; rw [h1])
        | (go_at_call 45; refine (impl_within _ _ _ _).mono ?_; rintro e w2 ⟨rfl, rfl⟩; rw [h2]))
      go_ret2
      exact ⟨by rw [HR.out]; rfl, (by (repeat (first | with_reducible assumption | with_reducible exact Bl.refl _ | with_reducible refine Bl.drewN ?_ _ | with_reducible refine Bl.drew ?_ | with_reducible refine Bl.alloc ?_ _ | with_reducible refine Bl.setCell ?_ (by first | (dsimp only; omega) | (simp; omega)) _ | (with_reducible refine Bl.call ?_ (by with_reducible assumption)))))⟩
    · have HR := Lib.hid (show wfR a m = wfL a m 4 by unfold wfR; rw [if_pos ⟨h1, h2⟩])
      have hW0 := Bl.refl w
      go_enter Tryz.func12, Tryz.ntmps12
      go_wp2_with (first
        | (go_at_call 44; refine (impl_isNumbered a _).mono ?_; rintro e w1 ⟨rfl, rfl⟩; rw [h1])
        | (go_at_call 45; refine (impl_within _ _ _ _).mono ?_; rintro e w2 ⟨rfl, rfl⟩; rw [h2]))
      go_loopw [6] (fun i wr => ∃ j : Nat, j ≤ 4 ∧ i = .int .i64 (j : Nat) ∧ Hid (wfR a m = wfL a m j) ∧ Bl w wr) (fun i _ => (intOf i).toNat)
      case atStart => exact ⟨4, by omega, rfl, HR, hW0⟩
      case round =>
        clear hW0
        obtain ⟨j, hj, rfl, hS, hW⟩ := hrel
        rcases j with _ | j
        · have i1 : ¬ (1 : Int) ≤ ((0 : Nat) : Int) := by decide
          go_wp2_with fail
          go_ret2
          exact ⟨by rw [hS.out]; rfl, hW⟩
        · have i1 : (1 : Int) ≤ ((j + 1 : Nat) : Int) := by omega
          obtain ⟨b, hb⟩ : ∃ b : Int, ((j + 1 : Nat) : Int) = b := ⟨_, rfl⟩
          rw [hb] at i1 ⊢
          have HBJ := Lib.hid hb
          have hb4 : 1 ≤ b ∧ b ≤ 4 := by omega
          have HW := Lib.hid (show wfR a m = if cosA a b ≤ m then (b, true) else wfL a m j by rw [hS.out, wfL, hb])
          have HC := Lib.hid (impl_CostOf a b)
          generalize cosA a b = y at HC HW
          generalize cosN a b = x at HC
          generalize pgB a b = z at HC
          clear hb hS
          by_cases hy : y ≤ m
          · go_wp2_with fail
            refine (HC.out _ (ht.keep hW)).mono ?_
            rintro e w3 ⟨rfl, hb3⟩
            go_wp2_with fail
            go_ret2
            exact ⟨by rw [HW.out, if_pos hy]; rfl, hW.call hb3⟩
          · go_wp2_with fail
            refine (HC.out _ (ht.keep hW)).mono ?_
            rintro e w3 ⟨rfl, hb3⟩
            go_wp2_with fail
            go_roundw
            case rel => exact ⟨j, by omega, (by have := HBJ.out; first | go_num | (rw [show (j : Int) = b - 1 by omega])), Lib.hid (by rw [HW.out, if_neg (by omega)]), hW.call hb3⟩
            case measure => have := HBJ.out; simp [intOf]; omega
set_option maxRecDepth 20000 in
set_option maxHeartbeats 2000000 in
theorem spec_WidestFor (a m : Int) (w : World) :
    Calls Tryz.prog 11 #[.int .i64 a, .int .i64 m] w fun e w' => e = .returned (.tuple #[.int .i64 (wfR a m).1, .bool (wfR a m).2]) ∧ Bl w w' := by
  have hp1 : pgB a 1 = inR a 0 11 := by unfold pgB; rw [show inR 1 1 4 = true from rfl, Bool.and_true]
  have hP := Lib.hid hp1
  clear hp1
  rcases h1 : inR a 0 11
  · have HR := Lib.hid (show wfR a m = (0, false) by unfold wfR; rw [if_neg (by rw [h1]; simp)])
    go_enter Tryz.func11, Tryz.ntmps11
    go_wp2_with (first
      | (go_at_call 37; refine (spec_pgGood a 1 _).mono ?_; rintro e w1 ⟨rfl, rfl⟩; rw [hP.out, h1])
      | (go_at_call 43; refine (spec_l1In _ _ _ _).mono ?_; rintro e w2 ⟨rfl, rfl⟩))
    go_ret2
    exact ⟨by rw [HR.out]; rfl, (by (repeat (first | with_reducible assumption | with_reducible exact Bl.refl _ | with_reducible refine Bl.drewN ?_ _ | with_reducible refine Bl.drew ?_ | with_reducible refine Bl.alloc ?_ _ | with_reducible refine Bl.setCell ?_ (by first | (dsimp only; omega) | (simp; omega)) _ | (with_reducible refine Bl.call ?_ (by with_reducible assumption)))))⟩
  · rcases h2 : inR m 0 1000
    · have HR := Lib.hid (show wfR a m = (0, false) by unfold wfR; rw [if_neg (by rw [h2]; simp)])
      go_enter Tryz.func11, Tryz.ntmps11
      go_wp2_with (first
        | (go_at_call 37; refine (spec_pgGood a 1 _).mono ?_; rintro e w1 ⟨rfl, rfl⟩; rw [hP.out, h1])
        | (go_at_call 43; refine (spec_l1In _ _ _ _).mono ?_; rintro e w2 ⟨rfl, rfl⟩; rw [h2]))
      go_ret2
      exact ⟨by rw [HR.out]; rfl, (by (repeat (first | with_reducible assumption | with_reducible exact Bl.refl _ | with_reducible refine Bl.drewN ?_ _ | with_reducible refine Bl.drew ?_ | with_reducible refine Bl.alloc ?_ _ | with_reducible refine Bl.setCell ?_ (by first | (dsimp only; omega) | (simp; omega)) _ | (with_reducible refine Bl.call ?_ (by with_reducible assumption)))))⟩
    · have HR := Lib.hid (show wfR a m = wfL a m 4 by unfold wfR; rw [if_pos ⟨h1, h2⟩])
      obtain ⟨k, rfl, hk⟩ : ∃ k : Nat, a = k ∧ k < 12 := by have := inR_iff.1 h1; exact ⟨a.toNat, by omega, by omega⟩
      have hW0 := Bl.refl w
      go_enter Tryz.func11, Tryz.ntmps11
      go_wp2_with (first
        | (go_at_call 37; refine (spec_pgGood k 1 _).mono ?_; rintro e w1 ⟨rfl, rfl⟩; rw [hP.out, h1])
        | (go_at_call 43; refine (spec_l1In _ _ _ _).mono ?_; rintro e w2 ⟨rfl, rfl⟩; rw [h2]))
      go_loopw [6] (fun i wr => ∃ j : Nat, j ≤ 4 ∧ i = .int .i64 (j : Nat) ∧ Hid (wfR k m = wfL k m j) ∧ Bl w wr) (fun i _ => (intOf i).toNat)
      case atStart => exact ⟨4, by omega, rfl, HR, hW0⟩
      case round =>
        clear hW0
        obtain ⟨j, hj, rfl, hS, hW⟩ := hrel
        rcases j with _ | j
        · have i1 : ¬ (0 : Int) < ((0 : Nat) : Int) := by decide
          go_wp2_with fail
          go_ret2
          exact ⟨by rw [hS.out]; rfl, hW⟩
        · have i1 : (0 : Int) < ((j + 1 : Nat) : Int) := by omega
          obtain ⟨b, hb⟩ : ∃ b : Int, ((j + 1 : Nat) : Int) = b := ⟨_, rfl⟩
          rw [hb] at i1 ⊢
          have HBJ := Lib.hid hb
          have hb4 : inR b 1 4 = true := inR_iff.2 (by omega)
          have hb5 : 1 ≤ b ∧ b ≤ 4 := by omega
          have HW := Lib.hid (show wfR k m = if cosA k b ≤ m then (b, true) else wfL k m j by rw [hS.out, wfL, hb])
          have hpg : pgB k b = true := by unfold pgB; rw [h1, hb4]; rfl
          obtain ⟨k2, ek2, _, _, hR⟩ := pgB_at hpg
          have ek3 : k2 = k := by omega
          rw [ek3] at hR
          clear ek2 ek3
          obtain ⟨hcI, hcR, hcS, hcE⟩ := pg_okc hk hb4
          have HE2 := Lib.hid (show cosA k b = (kN 1 (cpL mulI (pgL k b) (pgL k b).length).g (cpL mulI (pgL k b) (pgL k b).length).g.length : Nat) by unfold cosA; rw [hpg, hR]; rfl)
          have HK := Lib.hid (cgK (okC_at hcI (Nat.le_refl _)))
          have HG3 := (okC_at hcI (Nat.le_refl _)).g
          have RP := Lib.hid (fun A1 n1 c1 l1 gl nG no w h e h1 h2 h3 => spec_coCircuit A1 n1 c1 l1 (pgL k b) gl nG no w h k hk b hb4 e h1 h2 h3)
          obtain ⟨gl, hgl⟩ : ∃ gl, (cpL mulI (pgL k b) (pgL k b).length).g = gl := ⟨_, rfl⟩
          rw [hgl] at HK HG3 HE2
          have HGL := Lib.hid hgl
          obtain ⟨nG, hnG⟩ : ∃ nG, gl.length = nG := ⟨_, rfl⟩
          rw [hnG] at HG3 HE2
          have HNG := Lib.hid hnG
          rw [HE2.out] at HW
          obtain ⟨y, hy0⟩ : ∃ y : Int, ((kN 1 gl nG : Nat) : Int) = y := ⟨_, rfl⟩
          rw [hy0] at HW
          have HY := Lib.hid hy0
          have HB4 := Lib.hid hb4
          clear hb hS hpg hR hcI hcR hcS hcE hgl hnG hy0 HE2 hb4
          go_wp2_with fail
          refine (spec_pgFor k hk b HB4.out _).mono ?_
          rintro e w1 ⟨A1, n1, c1, l1, rfl, hl1, hm1, hb1⟩
          have HM := Lib.hid hm1
          clear hm1
          go_wp2_with fail
          refine (RP.out A1 n1 c1 l1 gl nG _ _ hl1 HM.out HGL.out HNG.out rfl).mono ?_
          generalize (cpL mulR (pgL k b) (pgL k b).length).ol.length = no
          generalize in0 (pgL k b) = a0
          generalize in1 (pgL k b) = a1
          rintro e w2 ⟨Ag, cg, Ao, co, rfl, hGd, hb2⟩
          go_wp2_with fail
          refine (spec_ciCounts a0 a1 Ag Ao nG cg no co gl _ hGd HK.out (by omega)).mono ?_
          rintro e w3 ⟨A5, rfl, hO5, hb3⟩
          obtain ⟨g5, rfl, hg51, hg52, hc5, _⟩ := hO5.form (by omega)
          have hc51 := hc5 1 _ rfl
          have hBF := ((hW.call hb1).call hb2).call hb3
          rw [HY.out] at hc51
          by_cases hy : y ≤ m
          · go_wp2_with fail
            go_ret2
            exact ⟨by rw [HW.out, if_pos hy]; rfl, hBF⟩
          · go_wp2_with fail
            go_roundw
            case rel => exact ⟨j, by omega, (by have := HBJ.out; first | go_num | (rw [show (j : Int) = b - 1 by omega])), Lib.hid (by rw [HW.out, if_neg (by omega)]), hBF⟩
            case measure => have := HBJ.out; simp [intOf]; omega
set_option maxHeartbeats 1000000 in
theorem law_WidestFor (a b : Int) (w : World) (ht : Tb w) :
    Calls Tryz.prog 4 #[.int .i64 a, .int .i64 b] w fun e w' => e = .returned (.bool true) ∧ Bl w w' := by
  have HS := Lib.hid (spec_WidestFor a b)
  have HI := Lib.hid (impl_WidestFor a b)
  generalize wfR a b = x at HS HI
  obtain ⟨x, y⟩ := x
  dsimp only at HS HI
  go_enter Tryz.func4, Tryz.ntmps4
  go_wp2_with fail
  refine (HS.out _).mono ?_
  rintro e w1 ⟨rfl, hb1⟩
  go_wp2_with fail
  refine (HI.out _ (ht.keep hb1)).mono ?_
  rintro e w2 ⟨rfl, hb2⟩
  have hB := hb1.call hb2
  go_wp2_with fail
  go_ret
  exact ⟨rfl, hB⟩
end Go.Proofs.YtjggecbaladiiaaGreatDoor
