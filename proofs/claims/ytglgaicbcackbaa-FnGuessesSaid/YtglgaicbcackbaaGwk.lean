/- The walk of the law FnGuesses.
   Conditions: the texts are bytes. -/
import Derived.Test.YtglgaicbcackbaaGpl
import Derived.Test.YtglgaicbcackbaaIgl
import Derived.Test.YtglgaicbcackbaaVdr
import Derived.Test.YtglgaicbcackbaaSmi
namespace Go.Proofs.Ytglgaicbcackbaa
open Go.RowKit
set_option linter.unusedVariables false
theorem bg_f (q i e : Int) (h : bgB q i e = false) : ∃ R, Hid (∀ w : World, Calls Try.prog 39 #[.int .i64 q, .int .i64 i, .int .i64 e] w fun e w' => e = .returned (.tuple #[.int .i64 R, .bool false]) ∧ Bl w w') ∧ Hid (∀ w : World, Calls Try.prog 40 #[.int .i64 q, .int .i64 i, .int .i64 e] w fun e w' => e = .returned (.tuple #[.int .i64 R, .bool false]) ∧ Bl w w') := by
  have HI := fun w => impl_BestGuesses q i e w
  have HS := fun w => spec_BestGuesses q i e w
  rw [h] at HI HS
  exact ⟨_, Lib.hid HI, Lib.hid HS⟩
theorem bg_t (q i e : Int) (h : bgB q i e = true) : ∃ R K, Hid (∀ w : World, Calls Try.prog 39 #[.int .i64 q, .int .i64 i, .int .i64 e] w fun e w' => e = .returned (.tuple #[.int .i64 R, .bool true]) ∧ Bl w w') ∧ Hid (∀ w : World, Calls Try.prog 40 #[.int .i64 q, .int .i64 i, .int .i64 e] w fun e w' => e = .returned (.tuple #[.int .i64 R, .bool true]) ∧ Bl w w') ∧ Hid (∀ w : World, Calls Try.prog 41 #[.int .i64 q, .int .i64 i] w fun e w' => e = .returned (.tuple #[.int .i64 K, .bool true]) ∧ Bl w w') ∧ Hid (∀ w : World, Calls Try.prog 42 #[.int .i64 q, .int .i64 i] w fun e w' => e = .returned (.tuple #[.int .i64 K, .bool true]) ∧ Bl w w') ∧ K ≤ R ∧ R ≤ 1024 ∧ (e = 0 ∧ R = K ∨ e = 3 ∧ R = 1024 ∨ ¬ e = 0 ∧ ¬ e = 3) := by
  obtain ⟨hI, h1, h2, h3, h4, h5⟩ := bg_facts q i e h
  have HI := fun w => impl_BestGuesses q i e w
  have HS := fun w => spec_BestGuesses q i e w
  have GI := fun w => impl_IdealGuesses q i w
  have GS := fun w => spec_IdealGuesses q i w
  rw [h] at HI HS
  rw [hI] at GI GS
  refine ⟨_, _, Lib.hid HI, Lib.hid HS, Lib.hid GI, Lib.hid GS, h1, h2, ?_⟩
  by_cases e0 : e = 0
  · exact .inl ⟨e0, h3 e0⟩
  · by_cases e3 : e = 3
    · exact .inr (.inl ⟨e3, h4 e3⟩)
    · exact .inr (.inr ⟨e0, e3⟩)
theorem ra_f (p c : Int) (h : raB p c = false) : ∃ L, Hid (∀ w : World, Calls Try.prog 44 #[.int .i64 p, .int .i64 c] w fun e w' => (∃ A' n' c', e = .returned (.tuple #[.slice A' n' c', .bool false]) ∧ RdI w' A' n' c' L ∧ Bl w w')) ∧ Hid (∀ w : World, Calls Try.prog 45 #[.int .i64 p, .int .i64 c] w fun e w' => (∃ A' n' c', e = .returned (.tuple #[.slice A' n' c', .bool false]) ∧ RdI w' A' n' c' L ∧ Bl w w')) := by
  have HI := fun w => impl_RandomOf p c w
  have HS := fun w => spec_RandomOf p c w
  rw [h] at HI HS
  exact ⟨_, Lib.hid fun w => (HI w).mono fun e w' ⟨A', n', c', he, ho, hb⟩ => ⟨A', n', c', he, ho.rd, hb⟩, Lib.hid fun w => (HS w).mono fun e w' ⟨A', n', c', he, ho, hb⟩ => ⟨A', n', c', he, ho.rd, hb⟩⟩
theorem ra_t (p c : Int) (h : raB p c = true) : ∃ (L : List Int) (V P : Nat → Int), Hid (∀ w : World, Calls Try.prog 44 #[.int .i64 p, .int .i64 c] w fun e w' => (∃ A' c', e = .returned (.tuple #[.slice A' 9 c', .bool true]) ∧ RdI w' A' 9 c' L ∧ Bl w w')) ∧ Hid (∀ w : World, Calls Try.prog 45 #[.int .i64 p, .int .i64 c] w fun e w' => (∃ A' c', e = .returned (.tuple #[.slice A' 9 c', .bool true]) ∧ RdI w' A' 9 c' L ∧ Bl w w')) ∧ Hid (V 0 = 0) ∧ Hid (P 0 = 1) ∧
    Hid (∀ k x, L[k]? = some x → V (k + 1) = V k + x * P k ∧ P (k + 1) = P k * p ∧ (0 ≤ V k ∧ V k ≤ 100000000000) ∧ (0 ≤ x * P k ∧ x * P k ≤ 100000000000) ∧ (0 ≤ P k * p ∧ P k * p ≤ 100000000000)) ∧ Hid (V 9 = c) := by
  obtain ⟨hp, hR, hl, hm, hv⟩ := raR_facts p c h
  have HI := fun w => impl_RandomOf p c w
  have HS := fun w => spec_RandomOf p c w
  rw [h] at HI HS
  refine ⟨raR p c, fun k => vcF p ((raR p c).take k), pw p, Lib.hid fun w => (HI w).mono fun e w' ⟨A', n', c', he, ho, hb⟩ => ?_, Lib.hid fun w => (HS w).mono fun e w' ⟨A', n', c', he, ho, hb⟩ => ?_, Lib.hid (by simp [vcF]), Lib.hid rfl, Lib.hid fun k x hx => ?_, Lib.hid ?_⟩
  · have hn := ho.length
    rw [hl] at hn
    obtain rfl : n' = 9 := hn.symm
    exact ⟨A', c', he, ho.rd, hb⟩
  · have hn := ho.length
    rw [hl] at hn
    obtain rfl : n' = 9 := hn.symm
    exact ⟨A', c', he, ho.rd, hb⟩
  · have hk : k < 9 := by rw [← hl]; exact (List.getElem?_eq_some_iff.1 hx).1
    have hxb := hm x (List.mem_of_getElem? hx)
    have b1 := pw_bd p (by omega) (by omega) k (by omega)
    have b2 := pw_bd p (by omega) (by omega) (k + 1) (by omega)
    have b3 := vcF_bd p (by omega) (by omega) ((raR p c).take k) (fun z hz => hm z (List.mem_of_mem_take hz))
    rw [List.length_take, hl, Nat.min_eq_left (by omega)] at b3
    have e1 : pw p (k + 1) = pw p k * p := rfl
    have b4 : x * pw p k ≤ p * pw p k := Int.mul_le_mul_of_nonneg_right (by omega) b1.1
    have b5 : 0 ≤ x * pw p k := Int.mul_nonneg hxb.1 b1.1
    rw [Int.mul_comm p, ← e1] at b4
    rw [e1] at b2 b4
    exact ⟨vcF_take hx, rfl, by dsimp only; omega, by omega, by omega⟩
  · show vcF p ((raR p c).take 9) = c
    rw [← hl, List.take_length, hv]
theorem vc_get (p : Int) (l : List Int) : ∃ K b, Hid (∀ (A : Option Addr) (n c : Nat) (w : World), RdI w A n c l → Calls Try.prog 47 #[.int .i64 p, .slice A n c] w fun e w' => e = .returned (.tuple #[.int .i64 K, .bool b]) ∧ Bl w w') ∧
    Hid (∀ (A : Option Addr) (n c : Nat) (w : World), RdI w A n c l → Calls Try.prog 48 #[.int .i64 p, .slice A n c] w fun e w' => e = .returned (.tuple #[.int .i64 K, .bool b]) ∧ Bl w w') :=
  ⟨_, _, Lib.hid fun A n c w h => impl_ViewCode A n c l p w h, Lib.hid fun A n c w h => spec_ViewCode A n c l p w h⟩
theorem ci_get (p q i o : Int) : ∃ L b, Hid (∀ w : World, Calls Try.prog 50 #[.int .i64 p, .int .i64 q, .int .i64 i, .int .i64 o] w fun e w' => (∃ A' n' c', e = .returned (.tuple #[.slice A' n' c', .bool b]) ∧ RdI w' A' n' c' L ∧ Bl w w')) ∧ Hid (∀ w : World, Calls Try.prog 51 #[.int .i64 p, .int .i64 q, .int .i64 i, .int .i64 o] w fun e w' => (∃ A' n' c', e = .returned (.tuple #[.slice A' n' c', .bool b]) ∧ RdI w' A' n' c' L ∧ Bl w w')) ∧ Hid (∀ v ∈ L, ¬ p = 0 ∧ IntKind.i64.wrap (i * v) = i * v ∧ (i * v).tmod p = o) := by
  refine ⟨consR p q i o, consB p q i o, Lib.hid fun w => (impl_ConsistentInputs p q i o w).mono fun e w' ⟨A', n', c', he, ho, hb⟩ => ⟨A', n', c', he, ho.rd, hb⟩, Lib.hid fun w => (spec_ConsistentInputs p q i o w).mono fun e w' ⟨A', n', c', he, ho, hb⟩ => ⟨A', n', c', he, ho.rd, hb⟩, Lib.hid fun v hv => ?_⟩
  rcases hB : consB p q i o
  · unfold consR at hv
    rw [hB] at hv
    simp at hv
  · obtain ⟨hp, hi, hv2, he⟩ := consR_mem p q i o hB v hv
    have hm : 0 ≤ i * v ∧ i * v ≤ 251 * 251 := ⟨Int.mul_nonneg hi.1 hv2.1, Int.mul_le_mul (by omega) (by omega) hv2.1 (by omega)⟩
    exact ⟨by omega, IntWalk.i64_in _ (by omega), by rw [Int.tmod_eq_emod_of_nonneg hm.1, he]⟩
set_option maxRecDepth 20000 in
set_option maxHeartbeats 16000000 in
theorem law_Guesses (A B : Option Addr) (n c m d : Nat) (l l' : List Int) (w : World) (hA : RdB w A n c l) (hB : RdB w B m d l') :
    Calls Try.prog 5 #[.slice A n c, .slice B m d] w fun e w' => e = .returned (.bool true) ∧ Bl w w' := by
  have hW := Bl.refl w
  go_enter Try.func5, Try.ntmps5
  go_wp2_with (first | (go_at_call 7; refine (big_c _ _ _ _ _ _ _ _ _ hA hB).mono ?_; rintro e w0 ⟨b, rfl, rfl⟩; cases b) | (go_at_call 38; refine (spec_DrawBestGuesses _ _ _ _ _ (hA.keep ?_)).mono ?_; (· ((repeat (first | assumption | with_reducible exact Bl.refl _ | with_reducible refine Bl.drewN ?_ _ | with_reducible refine Bl.drew ?_ | with_reducible refine Bl.alloc ?_ _ | (with_reducible refine Bl.call ?_ (by assumption)))); done)); rintro e w1 ⟨p0, i0, e0, rfl, hb1⟩; replace hW : Bl w w1 := (by (repeat (first | assumption | with_reducible exact Bl.refl _ | with_reducible refine Bl.drewN ?_ _ | with_reducible refine Bl.drew ?_ | with_reducible refine Bl.alloc ?_ _ | (with_reducible refine Bl.call ?_ (by assumption))))); clear hb1; rcases hb0 : bgB p0 i0 e0; (obtain ⟨R, g1, g2⟩ := bg_f p0 i0 e0 hb0; clear hb0); rotate_left; (obtain ⟨R, K, g1, g2, g3, g4, hKR, hR, hE⟩ := bg_t p0 i0 e0 hb0; clear hb0); (rcases hE with ⟨rfl, rfl⟩ | ⟨rfl, rfl⟩ | ⟨e1, e3⟩)) | (go_at_call 39; refine (g1.out _).mono ?_; rintro e w1 ⟨rfl, hb1⟩; replace hW : Bl w w1 := (by (repeat (first | assumption | with_reducible exact Bl.refl _ | with_reducible refine Bl.drewN ?_ _ | with_reducible refine Bl.drew ?_ | with_reducible refine Bl.alloc ?_ _ | (with_reducible refine Bl.call ?_ (by assumption))))); clear g1; clear hb1) | (go_at_call 40; refine (g2.out _).mono ?_; rintro e w1 ⟨rfl, hb1⟩; replace hW : Bl w w1 := (by (repeat (first | assumption | with_reducible exact Bl.refl _ | with_reducible refine Bl.drewN ?_ _ | with_reducible refine Bl.drew ?_ | with_reducible refine Bl.alloc ?_ _ | (with_reducible refine Bl.call ?_ (by assumption))))); clear g2; clear hb1) | (go_at_call 41; refine (g3.out _).mono ?_; rintro e w1 ⟨rfl, hb1⟩; replace hW : Bl w w1 := (by (repeat (first | assumption | with_reducible exact Bl.refl _ | with_reducible refine Bl.drewN ?_ _ | with_reducible refine Bl.drew ?_ | with_reducible refine Bl.alloc ?_ _ | (with_reducible refine Bl.call ?_ (by assumption))))); clear g3; clear hb1) | (go_at_call 42; refine (g4.out _).mono ?_; rintro e w1 ⟨rfl, hb1⟩; replace hW : Bl w w1 := (by (repeat (first | assumption | with_reducible exact Bl.refl _ | with_reducible refine Bl.drewN ?_ _ | with_reducible refine Bl.drew ?_ | with_reducible refine Bl.alloc ?_ _ | (with_reducible refine Bl.call ?_ (by assumption))))); clear g4; clear hb1) | (go_at_call 43; refine (spec_DrawRandomOf _ _ _ _ _ (hB.keep ?_)).mono ?_; (· ((repeat (first | assumption | with_reducible exact Bl.refl _ | with_reducible refine Bl.drewN ?_ _ | with_reducible refine Bl.drew ?_ | with_reducible refine Bl.alloc ?_ _ | (with_reducible refine Bl.call ?_ (by assumption)))); done)); rintro e w1 ⟨p1, c1, rfl, hb1⟩; replace hW : Bl w w1 := (by (repeat (first | assumption | with_reducible exact Bl.refl _ | with_reducible refine Bl.drewN ?_ _ | with_reducible refine Bl.drew ?_ | with_reducible refine Bl.alloc ?_ _ | (with_reducible refine Bl.call ?_ (by assumption))))); clear hb1; rcases hb0 : raB p1 c1; (obtain ⟨L, r1, r2⟩ := ra_f p1 c1 hb0; clear hb0); rotate_left; (obtain ⟨L, V, P, r1, r2, hV0, hP0, hS, hV9⟩ := ra_t p1 c1 hb0; clear hb0; have tT := True.intro)) | (go_at_call 44; refine (r1.out _).mono ?_; rintro e w1 ⟨A2, n2, c2, rfl, hr2, hb1⟩; replace hW : Bl w w1 := (by (repeat (first | assumption | with_reducible exact Bl.refl _ | with_reducible refine Bl.drewN ?_ _ | with_reducible refine Bl.drew ?_ | with_reducible refine Bl.alloc ?_ _ | (with_reducible refine Bl.call ?_ (by assumption))))); clear r1; clear hb1) | (go_at_call 45; refine (r2.out _).mono ?_; rintro e w1 ⟨A3, n3, c3, rfl, hr3, hb1⟩; replace hW : Bl w w1 := (by (repeat (first | assumption | with_reducible exact Bl.refl _ | with_reducible refine Bl.drewN ?_ _ | with_reducible refine Bl.drew ?_ | with_reducible refine Bl.alloc ?_ _ | (with_reducible refine Bl.call ?_ (by assumption))))); clear r2; replace hr2 := hr2.keep hb1; clear hb1) | (go_at_call 44; refine (r1.out _).mono ?_; rintro e w1 ⟨A2, c2, rfl, hr2, hb1⟩; replace hW : Bl w w1 := (by (repeat (first | assumption | with_reducible exact Bl.refl _ | with_reducible refine Bl.drewN ?_ _ | with_reducible refine Bl.drew ?_ | with_reducible refine Bl.alloc ?_ _ | (with_reducible refine Bl.call ?_ (by assumption))))); clear r1; clear hb1) | (go_at_call 45; refine (r2.out _).mono ?_; rintro e w1 ⟨A3, c3, rfl, hr3, hb1⟩; replace hW : Bl w w1 := (by (repeat (first | assumption | with_reducible exact Bl.refl _ | with_reducible refine Bl.drewN ?_ _ | with_reducible refine Bl.drew ?_ | with_reducible refine Bl.alloc ?_ _ | (with_reducible refine Bl.call ?_ (by assumption))))); clear r2; replace hr2 := hr2.keep hb1; clear hb1) | (go_at_call 11; first | (refine (same_t _ _ _ _ _ _ _ _ hr2 hr3).mono ?_; rintro e w1 ⟨rfl, hb1⟩; replace hr3 := hr3.keep hb1; replace hW : Bl w w1 := (by (repeat (first | assumption | with_reducible exact Bl.refl _ | with_reducible refine Bl.drewN ?_ _ | with_reducible refine Bl.drew ?_ | with_reducible refine Bl.alloc ?_ _ | (with_reducible refine Bl.call ?_ (by assumption))))); clear hb1 hr2) | (refine (same_t _ _ _ _ _ _ _ _ hr7 hr8).mono ?_; rintro e w1 ⟨rfl, hb1⟩; replace hr8 := hr8.keep hb1; replace hW : Bl w w1 := (by (repeat (first | assumption | with_reducible exact Bl.refl _ | with_reducible refine Bl.drewN ?_ _ | with_reducible refine Bl.drew ?_ | with_reducible refine Bl.alloc ?_ _ | (with_reducible refine Bl.call ?_ (by assumption))))); clear hb1 hr7)) | (go_at_call 46; refine (spec_DrawViewCode _ _ _ _ _ (hB.keep ?_)).mono ?_; (· ((repeat (first | assumption | with_reducible exact Bl.refl _ | with_reducible refine Bl.drewN ?_ _ | with_reducible refine Bl.drew ?_ | with_reducible refine Bl.alloc ?_ _ | (with_reducible refine Bl.call ?_ (by assumption)))); done)); rintro e w1 ⟨p4, A4, n4, c4, l4, rfl, hown, hb1⟩; replace hW : Bl w w1 := (by (repeat (first | assumption | with_reducible exact Bl.refl _ | with_reducible refine Bl.drewN ?_ _ | with_reducible refine Bl.drew ?_ | with_reducible refine Bl.alloc ?_ _ | (with_reducible refine Bl.call ?_ (by assumption))))); clear hb1; (try clear hr3); have hr4 := hown.rd; clear hown; obtain ⟨K4, b4, v1, v2⟩ := vc_get p4 l4) | (go_at_call 47; refine (v1.out _ _ _ _ hr4).mono ?_; rintro e w1 ⟨rfl, hb1⟩; replace hW : Bl w w1 := (by (repeat (first | assumption | with_reducible exact Bl.refl _ | with_reducible refine Bl.drewN ?_ _ | with_reducible refine Bl.drew ?_ | with_reducible refine Bl.alloc ?_ _ | (with_reducible refine Bl.call ?_ (by assumption))))); clear v1; replace hr4 := hr4.keep hb1; clear hb1) | (go_at_call 48; refine (v2.out _ _ _ _ hr4).mono ?_; rintro e w1 ⟨rfl, hb1⟩; replace hW : Bl w w1 := (by (repeat (first | assumption | with_reducible exact Bl.refl _ | with_reducible refine Bl.drewN ?_ _ | with_reducible refine Bl.drew ?_ | with_reducible refine Bl.alloc ?_ _ | (with_reducible refine Bl.call ?_ (by assumption))))); clear v2 hr4; clear hb1) | (go_at_call 49; refine (spec_DrawConsistentInputs _ _ _ _ _ (hB.keep ?_)).mono ?_; (· ((repeat (first | assumption | with_reducible exact Bl.refl _ | with_reducible refine Bl.drewN ?_ _ | with_reducible refine Bl.drew ?_ | with_reducible refine Bl.alloc ?_ _ | (with_reducible refine Bl.call ?_ (by assumption)))); done)); rintro e w1 ⟨p5, q5, i5, o5, rfl, hb1⟩; replace hW : Bl w w1 := (by (repeat (first | assumption | with_reducible exact Bl.refl _ | with_reducible refine Bl.drewN ?_ _ | with_reducible refine Bl.drew ?_ | with_reducible refine Bl.alloc ?_ _ | (with_reducible refine Bl.call ?_ (by assumption))))); clear hb1; obtain ⟨L5, b5, k1, k2, hM⟩ := ci_get p5 q5 i5 o5) | (go_at_call 50; refine (k1.out _).mono ?_; rintro e w1 ⟨A7, n7, c7, rfl, hr7, hb1⟩; replace hW : Bl w w1 := (by (repeat (first | assumption | with_reducible exact Bl.refl _ | with_reducible refine Bl.drewN ?_ _ | with_reducible refine Bl.drew ?_ | with_reducible refine Bl.alloc ?_ _ | (with_reducible refine Bl.call ?_ (by assumption))))); clear k1; clear hb1) | (go_at_call 51; refine (k2.out _).mono ?_; rintro e w1 ⟨A8, n8, c8, rfl, hr8, hb1⟩; replace hW : Bl w w1 := (by (repeat (first | assumption | with_reducible exact Bl.refl _ | with_reducible refine Bl.drewN ?_ _ | with_reducible refine Bl.drew ?_ | with_reducible refine Bl.alloc ?_ _ | (with_reducible refine Bl.call ?_ (by assumption))))); clear k2; replace hr7 := hr7.keep hb1; clear hb1))
  all_goals first
    | go_ret
      exact ⟨rfl, hW⟩
    | have tk := tT
      clear tk tT
      go_loopw [22, 23, 152] (fun s q i wr => ∃ k : Nat, k ≤ 9 ∧ i = .int .i64 (k : Nat) ∧ s = .int .i64 (V k) ∧ q = .int .i64 (P k) ∧ Bl w wr ∧ RdI wr A3 9 c3 L) (fun _ _ i _ => 9 - (intOf i).toNat)
      case atStart => exact ⟨0, by omega, rfl, by rw [hV0.out], by rw [hP0.out], hW, hr3⟩
      case round =>
        clear hW hr3
        obtain ⟨k, hk, rfl, rfl, rfl, hW, hr3⟩ := hrel
        by_cases hlt : k < 9
        · have i1 : (k : Int) < 9 := by omega
          obtain ⟨ad, x, rfl, hadb, hx, hcell⟩ := hr3.at_ hlt
          obtain ⟨h1, h2, h3, h4, h5⟩ := hS.out k x hx
          have H1 := Lib.hid h1
          have H2 := Lib.hid h2
          clear hx h1 h2
          generalize V k = v at *
          generalize P k = u at *
          have hwa : IntKind.i64.wrap (x * u) = x * u := IntWalk.i64_in _ (by omega)
          have hwb : IntKind.i64.wrap (u * p1) = u * p1 := IntWalk.i64_in _ (by omega)
          have hwc : IntKind.i64.wrap (v + x * u) = v + x * u := IntWalk.i64_in _ (by omega)
          go_wp2
          go_roundw
          case rel => exact ⟨k + 1, by omega, by go_num, by rw [H1.out], by rw [H2.out], hW, hr3⟩
          case measure => simp [intOf]; omega
        · have he : k = 9 := by omega
          subst he
          have hVc := Lib.hid hV9.out
          rw [hV9.out]
          clear hS hV0 hP0 hV9 hVc hr3
          have i1 : ¬ ((9 : Nat) : Int) < 9 := by omega
          go_wp2_with (first | (go_at_call 46; refine (spec_DrawViewCode _ _ _ _ _ (hB.keep ?_)).mono ?_; (· ((repeat (first | assumption | with_reducible exact Bl.refl _ | with_reducible refine Bl.drewN ?_ _ | with_reducible refine Bl.drew ?_ | with_reducible refine Bl.alloc ?_ _ | (with_reducible refine Bl.call ?_ (by assumption)))); done)); rintro e w1 ⟨p4, A4, n4, c4, l4, rfl, hown, hb1⟩; replace hW : Bl w w1 := (by (repeat (first | assumption | with_reducible exact Bl.refl _ | with_reducible refine Bl.drewN ?_ _ | with_reducible refine Bl.drew ?_ | with_reducible refine Bl.alloc ?_ _ | (with_reducible refine Bl.call ?_ (by assumption))))); clear hb1; (try clear hr3); have hr4 := hown.rd; clear hown; obtain ⟨K4, b4, v1, v2⟩ := vc_get p4 l4) | (go_at_call 47; refine (v1.out _ _ _ _ hr4).mono ?_; rintro e w1 ⟨rfl, hb1⟩; replace hW : Bl w w1 := (by (repeat (first | assumption | with_reducible exact Bl.refl _ | with_reducible refine Bl.drewN ?_ _ | with_reducible refine Bl.drew ?_ | with_reducible refine Bl.alloc ?_ _ | (with_reducible refine Bl.call ?_ (by assumption))))); clear v1; replace hr4 := hr4.keep hb1; clear hb1) | (go_at_call 48; refine (v2.out _ _ _ _ hr4).mono ?_; rintro e w1 ⟨rfl, hb1⟩; replace hW : Bl w w1 := (by (repeat (first | assumption | with_reducible exact Bl.refl _ | with_reducible refine Bl.drewN ?_ _ | with_reducible refine Bl.drew ?_ | with_reducible refine Bl.alloc ?_ _ | (with_reducible refine Bl.call ?_ (by assumption))))); clear v2 hr4; clear hb1) | (go_at_call 49; refine (spec_DrawConsistentInputs _ _ _ _ _ (hB.keep ?_)).mono ?_; (· ((repeat (first | assumption | with_reducible exact Bl.refl _ | with_reducible refine Bl.drewN ?_ _ | with_reducible refine Bl.drew ?_ | with_reducible refine Bl.alloc ?_ _ | (with_reducible refine Bl.call ?_ (by assumption)))); done)); rintro e w1 ⟨p5, q5, i5, o5, rfl, hb1⟩; replace hW : Bl w w1 := (by (repeat (first | assumption | with_reducible exact Bl.refl _ | with_reducible refine Bl.drewN ?_ _ | with_reducible refine Bl.drew ?_ | with_reducible refine Bl.alloc ?_ _ | (with_reducible refine Bl.call ?_ (by assumption))))); clear hb1; obtain ⟨L5, b5, k1, k2, hM⟩ := ci_get p5 q5 i5 o5) | (go_at_call 50; refine (k1.out _).mono ?_; rintro e w1 ⟨A7, n7, c7, rfl, hr7, hb1⟩; replace hW : Bl w w1 := (by (repeat (first | assumption | with_reducible exact Bl.refl _ | with_reducible refine Bl.drewN ?_ _ | with_reducible refine Bl.drew ?_ | with_reducible refine Bl.alloc ?_ _ | (with_reducible refine Bl.call ?_ (by assumption))))); clear k1; clear hb1) | (go_at_call 51; refine (k2.out _).mono ?_; rintro e w1 ⟨A8, n8, c8, rfl, hr8, hb1⟩; replace hW : Bl w w1 := (by (repeat (first | assumption | with_reducible exact Bl.refl _ | with_reducible refine Bl.drewN ?_ _ | with_reducible refine Bl.drew ?_ | with_reducible refine Bl.alloc ?_ _ | (with_reducible refine Bl.call ?_ (by assumption))))); clear k2; replace hr7 := hr7.keep hb1; clear hb1) | (go_at_call 11; first | (refine (same_t _ _ _ _ _ _ _ _ hr2 hr3).mono ?_; rintro e w1 ⟨rfl, hb1⟩; replace hr3 := hr3.keep hb1; replace hW : Bl w w1 := (by (repeat (first | assumption | with_reducible exact Bl.refl _ | with_reducible refine Bl.drewN ?_ _ | with_reducible refine Bl.drew ?_ | with_reducible refine Bl.alloc ?_ _ | (with_reducible refine Bl.call ?_ (by assumption))))); clear hb1 hr2) | (refine (same_t _ _ _ _ _ _ _ _ hr7 hr8).mono ?_; rintro e w1 ⟨rfl, hb1⟩; replace hr8 := hr8.keep hb1; replace hW : Bl w w1 := (by (repeat (first | assumption | with_reducible exact Bl.refl _ | with_reducible refine Bl.drewN ?_ _ | with_reducible refine Bl.drew ?_ | with_reducible refine Bl.alloc ?_ _ | (with_reducible refine Bl.call ?_ (by assumption))))); clear hb1 hr7)))
          obtain ⟨hle1, hle2⟩ := hr8.le
          go_loopw [229] (fun i wr => ∃ k : Nat, k ≤ n8 ∧ i = .int .i64 (k : Nat) ∧ Bl w wr ∧ RdI wr A8 n8 c8 L5) (fun i _ => n8 - (intOf i).toNat)
          case atStart => exact ⟨0, by omega, rfl, hW, hr8⟩
          case round =>
            clear hW hr8
            obtain ⟨k, hk, rfl, hW, hr8⟩ := hrel
            by_cases hlt : k < n8
            · have i1 : (k : Int) < n8 := by omega
              obtain ⟨ad, x, rfl, hadb, hx, hcell⟩ := hr8.at_ hlt
              obtain ⟨hp5, hwx, hmt⟩ := hM.out x (List.mem_of_getElem? hx)
              clear hx
              go_wp2
              go_roundw
              case rel => exact ⟨k + 1, by omega, by go_num, hW, hr8⟩
              case measure => simp [intOf]; omega
            · have i1 : ¬ (k : Int) < n8 := by omega
              clear hr8 hM
              go_wp2
              go_ret
              exact ⟨rfl, hW⟩
    | have tk := hM
      clear tk
      obtain ⟨hle1, hle2⟩ := hr8.le
      go_loopw [229] (fun i wr => ∃ k : Nat, k ≤ n8 ∧ i = .int .i64 (k : Nat) ∧ Bl w wr ∧ RdI wr A8 n8 c8 L5) (fun i _ => n8 - (intOf i).toNat)
      case atStart => exact ⟨0, by omega, rfl, hW, hr8⟩
      case round =>
        clear hW hr8
        obtain ⟨k, hk, rfl, hW, hr8⟩ := hrel
        by_cases hlt : k < n8
        · have i1 : (k : Int) < n8 := by omega
          obtain ⟨ad, x, rfl, hadb, hx, hcell⟩ := hr8.at_ hlt
          obtain ⟨hp5, hwx, hmt⟩ := hM.out x (List.mem_of_getElem? hx)
          clear hx
          go_wp2
          go_roundw
          case rel => exact ⟨k + 1, by omega, by go_num, hW, hr8⟩
          case measure => simp [intOf]; omega
        · have i1 : ¬ (k : Int) < n8 := by omega
          clear hr8 hM
          go_wp2
          go_ret
          exact ⟨rfl, hW⟩
end Go.Proofs.Ytglgaicbcackbaa
