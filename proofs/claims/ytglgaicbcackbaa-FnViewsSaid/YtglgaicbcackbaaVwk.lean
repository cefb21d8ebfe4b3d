/- The walk of the law FnViews.
   Conditions: the texts are bytes. -/
import Derived.Test.YtglgaicbcackbaaVpl
import Derived.Test.YtglgaicbcackbaaVdr
import Derived.Test.YtglgaicbcackbaaSmi
import Derived.Deep.DeepCutAuto
import Derived.Deep.CutRange
namespace Go.Proofs.Ytglgaicbcackbaa
open Go.RowKit
set_option linter.unusedVariables false
theorem ev_get (p x y q : Int) : ∃ b, Hid (∀ w : World, Calls Try.prog 53 #[.int .i64 p, .int .i64 x, .int .i64 y, .int .i64 q] w fun e w' => e = .returned (.tuple #[.bool b, .bool b]) ∧ Bl w w') ∧ Hid (∀ w : World, Calls Try.prog 54 #[.int .i64 p, .int .i64 x, .int .i64 y, .int .i64 q] w fun e w' => e = .returned (.tuple #[.bool b, .bool b]) ∧ Bl w w') := by
  have HS := fun W => spec_EqualViews p x y q W
  have HI := fun W => impl_EqualViews p x y q W
  rw [evV_eq] at HS HI
  exact ⟨_, Lib.hid HI, Lib.hid HS⟩
theorem sv_get (d e f g : Int) (l : List Int) : ∃ L b, Hid (∀ (A : Option Addr) (n c : Nat) (w : World), RdI w A n c l → Calls Try.prog 58 #[.int .i64 d, .int .i64 e, .int .i64 f, .int .i64 g, .slice A n c] w fun e w' => (∃ A' n' c', e = .returned (.tuple #[.slice A' n' c', .bool b]) ∧ RdI w' A' n' c' L ∧ Bl w w')) ∧ Hid (∀ (A : Option Addr) (n c : Nat) (w : World), RdI w A n c l → Calls Try.prog 64 #[.int .i64 d, .int .i64 e, .int .i64 f, .int .i64 g, .slice A n c] w fun e w' => (∃ A' n' c', e = .returned (.tuple #[.slice A' n' c', .bool b]) ∧ RdI w' A' n' c' L ∧ Bl w w')) :=
  ⟨_, _, Lib.hid fun A n c w h => (impl_SimView d e f g A n c l w h).mono fun e w' ⟨A', n', c', he, ho, hb⟩ => ⟨A', n', c', he, ho.rd, hb⟩,
    Lib.hid fun A n c w h => (spec_SimView d e f g A n c l w h).mono fun e w' ⟨A', n', c', he, ho, hb⟩ => ⟨A', n', c', he, ho.rd, hb⟩⟩
theorem sc_get (a b d : Int) : ∃ L t, Hid (∀ w : World, Calls Try.prog 62 #[.int .i64 a, .int .i64 b, .int .i64 d] w fun e w' => (∃ A' n' c', e = .returned (.tuple #[.slice A' n' c', .bool t]) ∧ RdI w' A' n' c' L ∧ Bl w w')) ∧ Hid (∀ w : World, Calls Try.prog 66 #[.int .i64 a, .int .i64 b, .int .i64 d] w fun e w' => (∃ A' n' c', e = .returned (.tuple #[.slice A' n' c', .bool t]) ∧ RdI w' A' n' c' L ∧ Bl w w')) :=
  ⟨_, _, Lib.hid fun w => (impl_SimCounts a b d w).mono fun e w' ⟨A', n', c', he, ho, hb⟩ => ⟨A', n', c', he, ho.rd, hb⟩,
    Lib.hid fun w => (spec_SimCounts a b d w).mono fun e w' ⟨A', n', c', he, ho, hb⟩ => ⟨A', n', c', he, ho.rd, hb⟩⟩
theorem rv_f (p x y q : Int) (l : List Int) (h : rvB p x y q l = false) : ∃ L, Hid (∀ (A : Option Addr) (n c : Nat) (w : World), RdI w A n c l → Calls Try.prog 56 #[.int .i64 p, .int .i64 x, .int .i64 y, .int .i64 q, .slice A n c] w fun e w' => (∃ A' n' c', e = .returned (.tuple #[.slice A' n' c', .bool false]) ∧ RdI w' A' n' c' L ∧ Bl w w')) ∧ Hid (∀ (A : Option Addr) (n c : Nat) (w : World), RdI w A n c l → Calls Try.prog 57 #[.int .i64 p, .int .i64 x, .int .i64 y, .int .i64 q, .slice A n c] w fun e w' => (∃ A' n' c', e = .returned (.tuple #[.slice A' n' c', .bool false]) ∧ RdI w' A' n' c' L ∧ Bl w w')) := by
  have HI := fun A n c w hl => impl_RealView p x y q A n c l w hl
  have HS := fun A n c w hl => spec_RealView p x y q A n c l w hl
  rw [h] at HI HS
  exact ⟨_, Lib.hid fun A n c w h => (HI A n c w h).mono fun e w' ⟨A', n', c', he, ho, hb⟩ => ⟨A', n', c', he, ho.rd, hb⟩,
    Lib.hid fun A n c w h => (HS A n c w h).mono fun e w' ⟨A', n', c', he, ho, hb⟩ => ⟨A', n', c', he, ho.rd, hb⟩⟩
theorem rv_t (p x y q : Int) (l : List Int) (h : rvB p x y q l = true) : (q = 0 ∨ q = 1) ∧ (2 ≤ p ∧ p ≤ 251) ∧ (0 ≤ x * y ∧ x * y ≤ 63001) ∧ ∃ own s0 s1 s2 s3 s4 s5 s6 s7 s8 z, own = (if q = 0 then x else y) ∧
    Hid (∀ (A : Option Addr) (n c : Nat) (w : World), RdI w A n c l → Calls Try.prog 56 #[.int .i64 p, .int .i64 x, .int .i64 y, .int .i64 q, .slice A n c] w fun e w' => (∃ A' n' c', e = .returned (.tuple #[.slice A' n' c', .bool true]) ∧ RdI w' A' n' c' [own, s0, s1, s2, s3, s4, s5, s6, s7, s8, z] ∧ Bl w w')) ∧
    Hid (∀ (A : Option Addr) (n c : Nat) (w : World), RdI w A n c l → Calls Try.prog 57 #[.int .i64 p, .int .i64 x, .int .i64 y, .int .i64 q, .slice A n c] w fun e w' => ∃ ad c', e = .returned (.tuple #[.slice (some ad) 11 c', .bool true]) ∧ RdI w' (some ad) 11 c' [own, s0, s1, s2, s3, s4, s5, s6, s7, s8, z] ∧ Bl w w') ∧
    Hid (∀ (A : Option Addr) (n c : Nat) (w : World), RdI w A n c [s0, s1, s2, s3, s4, s5, s6, s7, s8] → Calls Try.prog 58 #[.int .i64 p, .int .i64 q, .int .i64 own, .int .i64 (x * y % p), .slice A n c] w fun e w' => (∃ A' n' c', e = .returned (.tuple #[.slice A' n' c', .bool true]) ∧ RdI w' A' n' c' [own, s0, s1, s2, s3, s4, s5, s6, s7, s8, z] ∧ Bl w w')) := by
  obtain ⟨hp2, hp251, hx0, hx1, hy0, hy1, hq, hl, hall, harc, hex, hey, hq'⟩ := rvB_facts h
  obtain ⟨own, s0, s1, s2, s3, s4, s5, s6, s7, s8, z, hR, ho, hB, hS⟩ := view_get p x y q l h
  have HI := fun A n c w hl => impl_RealView p x y q A n c l w hl
  have HS := fun A n c w hl => spec_RealView p x y q A n c l w hl
  have HV := fun A n c w hl => impl_SimView p q own (x * y % p) A n c [s0, s1, s2, s3, s4, s5, s6, s7, s8] w hl
  rw [h, hR] at HI HS
  rw [hB, hS] at HV
  have hm : 0 ≤ x * y ∧ x * y ≤ 251 * 251 := ⟨Int.mul_nonneg hx0 hy0, Int.mul_le_mul (by omega) (by omega) hy0 (by omega)⟩
  refine ⟨hq, ⟨hp2, hp251⟩, ⟨hm.1, by omega⟩, own, s0, s1, s2, s3, s4, s5, s6, s7, s8, z, ho, Lib.hid fun A n c w h => (HI A n c w h).mono fun e w' ⟨A', n', c', he, ho, hb⟩ => ⟨A', n', c', he, ho.rd, hb⟩,
    Lib.hid fun A n c w h => (HS A n c w h).mono fun e w' ⟨A', n', c', he, ho, hb⟩ => ?_, Lib.hid fun A n c w h => (HV A n c w h).mono fun e w' ⟨A', n', c', he, ho, hb⟩ => ⟨A', n', c', he, ho.rd, hb⟩⟩
  have hn := ho.length
  obtain rfl : n' = 11 := by simpa using hn.symm
  obtain ⟨ad, rfl, _⟩ := ho.rd.at0 (by omega)
  exact ⟨ad, c', he, ho.rd, hb⟩
theorem rc_f (a b c : Int) (h : rcB a b c = false) : ∃ L, Hid (∀ w : World, Calls Try.prog 60 #[.int .i64 a, .int .i64 b, .int .i64 c] w fun e w' => (∃ A' n' c', e = .returned (.tuple #[.slice A' n' c', .bool false]) ∧ RdI w' A' n' c' L ∧ Bl w w')) ∧ Hid (∀ w : World, Calls Try.prog 61 #[.int .i64 a, .int .i64 b, .int .i64 c] w fun e w' => (∃ A' n' c', e = .returned (.tuple #[.slice A' n' c', .bool false]) ∧ RdI w' A' n' c' L ∧ Bl w w')) := by
  have HI := fun w => impl_RealCounts a b c w
  have HS := fun w => spec_RealCounts a b c w
  rw [h] at HI HS
  exact ⟨_, Lib.hid fun w => (HI w).mono fun e w' ⟨A', n', c', he, ho, hb⟩ => ⟨A', n', c', he, ho.rd, hb⟩, Lib.hid fun w => (HS w).mono fun e w' ⟨A', n', c', he, ho, hb⟩ => ⟨A', n', c', he, ho.rd, hb⟩⟩
theorem rc_t (a b c : Int) (h : rcB a b c = true) : (c = 0 ∨ c = 1) ∧ (0 ≤ a * b ∧ a * b ≤ 1) ∧ ∃ own L, own = (if c = 0 then a else b) ∧ Hid (∀ w : World, Calls Try.prog 60 #[.int .i64 a, .int .i64 b, .int .i64 c] w fun e w' => (∃ A' n' c', e = .returned (.tuple #[.slice A' n' c', .bool true]) ∧ RdI w' A' n' c' L ∧ Bl w w')) ∧ Hid (∀ w : World, Calls Try.prog 61 #[.int .i64 a, .int .i64 b, .int .i64 c] w fun e w' => (∃ A' n' c', e = .returned (.tuple #[.slice A' n' c', .bool true]) ∧ RdI w' A' n' c' L ∧ Bl w w')) ∧ Hid (∀ w : World, Calls Try.prog 62 #[.int .i64 c, .int .i64 own, .int .i64 (a * b % 2)] w fun e w' => (∃ A' n' c', e = .returned (.tuple #[.slice A' n' c', .bool true]) ∧ RdI w' A' n' c' L ∧ Bl w w')) ∧ Hid (∀ (A : Option Addr) (n c : Nat) (w : World), RdI w A n c L → Calls Try.prog 19 #[.slice A n c] w fun e w' => e = .returned (.int .i64 512) ∧ Bl w w') := by
  obtain ⟨hx, hy, hq, _⟩ := rcB_facts h
  obtain ⟨own, L, ho, hR, hB, hS, hsum, hlen, hbd⟩ := counts_get a b c h
  have HI := fun w => impl_RealCounts a b c w
  have HS := fun w => spec_RealCounts a b c w
  have HV := fun w => impl_SimCounts c own (a * b % 2) w
  rw [h, hR] at HI HS
  rw [hB, hS] at HV
  have hm : 0 ≤ a * b ∧ a * b ≤ 1 * 1 := ⟨Int.mul_nonneg (by omega) (by omega), Int.mul_le_mul (by omega) (by omega) (by omega) (by omega)⟩
  refine ⟨hq, ⟨hm.1, by omega⟩, own, L, ho, Lib.hid fun w => (HI w).mono fun e w' ⟨A', n', c', he, ho, hb⟩ => ⟨A', n', c', he, ho.rd, hb⟩, Lib.hid fun w => (HS w).mono fun e w' ⟨A', n', c', he, ho, hb⟩ => ⟨A', n', c', he, ho.rd, hb⟩,
    Lib.hid fun w => (HV w).mono fun e w' ⟨A', n', c', he, ho, hb⟩ => ⟨A', n', c', he, ho.rd, hb⟩, Lib.hid fun A n c w hr => ?_⟩
  have hn := hr.length
  have := pSum_c A n c L w hr (fun z hz => by have := hbd z hz; omega) (by omega)
  rw [hsum] at this
  exact this
theorem rv_get (p x y q : Int) (l : List Int) : ∃ L b, Hid (∀ (A : Option Addr) (n c : Nat) (w : World), RdI w A n c l → Calls Try.prog 56 #[.int .i64 p, .int .i64 x, .int .i64 y, .int .i64 q, .slice A n c] w fun e w' => (∃ A' n' c', e = .returned (.tuple #[.slice A' n' c', .bool b]) ∧ RdI w' A' n' c' L ∧ Bl w w')) ∧ Hid (∀ (A : Option Addr) (n c : Nat) (w : World), RdI w A n c l → Calls Try.prog 57 #[.int .i64 p, .int .i64 x, .int .i64 y, .int .i64 q, .slice A n c] w fun e w' => (∃ A' n' c', e = .returned (.tuple #[.slice A' n' c', .bool b]) ∧ RdI w' A' n' c' L ∧ Bl w w')) ∧ Hid (b = true → (q = 0 ∨ q = 1) ∧ ¬ p = 0 ∧ IntKind.i64.wrap (x * y) = x * y ∧ (x * y).tmod p = x * y % p ∧ ∃ own s0 s1 s2 s3 s4 s5 s6 s7 s8 z, L = [own, s0, s1, s2, s3, s4, s5, s6, s7, s8, z] ∧ own = (if q = 0 then x else y) ∧ Hid (∀ (A : Option Addr) (n c : Nat) (w : World), RdI w A n c [s0, s1, s2, s3, s4, s5, s6, s7, s8] → Calls Try.prog 58 #[.int .i64 p, .int .i64 q, .int .i64 own, .int .i64 (x * y % p), .slice A n c] w fun e w' => (∃ A' n' c', e = .returned (.tuple #[.slice A' n' c', .bool true]) ∧ RdI w' A' n' c' [own, s0, s1, s2, s3, s4, s5, s6, s7, s8, z] ∧ Bl w w'))) := by
  rcases hB : rvB p x y q l
  · obtain ⟨L, h1, h2⟩ := rv_f p x y q l hB
    exact ⟨L, false, h1, h2, Lib.hid fun h => by cases h⟩
  · obtain ⟨hq, hp, hxy, own, s0, s1, s2, s3, s4, s5, s6, s7, s8, z, ho, h1, h2, h3⟩ := rv_t p x y q l hB
    refine ⟨[own, s0, s1, s2, s3, s4, s5, s6, s7, s8, z], true, h1, Lib.hid fun A n c w h => (h2.out A n c w h).mono fun e w' ⟨ad, c', he, hr, hb⟩ => ⟨_, _, _, he, hr, hb⟩, Lib.hid fun _ => ⟨hq, by omega, IntWalk.i64_in _ (by omega), Int.tmod_eq_emod_of_nonneg hxy.1, own, s0, s1, s2, s3, s4, s5, s6, s7, s8, z, rfl, ho, h3⟩⟩
theorem rc_get (a b c : Int) : ∃ L t, Hid (∀ w : World, Calls Try.prog 60 #[.int .i64 a, .int .i64 b, .int .i64 c] w fun e w' => (∃ A' n' c', e = .returned (.tuple #[.slice A' n' c', .bool t]) ∧ RdI w' A' n' c' L ∧ Bl w w')) ∧ Hid (∀ w : World, Calls Try.prog 61 #[.int .i64 a, .int .i64 b, .int .i64 c] w fun e w' => (∃ A' n' c', e = .returned (.tuple #[.slice A' n' c', .bool t]) ∧ RdI w' A' n' c' L ∧ Bl w w')) ∧ Hid (t = true → (c = 0 ∨ c = 1) ∧ IntKind.i64.wrap (a * b) = a * b ∧ (a * b).tmod 2 = a * b % 2 ∧ ∃ own, own = (if c = 0 then a else b) ∧ Hid (∀ w : World, Calls Try.prog 62 #[.int .i64 c, .int .i64 own, .int .i64 (a * b % 2)] w fun e w' => (∃ A' n' c', e = .returned (.tuple #[.slice A' n' c', .bool true]) ∧ RdI w' A' n' c' L ∧ Bl w w')) ∧ Hid (∀ (A : Option Addr) (n c : Nat) (w : World), RdI w A n c L → Calls Try.prog 19 #[.slice A n c] w fun e w' => e = .returned (.int .i64 512) ∧ Bl w w')) := by
  rcases hB : rcB a b c
  · obtain ⟨L, h1, h2⟩ := rc_f a b c hB
    exact ⟨L, false, h1, h2, Lib.hid fun h => by cases h⟩
  · obtain ⟨hq, hm, own, L, ho, h1, h2, h3, h4⟩ := rc_t a b c hB
    exact ⟨L, true, h1, h2, Lib.hid fun _ => ⟨hq, IntWalk.i64_in _ (by omega), Int.tmod_eq_emod_of_nonneg hm.1, own, ho, h3, h4⟩⟩
set_option maxRecDepth 20000 in
set_option maxHeartbeats 16000000 in
theorem law_Views (A B : Option Addr) (n c m d : Nat) (l l' : List Int) (w : World) (hA : RdB w A n c l) (hB : RdB w B m d l') :
    Calls Try.prog 6 #[.slice A n c, .slice B m d] w fun e w' => e = .returned (.bool true) ∧ Bl w w' := by
  have hW := Bl.refl w
  go_enter Try.func6, Try.ntmps6
  go_upto_region 6 with (first | (go_at_call 7; refine (big_c _ _ _ _ _ _ _ _ _ hA hB).mono ?_; rintro e w0 ⟨b, rfl, rfl⟩; cases b) | (go_at_call 52; refine (spec_DrawEqualViews _ _ _ _ _ (hA.keep ?_)).mono ?_; (· ((repeat (first | assumption | with_reducible exact Bl.refl _ | with_reducible refine Bl.drewN ?_ _ | with_reducible refine Bl.drew ?_ | with_reducible refine Bl.alloc ?_ _ | (with_reducible refine Bl.call ?_ (by assumption)))); done)); rintro e w1 ⟨p, x, y, q, rfl, hb1⟩; replace hW : Bl w w1 := (by (repeat (first | assumption | with_reducible exact Bl.refl _ | with_reducible refine Bl.drewN ?_ _ | with_reducible refine Bl.drew ?_ | with_reducible refine Bl.alloc ?_ _ | (with_reducible refine Bl.call ?_ (by assumption))))); clear hb1; obtain ⟨b, e1, e2⟩ := ev_get p x y q) | (go_at_call 53; refine (e1.out _).mono ?_; rintro e w1 ⟨rfl, hb1⟩; replace hW : Bl w w1 := (by (repeat (first | assumption | with_reducible exact Bl.refl _ | with_reducible refine Bl.drewN ?_ _ | with_reducible refine Bl.drew ?_ | with_reducible refine Bl.alloc ?_ _ | (with_reducible refine Bl.call ?_ (by assumption))))); clear e1; clear hb1) | (go_at_call 54; refine (e2.out _).mono ?_; rintro e w1 ⟨rfl, hb1⟩; replace hW : Bl w w1 := (by (repeat (first | assumption | with_reducible exact Bl.refl _ | with_reducible refine Bl.drewN ?_ _ | with_reducible refine Bl.drew ?_ | with_reducible refine Bl.alloc ?_ _ | (with_reducible refine Bl.call ?_ (by assumption))))); clear e2; clear hb1))
  rotate_left
  · go_ret
    exact ⟨rfl, hW⟩
  go_cut [89] from 75 to 89 (fun s wx => s = .bool false ∧ wx = w1)
  case first =>
    cases b
    · go_wp2
      go_meet
      case rel => exact ⟨rfl, rfl⟩
    · go_wp2
      go_meet
      case rel => exact ⟨rfl, rfl⟩
  case rest =>
  obtain ⟨rfl, rfl⟩ := hcut
  go_upto_region 11 with (first | (go_at_call 55; refine (spec_DrawRealView _ _ _ _ _ (hB.keep ?_)).mono ?_; (· ((repeat (first | assumption | with_reducible exact Bl.refl _ | with_reducible refine Bl.drewN ?_ _ | with_reducible refine Bl.drew ?_ | with_reducible refine Bl.alloc ?_ _ | (with_reducible refine Bl.call ?_ (by assumption)))); done)); rintro e w1 ⟨p1, x1, y1, q1, A1, n1, c1, l1, rfl, hr0, hb1⟩; replace hW : Bl w w1 := (by (repeat (first | assumption | with_reducible exact Bl.refl _ | with_reducible refine Bl.drewN ?_ _ | with_reducible refine Bl.drew ?_ | with_reducible refine Bl.alloc ?_ _ | (with_reducible refine Bl.call ?_ (by assumption))))); clear hb1; have hr1 := hr0.rd; clear hr0; obtain ⟨L, b, i1, i2, hbT⟩ := rv_get p1 x1 y1 q1 l1) | (go_at_call 56; refine (i1.out _ _ _ _ hr1).mono ?_; rintro e w1 ⟨A2, n2, c2, rfl, hr2, hb1⟩; replace hW : Bl w w1 := (by (repeat (first | assumption | with_reducible exact Bl.refl _ | with_reducible refine Bl.drewN ?_ _ | with_reducible refine Bl.drew ?_ | with_reducible refine Bl.alloc ?_ _ | (with_reducible refine Bl.call ?_ (by assumption))))); clear i1; replace hr1 := hr1.keep hb1; clear hb1) | (go_at_call 57; refine (i2.out _ _ _ _ hr1).mono ?_; rintro e w1 ⟨A3, n3, c3, rfl, hr3, hb1⟩; replace hW : Bl w w1 := (by (repeat (first | assumption | with_reducible exact Bl.refl _ | with_reducible refine Bl.drewN ?_ _ | with_reducible refine Bl.drew ?_ | with_reducible refine Bl.alloc ?_ _ | (with_reducible refine Bl.call ?_ (by assumption))))); clear i2 hr1; replace hr2 := hr2.keep hb1; clear hb1))
  go_cut [144] from 116 to 144 (fun s wx => s = .bool false ∧ Bl w1 wx)
  case first =>
    have hb0 := Bl.refl w1
    cases b
    · clear hbT
      refine wp_region_held_drew (S := (fun w' => True)) (by kernel_rfl) ?_ (fun hHeld => ?_)
      · exact trivial
      refine held_take (i := 0) (d := 116) (v := ?_) rfl rfl (by kernel_rfl) (by kernel_rfl) (by kernel_rfl) (fun _ _ _ h => h) (Or.inl ⟨by rfl, ?_⟩) (by assumption) ?_
      rotate_left
      · (intro w hSw; (try dsimp only at hSw); go_simp; (try with_reducible rfl))
      (try simp only [List.set_cons_zero, List.set_cons_succ])
      refine held_take (i := 1) (d := 117) (v := ?_) rfl rfl (by kernel_rfl) (by kernel_rfl) (by kernel_rfl) (fun _ _ _ h => h) (Or.inl ⟨by rfl, ?_⟩) (by assumption) ?_
      rotate_left
      · (intro w hSw; (try dsimp only at hSw); go_simp; (try with_reducible rfl))
      (try simp only [List.set_cons_zero, List.set_cons_succ])
      refine held_take (i := 2) (d := 118) (v := ?_) rfl rfl (by kernel_rfl) (by kernel_rfl) (by kernel_rfl) (fun _ _ _ h => h) (Or.inl ⟨by rfl, ?_⟩) (by assumption) ?_
      rotate_left
      · (intro w hSw; (try dsimp only at hSw); go_simp; (try with_reducible rfl))
      (try simp only [List.set_cons_zero, List.set_cons_succ])
      refine held_take (i := 3) (d := 119) (v := ?_) rfl rfl (by kernel_rfl) (by kernel_rfl) (by kernel_rfl) (fun _ _ _ h => h) (Or.inl ⟨by rfl, ?_⟩) (by assumption) ?_
      rotate_left
      · (intro w hSw; (try dsimp only at hSw); go_simp; (try with_reducible rfl))
      (try simp only [List.set_cons_zero, List.set_cons_succ])
      refine held_take (i := 4) (d := 120) (v := ?_) rfl rfl (by kernel_rfl) (by kernel_rfl) (by kernel_rfl) (fun _ _ _ h => h) (Or.inl ⟨by rfl, ?_⟩) (by assumption) ?_
      rotate_left
      · (intro w hSw; (try dsimp only at hSw); go_simp; (try with_reducible rfl))
      (try simp only [List.set_cons_zero, List.set_cons_succ])
      refine held_take (i := 5) (d := 121) (v := ?_) rfl rfl (by kernel_rfl) (by kernel_rfl) (by kernel_rfl) (fun _ _ _ h => h) (Or.inl ⟨by rfl, ?_⟩) (by assumption) ?_
      rotate_left
      · (intro w hSw; (try dsimp only at hSw); go_simp; (try with_reducible rfl))
      (try simp only [List.set_cons_zero, List.set_cons_succ])
      refine wpAnyH_ready (rs := [6]) (by kernel_rfl) (by simp) ?_
      refine AllReadyH.cons rfl (fun K hK => ?_) AllReadyH.nil
      go_simp
      (refine (same_t _ _ _ _ _ _ _ _ (hr2.keep (by (repeat (first | assumption | with_reducible exact Bl.refl _ | with_reducible refine Bl.drewN ?_ _ | with_reducible refine Bl.drew ?_ | with_reducible refine Bl.alloc ?_ _ | (with_reducible refine Bl.call ?_ (by assumption)))))) (hr3.keep (by (repeat (first | assumption | with_reducible exact Bl.refl _ | with_reducible refine Bl.drewN ?_ _ | with_reducible refine Bl.drew ?_ | with_reducible refine Bl.alloc ?_ _ | (with_reducible refine Bl.call ?_ (by assumption))))))).mono ?_; rintro e w1 ⟨rfl, hb1⟩; replace hr3 : RdI w1 _ _ _ _ := hr3.keep (by (repeat (first | assumption | with_reducible exact Bl.refl _ | with_reducible refine Bl.drewN ?_ _ | with_reducible refine Bl.drew ?_ | with_reducible refine Bl.alloc ?_ _ | (with_reducible refine Bl.call ?_ (by assumption))))); replace hW : Bl w w1 := (by (repeat (first | assumption | with_reducible exact Bl.refl _ | with_reducible refine Bl.drewN ?_ _ | with_reducible refine Bl.drew ?_ | with_reducible refine Bl.alloc ?_ _ | (with_reducible refine Bl.call ?_ (by assumption))))); have hb9 := hb1; clear hb1 hr2)
      go_wp2_with fail
      refine hK.out _ _ ?_ (fun hHeld => ?_)
      · exact trivial
      clear hK K
      (try simp only [Act.put]); (try simp only [List.setIfInBounds_toArray]); (try simp only [List.set_cons_succ]); (try simp only [List.set_cons_zero])
      refine held_take (i := 7) (d := 123) (v := ?_) rfl rfl (by kernel_rfl) (by kernel_rfl) (by kernel_rfl) (fun _ _ _ h => h) (Or.inl ⟨by rfl, ?_⟩) (by assumption) ?_
      rotate_left
      · (intro w hSw; (try dsimp only at hSw); go_simp; (try with_reducible rfl))
      (try simp only [List.set_cons_zero, List.set_cons_succ])
      refine held_take (i := 8) (d := 124) (v := ?_) rfl rfl (by kernel_rfl) (by kernel_rfl) (by kernel_rfl) (fun _ _ _ h => h) (Or.inl ⟨by rfl, ?_⟩) (by assumption) ?_
      rotate_left
      · (intro w hSw; (try dsimp only at hSw); go_simp; (try with_reducible rfl))
      (try simp only [List.set_cons_zero, List.set_cons_succ])
      refine held_take (i := 9) (d := 125) (v := ?_) rfl rfl (by kernel_rfl) (by kernel_rfl) (by kernel_rfl) (fun _ _ _ h => h) (Or.inl ⟨by rfl, ?_⟩) (by assumption) ?_
      rotate_left
      · (intro w hSw; (try dsimp only at hSw); go_simp; (try with_reducible rfl))
      (try simp only [List.set_cons_zero, List.set_cons_succ])
      refine held_take (i := 10) (d := 126) (v := ?_) rfl rfl (by kernel_rfl) (by kernel_rfl) (by kernel_rfl) (fun _ _ _ h => h) (Or.inl ⟨by rfl, ?_⟩) (by assumption) ?_
      rotate_left
      · (intro w hSw; (try dsimp only at hSw); go_simp; (try with_reducible rfl))
      (try simp only [List.set_cons_zero, List.set_cons_succ])
      refine held_take (i := 11) (d := 127) (v := ?_) rfl rfl (by kernel_rfl) (by kernel_rfl) (by kernel_rfl) (fun _ _ _ h => h) (Or.inl ⟨by rfl, ?_⟩) (by assumption) ?_
      rotate_left
      · (intro w hSw; (try dsimp only at hSw); go_simp; (try with_reducible rfl))
      (try simp only [List.set_cons_zero, List.set_cons_succ])
      refine held_take (i := 12) (d := 128) (v := undef) rfl rfl (by kernel_rfl) (by kernel_rfl) (by kernel_rfl) (fun _ _ _ h => h) (Or.inr ⟨by rfl, rfl⟩) (by assumption) ?_
      (try simp only [List.set_cons_zero, List.set_cons_succ])
      refine held_take (i := 13) (d := 129) (v := undef) rfl rfl (by kernel_rfl) (by kernel_rfl) (by kernel_rfl) (fun _ _ _ h => h) (Or.inr ⟨by rfl, rfl⟩) (by assumption) ?_
      (try simp only [List.set_cons_zero, List.set_cons_succ])
      refine held_take (i := 14) (d := 130) (v := undef) rfl rfl (by kernel_rfl) (by kernel_rfl) (by kernel_rfl) (fun _ _ _ h => h) (Or.inr ⟨by rfl, rfl⟩) (by assumption) ?_
      (try simp only [List.set_cons_zero, List.set_cons_succ])
      refine held_take (i := 15) (d := 131) (v := undef) rfl rfl (by kernel_rfl) (by kernel_rfl) (by kernel_rfl) (fun _ _ _ h => h) (Or.inr ⟨by rfl, rfl⟩) (by assumption) ?_
      (try simp only [List.set_cons_zero, List.set_cons_succ])
      refine held_take (i := 16) (d := 132) (v := undef) rfl rfl (by kernel_rfl) (by kernel_rfl) (by kernel_rfl) (fun _ _ _ h => h) (Or.inr ⟨by rfl, rfl⟩) (by assumption) ?_
      (try simp only [List.set_cons_zero, List.set_cons_succ])
      refine held_take (i := 17) (d := 133) (v := undef) rfl rfl (by kernel_rfl) (by kernel_rfl) (by kernel_rfl) (fun _ _ _ h => h) (Or.inr ⟨by rfl, rfl⟩) (by assumption) ?_
      (try simp only [List.set_cons_zero, List.set_cons_succ])
      refine held_take (i := 18) (d := 134) (v := undef) rfl rfl (by kernel_rfl) (by kernel_rfl) (by kernel_rfl) (fun _ _ _ h => h) (Or.inr ⟨by rfl, rfl⟩) (by assumption) ?_
      (try simp only [List.set_cons_zero, List.set_cons_succ])
      refine held_take (i := 19) (d := 135) (v := undef) rfl rfl (by kernel_rfl) (by kernel_rfl) (by kernel_rfl) (fun _ _ _ h => h) (Or.inr ⟨by rfl, rfl⟩) (by assumption) ?_
      (try simp only [List.set_cons_zero, List.set_cons_succ])
      refine held_take (i := 20) (d := 136) (v := undef) rfl rfl (by kernel_rfl) (by kernel_rfl) (by kernel_rfl) (fun _ _ _ h => h) (Or.inr ⟨by rfl, rfl⟩) (by assumption) ?_
      (try simp only [List.set_cons_zero, List.set_cons_succ])
      refine held_take (i := 21) (d := 137) (v := undef) rfl rfl (by kernel_rfl) (by kernel_rfl) (by kernel_rfl) (fun _ _ _ h => h) (Or.inr ⟨by rfl, rfl⟩) (by assumption) ?_
      (try simp only [List.set_cons_zero, List.set_cons_succ])
      refine held_take (i := 22) (d := 138) (v := undef) rfl rfl (by kernel_rfl) (by kernel_rfl) (by kernel_rfl) (fun _ _ _ h => h) (Or.inr ⟨by rfl, rfl⟩) (by assumption) ?_
      (try simp only [List.set_cons_zero, List.set_cons_succ])
      refine held_take (i := 23) (d := 139) (v := undef) rfl rfl (by kernel_rfl) (by kernel_rfl) (by kernel_rfl) (fun _ _ _ h => h) (Or.inr ⟨by rfl, rfl⟩) (by assumption) ?_
      (try simp only [List.set_cons_zero, List.set_cons_succ])
      refine held_take (i := 24) (d := 140) (v := undef) rfl rfl (by kernel_rfl) (by kernel_rfl) (by kernel_rfl) (fun _ _ _ h => h) (Or.inr ⟨by rfl, rfl⟩) (by assumption) ?_
      (try simp only [List.set_cons_zero, List.set_cons_succ])
      refine held_take (i := 25) (d := 141) (v := undef) rfl rfl (by kernel_rfl) (by kernel_rfl) (by kernel_rfl) (fun _ _ _ h => h) (Or.inr ⟨by rfl, rfl⟩) (by assumption) ?_
      (try simp only [List.set_cons_zero, List.set_cons_succ])
      refine held_take (i := 26) (d := 142) (v := undef) rfl rfl (by kernel_rfl) (by kernel_rfl) (by kernel_rfl) (fun _ _ _ h => h) (Or.inr ⟨by rfl, rfl⟩) (by assumption) ?_
      (try simp only [List.set_cons_zero, List.set_cons_succ])
      refine held_take (i := 27) (d := 143) (v := ?_) rfl rfl (by kernel_rfl) (by kernel_rfl) (by kernel_rfl) (fun _ _ _ h => h) (Or.inl ⟨by rfl, ?_⟩) (by assumption) ?_
      rotate_left
      · (intro w hSw; (try dsimp only at hSw); go_simp; (try with_reducible rfl))
      (try simp only [List.set_cons_zero, List.set_cons_succ])
      refine held_take (i := 28) (d := 144) (v := ?_) rfl rfl (by kernel_rfl) (by kernel_rfl) (by kernel_rfl) (fun _ _ _ h => h) (Or.inl ⟨by rfl, ?_⟩) (by assumption) ?_
      rotate_left
      · (intro w hSw; (try dsimp only at hSw); go_simp; (try with_reducible rfl))
      (try simp only [List.set_cons_zero, List.set_cons_succ])
      refine wpAnyH_done (by kernel_rfl) ?_ _
      go_wp2
      go_meet
      case rel => exact ⟨rfl, (by (repeat (first | assumption | with_reducible exact Bl.refl _ | with_reducible refine Bl.drewN ?_ _ | with_reducible refine Bl.drew ?_ | with_reducible refine Bl.alloc ?_ _ | (with_reducible refine Bl.call ?_ (by assumption)))))⟩
    · obtain ⟨hq, hp0, hwx, hmt, own, s0, s1, s2, s3, s4, s5, s6, s7, s8, z, rfl, hown, j3⟩ := hbT.out rfl
      clear hbT hp0 hwx hmt j3
      obtain ⟨ad, he, hlt, k0, _⟩ := hr3.lit (by have := hr3.length; simp at this; omega)
      subst he
      have kad := k0 _ rfl
      have hn3 : n3 = 11 := by have := hr3.length; simp at this; omega
      subst hn3
      clear k0
      rcases hq with rfl | rfl
      · obtain rfl : own = x1 := hown
        refine wp_region_held_drew (S := (fun w' => w'.cell? ad = some (.int .i64 own))) (by kernel_rfl) ?_ (fun hHeld => ?_)
        · (try dsimp only); exact Bl.cells (by (repeat (first | assumption | with_reducible exact Bl.refl _ | with_reducible refine Bl.drewN ?_ _ | with_reducible refine Bl.drew ?_ | with_reducible refine Bl.alloc ?_ _ | (with_reducible refine Bl.call ?_ (by assumption))))) kad
        refine held_take (i := 0) (d := 116) (v := ?_) rfl rfl (by kernel_rfl) (by kernel_rfl) (by kernel_rfl) (fun _ _ _ h => h) (Or.inl ⟨by rfl, ?_⟩) (by assumption) ?_
        rotate_left
        · (intro w hSw; (try dsimp only at hSw); go_simp; (try with_reducible rfl))
        (try simp only [List.set_cons_zero, List.set_cons_succ])
        refine held_take (i := 1) (d := 117) (v := ?_) rfl rfl (by kernel_rfl) (by kernel_rfl) (by kernel_rfl) (fun _ _ _ h => h) (Or.inl ⟨by rfl, ?_⟩) (by assumption) ?_
        rotate_left
        · (intro w hSw; (try dsimp only at hSw); go_simp; (try with_reducible rfl))
        (try simp only [List.set_cons_zero, List.set_cons_succ])
        refine held_take (i := 2) (d := 118) (v := ?_) rfl rfl (by kernel_rfl) (by kernel_rfl) (by kernel_rfl) (fun _ _ _ h => h) (Or.inl ⟨by rfl, ?_⟩) (by assumption) ?_
        rotate_left
        · (intro w hSw; (try dsimp only at hSw); go_simp; (try with_reducible rfl))
        (try simp only [List.set_cons_zero, List.set_cons_succ])
        refine held_take (i := 3) (d := 119) (v := ?_) rfl rfl (by kernel_rfl) (by kernel_rfl) (by kernel_rfl) (fun _ _ _ h => h) (Or.inl ⟨by rfl, ?_⟩) (by assumption) ?_
        rotate_left
        · (intro w hSw; (try dsimp only at hSw); go_simp; (try with_reducible rfl))
        (try simp only [List.set_cons_zero, List.set_cons_succ])
        refine held_take (i := 4) (d := 120) (v := ?_) rfl rfl (by kernel_rfl) (by kernel_rfl) (by kernel_rfl) (fun _ _ _ h => h) (Or.inl ⟨by rfl, ?_⟩) (by assumption) ?_
        rotate_left
        · (intro w hSw; (try dsimp only at hSw); go_simp; (try with_reducible rfl))
        (try simp only [List.set_cons_zero, List.set_cons_succ])
        refine held_take (i := 5) (d := 121) (v := ?_) rfl rfl (by kernel_rfl) (by kernel_rfl) (by kernel_rfl) (fun _ _ _ h => h) (Or.inl ⟨by rfl, ?_⟩) (by assumption) ?_
        rotate_left
        · (intro w hSw; (try dsimp only at hSw); go_simp; (try with_reducible rfl))
        (try simp only [List.set_cons_zero, List.set_cons_succ])
        refine wpAnyH_ready (rs := [6]) (by kernel_rfl) (by simp) ?_
        refine AllReadyH.cons rfl (fun K hK => ?_) AllReadyH.nil
        go_simp
        (refine (same_t _ _ _ _ _ _ _ _ (hr2.keep (by (repeat (first | assumption | with_reducible exact Bl.refl _ | with_reducible refine Bl.drewN ?_ _ | with_reducible refine Bl.drew ?_ | with_reducible refine Bl.alloc ?_ _ | (with_reducible refine Bl.call ?_ (by assumption)))))) (hr3.keep (by (repeat (first | assumption | with_reducible exact Bl.refl _ | with_reducible refine Bl.drewN ?_ _ | with_reducible refine Bl.drew ?_ | with_reducible refine Bl.alloc ?_ _ | (with_reducible refine Bl.call ?_ (by assumption))))))).mono ?_; rintro e w1 ⟨rfl, hb1⟩; replace hr3 : RdI w1 _ _ _ _ := hr3.keep (by (repeat (first | assumption | with_reducible exact Bl.refl _ | with_reducible refine Bl.drewN ?_ _ | with_reducible refine Bl.drew ?_ | with_reducible refine Bl.alloc ?_ _ | (with_reducible refine Bl.call ?_ (by assumption))))); replace kad : w1.cell? ad = _ := Bl.cells (by (repeat (first | assumption | with_reducible exact Bl.refl _ | with_reducible refine Bl.drewN ?_ _ | with_reducible refine Bl.drew ?_ | with_reducible refine Bl.alloc ?_ _ | (with_reducible refine Bl.call ?_ (by assumption))))) kad; replace hW : Bl w w1 := (by (repeat (first | assumption | with_reducible exact Bl.refl _ | with_reducible refine Bl.drewN ?_ _ | with_reducible refine Bl.drew ?_ | with_reducible refine Bl.alloc ?_ _ | (with_reducible refine Bl.call ?_ (by assumption))))); have hb9 := hb1; clear hb1 hr2)
        go_wp2_with fail
        refine hK.out _ _ ?_ (fun hHeld => ?_)
        · (try dsimp only); exact Bl.cells (by (repeat (first | assumption | with_reducible exact Bl.refl _ | with_reducible refine Bl.drewN ?_ _ | with_reducible refine Bl.drew ?_ | with_reducible refine Bl.alloc ?_ _ | (with_reducible refine Bl.call ?_ (by assumption))))) kad
        clear hK K
        (try simp only [Act.put]); (try simp only [List.setIfInBounds_toArray]); (try simp only [List.set_cons_succ]); (try simp only [List.set_cons_zero])
        refine held_take (i := 7) (d := 123) (v := ?_) rfl rfl (by kernel_rfl) (by kernel_rfl) (by kernel_rfl) (fun _ _ _ h => h) (Or.inl ⟨by rfl, ?_⟩) (by assumption) ?_
        rotate_left
        · (intro w hSw; (try dsimp only at hSw); go_simp; (try with_reducible rfl))
        (try simp only [List.set_cons_zero, List.set_cons_succ])
        refine held_take (i := 8) (d := 124) (v := ?_) rfl rfl (by kernel_rfl) (by kernel_rfl) (by kernel_rfl) (fun _ _ _ h => h) (Or.inl ⟨by rfl, ?_⟩) (by assumption) ?_
        rotate_left
        · (intro w hSw; (try dsimp only at hSw); go_simp; (try with_reducible rfl))
        (try simp only [List.set_cons_zero, List.set_cons_succ])
        refine held_take (i := 9) (d := 125) (v := ?_) rfl rfl (by kernel_rfl) (by kernel_rfl) (by kernel_rfl) (fun _ _ _ h => h) (Or.inl ⟨by rfl, ?_⟩) (by assumption) ?_
        rotate_left
        · (intro w hSw; (try dsimp only at hSw); go_simp; (try with_reducible rfl))
        (try simp only [List.set_cons_zero, List.set_cons_succ])
        refine held_take (i := 10) (d := 126) (v := ?_) rfl rfl (by kernel_rfl) (by kernel_rfl) (by kernel_rfl) (fun _ _ _ h => h) (Or.inl ⟨by rfl, ?_⟩) (by assumption) ?_
        rotate_left
        · (intro w hSw; (try dsimp only at hSw); go_simp; (try with_reducible rfl))
        (try simp only [List.set_cons_zero, List.set_cons_succ])
        refine held_take (i := 11) (d := 127) (v := ?_) rfl rfl (by kernel_rfl) (by kernel_rfl) (by kernel_rfl) (fun _ _ _ h => h) (Or.inl ⟨by rfl, ?_⟩) (by assumption) ?_
        rotate_left
        · (intro w hSw; (try dsimp only at hSw); go_simp; (try with_reducible rfl))
        (try simp only [List.set_cons_zero, List.set_cons_succ])
        refine held_take (i := 12) (d := 128) (v := ?_) rfl rfl (by kernel_rfl) (by kernel_rfl) (by kernel_rfl) (fun _ _ _ h => h) (Or.inl ⟨by rfl, ?_⟩) (by assumption) ?_
        rotate_left
        · (intro w hSw; (try dsimp only at hSw); go_simp; (try with_reducible rfl))
        (try simp only [List.set_cons_zero, List.set_cons_succ])
        refine held_take (i := 13) (d := 129) (v := ?_) rfl rfl (by kernel_rfl) (by kernel_rfl) (by kernel_rfl) (fun _ _ _ h => h) (Or.inl ⟨by rfl, ?_⟩) (by assumption) ?_
        rotate_left
        · (intro w hSw; (try dsimp only at hSw); go_simp; (try with_reducible rfl))
        (try simp only [List.set_cons_zero, List.set_cons_succ])
        refine held_take (i := 14) (d := 130) (v := ?_) rfl rfl (by kernel_rfl) (by kernel_rfl) (by kernel_rfl) (fun _ _ _ h => h) (Or.inl ⟨by rfl, ?_⟩) (by assumption) ?_
        rotate_left
        · (intro w hSw; (try dsimp only at hSw); go_simp; (try with_reducible rfl))
        (try simp only [List.set_cons_zero, List.set_cons_succ])
        refine held_take (i := 15) (d := 131) (v := ?_) rfl rfl (by kernel_rfl) (by kernel_rfl) (by kernel_rfl) (fun _ _ _ h => h) (Or.inl ⟨by rfl, ?_⟩) (by assumption) ?_
        rotate_left
        · (intro w hSw; (try dsimp only at hSw); go_simp; (try with_reducible rfl))
        (try simp only [List.set_cons_zero, List.set_cons_succ])
        refine held_take (i := 16) (d := 132) (v := ?_) rfl rfl (by kernel_rfl) (by kernel_rfl) (by kernel_rfl) (fun _ _ _ h => h) (Or.inl ⟨by rfl, ?_⟩) (by assumption) ?_
        rotate_left
        · (intro w hSw; (try dsimp only at hSw); go_simp; (try with_reducible rfl))
        (try simp only [List.set_cons_zero, List.set_cons_succ])
        refine held_take (i := 17) (d := 133) (v := ?_) rfl rfl (by kernel_rfl) (by kernel_rfl) (by kernel_rfl) (fun _ _ _ h => h) (Or.inl ⟨by rfl, ?_⟩) (by assumption) ?_
        rotate_left
        · (intro w hSw; (try dsimp only at hSw); go_simp; (try with_reducible rfl))
        (try simp only [List.set_cons_zero, List.set_cons_succ])
        refine held_take (i := 18) (d := 134) (v := ?_) rfl rfl (by kernel_rfl) (by kernel_rfl) (by kernel_rfl) (fun _ _ _ h => h) (Or.inl ⟨by rfl, ?_⟩) (by assumption) ?_
        rotate_left
        · (intro w hSw; (try dsimp only at hSw); go_simp; (try with_reducible rfl))
        (try simp only [List.set_cons_zero, List.set_cons_succ])
        refine held_take (i := 19) (d := 135) (v := ?_) rfl rfl (by kernel_rfl) (by kernel_rfl) (by kernel_rfl) (fun _ _ _ h => h) (Or.inl ⟨by rfl, ?_⟩) (by assumption) ?_
        rotate_left
        · (intro w hSw; (try dsimp only at hSw); go_simp; (try with_reducible rfl))
        (try simp only [List.set_cons_zero, List.set_cons_succ])
        refine held_take (i := 20) (d := 136) (v := ?_) rfl rfl (by kernel_rfl) (by kernel_rfl) (by kernel_rfl) (fun _ _ _ h => h) (Or.inl ⟨by rfl, ?_⟩) (by assumption) ?_
        rotate_left
        · (intro w hSw; (try dsimp only at hSw); go_simp; (try with_reducible rfl))
        (try simp only [List.set_cons_zero, List.set_cons_succ])
        refine held_take (i := 22) (d := 138) (v := ?_) rfl rfl (by kernel_rfl) (by kernel_rfl) (by kernel_rfl) (fun _ _ _ h => h) (Or.inl ⟨by rfl, ?_⟩) (by assumption) ?_
        rotate_left
        · (intro w hSw; (try dsimp only at hSw); go_simp; (try with_reducible rfl))
        (try simp only [List.set_cons_zero, List.set_cons_succ])
        refine wpAnyH_ready (rs := [21]) (by kernel_rfl) (by simp) ?_
        refine AllReadyH.cons rfl (fun K hK => ?_) AllReadyH.nil
        go_simp
        refine hK.out _ _ ?_ (fun hHeld => ?_)
        · (try dsimp only); exact Bl.cells (by (repeat (first | assumption | with_reducible exact Bl.refl _ | with_reducible refine Bl.drewN ?_ _ | with_reducible refine Bl.drew ?_ | with_reducible refine Bl.alloc ?_ _ | (with_reducible refine Bl.call ?_ (by assumption))))) kad
        clear hK K
        (try simp only [Act.put]); (try simp only [List.setIfInBounds_toArray]); (try simp only [List.set_cons_succ]); (try simp only [List.set_cons_zero])
        refine held_take (i := 23) (d := 139) (v := ?_) rfl rfl (by kernel_rfl) (by kernel_rfl) (by kernel_rfl) (fun _ _ _ h => h) (Or.inl ⟨by rfl, ?_⟩) (by assumption) ?_
        rotate_left
        · (intro w hSw; (try dsimp only at hSw); go_simp; (try with_reducible rfl))
        (try simp only [List.set_cons_zero, List.set_cons_succ])
        refine wpAnyH_ready (rs := [24]) (by kernel_rfl) (by simp) ?_
        refine AllReadyH.cons rfl (fun K hK => ?_) AllReadyH.nil
        go_simp
        refine hK.out _ _ ?_ (fun hHeld => ?_)
        · (try dsimp only); exact Bl.cells (by (repeat (first | assumption | with_reducible exact Bl.refl _ | with_reducible refine Bl.drewN ?_ _ | with_reducible refine Bl.drew ?_ | with_reducible refine Bl.alloc ?_ _ | (with_reducible refine Bl.call ?_ (by assumption))))) kad
        clear hK K
        (try simp only [Act.put]); (try simp only [List.setIfInBounds_toArray]); (try simp only [List.set_cons_succ]); (try simp only [List.set_cons_zero])
        refine held_take (i := 25) (d := 141) (v := ?_) rfl rfl (by kernel_rfl) (by kernel_rfl) (by kernel_rfl) (fun _ _ _ h => h) (Or.inl ⟨by rfl, ?_⟩) (by assumption) ?_
        rotate_left
        · (intro w hSw; (try dsimp only at hSw); go_simp; (try with_reducible rfl))
        (try simp only [List.set_cons_zero, List.set_cons_succ])
        refine held_take (i := 26) (d := 142) (v := ?_) rfl rfl (by kernel_rfl) (by kernel_rfl) (by kernel_rfl) (fun _ _ _ h => h) (Or.inl ⟨by rfl, ?_⟩) (by assumption) ?_
        rotate_left
        · (intro w hSw; (try dsimp only at hSw); go_simp; (try with_reducible rfl))
        (try simp only [List.set_cons_zero, List.set_cons_succ])
        refine held_take (i := 27) (d := 143) (v := ?_) rfl rfl (by kernel_rfl) (by kernel_rfl) (by kernel_rfl) (fun _ _ _ h => h) (Or.inl ⟨by rfl, ?_⟩) (by assumption) ?_
        rotate_left
        · (intro w hSw; (try dsimp only at hSw); go_simp; (try with_reducible rfl))
        (try simp only [List.set_cons_zero, List.set_cons_succ])
        refine held_take (i := 28) (d := 144) (v := ?_) rfl rfl (by kernel_rfl) (by kernel_rfl) (by kernel_rfl) (fun _ _ _ h => h) (Or.inl ⟨by rfl, ?_⟩) (by assumption) ?_
        rotate_left
        · (intro w hSw; (try dsimp only at hSw); go_simp; (try with_reducible rfl))
        (try simp only [List.set_cons_zero, List.set_cons_succ])
        refine wpAnyH_done (by kernel_rfl) ?_ _
        go_wp2
        go_meet
        case rel => exact ⟨rfl, (by (repeat (first | assumption | with_reducible exact Bl.refl _ | with_reducible refine Bl.drewN ?_ _ | with_reducible refine Bl.drew ?_ | with_reducible refine Bl.alloc ?_ _ | (with_reducible refine Bl.call ?_ (by assumption)))))⟩
      · obtain rfl : own = y1 := hown
        refine wp_region_held_drew (S := (fun w' => w'.cell? ad = some (.int .i64 own))) (by kernel_rfl) ?_ (fun hHeld => ?_)
        · (try dsimp only); exact Bl.cells (by (repeat (first | assumption | with_reducible exact Bl.refl _ | with_reducible refine Bl.drewN ?_ _ | with_reducible refine Bl.drew ?_ | with_reducible refine Bl.alloc ?_ _ | (with_reducible refine Bl.call ?_ (by assumption))))) kad
        refine held_take (i := 0) (d := 116) (v := ?_) rfl rfl (by kernel_rfl) (by kernel_rfl) (by kernel_rfl) (fun _ _ _ h => h) (Or.inl ⟨by rfl, ?_⟩) (by assumption) ?_
        rotate_left
        · (intro w hSw; (try dsimp only at hSw); go_simp; (try with_reducible rfl))
        (try simp only [List.set_cons_zero, List.set_cons_succ])
        refine held_take (i := 1) (d := 117) (v := ?_) rfl rfl (by kernel_rfl) (by kernel_rfl) (by kernel_rfl) (fun _ _ _ h => h) (Or.inl ⟨by rfl, ?_⟩) (by assumption) ?_
        rotate_left
        · (intro w hSw; (try dsimp only at hSw); go_simp; (try with_reducible rfl))
        (try simp only [List.set_cons_zero, List.set_cons_succ])
        refine held_take (i := 2) (d := 118) (v := ?_) rfl rfl (by kernel_rfl) (by kernel_rfl) (by kernel_rfl) (fun _ _ _ h => h) (Or.inl ⟨by rfl, ?_⟩) (by assumption) ?_
        rotate_left
        · (intro w hSw; (try dsimp only at hSw); go_simp; (try with_reducible rfl))
        (try simp only [List.set_cons_zero, List.set_cons_succ])
        refine held_take (i := 3) (d := 119) (v := ?_) rfl rfl (by kernel_rfl) (by kernel_rfl) (by kernel_rfl) (fun _ _ _ h => h) (Or.inl ⟨by rfl, ?_⟩) (by assumption) ?_
        rotate_left
        · (intro w hSw; (try dsimp only at hSw); go_simp; (try with_reducible rfl))
        (try simp only [List.set_cons_zero, List.set_cons_succ])
        refine held_take (i := 4) (d := 120) (v := ?_) rfl rfl (by kernel_rfl) (by kernel_rfl) (by kernel_rfl) (fun _ _ _ h => h) (Or.inl ⟨by rfl, ?_⟩) (by assumption) ?_
        rotate_left
        · (intro w hSw; (try dsimp only at hSw); go_simp; (try with_reducible rfl))
        (try simp only [List.set_cons_zero, List.set_cons_succ])
        refine held_take (i := 5) (d := 121) (v := ?_) rfl rfl (by kernel_rfl) (by kernel_rfl) (by kernel_rfl) (fun _ _ _ h => h) (Or.inl ⟨by rfl, ?_⟩) (by assumption) ?_
        rotate_left
        · (intro w hSw; (try dsimp only at hSw); go_simp; (try with_reducible rfl))
        (try simp only [List.set_cons_zero, List.set_cons_succ])
        refine wpAnyH_ready (rs := [6]) (by kernel_rfl) (by simp) ?_
        refine AllReadyH.cons rfl (fun K hK => ?_) AllReadyH.nil
        go_simp
        (refine (same_t _ _ _ _ _ _ _ _ (hr2.keep (by (repeat (first | assumption | with_reducible exact Bl.refl _ | with_reducible refine Bl.drewN ?_ _ | with_reducible refine Bl.drew ?_ | with_reducible refine Bl.alloc ?_ _ | (with_reducible refine Bl.call ?_ (by assumption)))))) (hr3.keep (by (repeat (first | assumption | with_reducible exact Bl.refl _ | with_reducible refine Bl.drewN ?_ _ | with_reducible refine Bl.drew ?_ | with_reducible refine Bl.alloc ?_ _ | (with_reducible refine Bl.call ?_ (by assumption))))))).mono ?_; rintro e w1 ⟨rfl, hb1⟩; replace hr3 : RdI w1 _ _ _ _ := hr3.keep (by (repeat (first | assumption | with_reducible exact Bl.refl _ | with_reducible refine Bl.drewN ?_ _ | with_reducible refine Bl.drew ?_ | with_reducible refine Bl.alloc ?_ _ | (with_reducible refine Bl.call ?_ (by assumption))))); replace kad : w1.cell? ad = _ := Bl.cells (by (repeat (first | assumption | with_reducible exact Bl.refl _ | with_reducible refine Bl.drewN ?_ _ | with_reducible refine Bl.drew ?_ | with_reducible refine Bl.alloc ?_ _ | (with_reducible refine Bl.call ?_ (by assumption))))) kad; replace hW : Bl w w1 := (by (repeat (first | assumption | with_reducible exact Bl.refl _ | with_reducible refine Bl.drewN ?_ _ | with_reducible refine Bl.drew ?_ | with_reducible refine Bl.alloc ?_ _ | (with_reducible refine Bl.call ?_ (by assumption))))); have hb9 := hb1; clear hb1 hr2)
        go_wp2_with fail
        refine hK.out _ _ ?_ (fun hHeld => ?_)
        · (try dsimp only); exact Bl.cells (by (repeat (first | assumption | with_reducible exact Bl.refl _ | with_reducible refine Bl.drewN ?_ _ | with_reducible refine Bl.drew ?_ | with_reducible refine Bl.alloc ?_ _ | (with_reducible refine Bl.call ?_ (by assumption))))) kad
        clear hK K
        (try simp only [Act.put]); (try simp only [List.setIfInBounds_toArray]); (try simp only [List.set_cons_succ]); (try simp only [List.set_cons_zero])
        refine held_take (i := 7) (d := 123) (v := ?_) rfl rfl (by kernel_rfl) (by kernel_rfl) (by kernel_rfl) (fun _ _ _ h => h) (Or.inl ⟨by rfl, ?_⟩) (by assumption) ?_
        rotate_left
        · (intro w hSw; (try dsimp only at hSw); go_simp; (try with_reducible rfl))
        (try simp only [List.set_cons_zero, List.set_cons_succ])
        refine held_take (i := 8) (d := 124) (v := ?_) rfl rfl (by kernel_rfl) (by kernel_rfl) (by kernel_rfl) (fun _ _ _ h => h) (Or.inl ⟨by rfl, ?_⟩) (by assumption) ?_
        rotate_left
        · (intro w hSw; (try dsimp only at hSw); go_simp; (try with_reducible rfl))
        (try simp only [List.set_cons_zero, List.set_cons_succ])
        refine held_take (i := 9) (d := 125) (v := ?_) rfl rfl (by kernel_rfl) (by kernel_rfl) (by kernel_rfl) (fun _ _ _ h => h) (Or.inl ⟨by rfl, ?_⟩) (by assumption) ?_
        rotate_left
        · (intro w hSw; (try dsimp only at hSw); go_simp; (try with_reducible rfl))
        (try simp only [List.set_cons_zero, List.set_cons_succ])
        refine held_take (i := 10) (d := 126) (v := ?_) rfl rfl (by kernel_rfl) (by kernel_rfl) (by kernel_rfl) (fun _ _ _ h => h) (Or.inl ⟨by rfl, ?_⟩) (by assumption) ?_
        rotate_left
        · (intro w hSw; (try dsimp only at hSw); go_simp; (try with_reducible rfl))
        (try simp only [List.set_cons_zero, List.set_cons_succ])
        refine held_take (i := 11) (d := 127) (v := ?_) rfl rfl (by kernel_rfl) (by kernel_rfl) (by kernel_rfl) (fun _ _ _ h => h) (Or.inl ⟨by rfl, ?_⟩) (by assumption) ?_
        rotate_left
        · (intro w hSw; (try dsimp only at hSw); go_simp; (try with_reducible rfl))
        (try simp only [List.set_cons_zero, List.set_cons_succ])
        refine held_take (i := 12) (d := 128) (v := ?_) rfl rfl (by kernel_rfl) (by kernel_rfl) (by kernel_rfl) (fun _ _ _ h => h) (Or.inl ⟨by rfl, ?_⟩) (by assumption) ?_
        rotate_left
        · (intro w hSw; (try dsimp only at hSw); go_simp; (try with_reducible rfl))
        (try simp only [List.set_cons_zero, List.set_cons_succ])
        refine held_take (i := 13) (d := 129) (v := ?_) rfl rfl (by kernel_rfl) (by kernel_rfl) (by kernel_rfl) (fun _ _ _ h => h) (Or.inl ⟨by rfl, ?_⟩) (by assumption) ?_
        rotate_left
        · (intro w hSw; (try dsimp only at hSw); go_simp; (try with_reducible rfl))
        (try simp only [List.set_cons_zero, List.set_cons_succ])
        refine held_take (i := 14) (d := 130) (v := ?_) rfl rfl (by kernel_rfl) (by kernel_rfl) (by kernel_rfl) (fun _ _ _ h => h) (Or.inl ⟨by rfl, ?_⟩) (by assumption) ?_
        rotate_left
        · (intro w hSw; (try dsimp only at hSw); go_simp; (try with_reducible rfl))
        (try simp only [List.set_cons_zero, List.set_cons_succ])
        refine held_take (i := 15) (d := 131) (v := ?_) rfl rfl (by kernel_rfl) (by kernel_rfl) (by kernel_rfl) (fun _ _ _ h => h) (Or.inl ⟨by rfl, ?_⟩) (by assumption) ?_
        rotate_left
        · (intro w hSw; (try dsimp only at hSw); go_simp; (try with_reducible rfl))
        (try simp only [List.set_cons_zero, List.set_cons_succ])
        refine held_take (i := 16) (d := 132) (v := ?_) rfl rfl (by kernel_rfl) (by kernel_rfl) (by kernel_rfl) (fun _ _ _ h => h) (Or.inl ⟨by rfl, ?_⟩) (by assumption) ?_
        rotate_left
        · (intro w hSw; (try dsimp only at hSw); go_simp; (try with_reducible rfl))
        (try simp only [List.set_cons_zero, List.set_cons_succ])
        refine held_take (i := 17) (d := 133) (v := ?_) rfl rfl (by kernel_rfl) (by kernel_rfl) (by kernel_rfl) (fun _ _ _ h => h) (Or.inl ⟨by rfl, ?_⟩) (by assumption) ?_
        rotate_left
        · (intro w hSw; (try dsimp only at hSw); go_simp; (try with_reducible rfl))
        (try simp only [List.set_cons_zero, List.set_cons_succ])
        refine held_take (i := 18) (d := 134) (v := ?_) rfl rfl (by kernel_rfl) (by kernel_rfl) (by kernel_rfl) (fun _ _ _ h => h) (Or.inl ⟨by rfl, ?_⟩) (by assumption) ?_
        rotate_left
        · (intro w hSw; (try dsimp only at hSw); go_simp; (try with_reducible rfl))
        (try simp only [List.set_cons_zero, List.set_cons_succ])
        refine held_take (i := 19) (d := 135) (v := ?_) rfl rfl (by kernel_rfl) (by kernel_rfl) (by kernel_rfl) (fun _ _ _ h => h) (Or.inl ⟨by rfl, ?_⟩) (by assumption) ?_
        rotate_left
        · (intro w hSw; (try dsimp only at hSw); go_simp; (try with_reducible rfl))
        (try simp only [List.set_cons_zero, List.set_cons_succ])
        refine held_take (i := 20) (d := 136) (v := ?_) rfl rfl (by kernel_rfl) (by kernel_rfl) (by kernel_rfl) (fun _ _ _ h => h) (Or.inl ⟨by rfl, ?_⟩) (by assumption) ?_
        rotate_left
        · (intro w hSw; (try dsimp only at hSw); go_simp; (try with_reducible rfl))
        (try simp only [List.set_cons_zero, List.set_cons_succ])
        refine held_take (i := 22) (d := 138) (v := ?_) rfl rfl (by kernel_rfl) (by kernel_rfl) (by kernel_rfl) (fun _ _ _ h => h) (Or.inl ⟨by rfl, ?_⟩) (by assumption) ?_
        rotate_left
        · (intro w hSw; (try dsimp only at hSw); go_simp; (try with_reducible rfl))
        (try simp only [List.set_cons_zero, List.set_cons_succ])
        refine wpAnyH_ready (rs := [21]) (by kernel_rfl) (by simp) ?_
        refine AllReadyH.cons rfl (fun K hK => ?_) AllReadyH.nil
        go_simp
        refine hK.out _ _ ?_ (fun hHeld => ?_)
        · (try dsimp only); exact Bl.cells (by (repeat (first | assumption | with_reducible exact Bl.refl _ | with_reducible refine Bl.drewN ?_ _ | with_reducible refine Bl.drew ?_ | with_reducible refine Bl.alloc ?_ _ | (with_reducible refine Bl.call ?_ (by assumption))))) kad
        clear hK K
        (try simp only [Act.put]); (try simp only [List.setIfInBounds_toArray]); (try simp only [List.set_cons_succ]); (try simp only [List.set_cons_zero])
        refine held_take (i := 23) (d := 139) (v := ?_) rfl rfl (by kernel_rfl) (by kernel_rfl) (by kernel_rfl) (fun _ _ _ h => h) (Or.inl ⟨by rfl, ?_⟩) (by assumption) ?_
        rotate_left
        · (intro w hSw; (try dsimp only at hSw); go_simp; (try with_reducible rfl))
        (try simp only [List.set_cons_zero, List.set_cons_succ])
        refine wpAnyH_ready (rs := [24]) (by kernel_rfl) (by simp) ?_
        refine AllReadyH.cons rfl (fun K hK => ?_) AllReadyH.nil
        go_simp
        refine hK.out _ _ ?_ (fun hHeld => ?_)
        · (try dsimp only); exact Bl.cells (by (repeat (first | assumption | with_reducible exact Bl.refl _ | with_reducible refine Bl.drewN ?_ _ | with_reducible refine Bl.drew ?_ | with_reducible refine Bl.alloc ?_ _ | (with_reducible refine Bl.call ?_ (by assumption))))) kad
        clear hK K
        (try simp only [Act.put]); (try simp only [List.setIfInBounds_toArray]); (try simp only [List.set_cons_succ]); (try simp only [List.set_cons_zero])
        refine held_take (i := 25) (d := 141) (v := ?_) rfl rfl (by kernel_rfl) (by kernel_rfl) (by kernel_rfl) (fun _ _ _ h => h) (Or.inl ⟨by rfl, ?_⟩) (by assumption) ?_
        rotate_left
        · (intro w hSw; (try dsimp only at hSw); go_simp; (try with_reducible rfl))
        (try simp only [List.set_cons_zero, List.set_cons_succ])
        refine held_take (i := 26) (d := 142) (v := ?_) rfl rfl (by kernel_rfl) (by kernel_rfl) (by kernel_rfl) (fun _ _ _ h => h) (Or.inl ⟨by rfl, ?_⟩) (by assumption) ?_
        rotate_left
        · (intro w hSw; (try dsimp only at hSw); go_simp; (try with_reducible rfl))
        (try simp only [List.set_cons_zero, List.set_cons_succ])
        refine held_take (i := 27) (d := 143) (v := ?_) rfl rfl (by kernel_rfl) (by kernel_rfl) (by kernel_rfl) (fun _ _ _ h => h) (Or.inl ⟨by rfl, ?_⟩) (by assumption) ?_
        rotate_left
        · (intro w hSw; (try dsimp only at hSw); go_simp; (try with_reducible rfl))
        (try simp only [List.set_cons_zero, List.set_cons_succ])
        refine held_take (i := 28) (d := 144) (v := ?_) rfl rfl (by kernel_rfl) (by kernel_rfl) (by kernel_rfl) (fun _ _ _ h => h) (Or.inl ⟨by rfl, ?_⟩) (by assumption) ?_
        rotate_left
        · (intro w hSw; (try dsimp only at hSw); go_simp; (try with_reducible rfl))
        (try simp only [List.set_cons_zero, List.set_cons_succ])
        refine wpAnyH_done (by kernel_rfl) ?_ _
        go_wp2
        go_meet
        case rel => exact ⟨rfl, (by (repeat (first | assumption | with_reducible exact Bl.refl _ | with_reducible refine Bl.drewN ?_ _ | with_reducible refine Bl.drew ?_ | with_reducible refine Bl.alloc ?_ _ | (with_reducible refine Bl.call ?_ (by assumption)))))⟩
  case rest =>
  obtain ⟨rfl, hbc⟩ := hcut
  replace hr3 := hr3.keep hbc
  replace hW := hW.call hbc
  clear hbc hr2
  go_upto_if 145 with fail
  go_cut [] from 145 to 169 (fun wx => Bl w wx)
  case first =>
    cases b
    · go_wp2
      go_meet
      case rel => exact hW
    · obtain ⟨hq, hp0, hwx, hmt, own, s0, s1, s2, s3, s4, s5, s6, s7, s8, z, rfl, hown, j3⟩ := hbT.out rfl
      clear hbT hq hown
      obtain ⟨ad, he, hlt, k0, _⟩ := hr3.lit (by have := hr3.length; simp at this; omega)
      subst he
      have kad := k0 _ rfl
      have hn3 : n3 = 11 := by have := hr3.length; simp at this; omega
      subst hn3
      clear k0
      go_wp2_with fail
      have hmid : RdI _ (some ⟨ad.block, ad.off + 1, none⟩) 9 (c3 - 1) [s0, s1, s2, s3, s4, s5, s6, s7, s8] := hr3.mid (k := 1) 9 (by omega) (by omega) (by omega)
      have hc10 : 10 ≤ (c3 : Int) := by have := hr3.le; omega
      have hc1 : ¬ c3 = 1 := by omega
      refine wp_region_held_drew (S := (fun w' => w'.cell? ad = some (.int .i64 own))) (by kernel_rfl) ?_ (fun hHeld => ?_)
      · (try dsimp only); exact Bl.cells (by (repeat (first | assumption | with_reducible exact Bl.refl _ | with_reducible refine Bl.drewN ?_ _ | with_reducible refine Bl.drew ?_ | with_reducible refine Bl.alloc ?_ _ | (with_reducible refine Bl.call ?_ (by assumption))))) kad
      refine held_take (i := 0) (d := 147) (v := ?_) rfl rfl (by kernel_rfl) (by kernel_rfl) (by kernel_rfl) (fun _ _ _ h => h) (Or.inl ⟨by rfl, ?_⟩) (by assumption) ?_
      rotate_left
      · (intro w hSw; (try dsimp only at hSw); go_simp; (try with_reducible rfl))
      (try simp only [List.set_cons_zero, List.set_cons_succ])
      refine held_take (i := 1) (d := 148) (v := ?_) rfl rfl (by kernel_rfl) (by kernel_rfl) (by kernel_rfl) (fun _ _ _ h => h) (Or.inl ⟨by rfl, ?_⟩) (by assumption) ?_
      rotate_left
      · (intro w hSw; (try dsimp only at hSw); go_simp; (try with_reducible rfl))
      (try simp only [List.set_cons_zero, List.set_cons_succ])
      refine held_take (i := 2) (d := 149) (v := ?_) rfl rfl (by kernel_rfl) (by kernel_rfl) (by kernel_rfl) (fun _ _ _ h => h) (Or.inl ⟨by rfl, ?_⟩) (by assumption) ?_
      rotate_left
      · (intro w hSw; (try dsimp only at hSw); go_simp; (try with_reducible rfl))
      (try simp only [List.set_cons_zero, List.set_cons_succ])
      refine held_take (i := 3) (d := 150) (v := ?_) rfl rfl (by kernel_rfl) (by kernel_rfl) (by kernel_rfl) (fun _ _ _ h => h) (Or.inl ⟨by rfl, ?_⟩) (by assumption) ?_
      rotate_left
      · (intro w hSw; (try dsimp only at hSw); go_simp; (try with_reducible rfl))
      (try simp only [List.set_cons_zero, List.set_cons_succ])
      refine held_take (i := 4) (d := 151) (v := ?_) rfl rfl (by kernel_rfl) (by kernel_rfl) (by kernel_rfl) (fun _ _ _ h => h) (Or.inl ⟨by rfl, ?_⟩) (by assumption) ?_
      rotate_left
      · (intro w hSw; (try dsimp only at hSw); go_simp; (try with_reducible rfl))
      (try simp only [List.set_cons_zero, List.set_cons_succ])
      refine held_take (i := 5) (d := 152) (v := ?_) rfl rfl (by kernel_rfl) (by kernel_rfl) (by kernel_rfl) (fun _ _ _ h => h) (Or.inl ⟨by rfl, ?_⟩) (by assumption) ?_
      rotate_left
      · (intro w hSw; (try dsimp only at hSw); go_simp; (try with_reducible rfl))
      (try simp only [List.set_cons_zero, List.set_cons_succ])
      refine held_take (i := 6) (d := 153) (v := ?_) rfl rfl (by kernel_rfl) (by kernel_rfl) (by kernel_rfl) (fun _ _ _ h => h) (Or.inl ⟨by rfl, ?_⟩) (by assumption) ?_
      rotate_left
      · (intro w hSw; (try dsimp only at hSw); go_simp; (try with_reducible rfl))
      (try simp only [List.set_cons_zero, List.set_cons_succ])
      refine held_take (i := 7) (d := 154) (v := ?_) rfl rfl (by kernel_rfl) (by kernel_rfl) (by kernel_rfl) (fun _ _ _ h => h) (Or.inl ⟨by rfl, ?_⟩) (by assumption) ?_
      rotate_left
      · (intro w hSw; (try dsimp only at hSw); go_simp; (try with_reducible rfl))
      (try simp only [List.set_cons_zero, List.set_cons_succ])
      refine held_take (i := 8) (d := 155) (v := ?_) rfl rfl (by kernel_rfl) (by kernel_rfl) (by kernel_rfl) (fun _ _ _ h => h) (Or.inl ⟨by rfl, ?_⟩) (by assumption) ?_
      rotate_left
      · (intro w hSw; (try dsimp only at hSw); go_simp; (try with_reducible rfl))
      (try simp only [List.set_cons_zero, List.set_cons_succ])
      refine held_take (i := 9) (d := 156) (v := ?_) rfl rfl (by kernel_rfl) (by kernel_rfl) (by kernel_rfl) (fun _ _ _ h => h) (Or.inl ⟨by rfl, ?_⟩) (by assumption) ?_
      rotate_left
      · (intro w hSw; (try dsimp only at hSw); go_simp; (try with_reducible rfl))
      (try simp only [List.set_cons_zero, List.set_cons_succ])
      refine held_take (i := 10) (d := 157) (v := ?_) rfl rfl (by kernel_rfl) (by kernel_rfl) (by kernel_rfl) (fun _ _ _ h => h) (Or.inl ⟨by rfl, ?_⟩) (by assumption) ?_
      rotate_left
      · (intro w hSw; (try dsimp only at hSw); go_simp; (try with_reducible rfl))
      (try simp only [List.set_cons_zero, List.set_cons_succ])
      refine held_take (i := 11) (d := 158) (v := ?_) rfl rfl (by kernel_rfl) (by kernel_rfl) (by kernel_rfl) (fun _ _ _ h => h) (Or.inl ⟨by rfl, ?_⟩) (by assumption) ?_
      rotate_left
      · (intro w hSw; (try dsimp only at hSw); go_simp; (try with_reducible rfl))
      (try simp only [List.set_cons_zero, List.set_cons_succ])
      refine wpAnyH_ready (rs := [12]) (by kernel_rfl) (by simp) ?_
      refine AllReadyH.cons rfl (fun K hK => ?_) AllReadyH.nil
      go_simp
      (clear hmt hwx hp0 hc10 hc1; refine (j3.out _ _ _ _ (hmid.keep (by (repeat (first | assumption | with_reducible exact Bl.refl _ | with_reducible refine Bl.drewN ?_ _ | with_reducible refine Bl.drew ?_ | with_reducible refine Bl.alloc ?_ _ | (with_reducible refine Bl.call ?_ (by assumption))))))).mono ?_; rintro e w1 ⟨A2, n2, c2, rfl, hr2, hb1⟩; replace hr3 : RdI w1 _ _ _ _ := hr3.keep (by (repeat (first | assumption | with_reducible exact Bl.refl _ | with_reducible refine Bl.drewN ?_ _ | with_reducible refine Bl.drew ?_ | with_reducible refine Bl.alloc ?_ _ | (with_reducible refine Bl.call ?_ (by assumption))))); replace kad : w1.cell? ad = _ := Bl.cells (by (repeat (first | assumption | with_reducible exact Bl.refl _ | with_reducible refine Bl.drewN ?_ _ | with_reducible refine Bl.drew ?_ | with_reducible refine Bl.alloc ?_ _ | (with_reducible refine Bl.call ?_ (by assumption))))) kad; replace hW : Bl w w1 := (by (repeat (first | assumption | with_reducible exact Bl.refl _ | with_reducible refine Bl.drewN ?_ _ | with_reducible refine Bl.drew ?_ | with_reducible refine Bl.alloc ?_ _ | (with_reducible refine Bl.call ?_ (by assumption))))); clear hb1 hmid j3)
      go_wp2_with fail
      refine hK.out _ _ ?_ (fun hHeld => ?_)
      · (try dsimp only); exact Bl.cells (by (repeat (first | assumption | with_reducible exact Bl.refl _ | with_reducible refine Bl.drewN ?_ _ | with_reducible refine Bl.drew ?_ | with_reducible refine Bl.alloc ?_ _ | (with_reducible refine Bl.call ?_ (by assumption))))) kad
      clear hK K
      (try simp only [Act.put]); (try simp only [List.setIfInBounds_toArray]); (try simp only [List.set_cons_succ]); (try simp only [List.set_cons_zero])
      refine held_take (i := 13) (d := 146) (v := ?_) rfl rfl (by kernel_rfl) (by kernel_rfl) (by kernel_rfl) (fun _ _ _ h => h) (Or.inl ⟨by rfl, ?_⟩) (by assumption) ?_
      rotate_left
      · (intro w hSw; (try dsimp only at hSw); go_simp; (try with_reducible rfl))
      (try simp only [List.set_cons_zero, List.set_cons_succ])
      refine held_take (i := 14) (d := 160) (v := ?_) rfl rfl (by kernel_rfl) (by kernel_rfl) (by kernel_rfl) (fun _ _ _ h => h) (Or.inl ⟨by rfl, ?_⟩) (by assumption) ?_
      rotate_left
      · (intro w hSw; (try dsimp only at hSw); go_simp; (try with_reducible rfl))
      (try simp only [List.set_cons_zero, List.set_cons_succ])
      refine held_take (i := 15) (d := 161) (v := ?_) rfl rfl (by kernel_rfl) (by kernel_rfl) (by kernel_rfl) (fun _ _ _ h => h) (Or.inl ⟨by rfl, ?_⟩) (by assumption) ?_
      rotate_left
      · (intro w hSw; (try dsimp only at hSw); go_simp; (try with_reducible rfl))
      (try simp only [List.set_cons_zero, List.set_cons_succ])
      refine held_take (i := 16) (d := 22) (v := ?_) rfl rfl (by kernel_rfl) (by kernel_rfl) (by kernel_rfl) (fun _ _ _ h => h) (Or.inl ⟨by rfl, ?_⟩) (by assumption) ?_
      rotate_left
      · (intro w hSw; (try dsimp only at hSw); go_simp; (try with_reducible rfl))
      (try simp only [List.set_cons_zero, List.set_cons_succ])
      refine held_take (i := 17) (d := 23) (v := ?_) rfl rfl (by kernel_rfl) (by kernel_rfl) (by kernel_rfl) (fun _ _ _ h => h) (Or.inl ⟨by rfl, ?_⟩) (by assumption) ?_
      rotate_left
      · (intro w hSw; (try dsimp only at hSw); go_simp; (try with_reducible rfl))
      (try simp only [List.set_cons_zero, List.set_cons_succ])
      refine wpAnyH_done (by kernel_rfl) ?_ _
      go_wp2_with (first | (go_at_call 11; refine (same_t _ _ _ _ _ _ _ _ hr2 hr3).mono ?_; rintro e w1 ⟨rfl, hb1⟩; replace hr3 := hr3.keep hb1; replace hW : Bl w w1 := (by (repeat (first | assumption | with_reducible exact Bl.refl _ | with_reducible refine Bl.drewN ?_ _ | with_reducible refine Bl.drew ?_ | with_reducible refine Bl.alloc ?_ _ | (with_reducible refine Bl.call ?_ (by assumption))))); clear hb1 hr2))
      go_meet
      case rel => exact hW
  case rest =>
  clear hW hr3 hbT
  have hW := hcut
  clear hcut
  go_upto_if 199 with (first | (go_at_call 59; refine (spec_DrawRealCounts _ _ _ _ _ (hB.keep ?_)).mono ?_; (· ((repeat (first | assumption | with_reducible exact Bl.refl _ | with_reducible refine Bl.drewN ?_ _ | with_reducible refine Bl.drew ?_ | with_reducible refine Bl.alloc ?_ _ | (with_reducible refine Bl.call ?_ (by assumption)))); done)); rintro e w1 ⟨a4, b4, c4, rfl, hb1⟩; replace hW : Bl w w1 := (by (repeat (first | assumption | with_reducible exact Bl.refl _ | with_reducible refine Bl.drewN ?_ _ | with_reducible refine Bl.drew ?_ | with_reducible refine Bl.alloc ?_ _ | (with_reducible refine Bl.call ?_ (by assumption))))); clear hb1; obtain ⟨L4, t4, r1, r2, hbT⟩ := rc_get a4 b4 c4) | (go_at_call 60; refine (r1.out _).mono ?_; rintro e w1 ⟨A2, n2, c2, rfl, hr2, hb1⟩; replace hW : Bl w w1 := (by (repeat (first | assumption | with_reducible exact Bl.refl _ | with_reducible refine Bl.drewN ?_ _ | with_reducible refine Bl.drew ?_ | with_reducible refine Bl.alloc ?_ _ | (with_reducible refine Bl.call ?_ (by assumption))))); clear r1; clear hb1) | (go_at_call 61; refine (r2.out _).mono ?_; rintro e w1 ⟨A3, n3, c3, rfl, hr3, hb1⟩; replace hW : Bl w w1 := (by (repeat (first | assumption | with_reducible exact Bl.refl _ | with_reducible refine Bl.drewN ?_ _ | with_reducible refine Bl.drew ?_ | with_reducible refine Bl.alloc ?_ _ | (with_reducible refine Bl.call ?_ (by assumption))))); clear r2; replace hr2 := hr2.keep hb1; clear hb1) | (go_at_call 11; refine (same_t _ _ _ _ _ _ _ _ hr2 hr3).mono ?_; rintro e w1 ⟨rfl, hb1⟩; replace hr3 := hr3.keep hb1; replace hW : Bl w w1 := (by (repeat (first | assumption | with_reducible exact Bl.refl _ | with_reducible refine Bl.drewN ?_ _ | with_reducible refine Bl.drew ?_ | with_reducible refine Bl.alloc ?_ _ | (with_reducible refine Bl.call ?_ (by assumption))))); clear hb1 hr2))
  go_cut [] from 199 to 227 (fun wx => Bl w wx)
  case first =>
    cases t4
    · go_wp2
      go_meet
      case rel => exact hW
    · obtain ⟨hq, hwx, hmt, own, hown, r3, r4⟩ := hbT.out rfl
      clear hbT
      rcases hq with rfl | rfl
      · obtain rfl : own = a4 := hown
        go_wp2_with (first | (go_at_call 62; refine (r3.out _).mono ?_; rintro e w1 ⟨A2, n2, c2, rfl, hr2, hb1⟩; replace hr3 : RdI w1 _ _ _ _ := hr3.keep (by (repeat (first | assumption | with_reducible exact Bl.refl _ | with_reducible refine Bl.drewN ?_ _ | with_reducible refine Bl.drew ?_ | with_reducible refine Bl.alloc ?_ _ | (with_reducible refine Bl.call ?_ (by assumption))))); replace hW : Bl w w1 := (by (repeat (first | assumption | with_reducible exact Bl.refl _ | with_reducible refine Bl.drewN ?_ _ | with_reducible refine Bl.drew ?_ | with_reducible refine Bl.alloc ?_ _ | (with_reducible refine Bl.call ?_ (by assumption))))); clear hb1 r3) | (go_at_call 11; refine (same_t _ _ _ _ _ _ _ _ hr2 hr3).mono ?_; rintro e w1 ⟨rfl, hb1⟩; replace hr3 := hr3.keep hb1; replace hW : Bl w w1 := (by (repeat (first | assumption | with_reducible exact Bl.refl _ | with_reducible refine Bl.drewN ?_ _ | with_reducible refine Bl.drew ?_ | with_reducible refine Bl.alloc ?_ _ | (with_reducible refine Bl.call ?_ (by assumption))))); clear hb1 hr2) | (go_at_call 19; refine (r4.out _ _ _ _ hr3).mono ?_; rintro e w1 ⟨rfl, hb1⟩; replace hW : Bl w w1 := (by (repeat (first | assumption | with_reducible exact Bl.refl _ | with_reducible refine Bl.drewN ?_ _ | with_reducible refine Bl.drew ?_ | with_reducible refine Bl.alloc ?_ _ | (with_reducible refine Bl.call ?_ (by assumption))))); clear r4 hr3; clear hb1))
        go_meet
        case rel => exact hW
      · obtain rfl : own = b4 := hown
        go_wp2_with (first | (go_at_call 62; refine (r3.out _).mono ?_; rintro e w1 ⟨A2, n2, c2, rfl, hr2, hb1⟩; replace hr3 : RdI w1 _ _ _ _ := hr3.keep (by (repeat (first | assumption | with_reducible exact Bl.refl _ | with_reducible refine Bl.drewN ?_ _ | with_reducible refine Bl.drew ?_ | with_reducible refine Bl.alloc ?_ _ | (with_reducible refine Bl.call ?_ (by assumption))))); replace hW : Bl w w1 := (by (repeat (first | assumption | with_reducible exact Bl.refl _ | with_reducible refine Bl.drewN ?_ _ | with_reducible refine Bl.drew ?_ | with_reducible refine Bl.alloc ?_ _ | (with_reducible refine Bl.call ?_ (by assumption))))); clear hb1 r3) | (go_at_call 11; refine (same_t _ _ _ _ _ _ _ _ hr2 hr3).mono ?_; rintro e w1 ⟨rfl, hb1⟩; replace hr3 := hr3.keep hb1; replace hW : Bl w w1 := (by (repeat (first | assumption | with_reducible exact Bl.refl _ | with_reducible refine Bl.drewN ?_ _ | with_reducible refine Bl.drew ?_ | with_reducible refine Bl.alloc ?_ _ | (with_reducible refine Bl.call ?_ (by assumption))))); clear hb1 hr2) | (go_at_call 19; refine (r4.out _ _ _ _ hr3).mono ?_; rintro e w1 ⟨rfl, hb1⟩; replace hW : Bl w w1 := (by (repeat (first | assumption | with_reducible exact Bl.refl _ | with_reducible refine Bl.drewN ?_ _ | with_reducible refine Bl.drew ?_ | with_reducible refine Bl.alloc ?_ _ | (with_reducible refine Bl.call ?_ (by assumption))))); clear r4 hr3; clear hb1))
        go_meet
        case rel => exact hW
  case rest =>
  clear hW hr3 hbT
  have hW := hcut
  clear hcut
  go_wp2_with (first | (go_at_call 63; refine (spec_DrawSimView _ _ _ _ _ (hB.keep ?_)).mono ?_; (· ((repeat (first | assumption | with_reducible exact Bl.refl _ | with_reducible refine Bl.drewN ?_ _ | with_reducible refine Bl.drew ?_ | with_reducible refine Bl.alloc ?_ _ | (with_reducible refine Bl.call ?_ (by assumption)))); done)); rintro e w1 ⟨p5, x5, y5, q5, A1, n1, c1, l1, rfl, hr0, hb1⟩; replace hW : Bl w w1 := (by (repeat (first | assumption | with_reducible exact Bl.refl _ | with_reducible refine Bl.drewN ?_ _ | with_reducible refine Bl.drew ?_ | with_reducible refine Bl.alloc ?_ _ | (with_reducible refine Bl.call ?_ (by assumption))))); clear hb1; have hr1 := hr0.rd; clear hr0; obtain ⟨L5, b5, m1, m2⟩ := sv_get p5 x5 y5 q5 l1) | (go_at_call 58; refine (m1.out _ _ _ _ hr1).mono ?_; rintro e w1 ⟨A2, n2, c2, rfl, hr2, hb1⟩; replace hW : Bl w w1 := (by (repeat (first | assumption | with_reducible exact Bl.refl _ | with_reducible refine Bl.drewN ?_ _ | with_reducible refine Bl.drew ?_ | with_reducible refine Bl.alloc ?_ _ | (with_reducible refine Bl.call ?_ (by assumption))))); clear m1; replace hr1 := hr1.keep hb1; clear hb1) | (go_at_call 64; refine (m2.out _ _ _ _ hr1).mono ?_; rintro e w1 ⟨A3, n3, c3, rfl, hr3, hb1⟩; replace hW : Bl w w1 := (by (repeat (first | assumption | with_reducible exact Bl.refl _ | with_reducible refine Bl.drewN ?_ _ | with_reducible refine Bl.drew ?_ | with_reducible refine Bl.alloc ?_ _ | (with_reducible refine Bl.call ?_ (by assumption))))); clear m2 hr1; replace hr2 := hr2.keep hb1; clear hb1) | (go_at_call 65; refine (spec_DrawSimCounts _ _ _ _ _ (hB.keep ?_)).mono ?_; (· ((repeat (first | assumption | with_reducible exact Bl.refl _ | with_reducible refine Bl.drewN ?_ _ | with_reducible refine Bl.drew ?_ | with_reducible refine Bl.alloc ?_ _ | (with_reducible refine Bl.call ?_ (by assumption)))); done)); rintro e w1 ⟨p6, x6, y6, rfl, hb1⟩; replace hW : Bl w w1 := (by (repeat (first | assumption | with_reducible exact Bl.refl _ | with_reducible refine Bl.drewN ?_ _ | with_reducible refine Bl.drew ?_ | with_reducible refine Bl.alloc ?_ _ | (with_reducible refine Bl.call ?_ (by assumption))))); replace hr2 := hr2.keep hb1; replace hr3 := hr3.keep hb1; clear hb1; obtain ⟨L6, b6, k1, k2⟩ := sc_get p6 x6 y6) | (go_at_call 62; refine (k1.out _).mono ?_; rintro e w1 ⟨A7, n7, c7, rfl, hr7, hb1⟩; replace hW : Bl w w1 := (by (repeat (first | assumption | with_reducible exact Bl.refl _ | with_reducible refine Bl.drewN ?_ _ | with_reducible refine Bl.drew ?_ | with_reducible refine Bl.alloc ?_ _ | (with_reducible refine Bl.call ?_ (by assumption))))); clear k1; replace hr2 := hr2.keep hb1; replace hr3 := hr3.keep hb1; clear hb1) | (go_at_call 66; refine (k2.out _).mono ?_; rintro e w1 ⟨A8, n8, c8, rfl, hr8, hb1⟩; replace hW : Bl w w1 := (by (repeat (first | assumption | with_reducible exact Bl.refl _ | with_reducible refine Bl.drewN ?_ _ | with_reducible refine Bl.drew ?_ | with_reducible refine Bl.alloc ?_ _ | (with_reducible refine Bl.call ?_ (by assumption))))); clear k2; replace hr2 := hr2.keep hb1; replace hr3 := hr3.keep hb1; replace hr7 := hr7.keep hb1; clear hb1) | (go_at_call 11; first | (refine (same_t _ _ _ _ _ _ _ _ hr2 hr3).mono ?_; rintro e w1 ⟨rfl, hb1⟩; replace hr7 := hr7.keep hb1; replace hr8 := hr8.keep hb1; replace hW : Bl w w1 := (by (repeat (first | assumption | with_reducible exact Bl.refl _ | with_reducible refine Bl.drewN ?_ _ | with_reducible refine Bl.drew ?_ | with_reducible refine Bl.alloc ?_ _ | (with_reducible refine Bl.call ?_ (by assumption))))); clear hb1 hr2) | (refine (same_t _ _ _ _ _ _ _ _ hr7 hr8).mono ?_; rintro e w1 ⟨rfl, hb1⟩; replace hW : Bl w w1 := (by (repeat (first | assumption | with_reducible exact Bl.refl _ | with_reducible refine Bl.drewN ?_ _ | with_reducible refine Bl.drew ?_ | with_reducible refine Bl.alloc ?_ _ | (with_reducible refine Bl.call ?_ (by assumption))))); clear hb1 hr7 hr8)))
  go_ret
  exact ⟨rfl, hW⟩
end Go.Proofs.Ytglgaicbcackbaa
