/- Contracts of ExpectedFor, on both sides.
   Conditions: the library's tables are laid. -/
import Derived.Test.YtjggecbaladiiaaGreatDoorPse
import Derived.Test.YtjggecbaladiiaaGreatDoorPss
namespace Go.Proofs.YtjggecbaladiiaaGreatDoor
open Go.RowKit
set_option linter.unusedVariables false
theorem pow_4 {v : Int} (h : 1 ≤ v ∧ v ≤ 4) : (2 : Int) ^ v.toNat - 1 ≤ 15 := by
  rcases (by omega : v = 1 ∨ v = 2 ∨ v = 3 ∨ v = 4) with rfl | rfl | rfl | rfl <;> decide
theorem fit1 {a : List Int} {v : Int} (h : fitR a [v] = true) (hv : 1 ≤ v ∧ v ≤ 4) : ∃ x, a = [x] ∧ 0 ≤ x ∧ x ≤ 15 := by
  have hp := pow_4 hv
  match a, h with
  | [x], h =>
    rw [fitR, Bool.and_eq_true] at h
    have := inR_iff.1 h.1
    exact ⟨x, rfl, by omega, by omega⟩
  | _ :: _ :: _, h => rw [fitR_len (by simp)] at h; cases h
theorem fit2 {a : List Int} {u v : Int} (h : fitR a [u, v] = true) (hu : 1 ≤ u ∧ u ≤ 4) (hv : 1 ≤ v ∧ v ≤ 4) : ∃ x z, a = [x, z] ∧ (0 ≤ x ∧ x ≤ 15) ∧ 0 ≤ z ∧ z ≤ 15 := by
  have hp := pow_4 hu
  have hq := pow_4 hv
  match a, h with
  | [x, z], h =>
    rw [fitR, fitR, Bool.and_eq_true, Bool.and_eq_true] at h
    have := inR_iff.1 h.1
    have := inR_iff.1 h.2.1
    exact ⟨x, z, rfl, ⟨by omega, by omega⟩, by omega, by omega⟩
  | [_], h => rw [fitR_len (by simp)] at h; cases h
  | _ :: _ :: _ :: _, h => rw [fitR_len (by simp)] at h; cases h
def ins0 (k : Nat) (wd : Int) : List Int := if k = 5 ∨ k = 10 then [wd, wd] else if k = 8 then [1, 1] else [wd]
def ins1 (k : Nat) (wd : Int) : List Int := if k = 8 ∨ k = 10 ∨ k = 11 then [1] else [wd]
theorem ins_eq (k : Nat) (hk : k < 12) (wd : Int) : insL (pgL k wd) 0 = ins0 k wd ∧ insL (pgL k wd) 1 = ins1 k wd := by
  rcases (by omega : k = 0 ∨ k = 1 ∨ k = 2 ∨ k = 3 ∨ k = 4 ∨ k = 5 ∨ k = 6 ∨ k = 7 ∨ k = 8 ∨ k = 9 ∨ k = 10 ∨ k = 11) with rfl | rfl | rfl | rfl | rfl | rfl | rfl | rfl | rfl | rfl | rfl | rfl <;> exact ⟨by simp [insL, pgL, ins0], by simp [insL, pgL, ins1]⟩
/-- The results of a program of the dozen for these inputs. -/
def exR (k : Nat) (wd : Int) (a b : List Int) : List Int := exL k wd (a.getD 0 0) (b.getD 0 0) (if k = 5 ∨ k = 8 ∨ k = 10 then a.getD 1 0 else 0)
theorem exL_len (k : Nat) (wd x y z : Int) : (exL k wd x y z).length ≤ 1000 := by
  unfold exL
  split <;> (repeat' split) <;> simp
set_option maxHeartbeats 2000000 in
theorem spec_pgExpected (k : Nat) (hk : k < 12) (wd : Int) (hwd : 1 ≤ wd ∧ wd ≤ 4) (A B : Option Addr) (n c m d : Nat) (a b : List Int) (w : World) (ha : RdI w A n c a) (hb : RdI w B m d b) (hq : askR (pgL k wd) a b = true) :
    Calls Tryz.prog 51 #[.int .i64 (k : Nat), .int .i64 wd, .slice A n c, .slice B m d] w fun e w' => ∃ A' n' c', e = .returned (.slice A' n' c') ∧ OwnI w.heap.size w' A' n' c' (exR k wd a b) ∧ Bl w w' := by
  have hw4 := hwd
  unfold askR at hq
  rw [(ins_eq k hk wd).1, (ins_eq k hk wd).2, Bool.and_eq_true] at hq
  obtain ⟨h1, h2⟩ := hq
  rcases (by omega : k = 0 ∨ k = 1 ∨ k = 2 ∨ k = 3 ∨ k = 4 ∨ k = 5 ∨ k = 6 ∨ k = 7 ∨ k = 8 ∨ k = 9 ∨ k = 10 ∨ k = 11) with rfl | rfl | rfl | rfl | rfl | rfl | rfl | rfl | rfl | rfl | rfl | rfl
  · obtain ⟨x, rfl, hx⟩ := fit1 (v := wd) h1 hw4
    obtain ⟨y, rfl, hy⟩ := fit1 (v := wd) h2 hw4
    obtain rfl : n = 1 := ha.length.symm
    obtain rfl : m = 1 := hb.length.symm
    obtain ⟨ad, v0, rfl, hd0, e0, c0⟩ := ha.at_ (k := 0) (by omega)
    obtain rfl := Option.some.inj e0
    obtain ⟨bd, v1, rfl, hd1, e1, c1⟩ := hb.at_ (k := 0) (by omega)
    obtain rfl := Option.some.inj e1
    exact pgE_0 wd x y ad bd c d w hx hy hwd hd0 hd1 c0 c1
  · obtain ⟨x, rfl, hx⟩ := fit1 (v := wd) h1 hw4
    obtain ⟨y, rfl, hy⟩ := fit1 (v := wd) h2 hw4
    obtain rfl : n = 1 := ha.length.symm
    obtain rfl : m = 1 := hb.length.symm
    obtain ⟨ad, v0, rfl, hd0, e0, c0⟩ := ha.at_ (k := 0) (by omega)
    obtain rfl := Option.some.inj e0
    obtain ⟨bd, v1, rfl, hd1, e1, c1⟩ := hb.at_ (k := 0) (by omega)
    obtain rfl := Option.some.inj e1
    exact pgE_1 wd x y ad bd c d w hx hy hwd hd0 hd1 c0 c1
  · obtain ⟨x, rfl, hx⟩ := fit1 (v := wd) h1 hw4
    obtain ⟨y, rfl, hy⟩ := fit1 (v := wd) h2 hw4
    obtain rfl : n = 1 := ha.length.symm
    obtain rfl : m = 1 := hb.length.symm
    obtain ⟨ad, v0, rfl, hd0, e0, c0⟩ := ha.at_ (k := 0) (by omega)
    obtain rfl := Option.some.inj e0
    obtain ⟨bd, v1, rfl, hd1, e1, c1⟩ := hb.at_ (k := 0) (by omega)
    obtain rfl := Option.some.inj e1
    exact pgE_2 wd x y ad bd c d w hx hy hwd hd0 hd1 c0 c1
  · obtain ⟨x, rfl, hx⟩ := fit1 (v := wd) h1 hw4
    obtain ⟨y, rfl, hy⟩ := fit1 (v := wd) h2 hw4
    obtain rfl : n = 1 := ha.length.symm
    obtain rfl : m = 1 := hb.length.symm
    obtain ⟨ad, v0, rfl, hd0, e0, c0⟩ := ha.at_ (k := 0) (by omega)
    obtain rfl := Option.some.inj e0
    obtain ⟨bd, v1, rfl, hd1, e1, c1⟩ := hb.at_ (k := 0) (by omega)
    obtain rfl := Option.some.inj e1
    exact pgE_3 wd x y ad bd c d w hx hy hwd hd0 hd1 c0 c1
  · obtain ⟨x, rfl, hx⟩ := fit1 (v := wd) h1 hw4
    obtain ⟨y, rfl, hy⟩ := fit1 (v := wd) h2 hw4
    obtain rfl : n = 1 := ha.length.symm
    obtain rfl : m = 1 := hb.length.symm
    obtain ⟨ad, v0, rfl, hd0, e0, c0⟩ := ha.at_ (k := 0) (by omega)
    obtain rfl := Option.some.inj e0
    obtain ⟨bd, v1, rfl, hd1, e1, c1⟩ := hb.at_ (k := 0) (by omega)
    obtain rfl := Option.some.inj e1
    exact pgE_4 wd x y ad bd c d w hx hy hwd hd0 hd1 c0 c1
  · obtain ⟨x, z, rfl, hx, hz⟩ := fit2 (u := wd) (v := wd) h1 hw4 hw4
    obtain ⟨y, rfl, hy⟩ := fit1 (v := wd) h2 hw4
    obtain rfl : n = 2 := ha.length.symm
    obtain rfl : m = 1 := hb.length.symm
    obtain ⟨ad, v0, rfl, hd0, e0, c0⟩ := ha.at_ (k := 0) (by omega)
    obtain rfl := Option.some.inj e0
    obtain ⟨ad2, v2, ea, _, e2, c2⟩ := ha.at_ (k := 1) (by omega)
    injection ea with ea; subst ea
    obtain rfl := Option.some.inj e2
    obtain ⟨bd, v1, rfl, hd1, e1, c1⟩ := hb.at_ (k := 0) (by omega)
    obtain rfl := Option.some.inj e1
    exact pgE_5 wd x y z ad bd c d w hx hy hz hwd hd0 hd1 c0 c1 ha.le.1 c2
  · obtain ⟨x, rfl, hx⟩ := fit1 (v := wd) h1 hw4
    obtain ⟨y, rfl, hy⟩ := fit1 (v := wd) h2 hw4
    obtain rfl : n = 1 := ha.length.symm
    obtain rfl : m = 1 := hb.length.symm
    obtain ⟨ad, v0, rfl, hd0, e0, c0⟩ := ha.at_ (k := 0) (by omega)
    obtain rfl := Option.some.inj e0
    obtain ⟨bd, v1, rfl, hd1, e1, c1⟩ := hb.at_ (k := 0) (by omega)
    obtain rfl := Option.some.inj e1
    exact pgE_6 wd x y ad bd c d w hx hy hwd hd0 hd1 c0 c1
  · obtain ⟨x, rfl, hx⟩ := fit1 (v := wd) h1 hw4
    obtain ⟨y, rfl, hy⟩ := fit1 (v := wd) h2 hw4
    obtain rfl : n = 1 := ha.length.symm
    obtain rfl : m = 1 := hb.length.symm
    obtain ⟨ad, v0, rfl, hd0, e0, c0⟩ := ha.at_ (k := 0) (by omega)
    obtain rfl := Option.some.inj e0
    obtain ⟨bd, v1, rfl, hd1, e1, c1⟩ := hb.at_ (k := 0) (by omega)
    obtain rfl := Option.some.inj e1
    exact pgE_7 wd x y ad bd c d w hx hy hwd hd0 hd1 c0 c1
  · obtain ⟨x, z, rfl, hx, hz⟩ := fit2 (u := 1) (v := 1) h1 (by omega) (by omega)
    obtain ⟨y, rfl, hy⟩ := fit1 (v := 1) h2 (by omega)
    obtain rfl : n = 2 := ha.length.symm
    obtain rfl : m = 1 := hb.length.symm
    obtain ⟨ad, v0, rfl, hd0, e0, c0⟩ := ha.at_ (k := 0) (by omega)
    obtain rfl := Option.some.inj e0
    obtain ⟨ad2, v2, ea, _, e2, c2⟩ := ha.at_ (k := 1) (by omega)
    injection ea with ea; subst ea
    obtain rfl := Option.some.inj e2
    obtain ⟨bd, v1, rfl, hd1, e1, c1⟩ := hb.at_ (k := 0) (by omega)
    obtain rfl := Option.some.inj e1
    exact pgE_8 wd x y z ad bd c d w hx hy hz hwd hd0 hd1 c0 c1 ha.le.1 c2
  · obtain ⟨x, rfl, hx⟩ := fit1 (v := wd) h1 hw4
    obtain ⟨y, rfl, hy⟩ := fit1 (v := wd) h2 hw4
    obtain rfl : n = 1 := ha.length.symm
    obtain rfl : m = 1 := hb.length.symm
    obtain ⟨ad, v0, rfl, hd0, e0, c0⟩ := ha.at_ (k := 0) (by omega)
    obtain rfl := Option.some.inj e0
    obtain ⟨bd, v1, rfl, hd1, e1, c1⟩ := hb.at_ (k := 0) (by omega)
    obtain rfl := Option.some.inj e1
    exact pgE_9 wd x y ad bd c d w hx hy hwd hd0 hd1 c0 c1
  · obtain ⟨x, z, rfl, hx, hz⟩ := fit2 (u := wd) (v := wd) h1 hw4 hw4
    obtain ⟨y, rfl, hy⟩ := fit1 (v := 1) h2 (by omega)
    obtain rfl : n = 2 := ha.length.symm
    obtain rfl : m = 1 := hb.length.symm
    obtain ⟨ad, v0, rfl, hd0, e0, c0⟩ := ha.at_ (k := 0) (by omega)
    obtain rfl := Option.some.inj e0
    obtain ⟨ad2, v2, ea, _, e2, c2⟩ := ha.at_ (k := 1) (by omega)
    injection ea with ea; subst ea
    obtain rfl := Option.some.inj e2
    obtain ⟨bd, v1, rfl, hd1, e1, c1⟩ := hb.at_ (k := 0) (by omega)
    obtain rfl := Option.some.inj e1
    exact pgE_10 wd x y z ad bd c d w hx hy hz hwd hd0 hd1 c0 c1 ha.le.1 c2
  · obtain ⟨x, rfl, hx⟩ := fit1 (v := wd) h1 hw4
    obtain ⟨y, rfl, hy⟩ := fit1 (v := 1) h2 (by omega)
    obtain rfl : n = 1 := ha.length.symm
    obtain rfl : m = 1 := hb.length.symm
    obtain ⟨ad, v0, rfl, hd0, e0, c0⟩ := ha.at_ (k := 0) (by omega)
    obtain rfl := Option.some.inj e0
    obtain ⟨bd, v1, rfl, hd1, e1, c1⟩ := hb.at_ (k := 0) (by omega)
    obtain rfl := Option.some.inj e1
    exact pgE_11 wd x y ad bd c d w hx hy hwd hd0 hd1 c0 c1
set_option maxHeartbeats 2000000 in
theorem impl_expected (k : Nat) (hk : k < 12) (wd : Int) (hwd : 1 ≤ wd ∧ wd ≤ 4) (A B : Option Addr) (n c m d : Nat) (a b : List Int) (w : World) (ha : RdI w A n c a) (hb : RdI w B m d b) (hq : askR (pgL k wd) a b = true) :
    Calls Tryz.prog 60 #[.int .i64 (k : Nat), .int .i64 wd, .slice A n c, .slice B m d] w fun e w' => ∃ A' n' c', e = .returned (.slice A' n' c') ∧ OwnI w.heap.size w' A' n' c' (exR k wd a b) ∧ Bl w w' := by
  have hw4 := hwd
  unfold askR at hq
  rw [(ins_eq k hk wd).1, (ins_eq k hk wd).2, Bool.and_eq_true] at hq
  obtain ⟨h1, h2⟩ := hq
  rcases (by omega : k = 0 ∨ k = 1 ∨ k = 2 ∨ k = 3 ∨ k = 4 ∨ k = 5 ∨ k = 6 ∨ k = 7 ∨ k = 8 ∨ k = 9 ∨ k = 10 ∨ k = 11) with rfl | rfl | rfl | rfl | rfl | rfl | rfl | rfl | rfl | rfl | rfl | rfl
  · obtain ⟨x, rfl, hx⟩ := fit1 (v := wd) h1 hw4
    obtain ⟨y, rfl, hy⟩ := fit1 (v := wd) h2 hw4
    obtain rfl : n = 1 := ha.length.symm
    obtain rfl : m = 1 := hb.length.symm
    obtain ⟨ad, v0, rfl, hd0, e0, c0⟩ := ha.at_ (k := 0) (by omega)
    obtain rfl := Option.some.inj e0
    obtain ⟨bd, v1, rfl, hd1, e1, c1⟩ := hb.at_ (k := 0) (by omega)
    obtain rfl := Option.some.inj e1
    exact imE_0 wd x y ad bd c d w hx hy hwd hd0 hd1 c0 c1
  · obtain ⟨x, rfl, hx⟩ := fit1 (v := wd) h1 hw4
    obtain ⟨y, rfl, hy⟩ := fit1 (v := wd) h2 hw4
    obtain rfl : n = 1 := ha.length.symm
    obtain rfl : m = 1 := hb.length.symm
    obtain ⟨ad, v0, rfl, hd0, e0, c0⟩ := ha.at_ (k := 0) (by omega)
    obtain rfl := Option.some.inj e0
    obtain ⟨bd, v1, rfl, hd1, e1, c1⟩ := hb.at_ (k := 0) (by omega)
    obtain rfl := Option.some.inj e1
    exact imE_1 wd x y ad bd c d w hx hy hwd hd0 hd1 c0 c1
  · obtain ⟨x, rfl, hx⟩ := fit1 (v := wd) h1 hw4
    obtain ⟨y, rfl, hy⟩ := fit1 (v := wd) h2 hw4
    obtain rfl : n = 1 := ha.length.symm
    obtain rfl : m = 1 := hb.length.symm
    obtain ⟨ad, v0, rfl, hd0, e0, c0⟩ := ha.at_ (k := 0) (by omega)
    obtain rfl := Option.some.inj e0
    obtain ⟨bd, v1, rfl, hd1, e1, c1⟩ := hb.at_ (k := 0) (by omega)
    obtain rfl := Option.some.inj e1
    exact imE_2 wd x y ad bd c d w hx hy hwd hd0 hd1 c0 c1
  · obtain ⟨x, rfl, hx⟩ := fit1 (v := wd) h1 hw4
    obtain ⟨y, rfl, hy⟩ := fit1 (v := wd) h2 hw4
    obtain rfl : n = 1 := ha.length.symm
    obtain rfl : m = 1 := hb.length.symm
    obtain ⟨ad, v0, rfl, hd0, e0, c0⟩ := ha.at_ (k := 0) (by omega)
    obtain rfl := Option.some.inj e0
    obtain ⟨bd, v1, rfl, hd1, e1, c1⟩ := hb.at_ (k := 0) (by omega)
    obtain rfl := Option.some.inj e1
    exact imE_3 wd x y ad bd c d w hx hy hwd hd0 hd1 c0 c1
  · obtain ⟨x, rfl, hx⟩ := fit1 (v := wd) h1 hw4
    obtain ⟨y, rfl, hy⟩ := fit1 (v := wd) h2 hw4
    obtain rfl : n = 1 := ha.length.symm
    obtain rfl : m = 1 := hb.length.symm
    obtain ⟨ad, v0, rfl, hd0, e0, c0⟩ := ha.at_ (k := 0) (by omega)
    obtain rfl := Option.some.inj e0
    obtain ⟨bd, v1, rfl, hd1, e1, c1⟩ := hb.at_ (k := 0) (by omega)
    obtain rfl := Option.some.inj e1
    exact imE_4 wd x y ad bd c d w hx hy hwd hd0 hd1 c0 c1
  · obtain ⟨x, z, rfl, hx, hz⟩ := fit2 (u := wd) (v := wd) h1 hw4 hw4
    obtain ⟨y, rfl, hy⟩ := fit1 (v := wd) h2 hw4
    obtain rfl : n = 2 := ha.length.symm
    obtain rfl : m = 1 := hb.length.symm
    obtain ⟨ad, v0, rfl, hd0, e0, c0⟩ := ha.at_ (k := 0) (by omega)
    obtain rfl := Option.some.inj e0
    obtain ⟨ad2, v2, ea, _, e2, c2⟩ := ha.at_ (k := 1) (by omega)
    injection ea with ea; subst ea
    obtain rfl := Option.some.inj e2
    obtain ⟨bd, v1, rfl, hd1, e1, c1⟩ := hb.at_ (k := 0) (by omega)
    obtain rfl := Option.some.inj e1
    exact imE_5 wd x y z ad bd c d w hx hy hz hwd hd0 hd1 c0 c1 ha.le.1 c2
  · obtain ⟨x, rfl, hx⟩ := fit1 (v := wd) h1 hw4
    obtain ⟨y, rfl, hy⟩ := fit1 (v := wd) h2 hw4
    obtain rfl : n = 1 := ha.length.symm
    obtain rfl : m = 1 := hb.length.symm
    obtain ⟨ad, v0, rfl, hd0, e0, c0⟩ := ha.at_ (k := 0) (by omega)
    obtain rfl := Option.some.inj e0
    obtain ⟨bd, v1, rfl, hd1, e1, c1⟩ := hb.at_ (k := 0) (by omega)
    obtain rfl := Option.some.inj e1
    exact imE_6 wd x y ad bd c d w hx hy hwd hd0 hd1 c0 c1
  · obtain ⟨x, rfl, hx⟩ := fit1 (v := wd) h1 hw4
    obtain ⟨y, rfl, hy⟩ := fit1 (v := wd) h2 hw4
    obtain rfl : n = 1 := ha.length.symm
    obtain rfl : m = 1 := hb.length.symm
    obtain ⟨ad, v0, rfl, hd0, e0, c0⟩ := ha.at_ (k := 0) (by omega)
    obtain rfl := Option.some.inj e0
    obtain ⟨bd, v1, rfl, hd1, e1, c1⟩ := hb.at_ (k := 0) (by omega)
    obtain rfl := Option.some.inj e1
    exact imE_7 wd x y ad bd c d w hx hy hwd hd0 hd1 c0 c1
  · obtain ⟨x, z, rfl, hx, hz⟩ := fit2 (u := 1) (v := 1) h1 (by omega) (by omega)
    obtain ⟨y, rfl, hy⟩ := fit1 (v := 1) h2 (by omega)
    obtain rfl : n = 2 := ha.length.symm
    obtain rfl : m = 1 := hb.length.symm
    obtain ⟨ad, v0, rfl, hd0, e0, c0⟩ := ha.at_ (k := 0) (by omega)
    obtain rfl := Option.some.inj e0
    obtain ⟨ad2, v2, ea, _, e2, c2⟩ := ha.at_ (k := 1) (by omega)
    injection ea with ea; subst ea
    obtain rfl := Option.some.inj e2
    obtain ⟨bd, v1, rfl, hd1, e1, c1⟩ := hb.at_ (k := 0) (by omega)
    obtain rfl := Option.some.inj e1
    exact imE_8 wd x y z ad bd c d w hx hy hz hwd hd0 hd1 c0 c1 ha.le.1 c2
  · obtain ⟨x, rfl, hx⟩ := fit1 (v := wd) h1 hw4
    obtain ⟨y, rfl, hy⟩ := fit1 (v := wd) h2 hw4
    obtain rfl : n = 1 := ha.length.symm
    obtain rfl : m = 1 := hb.length.symm
    obtain ⟨ad, v0, rfl, hd0, e0, c0⟩ := ha.at_ (k := 0) (by omega)
    obtain rfl := Option.some.inj e0
    obtain ⟨bd, v1, rfl, hd1, e1, c1⟩ := hb.at_ (k := 0) (by omega)
    obtain rfl := Option.some.inj e1
    exact imE_9 wd x y ad bd c d w hx hy hwd hd0 hd1 c0 c1
  · obtain ⟨x, z, rfl, hx, hz⟩ := fit2 (u := wd) (v := wd) h1 hw4 hw4
    obtain ⟨y, rfl, hy⟩ := fit1 (v := 1) h2 (by omega)
    obtain rfl : n = 2 := ha.length.symm
    obtain rfl : m = 1 := hb.length.symm
    obtain ⟨ad, v0, rfl, hd0, e0, c0⟩ := ha.at_ (k := 0) (by omega)
    obtain rfl := Option.some.inj e0
    obtain ⟨ad2, v2, ea, _, e2, c2⟩ := ha.at_ (k := 1) (by omega)
    injection ea with ea; subst ea
    obtain rfl := Option.some.inj e2
    obtain ⟨bd, v1, rfl, hd1, e1, c1⟩ := hb.at_ (k := 0) (by omega)
    obtain rfl := Option.some.inj e1
    exact imE_10 wd x y z ad bd c d w hx hy hz hwd hd0 hd1 c0 c1 ha.le.1 c2
  · obtain ⟨x, rfl, hx⟩ := fit1 (v := wd) h1 hw4
    obtain ⟨y, rfl, hy⟩ := fit1 (v := 1) h2 (by omega)
    obtain rfl : n = 1 := ha.length.symm
    obtain rfl : m = 1 := hb.length.symm
    obtain ⟨ad, v0, rfl, hd0, e0, c0⟩ := ha.at_ (k := 0) (by omega)
    obtain rfl := Option.some.inj e0
    obtain ⟨bd, v1, rfl, hd1, e1, c1⟩ := hb.at_ (k := 0) (by omega)
    obtain rfl := Option.some.inj e1
    exact imE_11 wd x y ad bd c d w hx hy hwd hd0 hd1 c0 c1
/-- There is such a program, and these are its inputs. -/
def exB (a b : Int) (x y : List Int) : Bool := pgB a b && askR (pgR a b) x y
def exF (a b : Int) (x y : List Int) : List Int := if exB a b x y then exR a.toNat b x y else []
theorem exF_len (a b : Int) (x y : List Int) : (exF a b x y).length ≤ 1000 := by
  unfold exF
  split
  · exact exL_len _ _ _ _ _
  · simp
set_option maxHeartbeats 1000000 in
theorem spec_pgAsked (a b : Int) (A B : Option Addr) (n c m d : Nat) (x y : List Int) (w : World) (hx : RdI w A n c x) (hy : RdI w B m d y) :
    Calls Tryz.prog 65 #[.int .i64 a, .int .i64 b, .slice A n c, .slice B m d] w fun e w' => e = .returned (.bool (exB a b x y)) ∧ Bl w w' := by
  rcases hB : pgB a b
  · have HE := Lib.hid (show exB a b x y = false by unfold exB; rw [hB]; rfl)
    go_enter Tryz.func65, Tryz.ntmps65
    go_wp2_with fail
    refine (spec_pgGood a b _).mono ?_
    rintro e w1 ⟨rfl, rfl⟩
    rw [hB]
    go_wp2_with fail
    go_ret
    exact ⟨by rw [HE.out]; rfl, Bl.refl _⟩
  · obtain ⟨k, rfl, hk, hb4, hR⟩ := pgB_at hB
    have HE := Lib.hid (show exB k b x y = askR (pgL k b) x y by unfold exB; rw [hB, hR]; rfl)
    have HG := Lib.hid (pg_oks hk hb4).1
    go_enter Tryz.func65, Tryz.ntmps65
    go_wp2_with fail
    refine (spec_pgGood k b _).mono ?_
    rintro e w1 ⟨rfl, rfl⟩
    rw [hB]
    go_wp2_with fail
    refine (spec_pgFor k hk b hb4 _).mono ?_
    rintro e w2 ⟨A2, n2, c2, l, rfl, hl, hm, hb2⟩
    have HM := Lib.hid hm
    clear hm
    go_wp2_with fail
    refine (spec_laAsked A2 n2 c2 l A B n c m d x y _ hl (by rw [HM.out]; exact HG.out) (hx.keep hb2) (hy.keep hb2)).mono ?_
    rintro e w3 ⟨rfl, hb3⟩
    rw [HM.out]
    generalize askR (pgL k b) x y = Q at HE ⊢
    go_wp2_with fail
    go_ret
    exact ⟨by rw [HE.out]; rfl, hb2.call hb3⟩
set_option maxHeartbeats 1000000 in
theorem spec_ExpectedFor (a b : Int) (A B : Option Addr) (n c m d : Nat) (x y : List Int) (w : World) (hx : RdI w A n c x) (hy : RdI w B m d y) :
    Calls Tryz.prog 23 #[.int .i64 a, .int .i64 b, .slice A n c, .slice B m d] w fun e w' => ∃ A' n' c', e = .returned (.tuple #[.slice A' n' c', .bool (exB a b x y)]) ∧ OwnI w.heap.size w' A' n' c' (exF a b x y) ∧ Bl w w' := by
  rcases hE : exB a b x y
  · have HF := Lib.hid (show exF a b x y = [] by unfold exF; rw [hE]; rfl)
    go_enter Tryz.func23, Tryz.ntmps23
    go_wp2_with fail
    refine (spec_pgAsked a b A B n c m d x y _ hx hy).mono ?_
    rintro e w1 ⟨rfl, hb1⟩
    rw [hE]
    go_wp2_with fail
    go_ret2
    exact ⟨none, 0, 0, rfl, by rw [HF.out]; exact OwnI.nil _ _, hb1⟩
  · have hE' := hE
    unfold exB at hE'
    rw [Bool.and_eq_true] at hE'
    obtain ⟨k, rfl, hk, hb4, hR⟩ := pgB_at hE'.1
    have hq := hE'.2
    rw [hR] at hq
    have HF := Lib.hid (show exF k b x y = exR k b x y by unfold exF; rw [hE, Int.toNat_natCast]; rfl)
    go_enter Tryz.func23, Tryz.ntmps23
    go_wp2_with fail
    refine (spec_pgAsked k b A B n c m d x y _ hx hy).mono ?_
    rintro e w1 ⟨rfl, hb1⟩
    rw [hE]
    go_wp2_with fail
    refine (spec_pgExpected k hk b (inR_iff.1 hb4) A B n c m d x y _ (hx.keep hb1) (hy.keep hb1) hq).mono ?_
    rintro e w2 ⟨A2, n2, c2, rfl, ho, hb2⟩
    go_wp2_with fail
    go_ret2
    exact ⟨A2, n2, c2, rfl, by rw [HF.out]; exact OwnI.mono ho hb1.sz, hb1.call hb2⟩
set_option maxHeartbeats 1000000 in
theorem impl_ExpectedFor (a b : Int) (A B : Option Addr) (n c m d : Nat) (x y : List Int) (w : World) (hx : RdI w A n c x) (hy : RdI w B m d y) (ht : Tb w) :
    Calls Tryz.prog 22 #[.int .i64 a, .int .i64 b, .slice A n c, .slice B m d] w fun e w' => ∃ A' n' c', e = .returned (.tuple #[.slice A' n' c', .bool (exB a b x y)]) ∧ OwnI w.heap.size w' A' n' c' (exF a b x y) ∧ Bl w w' := by
  rcases hE : exB a b x y
  · have HF := Lib.hid (show exF a b x y = [] by unfold exF; rw [hE]; rfl)
    rcases hB : pgB a b
    · go_enter Tryz.func22, Tryz.ntmps22
      go_wp2_with fail
      refine (impl_ProgramFor a b _ ht).mono ?_
      rintro e w1 ⟨A1, n1, c1, l1, rfl, ho1, hm1, hb1⟩
      rw [hB]
      clear hm1
      go_wp2_with fail
      go_ret2
      exact ⟨none, 0, 0, rfl, by rw [HF.out]; exact OwnI.nil _ _, hb1⟩
    · obtain ⟨k, rfl, hk, hb4, hR⟩ := pgB_at hB
      have hq : askR (pgL k b) x y = false := by unfold exB at hE; rw [hB, hR] at hE; simpa using hE
      obtain ⟨hg, hok⟩ := pg_oks hk hb4
      obtain ⟨ws, hws, _⟩ := goodB_at hg
      have HV := Lib.hid (fun A1 n1 c1 l1 w (h : RdL w A1 n1 c1 l1) (e : l1.map (·.2) = pgL k b) => impl_areValues A1 n1 c1 l1 ws A B n c m d x y w h (by rw [e]; exact hg) (by rw [e]; exact hws) (by rw [e]; exact hok))
      go_enter Tryz.func22, Tryz.ntmps22
      go_wp2_with fail
      refine (impl_ProgramFor k b _ ht).mono ?_
      rintro e w1 ⟨A1, n1, c1, l1, rfl, ho1, hm1, hb1⟩
      rw [hB]
      rw [hR] at hm1
      have HM := Lib.hid hm1
      clear hm1
      go_wp2_with fail
      refine (HV.out A1 n1 c1 l1 _ ho1.rd HM.out (ht.keep hb1).m (hx.keep hb1) (hy.keep hb1)).mono ?_
      rintro e w2 ⟨rfl, hb2⟩
      rw [HM.out, hq]
      go_wp2_with fail
      go_ret2
      exact ⟨none, 0, 0, rfl, by rw [HF.out]; exact OwnI.nil _ _, hb1.call hb2⟩
  · have hE' := hE
    unfold exB at hE'
    rw [Bool.and_eq_true] at hE'
    have hB := hE'.1
    obtain ⟨k, rfl, hk, hb4, hR⟩ := pgB_at hB
    have hq := hE'.2
    rw [hR] at hq
    have HF := Lib.hid (show exF k b x y = exR k b x y by unfold exF; rw [hE, Int.toNat_natCast]; rfl)
    obtain ⟨hg, hok⟩ := pg_oks hk hb4
    obtain ⟨ws, hws, _⟩ := goodB_at hg
    have HV := Lib.hid (fun A1 n1 c1 l1 w (h : RdL w A1 n1 c1 l1) (e : l1.map (·.2) = pgL k b) => impl_areValues A1 n1 c1 l1 ws A B n c m d x y w h (by rw [e]; exact hg) (by rw [e]; exact hws) (by rw [e]; exact hok))
    go_enter Tryz.func22, Tryz.ntmps22
    go_wp2_with fail
    refine (impl_ProgramFor k b _ ht).mono ?_
    rintro e w1 ⟨A1, n1, c1, l1, rfl, ho1, hm1, hb1⟩
    rw [hB]
    rw [hR] at hm1
    have HM := Lib.hid hm1
    clear hm1
    go_wp2_with fail
    refine (HV.out A1 n1 c1 l1 _ ho1.rd HM.out (ht.keep hb1).m (hx.keep hb1) (hy.keep hb1)).mono ?_
    rintro e w2 ⟨rfl, hb2⟩
    rw [HM.out, hq]
    go_wp2_with fail
    refine (impl_expected k hk b (inR_iff.1 hb4) A B n c m d x y _ (hx.keep (hb1.call hb2)) (hy.keep (hb1.call hb2)) hq).mono ?_
    rintro e w3 ⟨A3, n3, c3, rfl, ho, hb3⟩
    go_wp2_with fail
    go_ret2
    exact ⟨A3, n3, c3, rfl, by rw [HF.out]; exact OwnI.mono ho (hb1.call hb2).sz, (hb1.call hb2).call hb3⟩
end Go.Proofs.YtjggecbaladiiaaGreatDoor
