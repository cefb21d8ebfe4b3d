/- Contracts of RealView and SimView.
   Conditions: none beyond the calls' own tests. -/
import Derived.Test.YtglgaicbcackbaaRvl
import Derived.Test.YtglgaicbcackbaaRsd
namespace Go.Proofs.Ytglgaicbcackbaa
open Go.RowKit
set_option linter.unusedVariables false
/-- Nine elements of a field. -/
def arcB (p : Int) (l : List Int) : Bool := elemsB p l && decide (l.length = 9)
def rvB (p x y q : Int) (l : List Int) : Bool := arcB p l && elemB p x && elemB p y && inR q 0 1
theorem elems2 (p x y : Int) : elemsB p [x, y] = (elemB p x && elemB p y) := by
  unfold elemsB elemB allR
  cases primeB p <;> simp
theorem nine {l : List Int} (h : l.length = 9) : ∃ r0 r1 r2 r3 r4 r5 r6 r7 r8, l = [r0, r1, r2, r3, r4, r5, r6, r7, r8] := by
  match l, h with
  | [r0, r1, r2, r3, r4, r5, r6, r7, r8], _ => exact ⟨r0, r1, r2, r3, r4, r5, r6, r7, r8, rfl⟩
def rvL (p x y q : Int) : List Int → List Int
  | [r0, r1, r2, r3, r4, r5, r6, r7, r8] => if q = 0 then vw0 p x y r0 r1 r4 r5 r6 r7 r8 ((r0 - r4) % p) ((r1 - r5) % p) ((r2 - r6) % p) ((r3 - r7) % p) ((r2 * r3 - r8) % p)
    else vw1 p x y r0 r1 r4 r5 r6 r7 r8 ((r0 - r4) % p) ((r1 - r5) % p) ((r2 - r6) % p) ((r3 - r7) % p) ((r2 * r3 - r8) % p)
  | _ => []
def rvR (p x y q : Int) (l : List Int) : List Int := if rvB p x y q l then rvL p x y q l else []
def svL (p q i o : Int) : List Int → List Int
  | [r0, r1, r2, r3, r4, r5, r6, r7, r8] => smR p q i o r0 r1 r2 r3 r4 r5 r6 r7 r8
  | _ => []
def svR (p q i o : Int) (l : List Int) : List Int := if rvB p i o q l then svL p q i o l else []
theorem rvB_facts {p x y q : Int} {l : List Int} (h : rvB p x y q l = true) : 2 ≤ p ∧ p ≤ 251 ∧ 0 ≤ x ∧ x < p ∧ 0 ≤ y ∧ y < p ∧ (q = 0 ∨ q = 1) ∧ l.length = 9 ∧ (∀ z ∈ l, 0 ≤ z ∧ z < p) ∧
    arcB p l = true ∧ elemB p x = true ∧ elemB p y = true ∧ inR q 0 1 = true := by
  simp only [rvB, Bool.and_eq_true] at h
  obtain ⟨⟨⟨h1, h2⟩, h3⟩, h4⟩ := h
  have h1' := h1
  have h2' := h2
  have h3' := h3
  simp only [arcB, Bool.and_eq_true, decide_eq_true_eq] at h1'
  simp only [elemB, Bool.and_eq_true] at h2' h3'
  have a := primeB_bd h2'.1
  have b := inR_iff.1 h2'.2
  have c := inR_iff.1 h3'.2
  have d := inR_iff.1 h4
  exact ⟨a.1, a.2, b.1, by omega, c.1, by omega, by omega, h1'.2, elemsB_mem h1'.1, h1, h2, h3, h4⟩
theorem areChosen (A : Option Addr) (n c : Nat) (l : List Int) (p : Int) (w : World) (hl : RdI w A n c l) :
    Calls Try.prog 130 #[.int .i64 p, .slice A n c] w fun e w' => e = .returned (.bool (arcB p l)) ∧ Bl w w' := by
  obtain ⟨hle1, hle2⟩ := hl.le
  have hlen := Lib.hid hl.length
  rcases hE : elemsB p l
  · have hR := Lib.hid (show arcB p l = false by simp [arcB, hE])
    go_enter Try.func130, Try.ntmps130
    go_wp2_with (go_at_call 117; refine (impl_areElements A _ c l p _ hl).mono ?_; rintro e w1 ⟨rfl, hb1⟩; rw [hE])
    go_ret
    exact ⟨by rw [hR.out]; rfl, hb1⟩
  · have hR := Lib.hid (show arcB p l = decide (n = 9) by simp [arcB, hE, hlen.out])
    by_cases hn : n = 9
    · subst hn
      go_enter Try.func130, Try.ntmps130
      go_wp2_with (go_at_call 117; refine (impl_areElements A _ c l p _ hl).mono ?_; rintro e w1 ⟨rfl, hb1⟩; rw [hE])
      go_ret
      exact ⟨by rw [hR.out]; rfl, hb1⟩
    · have hd : ((n : Int) == 9) = false := by simp; omega
      go_enter Try.func130, Try.ntmps130
      go_wp2_with (go_at_call 117; refine (impl_areElements A _ c l p _ hl).mono ?_; rintro e w1 ⟨rfl, hb1⟩; rw [hE])
      go_ret
      exact ⟨by rw [hR.out]; simp [hn], hb1⟩
theorem vwAll9 (A : Option Addr) (n c : Nat) (l : List Int) (p : Int) (w : World) (hl : RdI w A n c l) :
    Calls Try.prog 118 #[.int .i64 p, .slice A n c, .int .i64 9] w fun e w' => e = .returned (.bool (arcB p l)) ∧ w = w' :=
  (spec_vwAll A n c l p 9 w hl (by omega)).mono fun e w' h => ⟨by rw [h.1]; unfold arcB; rw [hl.length], h.2⟩
theorem fpIn2 (p a b : Int) (A : Option Addr) (w : World) (hl : RdI w A 2 2 [a, b]) :
    Calls Try.prog 122 #[.int .i64 p, .slice A 2 2] w fun e w' => e = .returned (.bool (elemsB p [a, b])) ∧ w = w' := spec_fpIn A 2 2 [a, b] p w hl
set_option maxHeartbeats 4000000 in
theorem spec_RealView_f (p x y q : Int) (A : Option Addr) (n c : Nat) (l : List Int) (w : World) (hl : RdI w A n c l) (hB : rvB p x y q l = false) :
    Calls Try.prog 57 #[.int .i64 p, .int .i64 x, .int .i64 y, .int .i64 q, .slice A n c] w fun e w' => ∃ A' n' c', e = .returned (.tuple #[.slice A' n' c', .bool (rvB p x y q l)]) ∧ OwnI w.heap.size w' A' n' c' (rvR p x y q l) ∧ Bl w w' := by
  have hBf := Lib.hid hB
  have hRf := Lib.hid (show rvR p x y q l = [] by simp [rvR, hB])
  rcases h0 : elemsB p [x, y]
  · go_enter Try.func57, Try.ntmps57
    go_wp2_with (first | (go_at_call 122; refine (fpIn2 _ _ _ _ _ (rd_new2 _ 3 _ _)).mono ?_; rintro e w' ⟨rfl, rfl⟩) | (go_at_call 80; refine (spec_l1In _ _ _ _).mono ?_; rintro e w' ⟨rfl, rfl⟩) | (go_at_call 118; refine (vwAll9 A n c l p _ (hl.keep (by (repeat (first | assumption | with_reducible exact Bl.refl _ | with_reducible refine Bl.drewN ?_ _ | with_reducible refine Bl.drew ?_ | with_reducible refine Bl.alloc ?_ _ | (with_reducible refine Bl.call ?_ (by assumption))))))).mono ?_; rintro e w' ⟨rfl, rfl⟩))
    go_ret2
    exact ⟨none, 0, 0, by rw [hBf.out]; rfl, by rw [hRf.out]; exact OwnI.nil _ _, (by (repeat (first | assumption | with_reducible exact Bl.refl _ | with_reducible refine Bl.drewN ?_ _ | with_reducible refine Bl.drew ?_ | with_reducible refine Bl.alloc ?_ _ | (with_reducible refine Bl.call ?_ (by assumption)))))⟩
  · rcases h1 : inR q 0 1
    · go_enter Try.func57, Try.ntmps57
      go_wp2_with (first | (go_at_call 122; refine (fpIn2 _ _ _ _ _ (rd_new2 _ 3 _ _)).mono ?_; rintro e w' ⟨rfl, rfl⟩) | (go_at_call 80; refine (spec_l1In _ _ _ _).mono ?_; rintro e w' ⟨rfl, rfl⟩) | (go_at_call 118; refine (vwAll9 A n c l p _ (hl.keep (by (repeat (first | assumption | with_reducible exact Bl.refl _ | with_reducible refine Bl.drewN ?_ _ | with_reducible refine Bl.drew ?_ | with_reducible refine Bl.alloc ?_ _ | (with_reducible refine Bl.call ?_ (by assumption))))))).mono ?_; rintro e w' ⟨rfl, rfl⟩))
      go_ret2
      exact ⟨none, 0, 0, by rw [hBf.out]; rfl, by rw [hRf.out]; exact OwnI.nil _ _, (by (repeat (first | assumption | with_reducible exact Bl.refl _ | with_reducible refine Bl.drewN ?_ _ | with_reducible refine Bl.drew ?_ | with_reducible refine Bl.alloc ?_ _ | (with_reducible refine Bl.call ?_ (by assumption)))))⟩
    · rcases h2 : arcB p l
      · go_enter Try.func57, Try.ntmps57
        go_wp2_with (first | (go_at_call 122; refine (fpIn2 _ _ _ _ _ (rd_new2 _ 3 _ _)).mono ?_; rintro e w' ⟨rfl, rfl⟩) | (go_at_call 80; refine (spec_l1In _ _ _ _).mono ?_; rintro e w' ⟨rfl, rfl⟩) | (go_at_call 118; refine (vwAll9 A n c l p _ (hl.keep (by (repeat (first | assumption | with_reducible exact Bl.refl _ | with_reducible refine Bl.drewN ?_ _ | with_reducible refine Bl.drew ?_ | with_reducible refine Bl.alloc ?_ _ | (with_reducible refine Bl.call ?_ (by assumption))))))).mono ?_; rintro e w' ⟨rfl, rfl⟩))
        go_ret2
        exact ⟨none, 0, 0, by rw [hBf.out]; rfl, by rw [hRf.out]; exact OwnI.nil _ _, (by (repeat (first | assumption | with_reducible exact Bl.refl _ | with_reducible refine Bl.drewN ?_ _ | with_reducible refine Bl.drew ?_ | with_reducible refine Bl.alloc ?_ _ | (with_reducible refine Bl.call ?_ (by assumption)))))⟩
      · exfalso
        simp_all [rvB, elems2]
set_option maxHeartbeats 4000000 in
theorem spec_RealView (p x y q : Int) (A : Option Addr) (n c : Nat) (l : List Int) (w : World) (hl : RdI w A n c l) :
    Calls Try.prog 57 #[.int .i64 p, .int .i64 x, .int .i64 y, .int .i64 q, .slice A n c] w fun e w' => ∃ A' n' c', e = .returned (.tuple #[.slice A' n' c', .bool (rvB p x y q l)]) ∧ OwnI w.heap.size w' A' n' c' (rvR p x y q l) ∧ Bl w w' := by
  rcases hB : rvB p x y q l
  · have := spec_RealView_f p x y q A n c l w hl hB
    rwa [hB] at this
  · obtain ⟨hp1, hp2, hx0, hx1, hy0, hy1, hq, hlen, hall0, h0, h1, h2, h3⟩ := rvB_facts hB
    obtain rfl : n = 9 := by rw [← hl.length]; exact hlen
    obtain ⟨r0, r1, r2, r3, r4, r5, r6, r7, r8, rfl⟩ := nine hlen
    have hR := Lib.hid (show rvR p x y q [r0, r1, r2, r3, r4, r5, r6, r7, r8] = rvL p x y q [r0, r1, r2, r3, r4, r5, r6, r7, r8] by unfold rvR; rw [hB]; rfl)
    have hall := Lib.hid hall0
    have e12 : elemsB p [x, y] = true := by rw [elems2, h1, h2]; rfl
    clear hall0 hlen hB
    rcases hq with rfl | rfl
    · go_enter Try.func57, Try.ntmps57
      go_wp2_with (first | (go_at_call 122; refine (fpIn2 _ _ _ _ _ (rd_new2 _ 3 _ _)).mono ?_; rintro e w' ⟨rfl, rfl⟩) | (go_at_call 80; refine (spec_l1In _ _ _ _).mono ?_; rintro e w' ⟨rfl, rfl⟩) | (go_at_call 118; refine (vwAll9 A 9 c [r0, r1, r2, r3, r4, r5, r6, r7, r8] p _ (hl.keep (by (repeat (first | assumption | with_reducible exact Bl.refl _ | with_reducible refine Bl.drewN ?_ _ | with_reducible refine Bl.drew ?_ | with_reducible refine Bl.alloc ?_ _ | (with_reducible refine Bl.call ?_ (by assumption))))))).mono ?_; rintro e w' ⟨rfl, rfl⟩) | (go_at_call 106; refine (vwReal0 p x y r0 r1 r2 r3 r4 r5 r6 r7 r8 ((r0 - r4) % p) ((r1 - r5) % p) ((r2 - r6) % p) ((r3 - r7) % p) ((r2 * r3 - r8) % p) ((x - r0) % p) ((y - r1) % p) A c _ (hl.keep (by (repeat (first | assumption | with_reducible exact Bl.refl _ | with_reducible refine Bl.drewN ?_ _ | with_reducible refine Bl.drew ?_ | with_reducible refine Bl.alloc ?_ _ | (with_reducible refine Bl.call ?_ (by assumption)))))) ⟨hp1, hp2⟩ (Lib.hid rfl) (Lib.hid rfl) (Lib.hid rfl) ⟨hx0, hx1⟩ ⟨hy0, hy1⟩ hall.out).mono ?_; rintro e w8 ⟨A8, c8, rfl, ho8, hb8⟩))
      go_ret2
      exact ⟨A8, 11, c8, rfl, by rw [hR.out]; simp only [rvL, if_pos, vw0]; simp only [shrZ_mod, Int.add_comm (prtD p 0 _ _ _) (prtD p 1 _ _ _)]; exact OwnI.mono ho8 (Bl.sz (by (repeat (first | assumption | with_reducible exact Bl.refl _ | with_reducible refine Bl.drewN ?_ _ | with_reducible refine Bl.drew ?_ | with_reducible refine Bl.alloc ?_ _ | (with_reducible refine Bl.call ?_ (by assumption)))))), (by (repeat (first | assumption | with_reducible exact Bl.refl _ | with_reducible refine Bl.drewN ?_ _ | with_reducible refine Bl.drew ?_ | with_reducible refine Bl.alloc ?_ _ | (with_reducible refine Bl.call ?_ (by assumption)))))⟩
    · go_enter Try.func57, Try.ntmps57
      go_wp2_with (first | (go_at_call 122; refine (fpIn2 _ _ _ _ _ (rd_new2 _ 3 _ _)).mono ?_; rintro e w' ⟨rfl, rfl⟩) | (go_at_call 80; refine (spec_l1In _ _ _ _).mono ?_; rintro e w' ⟨rfl, rfl⟩) | (go_at_call 118; refine (vwAll9 A 9 c [r0, r1, r2, r3, r4, r5, r6, r7, r8] p _ (hl.keep (by (repeat (first | assumption | with_reducible exact Bl.refl _ | with_reducible refine Bl.drewN ?_ _ | with_reducible refine Bl.drew ?_ | with_reducible refine Bl.alloc ?_ _ | (with_reducible refine Bl.call ?_ (by assumption))))))).mono ?_; rintro e w' ⟨rfl, rfl⟩) | (go_at_call 106; refine (vwReal1 p x y r0 r1 r2 r3 r4 r5 r6 r7 r8 ((r0 - r4) % p) ((r1 - r5) % p) ((r2 - r6) % p) ((r3 - r7) % p) ((r2 * r3 - r8) % p) ((x - r0) % p) ((y - r1) % p) A c _ (hl.keep (by (repeat (first | assumption | with_reducible exact Bl.refl _ | with_reducible refine Bl.drewN ?_ _ | with_reducible refine Bl.drew ?_ | with_reducible refine Bl.alloc ?_ _ | (with_reducible refine Bl.call ?_ (by assumption)))))) ⟨hp1, hp2⟩ (Lib.hid rfl) (Lib.hid rfl) (Lib.hid rfl) ⟨hx0, hx1⟩ ⟨hy0, hy1⟩ hall.out).mono ?_; rintro e w8 ⟨A8, c8, rfl, ho8, hb8⟩))
      go_ret2
      exact ⟨A8, 11, c8, rfl, by rw [hR.out]; simp only [rvL, Int.one_ne_zero, vw1, if_false]; simp only [shrZ_mod]; exact OwnI.mono ho8 (Bl.sz (by (repeat (first | assumption | with_reducible exact Bl.refl _ | with_reducible refine Bl.drewN ?_ _ | with_reducible refine Bl.drew ?_ | with_reducible refine Bl.alloc ?_ _ | (with_reducible refine Bl.call ?_ (by assumption)))))), (by (repeat (first | assumption | with_reducible exact Bl.refl _ | with_reducible refine Bl.drewN ?_ _ | with_reducible refine Bl.drew ?_ | with_reducible refine Bl.alloc ?_ _ | (with_reducible refine Bl.call ?_ (by assumption)))))⟩
set_option maxHeartbeats 4000000 in
theorem impl_RealView_f (p x y q : Int) (A : Option Addr) (n c : Nat) (l : List Int) (w : World) (hl : RdI w A n c l) (hB : rvB p x y q l = false) :
    Calls Try.prog 56 #[.int .i64 p, .int .i64 x, .int .i64 y, .int .i64 q, .slice A n c] w fun e w' => ∃ A' n' c', e = .returned (.tuple #[.slice A' n' c', .bool (rvB p x y q l)]) ∧ OwnI w.heap.size w' A' n' c' (rvR p x y q l) ∧ Bl w w' := by
  have hBf := Lib.hid hB
  have hRf := Lib.hid (show rvR p x y q l = [] by simp [rvR, hB])
  rcases h0 : arcB p l
  · go_enter Try.func56, Try.ntmps56
    go_wp2_with (first | (go_at_call 130; refine (areChosen A n c l p _ hl).mono ?_; rintro e w1 ⟨rfl, hb1⟩) | (go_at_call 121; refine (impl_isElement _ _ _).mono ?_; rintro e w' ⟨rfl, rfl⟩) | (go_at_call 72; refine (impl_isBit _ _).mono ?_; rintro e w' ⟨rfl, rfl⟩))
    go_ret2
    exact ⟨none, 0, 0, by rw [hBf.out]; rfl, by rw [hRf.out]; exact OwnI.nil _ _, (by (repeat (first | assumption | with_reducible exact Bl.refl _ | with_reducible refine Bl.drewN ?_ _ | with_reducible refine Bl.drew ?_ | with_reducible refine Bl.alloc ?_ _ | (with_reducible refine Bl.call ?_ (by assumption)))))⟩
  · rcases h1 : elemB p x
    · go_enter Try.func56, Try.ntmps56
      go_wp2_with (first | (go_at_call 130; refine (areChosen A n c l p _ hl).mono ?_; rintro e w1 ⟨rfl, hb1⟩) | (go_at_call 121; refine (impl_isElement _ _ _).mono ?_; rintro e w' ⟨rfl, rfl⟩) | (go_at_call 72; refine (impl_isBit _ _).mono ?_; rintro e w' ⟨rfl, rfl⟩))
      go_ret2
      exact ⟨none, 0, 0, by rw [hBf.out]; rfl, by rw [hRf.out]; exact OwnI.nil _ _, (by (repeat (first | assumption | with_reducible exact Bl.refl _ | with_reducible refine Bl.drewN ?_ _ | with_reducible refine Bl.drew ?_ | with_reducible refine Bl.alloc ?_ _ | (with_reducible refine Bl.call ?_ (by assumption)))))⟩
    · rcases h2 : elemB p y
      · go_enter Try.func56, Try.ntmps56
        go_wp2_with (first | (go_at_call 130; refine (areChosen A n c l p _ hl).mono ?_; rintro e w1 ⟨rfl, hb1⟩) | (go_at_call 121; refine (impl_isElement _ _ _).mono ?_; rintro e w' ⟨rfl, rfl⟩) | (go_at_call 72; refine (impl_isBit _ _).mono ?_; rintro e w' ⟨rfl, rfl⟩))
        go_ret2
        exact ⟨none, 0, 0, by rw [hBf.out]; rfl, by rw [hRf.out]; exact OwnI.nil _ _, (by (repeat (first | assumption | with_reducible exact Bl.refl _ | with_reducible refine Bl.drewN ?_ _ | with_reducible refine Bl.drew ?_ | with_reducible refine Bl.alloc ?_ _ | (with_reducible refine Bl.call ?_ (by assumption)))))⟩
      · rcases h3 : inR q 0 1
        · go_enter Try.func56, Try.ntmps56
          go_wp2_with (first | (go_at_call 130; refine (areChosen A n c l p _ hl).mono ?_; rintro e w1 ⟨rfl, hb1⟩) | (go_at_call 121; refine (impl_isElement _ _ _).mono ?_; rintro e w' ⟨rfl, rfl⟩) | (go_at_call 72; refine (impl_isBit _ _).mono ?_; rintro e w' ⟨rfl, rfl⟩))
          go_ret2
          exact ⟨none, 0, 0, by rw [hBf.out]; rfl, by rw [hRf.out]; exact OwnI.nil _ _, (by (repeat (first | assumption | with_reducible exact Bl.refl _ | with_reducible refine Bl.drewN ?_ _ | with_reducible refine Bl.drew ?_ | with_reducible refine Bl.alloc ?_ _ | (with_reducible refine Bl.call ?_ (by assumption)))))⟩
        · exfalso
          simp_all [rvB]
set_option maxHeartbeats 4000000 in
theorem impl_RealView (p x y q : Int) (A : Option Addr) (n c : Nat) (l : List Int) (w : World) (hl : RdI w A n c l) :
    Calls Try.prog 56 #[.int .i64 p, .int .i64 x, .int .i64 y, .int .i64 q, .slice A n c] w fun e w' => ∃ A' n' c', e = .returned (.tuple #[.slice A' n' c', .bool (rvB p x y q l)]) ∧ OwnI w.heap.size w' A' n' c' (rvR p x y q l) ∧ Bl w w' := by
  rcases hB : rvB p x y q l
  · have := impl_RealView_f p x y q A n c l w hl hB
    rwa [hB] at this
  · obtain ⟨hp1, hp2, hx0, hx1, hy0, hy1, hq, hlen, hall0, h0, h1, h2, h3⟩ := rvB_facts hB
    obtain rfl : n = 9 := by rw [← hl.length]; exact hlen
    obtain ⟨r0, r1, r2, r3, r4, r5, r6, r7, r8, rfl⟩ := nine hlen
    have hR := Lib.hid (show rvR p x y q [r0, r1, r2, r3, r4, r5, r6, r7, r8] = rvL p x y q [r0, r1, r2, r3, r4, r5, r6, r7, r8] by unfold rvR; rw [hB]; rfl)
    have hall := Lib.hid hall0
    have e12 : elemsB p [x, y] = true := by rw [elems2, h1, h2]; rfl
    clear hall0 hlen hB
    have hmem := Lib.hid (sh1_mem p r0 r1 r2 r3 r4 r5 r6 r7 r8 hp1)
    have hall49 := Lib.hid (show ∀ z ∈ [r4, r5, r6, r7, r8], 0 ≤ z ∧ z < p from fun z hz => hall.out z (by simp at hz ⊢; rcases hz with h | h | h | h | h <;> simp [h]))
    rcases hq with rfl | rfl
    · go_enter Try.func56, Try.ntmps56
      go_wp2_with (first | (go_at_call 130; refine (areChosen A 9 c [r0, r1, r2, r3, r4, r5, r6, r7, r8] p _ hl).mono ?_; rintro e w1 ⟨rfl, hb1⟩) | (go_at_call 121; refine (impl_isElement _ _ _).mono ?_; rintro e w' ⟨rfl, rfl⟩) | (go_at_call 72; refine (impl_isBit _ _).mono ?_; rintro e w' ⟨rfl, rfl⟩) | (go_at_call 101; refine (impl_realSides p x y r0 r1 r2 r3 r4 r5 r6 r7 r8 A c _ (hl.keep hb1) ⟨hp1, hp2⟩ hall.out).mono ?_; rintro e w2 ⟨A2, c2, A3, c3, rfl, h2, h3, hb2⟩) | (go_at_call 103; refine (view0 _ _ _ _ _ _ _ _ _ _ _ _ _ _ _ _ _ _ _ _ h2 h3 ⟨hp1, hp2⟩ ⟨hx0, hx1⟩ ⟨hy0, hy1⟩ (hall.out r0 (by simp)) (hall.out r1 (by simp)) hall49.out hmem.out).mono ?_; rintro e w8 ⟨A8, c8, rfl, ho8, hb8⟩))
      go_ret2
      exact ⟨A8, 11, c8, rfl, by rw [hR.out]; exact OwnI.mono ho8 (Bl.sz (by (repeat (first | assumption | with_reducible exact Bl.refl _ | with_reducible refine Bl.drewN ?_ _ | with_reducible refine Bl.drew ?_ | with_reducible refine Bl.alloc ?_ _ | (with_reducible refine Bl.call ?_ (by assumption)))))), (by (repeat (first | assumption | with_reducible exact Bl.refl _ | with_reducible refine Bl.drewN ?_ _ | with_reducible refine Bl.drew ?_ | with_reducible refine Bl.alloc ?_ _ | (with_reducible refine Bl.call ?_ (by assumption)))))⟩
    · go_enter Try.func56, Try.ntmps56
      go_wp2_with (first | (go_at_call 130; refine (areChosen A 9 c [r0, r1, r2, r3, r4, r5, r6, r7, r8] p _ hl).mono ?_; rintro e w1 ⟨rfl, hb1⟩) | (go_at_call 121; refine (impl_isElement _ _ _).mono ?_; rintro e w' ⟨rfl, rfl⟩) | (go_at_call 72; refine (impl_isBit _ _).mono ?_; rintro e w' ⟨rfl, rfl⟩) | (go_at_call 101; refine (impl_realSides p x y r0 r1 r2 r3 r4 r5 r6 r7 r8 A c _ (hl.keep hb1) ⟨hp1, hp2⟩ hall.out).mono ?_; rintro e w2 ⟨A2, c2, A3, c3, rfl, h2, h3, hb2⟩) | (go_at_call 103; refine (view1 _ _ _ _ _ _ _ _ _ _ _ _ _ _ _ _ _ _ _ _ h2 h3 ⟨hp1, hp2⟩ ⟨hx0, hx1⟩ ⟨hy0, hy1⟩ (hall.out r0 (by simp)) (hall.out r1 (by simp)) hall49.out hmem.out).mono ?_; rintro e w8 ⟨A8, c8, rfl, ho8, hb8⟩))
      go_ret2
      exact ⟨A8, 11, c8, rfl, by rw [hR.out]; exact OwnI.mono ho8 (Bl.sz (by (repeat (first | assumption | with_reducible exact Bl.refl _ | with_reducible refine Bl.drewN ?_ _ | with_reducible refine Bl.drew ?_ | with_reducible refine Bl.alloc ?_ _ | (with_reducible refine Bl.call ?_ (by assumption)))))), (by (repeat (first | assumption | with_reducible exact Bl.refl _ | with_reducible refine Bl.drewN ?_ _ | with_reducible refine Bl.drew ?_ | with_reducible refine Bl.alloc ?_ _ | (with_reducible refine Bl.call ?_ (by assumption)))))⟩
set_option maxHeartbeats 4000000 in
theorem spec_SimView_f (p q i o : Int) (A : Option Addr) (n c : Nat) (l : List Int) (w : World) (hl : RdI w A n c l) (hB : rvB p i o q l = false) :
    Calls Try.prog 64 #[.int .i64 p, .int .i64 q, .int .i64 i, .int .i64 o, .slice A n c] w fun e w' => ∃ A' n' c', e = .returned (.tuple #[.slice A' n' c', .bool (rvB p i o q l)]) ∧ OwnI w.heap.size w' A' n' c' (svR p q i o l) ∧ Bl w w' := by
  have hBf := Lib.hid hB
  have hRf := Lib.hid (show svR p q i o l = [] by simp [svR, hB])
  rcases h0 : elemsB p [i, o]
  · go_enter Try.func64, Try.ntmps64
    go_wp2_with (first | (go_at_call 122; refine (fpIn2 _ _ _ _ _ (rd_new2 _ 3 _ _)).mono ?_; rintro e w' ⟨rfl, rfl⟩) | (go_at_call 80; refine (spec_l1In _ _ _ _).mono ?_; rintro e w' ⟨rfl, rfl⟩) | (go_at_call 118; refine (vwAll9 A n c l p _ (hl.keep (by (repeat (first | assumption | with_reducible exact Bl.refl _ | with_reducible refine Bl.drewN ?_ _ | with_reducible refine Bl.drew ?_ | with_reducible refine Bl.alloc ?_ _ | (with_reducible refine Bl.call ?_ (by assumption))))))).mono ?_; rintro e w' ⟨rfl, rfl⟩))
    go_ret2
    exact ⟨none, 0, 0, by rw [hBf.out]; rfl, by rw [hRf.out]; exact OwnI.nil _ _, (by (repeat (first | assumption | with_reducible exact Bl.refl _ | with_reducible refine Bl.drewN ?_ _ | with_reducible refine Bl.drew ?_ | with_reducible refine Bl.alloc ?_ _ | (with_reducible refine Bl.call ?_ (by assumption)))))⟩
  · rcases h1 : inR q 0 1
    · go_enter Try.func64, Try.ntmps64
      go_wp2_with (first | (go_at_call 122; refine (fpIn2 _ _ _ _ _ (rd_new2 _ 3 _ _)).mono ?_; rintro e w' ⟨rfl, rfl⟩) | (go_at_call 80; refine (spec_l1In _ _ _ _).mono ?_; rintro e w' ⟨rfl, rfl⟩) | (go_at_call 118; refine (vwAll9 A n c l p _ (hl.keep (by (repeat (first | assumption | with_reducible exact Bl.refl _ | with_reducible refine Bl.drewN ?_ _ | with_reducible refine Bl.drew ?_ | with_reducible refine Bl.alloc ?_ _ | (with_reducible refine Bl.call ?_ (by assumption))))))).mono ?_; rintro e w' ⟨rfl, rfl⟩))
      go_ret2
      exact ⟨none, 0, 0, by rw [hBf.out]; rfl, by rw [hRf.out]; exact OwnI.nil _ _, (by (repeat (first | assumption | with_reducible exact Bl.refl _ | with_reducible refine Bl.drewN ?_ _ | with_reducible refine Bl.drew ?_ | with_reducible refine Bl.alloc ?_ _ | (with_reducible refine Bl.call ?_ (by assumption)))))⟩
    · rcases h2 : arcB p l
      · go_enter Try.func64, Try.ntmps64
        go_wp2_with (first | (go_at_call 122; refine (fpIn2 _ _ _ _ _ (rd_new2 _ 3 _ _)).mono ?_; rintro e w' ⟨rfl, rfl⟩) | (go_at_call 80; refine (spec_l1In _ _ _ _).mono ?_; rintro e w' ⟨rfl, rfl⟩) | (go_at_call 118; refine (vwAll9 A n c l p _ (hl.keep (by (repeat (first | assumption | with_reducible exact Bl.refl _ | with_reducible refine Bl.drewN ?_ _ | with_reducible refine Bl.drew ?_ | with_reducible refine Bl.alloc ?_ _ | (with_reducible refine Bl.call ?_ (by assumption))))))).mono ?_; rintro e w' ⟨rfl, rfl⟩))
        go_ret2
        exact ⟨none, 0, 0, by rw [hBf.out]; rfl, by rw [hRf.out]; exact OwnI.nil _ _, (by (repeat (first | assumption | with_reducible exact Bl.refl _ | with_reducible refine Bl.drewN ?_ _ | with_reducible refine Bl.drew ?_ | with_reducible refine Bl.alloc ?_ _ | (with_reducible refine Bl.call ?_ (by assumption)))))⟩
      · exfalso
        simp_all [rvB, elems2]
set_option maxHeartbeats 4000000 in
theorem spec_SimView (p q i o : Int) (A : Option Addr) (n c : Nat) (l : List Int) (w : World) (hl : RdI w A n c l) :
    Calls Try.prog 64 #[.int .i64 p, .int .i64 q, .int .i64 i, .int .i64 o, .slice A n c] w fun e w' => ∃ A' n' c', e = .returned (.tuple #[.slice A' n' c', .bool (rvB p i o q l)]) ∧ OwnI w.heap.size w' A' n' c' (svR p q i o l) ∧ Bl w w' := by
  rcases hB : rvB p i o q l
  · have := spec_SimView_f p q i o A n c l w hl hB
    rwa [hB] at this
  · obtain ⟨hp1, hp2, hx0, hx1, hy0, hy1, hq, hlen, hall0, h0, h1, h2, h3⟩ := rvB_facts hB
    obtain rfl : n = 9 := by rw [← hl.length]; exact hlen
    obtain ⟨r0, r1, r2, r3, r4, r5, r6, r7, r8, rfl⟩ := nine hlen
    have hR := Lib.hid (show svR p q i o [r0, r1, r2, r3, r4, r5, r6, r7, r8] = svL p q i o [r0, r1, r2, r3, r4, r5, r6, r7, r8] by unfold svR; rw [hB]; rfl)
    have hall := Lib.hid hall0
    have e12 : elemsB p [i, o] = true := by rw [elems2, h1, h2]; rfl
    clear hall0 hlen hB
    rcases hq with rfl | rfl
    · go_enter Try.func64, Try.ntmps64
      go_wp2_with (first | (go_at_call 122; refine (fpIn2 _ _ _ _ _ (rd_new2 _ 3 _ _)).mono ?_; rintro e w' ⟨rfl, rfl⟩) | (go_at_call 80; refine (spec_l1In _ _ _ _).mono ?_; rintro e w' ⟨rfl, rfl⟩) | (go_at_call 118; refine (vwAll9 A 9 c [r0, r1, r2, r3, r4, r5, r6, r7, r8] p _ (hl.keep (by (repeat (first | assumption | with_reducible exact Bl.refl _ | with_reducible refine Bl.drewN ?_ _ | with_reducible refine Bl.drew ?_ | with_reducible refine Bl.alloc ?_ _ | (with_reducible refine Bl.call ?_ (by assumption))))))).mono ?_; rintro e w' ⟨rfl, rfl⟩) | (go_at_call 133; refine (vwSim0 p i o r0 r1 r2 r3 r4 r5 r6 r7 r8 ((i - r0) % p) A c _ (hl.keep (by (repeat (first | assumption | with_reducible exact Bl.refl _ | with_reducible refine Bl.drewN ?_ _ | with_reducible refine Bl.drew ?_ | with_reducible refine Bl.alloc ?_ _ | (with_reducible refine Bl.call ?_ (by assumption)))))) ⟨hp1, hp2⟩ (Lib.hid rfl) ⟨hx0, hx1⟩ ⟨hy0, hy1⟩ hall.out).mono ?_; rintro e w8 ⟨A8, c8, rfl, ho8, hb8⟩))
      go_ret2
      exact ⟨A8, 11, c8, rfl, by rw [hR.out]; simp only [svL, smR, smZ, reduceIte]; simp only [shrZ_mod]; exact OwnI.mono ho8 (Bl.sz (by (repeat (first | assumption | with_reducible exact Bl.refl _ | with_reducible refine Bl.drewN ?_ _ | with_reducible refine Bl.drew ?_ | with_reducible refine Bl.alloc ?_ _ | (with_reducible refine Bl.call ?_ (by assumption)))))), (by (repeat (first | assumption | with_reducible exact Bl.refl _ | with_reducible refine Bl.drewN ?_ _ | with_reducible refine Bl.drew ?_ | with_reducible refine Bl.alloc ?_ _ | (with_reducible refine Bl.call ?_ (by assumption)))))⟩
    · go_enter Try.func64, Try.ntmps64
      go_wp2_with (first | (go_at_call 122; refine (fpIn2 _ _ _ _ _ (rd_new2 _ 3 _ _)).mono ?_; rintro e w' ⟨rfl, rfl⟩) | (go_at_call 80; refine (spec_l1In _ _ _ _).mono ?_; rintro e w' ⟨rfl, rfl⟩) | (go_at_call 118; refine (vwAll9 A 9 c [r0, r1, r2, r3, r4, r5, r6, r7, r8] p _ (hl.keep (by (repeat (first | assumption | with_reducible exact Bl.refl _ | with_reducible refine Bl.drewN ?_ _ | with_reducible refine Bl.drew ?_ | with_reducible refine Bl.alloc ?_ _ | (with_reducible refine Bl.call ?_ (by assumption))))))).mono ?_; rintro e w' ⟨rfl, rfl⟩) | (go_at_call 133; refine (vwSim1 p i o r0 r1 r2 r3 r4 r5 r6 r7 r8 ((i - r0) % p) A c _ (hl.keep (by (repeat (first | assumption | with_reducible exact Bl.refl _ | with_reducible refine Bl.drewN ?_ _ | with_reducible refine Bl.drew ?_ | with_reducible refine Bl.alloc ?_ _ | (with_reducible refine Bl.call ?_ (by assumption)))))) ⟨hp1, hp2⟩ (Lib.hid rfl) ⟨hx0, hx1⟩ ⟨hy0, hy1⟩ hall.out).mono ?_; rintro e w8 ⟨A8, c8, rfl, ho8, hb8⟩))
      go_ret2
      exact ⟨A8, 11, c8, rfl, by rw [hR.out]; simp only [svL, smR, smZ, Int.one_ne_zero, reduceIte]; simp only [shrZ_mod]; exact OwnI.mono ho8 (Bl.sz (by (repeat (first | assumption | with_reducible exact Bl.refl _ | with_reducible refine Bl.drewN ?_ _ | with_reducible refine Bl.drew ?_ | with_reducible refine Bl.alloc ?_ _ | (with_reducible refine Bl.call ?_ (by assumption)))))), (by (repeat (first | assumption | with_reducible exact Bl.refl _ | with_reducible refine Bl.drewN ?_ _ | with_reducible refine Bl.drew ?_ | with_reducible refine Bl.alloc ?_ _ | (with_reducible refine Bl.call ?_ (by assumption)))))⟩
set_option maxHeartbeats 4000000 in
theorem impl_SimView_f (p q i o : Int) (A : Option Addr) (n c : Nat) (l : List Int) (w : World) (hl : RdI w A n c l) (hB : rvB p i o q l = false) :
    Calls Try.prog 58 #[.int .i64 p, .int .i64 q, .int .i64 i, .int .i64 o, .slice A n c] w fun e w' => ∃ A' n' c', e = .returned (.tuple #[.slice A' n' c', .bool (rvB p i o q l)]) ∧ OwnI w.heap.size w' A' n' c' (svR p q i o l) ∧ Bl w w' := by
  have hBf := Lib.hid hB
  have hRf := Lib.hid (show svR p q i o l = [] by simp [svR, hB])
  rcases h0 : arcB p l
  · go_enter Try.func58, Try.ntmps58
    go_wp2_with (first | (go_at_call 130; refine (areChosen A n c l p _ hl).mono ?_; rintro e w1 ⟨rfl, hb1⟩) | (go_at_call 121; refine (impl_isElement _ _ _).mono ?_; rintro e w' ⟨rfl, rfl⟩) | (go_at_call 72; refine (impl_isBit _ _).mono ?_; rintro e w' ⟨rfl, rfl⟩))
    go_ret2
    exact ⟨none, 0, 0, by rw [hBf.out]; rfl, by rw [hRf.out]; exact OwnI.nil _ _, (by (repeat (first | assumption | with_reducible exact Bl.refl _ | with_reducible refine Bl.drewN ?_ _ | with_reducible refine Bl.drew ?_ | with_reducible refine Bl.alloc ?_ _ | (with_reducible refine Bl.call ?_ (by assumption)))))⟩
  · rcases h1 : elemB p i
    · go_enter Try.func58, Try.ntmps58
      go_wp2_with (first | (go_at_call 130; refine (areChosen A n c l p _ hl).mono ?_; rintro e w1 ⟨rfl, hb1⟩) | (go_at_call 121; refine (impl_isElement _ _ _).mono ?_; rintro e w' ⟨rfl, rfl⟩) | (go_at_call 72; refine (impl_isBit _ _).mono ?_; rintro e w' ⟨rfl, rfl⟩))
      go_ret2
      exact ⟨none, 0, 0, by rw [hBf.out]; rfl, by rw [hRf.out]; exact OwnI.nil _ _, (by (repeat (first | assumption | with_reducible exact Bl.refl _ | with_reducible refine Bl.drewN ?_ _ | with_reducible refine Bl.drew ?_ | with_reducible refine Bl.alloc ?_ _ | (with_reducible refine Bl.call ?_ (by assumption)))))⟩
    · rcases h2 : elemB p o
      · go_enter Try.func58, Try.ntmps58
        go_wp2_with (first | (go_at_call 130; refine (areChosen A n c l p _ hl).mono ?_; rintro e w1 ⟨rfl, hb1⟩) | (go_at_call 121; refine (impl_isElement _ _ _).mono ?_; rintro e w' ⟨rfl, rfl⟩) | (go_at_call 72; refine (impl_isBit _ _).mono ?_; rintro e w' ⟨rfl, rfl⟩))
        go_ret2
        exact ⟨none, 0, 0, by rw [hBf.out]; rfl, by rw [hRf.out]; exact OwnI.nil _ _, (by (repeat (first | assumption | with_reducible exact Bl.refl _ | with_reducible refine Bl.drewN ?_ _ | with_reducible refine Bl.drew ?_ | with_reducible refine Bl.alloc ?_ _ | (with_reducible refine Bl.call ?_ (by assumption)))))⟩
      · rcases h3 : inR q 0 1
        · go_enter Try.func58, Try.ntmps58
          go_wp2_with (first | (go_at_call 130; refine (areChosen A n c l p _ hl).mono ?_; rintro e w1 ⟨rfl, hb1⟩) | (go_at_call 121; refine (impl_isElement _ _ _).mono ?_; rintro e w' ⟨rfl, rfl⟩) | (go_at_call 72; refine (impl_isBit _ _).mono ?_; rintro e w' ⟨rfl, rfl⟩))
          go_ret2
          exact ⟨none, 0, 0, by rw [hBf.out]; rfl, by rw [hRf.out]; exact OwnI.nil _ _, (by (repeat (first | assumption | with_reducible exact Bl.refl _ | with_reducible refine Bl.drewN ?_ _ | with_reducible refine Bl.drew ?_ | with_reducible refine Bl.alloc ?_ _ | (with_reducible refine Bl.call ?_ (by assumption)))))⟩
        · exfalso
          simp_all [rvB]
set_option maxHeartbeats 4000000 in
theorem impl_SimView (p q i o : Int) (A : Option Addr) (n c : Nat) (l : List Int) (w : World) (hl : RdI w A n c l) :
    Calls Try.prog 58 #[.int .i64 p, .int .i64 q, .int .i64 i, .int .i64 o, .slice A n c] w fun e w' => ∃ A' n' c', e = .returned (.tuple #[.slice A' n' c', .bool (rvB p i o q l)]) ∧ OwnI w.heap.size w' A' n' c' (svR p q i o l) ∧ Bl w w' := by
  rcases hB : rvB p i o q l
  · have := impl_SimView_f p q i o A n c l w hl hB
    rwa [hB] at this
  · obtain ⟨hp1, hp2, hx0, hx1, hy0, hy1, hq, hlen, hall0, h0, h1, h2, h3⟩ := rvB_facts hB
    obtain rfl : n = 9 := by rw [← hl.length]; exact hlen
    obtain ⟨r0, r1, r2, r3, r4, r5, r6, r7, r8, rfl⟩ := nine hlen
    have hR := Lib.hid (show svR p q i o [r0, r1, r2, r3, r4, r5, r6, r7, r8] = svL p q i o [r0, r1, r2, r3, r4, r5, r6, r7, r8] by unfold svR; rw [hB]; rfl)
    have hall := Lib.hid hall0
    have e12 : elemsB p [i, o] = true := by rw [elems2, h1, h2]; rfl
    clear hall0 hlen hB
    rcases hq with rfl | rfl
    · go_enter Try.func58, Try.ntmps58
      go_wp2_with (first | (go_at_call 130; refine (areChosen A 9 c [r0, r1, r2, r3, r4, r5, r6, r7, r8] p _ hl).mono ?_; rintro e w1 ⟨rfl, hb1⟩) | (go_at_call 121; refine (impl_isElement _ _ _).mono ?_; rintro e w' ⟨rfl, rfl⟩) | (go_at_call 72; refine (impl_isBit _ _).mono ?_; rintro e w' ⟨rfl, rfl⟩) | (go_at_call 126; refine (simView0 p i o r0 r1 r2 r3 r4 r5 r6 r7 r8 A c _ (hl.keep hb1) ⟨hp1, hp2⟩ ⟨hx0, hx1⟩ ⟨hy0, hy1⟩ hall.out).mono ?_; rintro e w8 ⟨A8, c8, rfl, ho8, hb8⟩))
      go_ret2
      exact ⟨A8, 11, c8, rfl, by rw [hR.out]; exact OwnI.mono ho8 (Bl.sz (by (repeat (first | assumption | with_reducible exact Bl.refl _ | with_reducible refine Bl.drewN ?_ _ | with_reducible refine Bl.drew ?_ | with_reducible refine Bl.alloc ?_ _ | (with_reducible refine Bl.call ?_ (by assumption)))))), (by (repeat (first | assumption | with_reducible exact Bl.refl _ | with_reducible refine Bl.drewN ?_ _ | with_reducible refine Bl.drew ?_ | with_reducible refine Bl.alloc ?_ _ | (with_reducible refine Bl.call ?_ (by assumption)))))⟩
    · go_enter Try.func58, Try.ntmps58
      go_wp2_with (first | (go_at_call 130; refine (areChosen A 9 c [r0, r1, r2, r3, r4, r5, r6, r7, r8] p _ hl).mono ?_; rintro e w1 ⟨rfl, hb1⟩) | (go_at_call 121; refine (impl_isElement _ _ _).mono ?_; rintro e w' ⟨rfl, rfl⟩) | (go_at_call 72; refine (impl_isBit _ _).mono ?_; rintro e w' ⟨rfl, rfl⟩) | (go_at_call 126; refine (simView1 p i o r0 r1 r2 r3 r4 r5 r6 r7 r8 A c _ (hl.keep hb1) ⟨hp1, hp2⟩ ⟨hx0, hx1⟩ ⟨hy0, hy1⟩ hall.out).mono ?_; rintro e w8 ⟨A8, c8, rfl, ho8, hb8⟩))
      go_ret2
      exact ⟨A8, 11, c8, rfl, by rw [hR.out]; exact OwnI.mono ho8 (Bl.sz (by (repeat (first | assumption | with_reducible exact Bl.refl _ | with_reducible refine Bl.drewN ?_ _ | with_reducible refine Bl.drew ?_ | with_reducible refine Bl.alloc ?_ _ | (with_reducible refine Bl.call ?_ (by assumption)))))), (by (repeat (first | assumption | with_reducible exact Bl.refl _ | with_reducible refine Bl.drewN ?_ _ | with_reducible refine Bl.drew ?_ | with_reducible refine Bl.alloc ?_ _ | (with_reducible refine Bl.call ?_ (by assumption)))))⟩
end Go.Proofs.Ytglgaicbcackbaa
