/- Contracts of counting views.
   Conditions: the function value gives lists of eleven elements of a small field and only makes new blocks. -/
import Derived.Test.YtglgaicbcackbaaRvm
import Derived.Test.YtglgaicbcackbaaAll
import Derived.Test.YtglgaicbcackbaaHel
import Derived.Test.YtglgaicbcackbaaMak
import Derived.Deep.DeepCutAuto
namespace Go.Proofs.Ytglgaicbcackbaa
open Go.RowKit
set_option linter.unusedVariables false
theorem rvL_mem (p x y q : Int) (l : List Int) (hp : 2 ≤ p) (hx : 0 ≤ x ∧ x < p) (hy : 0 ≤ y ∧ y < p) (hl : l.length = 9) (hall : ∀ z ∈ l, 0 ≤ z ∧ z < p) : (rvL p x y q l).length = 11 ∧ ∀ z ∈ rvL p x y q l, 0 ≤ z ∧ z < p := by
  obtain ⟨r0, r1, r2, r3, r4, r5, r6, r7, r8, rfl⟩ := nine hl
  have hs := sh1_mem p r0 r1 r2 r3 r4 r5 r6 r7 r8 hp
  have h4 : ∀ z, z = r4 ∨ z = r5 ∨ z = r6 ∨ z = r7 ∨ z = r8 ∨ z = r0 ∨ z = r1 → 0 ≤ z ∧ z < p := fun z hz => hall z (by simp only [List.mem_cons, List.not_mem_nil, or_false]; omega)
  dsimp only [rvL]
  split
  all_goals
    refine ⟨rfl, fun z hz => ?_⟩
    simp only [vw0, vw1, List.mem_cons, List.not_mem_nil, or_false] at hz
    rcases hz with rfl | rfl | rfl | rfl | rfl | rfl | rfl | rfl | rfl | rfl | rfl <;> first | assumption | exact md_bd _ hp | (exact h4 _ (by simp))
theorem svL_mem (p q i o : Int) (l : List Int) (hp : 2 ≤ p) (hi : 0 ≤ i ∧ i < p) (hl : l.length = 9) (hall : ∀ z ∈ l, 0 ≤ z ∧ z < p) : (svL p q i o l).length = 11 ∧ ∀ z ∈ svL p q i o l, 0 ≤ z ∧ z < p := by
  obtain ⟨r0, r1, r2, r3, r4, r5, r6, r7, r8, rfl⟩ := nine hl
  refine ⟨rfl, fun z hz => ?_⟩
  simp only [svL, smR, List.mem_cons, List.not_mem_nil, or_false] at hz
  rcases hz with rfl | rfl | rfl | rfl | rfl | rfl | rfl | rfl | rfl | rfl | rfl
  · exact hi
  all_goals first
    | exact md_bd _ hp
    | (exact hall _ (by simp))
/-- Eleven elements of a small field, and the counter that they raise. -/
def Elev (p : Int) (l : List Int) : Prop := l.length = 11 ∧ ∀ z ∈ l, 0 ≤ z ∧ z < p
def cntN (p : Int) (f : Nat → List Int) : List Int := tally (pw p 11).toNat (fun code => (vcF p (f code)).toNat) (pw p 9).toNat
theorem elev_code {p : Int} {l : List Int} (h : Elev p l) (hp : 2 ≤ p ∧ p ≤ 7) : 0 ≤ vcF p l ∧ vcF p l < pw p 11 := by
  have := vcF_bd p (by omega) hp.2 l h.2
  rw [h.1] at this
  omega
theorem vwReal_L (p x y q : Int) (l : List Int) (A : Option Addr) (c : Nat) (w : World) (hl : RdI w A 9 c l) (hp : 2 ≤ p ∧ p ≤ 251) (hx : 0 ≤ x ∧ x < p) (hy : 0 ≤ y ∧ y < p) (hq : q = 0 ∨ q = 1) (hall : ∀ z ∈ l, 0 ≤ z ∧ z < p) :
    Calls Try.prog 106 #[.int .i64 p, .int .i64 x, .int .i64 y, .int .i64 q, .slice A 9 c] w fun r w' => ∃ A2 c2, r = .returned (.slice A2 11 c2) ∧ OwnI w.heap.size w' A2 11 c2 (rvL p x y q l) ∧ Bl w w' := by
  obtain ⟨r0, r1, r2, r3, r4, r5, r6, r7, r8, rfl⟩ := nine hl.length
  rcases hq with rfl | rfl
  · refine (vwReal0 p x y r0 r1 r2 r3 r4 r5 r6 r7 r8 ((r0 - r4) % p) ((r1 - r5) % p) ((r2 - r6) % p) ((r3 - r7) % p) ((r2 * r3 - r8) % p) ((x - r0) % p) ((y - r1) % p) A c w hl hp (Lib.hid rfl) (Lib.hid rfl) (Lib.hid rfl) hx hy hall).mono ?_
    rintro e w8 ⟨A8, c8, rfl, ho8, hb8⟩
    exact ⟨A8, c8, rfl, by simp only [rvL, if_pos, vw0]; simp only [shrZ_mod, Int.add_comm (prtD p 0 _ _ _) (prtD p 1 _ _ _)]; exact ho8, hb8⟩
  · refine (vwReal1 p x y r0 r1 r2 r3 r4 r5 r6 r7 r8 ((r0 - r4) % p) ((r1 - r5) % p) ((r2 - r6) % p) ((r3 - r7) % p) ((r2 * r3 - r8) % p) ((x - r0) % p) ((y - r1) % p) A c w hl hp (Lib.hid rfl) (Lib.hid rfl) (Lib.hid rfl) hx hy hall).mono ?_
    rintro e w8 ⟨A8, c8, rfl, ho8, hb8⟩
    exact ⟨A8, c8, rfl, by simp only [rvL, Int.one_ne_zero, vw1, if_false]; simp only [shrZ_mod]; exact ho8, hb8⟩
theorem vwSim_L (p q i o : Int) (l : List Int) (A : Option Addr) (c : Nat) (w : World) (hl : RdI w A 9 c l) (hp : 2 ≤ p ∧ p ≤ 251) (hi : 0 ≤ i ∧ i < p) (ho : 0 ≤ o ∧ o < p) (hq : q = 0 ∨ q = 1) (hall : ∀ z ∈ l, 0 ≤ z ∧ z < p) :
    Calls Try.prog 133 #[.int .i64 p, .int .i64 q, .int .i64 i, .int .i64 o, .slice A 9 c] w fun r w' => ∃ A2 c2, r = .returned (.slice A2 11 c2) ∧ OwnI w.heap.size w' A2 11 c2 (svL p q i o l) ∧ Bl w w' := by
  obtain ⟨r0, r1, r2, r3, r4, r5, r6, r7, r8, rfl⟩ := nine hl.length
  rcases hq with rfl | rfl
  · refine (vwSim0 p i o r0 r1 r2 r3 r4 r5 r6 r7 r8 ((i - r0) % p) A c w hl hp (Lib.hid rfl) hi ho hall).mono ?_
    rintro e w8 ⟨A8, c8, rfl, ho8, hb8⟩
    exact ⟨A8, c8, rfl, by simp only [svL, smR, smZ, reduceIte]; simp only [shrZ_mod]; exact ho8, hb8⟩
  · refine (vwSim1 p i o r0 r1 r2 r3 r4 r5 r6 r7 r8 ((i - r0) % p) A c w hl hp (Lib.hid rfl) hi ho hall).mono ?_
    rintro e w8 ⟨A8, c8, rfl, ho8, hb8⟩
    exact ⟨A8, c8, rfl, by simp only [svL, smR, smZ, Int.one_ne_zero, reduceIte]; simp only [shrZ_mod]; exact ho8, hb8⟩
theorem simView_L (p q i o : Int) (l : List Int) (A : Option Addr) (c : Nat) (w : World) (hl : RdI w A 9 c l) (hp : 2 ≤ p ∧ p ≤ 251) (hi : 0 ≤ i ∧ i < p) (ho : 0 ≤ o ∧ o < p) (hq : q = 0 ∨ q = 1) (hall : ∀ z ∈ l, 0 ≤ z ∧ z < p) :
    Calls Try.prog 126 #[.int .i64 p, .int .i64 q, .int .i64 i, .int .i64 o, .slice A 9 c] w fun r w' => ∃ A2 c2, r = .returned (.slice A2 11 c2) ∧ OwnI w.heap.size w' A2 11 c2 (svL p q i o l) ∧ Bl w w' := by
  obtain ⟨r0, r1, r2, r3, r4, r5, r6, r7, r8, rfl⟩ := nine hl.length
  rcases hq with rfl | rfl
  · exact simView0 p i o r0 r1 r2 r3 r4 r5 r6 r7 r8 A c w hl hp hi ho hall
  · exact simView1 p i o r0 r1 r2 r3 r4 r5 r6 r7 r8 A c w hl hp hi ho hall
/-- A function value gives the list f of the nine digits of a number. -/
def Sees (W : World) (p : Int) (K : Nat) (caps : Array Value) (f : Nat → List Int) : Prop :=
  ∀ (code c : Nat) (A : Option Addr) (W' : World), Bl W W' → RdI W' A 9 c (digs p code 9).1 → Calls Try.prog K (#[.slice A 9 c] ++ caps) W' fun r w' => ∃ A2 c2, r = .returned (.slice A2 11 c2) ∧ OwnI W'.heap.size w' A2 11 c2 (f code) ∧ Bl W' w'
set_option maxHeartbeats 4000000 in
theorem impl_counts (p : Int) (K : Nat) (caps : Array Value) (f : Nat → List Int) (w : World) (hp2 : 2 ≤ p) (hp7 : p ≤ 7) (hK : Enters K) (hg : Sees w p K caps f) (hf : ∀ code, Elev p (f code)) :
    Calls Try.prog 123 #[.int .i64 p, .func (.func K) #[] caps] w fun e w' => ∃ A n c, e = .returned (.slice A n c) ∧ OwnI w.heap.size w' A n c (cntN p f) ∧ Bl w w' := by
  have HG := Lib.hid hg
  clear hg
  unfold Enters at hK
  have hpb := pw_bd p (by omega) hp7 11 (by omega)
  have hpb9 := pw_bd p (by omega) hp7 9 (by omega)
  obtain ⟨N, hN⟩ : ∃ N : Nat, pw p 11 = N := ⟨(pw p 11).toNat, by omega⟩
  obtain ⟨M, hM⟩ : ∃ M : Nat, pw p 9 = M := ⟨(pw p 9).toNat, by omega⟩
  have hR0 : cntN p f = tally N (fun code => (vcF p (f code)).toNat) M := by unfold cntN; rw [hN, hM]; rfl
  have hR := Lib.hid hR0
  rw [hN] at hpb
  rw [hM] at hpb9
  have HN := Lib.hid hN
  have HM := Lib.hid hM
  have hN := Lib.hid hN
  clear hM hR0
  have HF := Lib.hid hf
  clear hf
  have hmk := make_ints N (by omega)
  have hown0 := own_zeros w N (by omega)
  have hW0 := (Bl.refl w).alloc (.cells (madeCells #[.int .i64 0] N) 3)
  go_enter Try.func123, Try.ntmps123
  go_wp2_with fail
  refine (impl_powerOf p 11 _ (by omega) (by omega) (by omega)).mono ?_
  rintro e w' ⟨rfl, rfl⟩
  rw [HN.out]
  go_wp2_with fail
  refine (impl_powerOf p 9 _ (by omega) (by omega) (by omega)).mono ?_
  rintro e w' ⟨rfl, rfl⟩
  rw [HM.out]
  go_wp2_with fail
  go_loopw [12] (fun i wr => ∃ k, k ≤ M ∧ i = .int .i64 (k : Nat) ∧ OwnI w.heap.size wr (some ⟨w.heap.size, 0, none⟩) N N (tally N (fun code => (vcF p (f code)).toNat) k) ∧ Bl w wr) (fun i _ => M - (intOf i).toNat)
  case atStart => exact ⟨0, by omega, rfl, hown0, hW0⟩
  case round =>
    obtain ⟨k, hk, rfl, hown, hW⟩ := hrel
    clear hmk hown0 hW0
    by_cases hlt : k < M
    · have hE := HF.out k
      have hcb := elev_code hE ⟨hp2, hp7⟩
      have HE := Lib.hid hE.2
      clear hE
      obtain ⟨C, hC⟩ : ∃ C : Nat, vcF p (f k) = C := ⟨(vcF p (f k)).toNat, by omega⟩
      have hCN : C < N := by have := hN.out; omega
      have HC := Lib.hid hC
      have htb := tally_bd N (fun code => (vcF p (f code)).toNat) k C
      have htl := Lib.hid (tally_length N (fun code => (vcF p (f code)).toNat) k)
      have hst := Lib.hid (show tally N (fun code => (vcF p (f code)).toNat) (k + 1) = bump (tally N (fun code => (vcF p (f code)).toNat) k) C by rw [tally, hC]; rfl)
      clear hcb hC
      generalize tally N (fun code => (vcF p (f code)).toNat) k = T at *
      have hget := Lib.hid (List.getElem?_eq_getElem (show C < T.length by rw [htl.out]; exact hCN))
      have hgd := Lib.hid (show T[C]?.getD 0 = T[C]'(by rw [htl.out]; exact hCN) by rw [hget.out]; rfl)
      rw [hgd.out] at htb
      generalize T[C]'(by rw [htl.out]; exact hCN) = X at *
      go_wp2_with (first | (go_at_call 113; refine (impl_digitsOf p k 9 _ (by omega) (by omega) (by omega) (by omega) (by omega)).mono ?_; rintro e w1 ⟨A1, c1, rfl, ho1, hb1⟩; replace hown := hown.keep hb1; replace hW := hW.call hb1) | (go_at_call 102; refine (impl_viewCode A2 11 c2 (f k) p _ ho2.rd (by omega) hp7 (by omega) HE.out).mono ?_; rintro e w' ⟨rfl, rfl⟩; rw [HC.out]; obtain ⟨g, he, hbg, hgl, hcell, hfr⟩ := hown.form (by omega); have hx := hcell _ _ hget.out; have hfz := hfr C; clear hcell hfr; injection he with he; injection he with he; subst he) | (refine (HG.out k c1 A1 _ hW ho1.rd).mono ?_; rintro e w2 ⟨A2, c2, rfl, ho2, hb2⟩; replace hown := hown.keep hb2; replace hW := hW.call hb2))
      go_roundw
      case rel => exact ⟨k + 1, by omega, by go_num, by rw [hst.out]; unfold bump; rw [hgd.out]; exact hown.set_ C _ hCN, hW.setCell (Nat.le_refl _) _⟩
      case measure => simp [intOf]; omega
    · have he : k = M := by omega
      subst he
      go_wp2
      go_ret
      exact ⟨_, _, _, rfl, by rw [hR.out]; exact hown, hW⟩
set_option maxHeartbeats 4000000 in
theorem vwCounts_real (p x y q : Int) (w : World) (hp2 : 2 ≤ p) (hp7 : p ≤ 7) (hx : 0 ≤ x ∧ x < p) (hy : 0 ≤ y ∧ y < p) (hq : q = 0 ∨ q = 1) :
    Calls Try.prog 129 #[.int .i64 p, .int .i64 x, .int .i64 y, .int .i64 q, .int .i64 (-1)] w fun e w' => ∃ A n c, e = .returned (.slice A n c) ∧ OwnI w.heap.size w' A n c (cntN p (fun code : Nat => rvL p x y q (digs p code 9).1)) ∧ Bl w w' := by
  have hp251 : 2 ≤ p ∧ p ≤ 251 := ⟨hp2, by omega⟩
  obtain ⟨f, hf0⟩ : ∃ f : Nat → List Int, f = (fun code : Nat => rvL p x y q (digs p code 9).1) := ⟨_, rfl⟩
  have hfd := fun k => Lib.hid (show f k = rvL p x y q (digs p k 9).1 by rw [hf0])
  have hf : ∀ code, Elev p (f code) := fun code => by
    rw [hf0]
    exact rvL_mem p x y q _ hp2 hx hy (digs_len p code 9) (digs_mem p code (by omega) 9)
  rw [← hf0]
  clear hf0
  have hpb := pw_bd p (by omega) hp7 11 (by omega)
  have hpb9 := pw_bd p (by omega) hp7 9 (by omega)
  obtain ⟨N, hN⟩ : ∃ N : Nat, pw p 11 = N := ⟨(pw p 11).toNat, by omega⟩
  obtain ⟨M, hM⟩ : ∃ M : Nat, pw p 9 = M := ⟨(pw p 9).toNat, by omega⟩
  have hR0 : cntN p f = tally N (fun code => (vcF p (f code)).toNat) M := by unfold cntN; rw [hN, hM]; rfl
  have hR := Lib.hid hR0
  rw [hN] at hpb
  rw [hM] at hpb9
  have HN := Lib.hid hN
  have HM := Lib.hid hM
  have hN := Lib.hid hN
  clear hM hR0
  have HF := Lib.hid hf
  clear hf
  have hmk := make_ints N (by omega)
  have hown0 := own_zeros w N (by omega)
  have hW0 := (Bl.refl w).alloc (.cells (madeCells #[.int .i64 0] N) 3)
  go_enter Try.func129, Try.ntmps129
  go_wp2_with (first | (go_at_call 115; refine (spec_vwPower p 11 _ (by omega) (by omega) (by omega)).mono ?_; rintro e w' ⟨rfl, rfl⟩; rw [HN.out]))
  go_loopw [12] (fun i wr => ∃ k, k ≤ M ∧ i = .int .i64 (k : Nat) ∧ OwnI w.heap.size wr (some ⟨w.heap.size, 0, none⟩) N N (tally N (fun code => (vcF p (f code)).toNat) k) ∧ Bl w wr) (fun i _ => M - (intOf i).toNat)
  case atStart => exact ⟨0, by omega, rfl, hown0, hW0⟩
  case round =>
    obtain ⟨k, hk, rfl, hown, hW⟩ := hrel
    clear hmk hown0 hW0
    by_cases hlt : k < M
    · have hE := HF.out k
      have hcb := elev_code hE ⟨hp2, hp7⟩
      have HE := Lib.hid hE.2
      clear hE
      obtain ⟨C, hC⟩ : ∃ C : Nat, vcF p (f k) = C := ⟨(vcF p (f k)).toNat, by omega⟩
      have hCN : C < N := by have := hN.out; omega
      have HC := Lib.hid hC
      have htb := tally_bd N (fun code => (vcF p (f code)).toNat) k C
      have htl := Lib.hid (tally_length N (fun code => (vcF p (f code)).toNat) k)
      have hst := Lib.hid (show tally N (fun code => (vcF p (f code)).toNat) (k + 1) = bump (tally N (fun code => (vcF p (f code)).toNat) k) C by rw [tally, hC]; rfl)
      clear hcb hC
      generalize tally N (fun code => (vcF p (f code)).toNat) k = T at *
      have hget := Lib.hid (List.getElem?_eq_getElem (show C < T.length by rw [htl.out]; exact hCN))
      have hgd := Lib.hid (show T[C]?.getD 0 = T[C]'(by rw [htl.out]; exact hCN) by rw [hget.out]; rfl)
      rw [hgd.out] at htb
      generalize T[C]'(by rw [htl.out]; exact hCN) = X at *
      go_wp2_with (first | (go_at_call 115; refine (spec_vwPower p 9 _ (by omega) (by omega) (by omega)).mono ?_; rintro e w' ⟨rfl, rfl⟩; rw [HM.out]) | (go_at_call 105; refine (spec_vwDigits p k 9 _ (by omega) (by omega) (by omega) (by omega) (by omega)).mono ?_; rintro e w1 ⟨A1, c1, rfl, ho1, hb1⟩; replace hown := hown.keep hb1; replace hW := hW.call hb1) | (go_at_call 106; refine (vwReal_L p x y q _ A1 c1 _ (ho1.rd.keep (by (repeat (first | assumption | with_reducible exact Bl.refl _ | with_reducible refine Bl.drewN ?_ _ | with_reducible refine Bl.drew ?_ | with_reducible refine Bl.alloc ?_ _ | (with_reducible refine Bl.call ?_ (by assumption)))))) hp251 hx hy hq (digs_mem p k (by omega) 9)).mono ?_; rintro e w2 ⟨A2, c2, rfl, ho2, hb2⟩; replace hown := hown.keep hb2; replace hW := hW.call hb2) | (go_at_call 108; refine (spec_vwCode A2 11 c2 (f k) p _ (by rw [(hfd k).out]; exact ho2.rd) (by omega) hp7 (by omega) HE.out).mono ?_; rintro e w' ⟨rfl, rfl⟩; rw [HC.out]; obtain ⟨g, he, hbg, hgl, hcell, hfr⟩ := hown.form (by omega); have hx := hcell _ _ hget.out; have hfz := hfr C; clear hcell hfr; injection he with he; injection he with he; subst he))
      go_roundw
      case rel => exact ⟨k + 1, by omega, by go_num, by rw [hst.out]; unfold bump; rw [hgd.out]; exact hown.set_ C _ hCN, hW.setCell (Nat.le_refl _) _⟩
      case measure => simp [intOf]; omega
    · have he : k = M := by omega
      subst he
      go_wp2_with (first | (go_at_call 115; refine (spec_vwPower p 9 _ (by omega) (by omega) (by omega)).mono ?_; rintro e w' ⟨rfl, rfl⟩; rw [HM.out]))
      go_ret
      exact ⟨_, _, _, rfl, by rw [hR.out]; exact hown, hW⟩
set_option maxHeartbeats 4000000 in
theorem vwCounts_sim0 (p x y o : Int) (w : World) (hp2 : 2 ≤ p) (hp7 : p ≤ 7) (hx : 0 ≤ x ∧ x < p) (hy : 0 ≤ y ∧ y < p) (ho : 0 ≤ o ∧ o < p) :
    Calls Try.prog 129 #[.int .i64 p, .int .i64 x, .int .i64 y, .int .i64 0, .int .i64 o] w fun e w' => ∃ A n c, e = .returned (.slice A n c) ∧ OwnI w.heap.size w' A n c (cntN p (fun code : Nat => svL p 0 x o (digs p code 9).1)) ∧ Bl w w' := by
  have hp251 : 2 ≤ p ∧ p ≤ 251 := ⟨hp2, by omega⟩
  obtain ⟨f, hf0⟩ : ∃ f : Nat → List Int, f = (fun code : Nat => svL p 0 x o (digs p code 9).1) := ⟨_, rfl⟩
  have hfd := fun k => Lib.hid (show f k = svL p 0 x o (digs p k 9).1 by rw [hf0])
  have hf : ∀ code, Elev p (f code) := fun code => by
    rw [hf0]
    exact svL_mem p 0 _ o _ hp2 hx (digs_len p code 9) (digs_mem p code (by omega) 9)
  rw [← hf0]
  clear hf0
  have hpb := pw_bd p (by omega) hp7 11 (by omega)
  have hpb9 := pw_bd p (by omega) hp7 9 (by omega)
  obtain ⟨N, hN⟩ : ∃ N : Nat, pw p 11 = N := ⟨(pw p 11).toNat, by omega⟩
  obtain ⟨M, hM⟩ : ∃ M : Nat, pw p 9 = M := ⟨(pw p 9).toNat, by omega⟩
  have hR0 : cntN p f = tally N (fun code => (vcF p (f code)).toNat) M := by unfold cntN; rw [hN, hM]; rfl
  have hR := Lib.hid hR0
  rw [hN] at hpb
  rw [hM] at hpb9
  have HN := Lib.hid hN
  have HM := Lib.hid hM
  have hN := Lib.hid hN
  clear hM hR0
  have HF := Lib.hid hf
  clear hf
  have hmk := make_ints N (by omega)
  have hown0 := own_zeros w N (by omega)
  have hW0 := (Bl.refl w).alloc (.cells (madeCells #[.int .i64 0] N) 3)
  go_enter Try.func129, Try.ntmps129
  go_wp2_with (first | (go_at_call 115; refine (spec_vwPower p 11 _ (by omega) (by omega) (by omega)).mono ?_; rintro e w' ⟨rfl, rfl⟩; rw [HN.out]))
  go_loopw [12] (fun i wr => ∃ k, k ≤ M ∧ i = .int .i64 (k : Nat) ∧ OwnI w.heap.size wr (some ⟨w.heap.size, 0, none⟩) N N (tally N (fun code => (vcF p (f code)).toNat) k) ∧ Bl w wr) (fun i _ => M - (intOf i).toNat)
  case atStart => exact ⟨0, by omega, rfl, hown0, hW0⟩
  case round =>
    obtain ⟨k, hk, rfl, hown, hW⟩ := hrel
    clear hmk hown0 hW0
    by_cases hlt : k < M
    · have hE := HF.out k
      have hcb := elev_code hE ⟨hp2, hp7⟩
      have HE := Lib.hid hE.2
      clear hE
      obtain ⟨C, hC⟩ : ∃ C : Nat, vcF p (f k) = C := ⟨(vcF p (f k)).toNat, by omega⟩
      have hCN : C < N := by have := hN.out; omega
      have HC := Lib.hid hC
      have htb := tally_bd N (fun code => (vcF p (f code)).toNat) k C
      have htl := Lib.hid (tally_length N (fun code => (vcF p (f code)).toNat) k)
      have hst := Lib.hid (show tally N (fun code => (vcF p (f code)).toNat) (k + 1) = bump (tally N (fun code => (vcF p (f code)).toNat) k) C by rw [tally, hC]; rfl)
      clear hcb hC
      generalize tally N (fun code => (vcF p (f code)).toNat) k = T at *
      have hget := Lib.hid (List.getElem?_eq_getElem (show C < T.length by rw [htl.out]; exact hCN))
      have hgd := Lib.hid (show T[C]?.getD 0 = T[C]'(by rw [htl.out]; exact hCN) by rw [hget.out]; rfl)
      rw [hgd.out] at htb
      generalize T[C]'(by rw [htl.out]; exact hCN) = X at *
      go_wp2_with (first | (go_at_call 115; refine (spec_vwPower p 9 _ (by omega) (by omega) (by omega)).mono ?_; rintro e w' ⟨rfl, rfl⟩; rw [HM.out]) | (go_at_call 105; refine (spec_vwDigits p k 9 _ (by omega) (by omega) (by omega) (by omega) (by omega)).mono ?_; rintro e w1 ⟨A1, c1, rfl, ho1, hb1⟩; replace hown := hown.keep hb1; replace hW := hW.call hb1) | (go_at_call 106; refine (vwReal_L p x y 0 _ A1 c1 _ (ho1.rd.keep (by (repeat (first | assumption | with_reducible exact Bl.refl _ | with_reducible refine Bl.drewN ?_ _ | with_reducible refine Bl.drew ?_ | with_reducible refine Bl.alloc ?_ _ | (with_reducible refine Bl.call ?_ (by assumption)))))) hp251 hx hy (by first | exact .inl rfl | exact .inr rfl) (digs_mem p k (by omega) 9)).mono ?_; rintro e w2 ⟨A2, c2, rfl, ho2, hb2⟩; replace hown := hown.keep hb2; replace hW := hW.call hb2) | (go_at_call 133; refine (vwSim_L p _ _ o _ A1 c1 _ (ho1.rd.keep (by (repeat (first | assumption | with_reducible exact Bl.refl _ | with_reducible refine Bl.drewN ?_ _ | with_reducible refine Bl.drew ?_ | with_reducible refine Bl.alloc ?_ _ | (with_reducible refine Bl.call ?_ (by assumption)))))) hp251 (by assumption) ho (by first | exact .inl rfl | exact .inr rfl) (digs_mem p k (by omega) 9)).mono ?_; rintro e w3 ⟨A3, c3, rfl, ho3, hb3⟩; replace hown : OwnI w.heap.size w3 _ _ _ _ := hown.keep (by (repeat (first | assumption | with_reducible exact Bl.refl _ | with_reducible refine Bl.drewN ?_ _ | with_reducible refine Bl.drew ?_ | with_reducible refine Bl.alloc ?_ _ | (with_reducible refine Bl.call ?_ (by assumption))))); replace hW : Bl w w3 := (by (repeat (first | assumption | with_reducible exact Bl.refl _ | with_reducible refine Bl.drewN ?_ _ | with_reducible refine Bl.drew ?_ | with_reducible refine Bl.alloc ?_ _ | (with_reducible refine Bl.call ?_ (by assumption)))))) | (go_at_call 108; refine (spec_vwCode A3 11 c3 (f k) p _ (by rw [(hfd k).out]; exact ho3.rd) (by omega) hp7 (by omega) HE.out).mono ?_; rintro e w' ⟨rfl, rfl⟩; rw [HC.out]; obtain ⟨g, he, hbg, hgl, hcell, hfr⟩ := hown.form (by omega); have hx := hcell _ _ hget.out; have hfz := hfr C; clear hcell hfr; injection he with he; injection he with he; subst he))
      go_roundw
      case rel => exact ⟨k + 1, by omega, by go_num, by rw [hst.out]; unfold bump; rw [hgd.out]; exact hown.set_ C _ hCN, hW.setCell (Nat.le_refl _) _⟩
      case measure => simp [intOf]; omega
    · have he : k = M := by omega
      subst he
      go_wp2_with (first | (go_at_call 115; refine (spec_vwPower p 9 _ (by omega) (by omega) (by omega)).mono ?_; rintro e w' ⟨rfl, rfl⟩; rw [HM.out]))
      go_ret
      exact ⟨_, _, _, rfl, by rw [hR.out]; exact hown, hW⟩
set_option maxHeartbeats 4000000 in
theorem vwCounts_sim1 (p x y o : Int) (w : World) (hp2 : 2 ≤ p) (hp7 : p ≤ 7) (hx : 0 ≤ x ∧ x < p) (hy : 0 ≤ y ∧ y < p) (ho : 0 ≤ o ∧ o < p) :
    Calls Try.prog 129 #[.int .i64 p, .int .i64 x, .int .i64 y, .int .i64 1, .int .i64 o] w fun e w' => ∃ A n c, e = .returned (.slice A n c) ∧ OwnI w.heap.size w' A n c (cntN p (fun code : Nat => svL p 1 y o (digs p code 9).1)) ∧ Bl w w' := by
  have hp251 : 2 ≤ p ∧ p ≤ 251 := ⟨hp2, by omega⟩
  obtain ⟨f, hf0⟩ : ∃ f : Nat → List Int, f = (fun code : Nat => svL p 1 y o (digs p code 9).1) := ⟨_, rfl⟩
  have hfd := fun k => Lib.hid (show f k = svL p 1 y o (digs p k 9).1 by rw [hf0])
  have hf : ∀ code, Elev p (f code) := fun code => by
    rw [hf0]
    exact svL_mem p 1 _ o _ hp2 hy (digs_len p code 9) (digs_mem p code (by omega) 9)
  rw [← hf0]
  clear hf0
  have hpb := pw_bd p (by omega) hp7 11 (by omega)
  have hpb9 := pw_bd p (by omega) hp7 9 (by omega)
  obtain ⟨N, hN⟩ : ∃ N : Nat, pw p 11 = N := ⟨(pw p 11).toNat, by omega⟩
  obtain ⟨M, hM⟩ : ∃ M : Nat, pw p 9 = M := ⟨(pw p 9).toNat, by omega⟩
  have hR0 : cntN p f = tally N (fun code => (vcF p (f code)).toNat) M := by unfold cntN; rw [hN, hM]; rfl
  have hR := Lib.hid hR0
  rw [hN] at hpb
  rw [hM] at hpb9
  have HN := Lib.hid hN
  have HM := Lib.hid hM
  have hN := Lib.hid hN
  clear hM hR0
  have HF := Lib.hid hf
  clear hf
  have hmk := make_ints N (by omega)
  have hown0 := own_zeros w N (by omega)
  have hW0 := (Bl.refl w).alloc (.cells (madeCells #[.int .i64 0] N) 3)
  go_enter Try.func129, Try.ntmps129
  go_wp2_with (first | (go_at_call 115; refine (spec_vwPower p 11 _ (by omega) (by omega) (by omega)).mono ?_; rintro e w' ⟨rfl, rfl⟩; rw [HN.out]))
  go_loopw [12] (fun i wr => ∃ k, k ≤ M ∧ i = .int .i64 (k : Nat) ∧ OwnI w.heap.size wr (some ⟨w.heap.size, 0, none⟩) N N (tally N (fun code => (vcF p (f code)).toNat) k) ∧ Bl w wr) (fun i _ => M - (intOf i).toNat)
  case atStart => exact ⟨0, by omega, rfl, hown0, hW0⟩
  case round =>
    obtain ⟨k, hk, rfl, hown, hW⟩ := hrel
    clear hmk hown0 hW0
    by_cases hlt : k < M
    · have hE := HF.out k
      have hcb := elev_code hE ⟨hp2, hp7⟩
      have HE := Lib.hid hE.2
      clear hE
      obtain ⟨C, hC⟩ : ∃ C : Nat, vcF p (f k) = C := ⟨(vcF p (f k)).toNat, by omega⟩
      have hCN : C < N := by have := hN.out; omega
      have HC := Lib.hid hC
      have htb := tally_bd N (fun code => (vcF p (f code)).toNat) k C
      have htl := Lib.hid (tally_length N (fun code => (vcF p (f code)).toNat) k)
      have hst := Lib.hid (show tally N (fun code => (vcF p (f code)).toNat) (k + 1) = bump (tally N (fun code => (vcF p (f code)).toNat) k) C by rw [tally, hC]; rfl)
      clear hcb hC
      generalize tally N (fun code => (vcF p (f code)).toNat) k = T at *
      have hget := Lib.hid (List.getElem?_eq_getElem (show C < T.length by rw [htl.out]; exact hCN))
      have hgd := Lib.hid (show T[C]?.getD 0 = T[C]'(by rw [htl.out]; exact hCN) by rw [hget.out]; rfl)
      rw [hgd.out] at htb
      generalize T[C]'(by rw [htl.out]; exact hCN) = X at *
      go_wp2_with (first | (go_at_call 115; refine (spec_vwPower p 9 _ (by omega) (by omega) (by omega)).mono ?_; rintro e w' ⟨rfl, rfl⟩; rw [HM.out]) | (go_at_call 105; refine (spec_vwDigits p k 9 _ (by omega) (by omega) (by omega) (by omega) (by omega)).mono ?_; rintro e w1 ⟨A1, c1, rfl, ho1, hb1⟩; replace hown := hown.keep hb1; replace hW := hW.call hb1) | (go_at_call 106; refine (vwReal_L p x y 1 _ A1 c1 _ (ho1.rd.keep (by (repeat (first | assumption | with_reducible exact Bl.refl _ | with_reducible refine Bl.drewN ?_ _ | with_reducible refine Bl.drew ?_ | with_reducible refine Bl.alloc ?_ _ | (with_reducible refine Bl.call ?_ (by assumption)))))) hp251 hx hy (by first | exact .inl rfl | exact .inr rfl) (digs_mem p k (by omega) 9)).mono ?_; rintro e w2 ⟨A2, c2, rfl, ho2, hb2⟩; replace hown := hown.keep hb2; replace hW := hW.call hb2) | (go_at_call 133; refine (vwSim_L p _ _ o _ A1 c1 _ (ho1.rd.keep (by (repeat (first | assumption | with_reducible exact Bl.refl _ | with_reducible refine Bl.drewN ?_ _ | with_reducible refine Bl.drew ?_ | with_reducible refine Bl.alloc ?_ _ | (with_reducible refine Bl.call ?_ (by assumption)))))) hp251 (by assumption) ho (by first | exact .inl rfl | exact .inr rfl) (digs_mem p k (by omega) 9)).mono ?_; rintro e w3 ⟨A3, c3, rfl, ho3, hb3⟩; replace hown : OwnI w.heap.size w3 _ _ _ _ := hown.keep (by (repeat (first | assumption | with_reducible exact Bl.refl _ | with_reducible refine Bl.drewN ?_ _ | with_reducible refine Bl.drew ?_ | with_reducible refine Bl.alloc ?_ _ | (with_reducible refine Bl.call ?_ (by assumption))))); replace hW : Bl w w3 := (by (repeat (first | assumption | with_reducible exact Bl.refl _ | with_reducible refine Bl.drewN ?_ _ | with_reducible refine Bl.drew ?_ | with_reducible refine Bl.alloc ?_ _ | (with_reducible refine Bl.call ?_ (by assumption)))))) | (go_at_call 108; refine (spec_vwCode A3 11 c3 (f k) p _ (by rw [(hfd k).out]; exact ho3.rd) (by omega) hp7 (by omega) HE.out).mono ?_; rintro e w' ⟨rfl, rfl⟩; rw [HC.out]; obtain ⟨g, he, hbg, hgl, hcell, hfr⟩ := hown.form (by omega); have hx := hcell _ _ hget.out; have hfz := hfr C; clear hcell hfr; injection he with he; injection he with he; subst he))
      go_roundw
      case rel => exact ⟨k + 1, by omega, by go_num, by rw [hst.out]; unfold bump; rw [hgd.out]; exact hown.set_ C _ hCN, hW.setCell (Nat.le_refl _) _⟩
      case measure => simp [intOf]; omega
    · have he : k = M := by omega
      subst he
      go_wp2_with (first | (go_at_call 115; refine (spec_vwPower p 9 _ (by omega) (by omega) (by omega)).mono ?_; rintro e w' ⟨rfl, rfl⟩; rw [HM.out]))
      go_ret
      exact ⟨_, _, _, rfl, by rw [hR.out]; exact hown, hW⟩
end Go.Proofs.Ytglgaicbcackbaa
