/- Plain laws for FnViews: a real view is simulated from its own entries, and the counts are those of the simulation and come to 512.
   Conditions: none. -/
import Derived.Test.YtglgaicbcackbaaVsm
namespace Go.Proofs.Ytglgaicbcackbaa
open Go.RowKit
set_option linter.unusedVariables false
theorem allR_of {l : List Int} {lo hi : Int} (h : ∀ z ∈ l, lo ≤ z ∧ z ≤ hi) : allR l lo hi = true := List.all_eq_true.2 fun z hz => inR_iff.2 (h z hz)
theorem view_get (p x y q : Int) (l : List Int) (h : rvB p x y q l = true) : ∃ own s0 s1 s2 s3 s4 s5 s6 s7 s8 z, rvR p x y q l = [own, s0, s1, s2, s3, s4, s5, s6, s7, s8, z] ∧ own = (if q = 0 then x else y) ∧
    rvB p own (x * y % p) q [s0, s1, s2, s3, s4, s5, s6, s7, s8] = true ∧ svR p q own (x * y % p) [s0, s1, s2, s3, s4, s5, s6, s7, s8] = [own, s0, s1, s2, s3, s4, s5, s6, s7, s8, z] := by
  obtain ⟨hp2, hp251, hx0, hx1, hy0, hy1, hq, hl, hall, harc, hex, hey, hq'⟩ := rvB_facts h
  have hs := sg_mem p x y q hp2 l hl hall
  have hrs := rv_sv p x y q l hl hq
  generalize sg p x y q l = s at hs hrs
  obtain ⟨s0, s1, s2, s3, s4, s5, s6, s7, s8, rfl⟩ := nine hs.1
  have hR : rvR p x y q l = rvL p x y q l := by unfold rvR; rw [if_pos h]
  have hpr : primeB p = true := by simp only [elemB, Bool.and_eq_true] at hex; exact hex.1
  have ho : 0 ≤ (if q = 0 then x else y) ∧ (if q = 0 then x else y) < p := by split <;> omega
  have hm := md_bd (x * y) hp2
  have hB : rvB p (if q = 0 then x else y) (x * y % p) q [s0, s1, s2, s3, s4, s5, s6, s7, s8] = true := by
    have e1 : elemB p (if q = 0 then x else y) = true := by unfold elemB; rw [hpr, inR_iff.2 ⟨ho.1, by omega⟩]; rfl
    have e2 : elemB p (x * y % p) = true := by unfold elemB; rw [hpr, inR_iff.2 ⟨hm.1, by omega⟩]; rfl
    have e3 : allR [s0, s1, s2, s3, s4, s5, s6, s7, s8] 0 (p - 1) = true := allR_of fun z hz => by have := hs.2 z hz; omega
    unfold rvB arcB elemsB
    rw [e1, e2, e3, hpr, hq']
    rfl
  have hS : svR p q (if q = 0 then x else y) (x * y % p) [s0, s1, s2, s3, s4, s5, s6, s7, s8] = svL p q (if q = 0 then x else y) (x * y % p) [s0, s1, s2, s3, s4, s5, s6, s7, s8] := by unfold svR; rw [if_pos hB]
  exact ⟨_, s0, s1, s2, s3, s4, s5, s6, s7, s8, _, hR.trans (hrs.trans rfl), rfl, hB, hS.trans rfl⟩
theorem sum_bumpV (l : List Int) (c : Nat) (h : c < l.length) : (bump l c).sum = l.sum + 1 := by
  induction l generalizing c with
  | nil => simp at h
  | cons a l ih =>
    cases c with
    | zero => simp [bump]; omega
    | succ c =>
      have := ih c (by simpa using h)
      simp only [bump, List.getElem?_cons_succ, List.set_cons_succ, List.sum_cons] at this ⊢
      omega
theorem sum_tallyV (n : Nat) (f : Nat → Nat) (k : Nat) (hf : ∀ j, j < k → f j < n) : (tally n f k).sum = k := by
  induction k with
  | zero => simp [tally]
  | succ k ih =>
    rw [tally, sum_bumpV _ _ (by rw [tally_length]; exact hf k (by omega)), ih (fun j hj => hf j (by omega))]
    omega
theorem counts_get (x y q : Int) (h : rcB x y q = true) : ∃ own L, own = (if q = 0 then x else y) ∧ rcR x y q = L ∧ rcB q own (x * y % 2) = true ∧ scR q own (x * y % 2) = L ∧ L.sum = 512 ∧ L.length = 2048 ∧ ∀ z ∈ L, 0 ≤ z ∧ z ≤ 512 := by
  obtain ⟨hx, hy, hq, hx', hy', hq'⟩ := rcB_facts h
  have ho : (0 : Int) ≤ (if q = 0 then x else y) ∧ (if q = 0 then x else y) ≤ 1 := by split <;> omega
  have hm := md_bd (x * y) (p := 2) (by omega)
  have hB : rcB q (if q = 0 then x else y) (x * y % 2) = true := by
    unfold rcB
    rw [hq', inR_iff.2 ho, inR_iff.2 ⟨hm.1, by omega⟩]
    rfl
  have e1 : rcR x y q = cntN 2 (fun code : Nat => rvL 2 x y q (digs 2 code 9).1) := by unfold rcR; rw [if_pos h]
  have e2 : scR q (if q = 0 then x else y) (x * y % 2) = cntN 2 (fun code : Nat => svL 2 q (if q = 0 then x else y) (x * y % 2) (digs 2 code 9).1) := by unfold scR; rw [if_pos hB]
  refine ⟨_, _, rfl, rfl, hB, ?_, ?_, ?_, ?_⟩
  · rw [e1, e2, cnt_equal 2 x y q (.inl rfl) hq]
  · rw [e1]
    unfold cntN
    rw [sum_tallyV _ _ _ (fun k hk => ?_)]
    · decide
    · have hv := elev_code (p := 2) (l := rvL 2 x y q (digs 2 k 9).1) (rvL_mem 2 x y q _ (by omega) (by omega) (by omega) (digs_len 2 k 9) (digs_mem 2 k (by omega) 9)) (by omega)
      dsimp only
      omega
  · rw [e1]
    unfold cntN
    rw [tally_length]
    decide
  · rw [e1]
    unfold cntN
    intro z hz
    obtain ⟨c, hc, rfl⟩ := List.mem_iff_getElem.1 hz
    have := tally_bd (pw 2 11).toNat (fun code => (vcF 2 (rvL 2 x y q (digs 2 code 9).1)).toNat) (pw 2 9).toNat c
    rw [List.getElem?_eq_getElem hc, Option.getD_some] at this
    have e9 : ((pw 2 9).toNat : Int) = 512 := by decide
    omega
end Go.Proofs.Ytglgaicbcackbaa
