/- Plain laws for FnCommitments: a sealed value is good and true, coins come without faults, faults of two against the fault of both.
   Conditions: none. -/
import Derived.Test.YtglgaicbcackbaaFau
import Derived.Test.YtglgaicbcackbaaSeh
namespace Go.Proofs.Ytglgaicbcackbaa
open Go.RowKit
set_option linter.unusedVariables false
theorem sealed_good (p v k : Int) (h : comB p v k = true) :
    goodB p (markF p v (blindF p v k)) v (blindF p v k) true = true ∧ trueB p (markF p v (blindF p v k)) v (blindF p v k) true = true ∧
    comB p v (blindF p v k) = true ∧ comF p v (blindF p v k) = markF p v (blindF p v k) := by
  have hm := markF_bd p v (blindF p v k)
  have hb := blindF_bd p v k
  simp only [comB, Bool.and_eq_true] at h
  have h1 := inR_iff.2 hm
  have h2 : inR (blindF p v k) 0 1000000000 = true := inR_iff.2 ⟨hb.1, by omega⟩
  have hc : comB p v (blindF p v k) = true := by unfold comB; rw [h.1.1, h.1.2, h2]; rfl
  refine ⟨?_, ?_, hc, ?_⟩
  · unfold goodB; rw [h.1.1, h.1.2, h1, h2]; rfl
  · unfold trueB; simp
  · unfold comF; rw [if_pos hc]
theorem coin_fine (p m v b : Int) (o : Bool) (p' m' v' b' : Int) (o' : Bool) (n : Int) (h : coinB p m v b o p' m' v' b' o' n = true) :
    pairB p m v b o p' m' v' b' o' = true ∧ whoF p m v b o p' m' v' b' o' = 0 ∧ 0 ≤ coinF p m v b o p' m' v' b' o' n ∧ coinF p m v b o p' m' v' b' o' n < n := by
  have hc : coinF p m v b o p' m' v' b' o' n = (v + v') % n := by unfold coinF; rw [if_pos h]
  simp only [coinB, Bool.and_eq_true, Bool.not_eq_true'] at h
  obtain ⟨⟨⟨h1, h2⟩, h3⟩, h4⟩ := h
  have hn := inR_iff.1 h4
  refine ⟨h1, ?_, ?_, ?_⟩
  · unfold whoF faultN; simp [h1, h2, h3]
  · rw [hc]; exact Int.emod_nonneg _ (by omega)
  · rw [hc]; exact Int.emod_lt_of_pos _ (by omega)
theorem faults_two (p m v b : Int) (o : Bool) (p' m' v' b' : Int) (o' : Bool) (h : pairB p m v b o p' m' v' b' o' = true) :
    foB [⟨p, m, v, b, o⟩, ⟨p', m', v', b', o'⟩] = true ∧ ∃ x y, foR [⟨p, m, v, b, o⟩, ⟨p', m', v', b', o'⟩] = [x, y] ∧ (x = 0 ∨ x = 1) ∧ (y = 0 ∨ y = 1) ∧ whoF p m v b o p' m' v' b' o' = x + 2 * y := by
  have hp := h
  simp only [pairB, Bool.and_eq_true, beq_iff_eq] at h
  obtain ⟨⟨⟨h1, h2⟩, rfl⟩, rfl⟩ := h
  have hf : foB [⟨0, m, v, b, o⟩, ⟨1, m', v', b', o'⟩] = true := by
    simp [foB, Sea.good, h1, h2]
  refine ⟨hf, faultN 0 m v b o, faultN 1 m' v' b' o', ?_, ?_, ?_, ?_⟩
  · simp [foR, hf, tallyS, Sea.fault]
  · unfold faultN; split <;> simp
  · unfold faultN; split <;> simp
  · unfold whoF; simp [hp]
end Go.Proofs.Ytglgaicbcackbaa
