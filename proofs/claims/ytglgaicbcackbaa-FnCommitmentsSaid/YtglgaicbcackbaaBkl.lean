/- Plain laws for FnBroken: found blinds open the mark, a clash is a clash, coins over all values are as many as the runs.
   Conditions: none. -/
import Derived.Test.YtglgaicbcackbaaBli
import Derived.Test.YtglgaicbcackbaaFcl
import Derived.Test.YtglgaicbcackbaaCco
namespace Go.Proofs.Ytglgaicbcackbaa
open Go.RowKit
set_option linter.unusedVariables false
theorem blindsL_mem (p v m : Int) (k : Nat) : ∀ b ∈ blindsL p v m k, markF p v b = m ∧ 0 ≤ b ∧ b < k := by
  induction k with
  | zero => simp [blindsL]
  | succ k ih =>
    intro b hb
    unfold blindsL at hb
    rcases List.mem_append.1 hb with h | h
    · have := ih b h; omega
    · by_cases hk : markF p v k = m
      · rw [if_pos hk, List.mem_singleton] at h
        subst h
        exact ⟨hk, by omega, by omega⟩
      · rw [if_neg hk] at h; exact absurd h (by simp)
theorem blindsR_mem (p v m q : Int) : ∀ b ∈ blindsR p v m q, comB p v b = true ∧ comF p v b = m := by
  intro b hb
  unfold blindsR at hb
  split at hb
  · rename_i h
    simp only [blindsB, Bool.and_eq_true] at h
    have h4 := inR_iff.1 h.2
    have hm := blindsL_mem p v m _ b hb
    have hc : comB p v b = true := by
      unfold comB
      rw [h.1.1.1, h.1.1.2, inR_iff.2 ⟨hm.2.1, by omega⟩]
      rfl
    exact ⟨hc, by unfold comF; rw [if_pos hc]; exact hm.1⟩
  · exact absurd hb (by simp)
theorem place_get {l : List Int} {v : Int} {y : Nat} (h : place l v = some y) : l[y]? = some v := by
  unfold place at h
  rw [List.findIdx?_eq_some_iff_getElem] at h
  obtain ⟨hy, hv, _⟩ := h
  rw [List.getElem?_eq_getElem hy]
  simpa using hv
theorem clash_get (p a b : Int) (n f x : Nat) (u v : Int) (h : clash (clashL p b n) p a f x = (u, v, true)) :
    markF p a u = markF p b v ∧ 0 ≤ u ∧ u < x + f ∧ 0 ≤ v ∧ v < n := by
  induction f generalizing x with
  | zero => simp [clash] at h
  | succ f ih =>
    rcases hp : place (clashL p b n) (markF p a x) with _ | y
    · rw [clash_none hp] at h
      have := ih (x + 1) h
      omega
    · rw [clash_some hp] at h
      injection h with h1 h2
      injection h2 with h2 _
      subst h1 h2
      have hg := place_get hp
      have hy : y < n := by
        have := (List.getElem?_eq_some_iff.1 hg).1
        rwa [clashL_len] at this
      unfold clashL at hg
      rw [List.getElem?_map, List.getElem?_range hy] at hg
      injection hg with hg
      exact ⟨hg.symm, by omega, by omega, by omega, by omega⟩
theorem fcR_get (p a b q : Int) (h : (fcR p a b q).2.2 = true) :
    comB p a (fcR p a b q).1 = true ∧ comB p b (fcR p a b q).2.1 = true ∧ comF p a (fcR p a b q).1 = comF p b (fcR p a b q).2.1 := by
  unfold fcR at h ⊢
  split at h
  · rename_i hB
    rw [if_pos hB]
    simp only [fcB, Bool.and_eq_true] at hB
    have h5 := inR_iff.1 hB.2
    generalize hr : clash (clashL p b (q.toNat + 1)) p a (q.toNat + 1) 0 = r at h ⊢
    obtain ⟨u, v, o⟩ := r
    dsimp only at h ⊢
    subst h
    have hg := clash_get p a b _ _ _ u v hr
    have hu : comB p a u = true := by unfold comB; rw [hB.1.1.1.1, hB.1.1.1.2, inR_iff.2 ⟨hg.2.1, by omega⟩]; rfl
    have hv : comB p b v = true := by unfold comB; rw [hB.1.1.1.1, hB.1.1.2, inR_iff.2 ⟨hg.2.2.2.1, by omega⟩]; rfl
    exact ⟨hu, hv, by unfold comF; rw [if_pos hu, if_pos hv]; exact hg.1⟩
  · exact absurd h (by simp)
theorem sum_bump (l : List Int) (c : Nat) (h : c < l.length) : (bump l c).sum = l.sum + 1 := by
  induction l generalizing c with
  | nil => simp at h
  | cons a l ih =>
    cases c with
    | zero => simp [bump]; omega
    | succ c =>
      have := ih c (by simpa using h)
      simp only [bump, List.getElem?_cons_succ, List.set_cons_succ, List.sum_cons] at this ⊢
      omega
theorem sum_tally (n : Nat) (f : Nat → Nat) (hf : ∀ k, f k < n) (k : Nat) : (tally n f k).sum = k := by
  induction k with
  | zero => simp [tally]
  | succ k ih =>
    rw [tally, sum_bump _ _ (by rw [tally_length]; exact hf k), ih]
    omega
theorem ccR_sum (n f k r : Int) (h : ccB n f k r = true) : (ccR n f k r).sum = r ∧ ((ccR n f k r).length : Int) = n ∧ ∀ z ∈ ccR n f k r, 0 ≤ z ∧ z ≤ 200 := by
  unfold ccR
  rw [if_pos h]
  simp only [ccB, Bool.and_eq_true] at h
  have h1 := inR_iff.1 h.1.1.1
  have h4 := inR_iff.1 h.2
  refine ⟨?_, ?_, ?_⟩
  · rw [sum_tally _ _ (fun v => by have := coinAt_bd n f k v (by omega); omega)]
    omega
  · rw [tally_length]; omega
  · intro z hz
    obtain ⟨c, hc, rfl⟩ := List.mem_iff_getElem.1 hz
    have := tally_bd n.toNat (fun v => (coinAt n f k v).toNat) r.toNat c
    rw [List.getElem?_eq_getElem hc] at this
    simp only [Option.getD_some] at this
    omega
end Go.Proofs.Ytglgaicbcackbaa
