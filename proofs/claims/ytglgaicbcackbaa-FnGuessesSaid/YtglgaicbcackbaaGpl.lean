/- Plain laws for FnGuesses: best guesses against ideal ones, digits summed up again, consistent inputs give the output.
   Conditions: none. -/
import Derived.Test.YtglgaicbcackbaaBgt
import Derived.Test.YtglgaicbcackbaaRao
import Derived.Test.YtglgaicbcackbaaIdg
namespace Go.Proofs.Ytglgaicbcackbaa
open Go.RowKit
set_option linter.unusedVariables false
theorem sum_bumpG (l : List Int) (c : Nat) (h : c < l.length) : (bump l c).sum = l.sum + 1 := by
  induction l generalizing c with
  | nil => simp at h
  | cons a l ih =>
    cases c with
    | zero => simp [bump]; omega
    | succ c =>
      have := ih c (by simpa using h)
      simp only [bump, List.getElem?_cons_succ, List.set_cons_succ, List.sum_cons] at this ⊢
      omega
theorem sum_tallyG (n : Nat) (f : Nat → Nat) (k : Nat) (hf : ∀ j, j < k → f j < n) : (tally n f k).sum = k := by
  induction k with
  | zero => simp [tally]
  | succ k ih =>
    rw [tally, sum_bumpG _ _ (by rw [tally_length]; exact hf k (by omega)), ih (fun j hj => hf j (by omega))]
    omega
theorem take_sum (a : List Int) (k : Nat) : (a.take (k + 1)).sum = (a.take k).sum + a[k]?.getD 0 := by
  rcases h : a[k]? with _ | x
  · rw [List.take_add_one, h]; simp
  · rw [List.take_add_one, h]; simp
theorem sumMax_le (a b : List Int) (ha : ∀ c : Nat, 0 ≤ a[c]?.getD 0) (hb : ∀ c : Nat, 0 ≤ b[c]?.getD 0) : ∀ k : Nat, (a.take k).sum ≤ sumMax a b k ∧ sumMax a b k ≤ (a.take k).sum + (b.take k).sum
  | 0 => by simp [sumMax]
  | k + 1 => by
    have ih := sumMax_le a b ha hb k
    have h1 := ha k
    have h2 := hb k
    rw [take_sum, take_sum, sumMax]
    omega
theorem sumMax_apart (a b : List Int) (h : ∀ c : Nat, a[c]?.getD 0 = 0 ∨ b[c]?.getD 0 = 0) (ha : ∀ c : Nat, 0 ≤ a[c]?.getD 0) (hb : ∀ c : Nat, 0 ≤ b[c]?.getD 0) : ∀ k : Nat, sumMax a b k = (a.take k).sum + (b.take k).sum
  | 0 => by simp [sumMax]
  | k + 1 => by
    have ih := sumMax_apart a b h ha hb k
    have h1 := ha k
    have h2 := hb k
    have h3 := h k
    rw [take_sum, take_sum, sumMax]
    omega
theorem sumMax_self (a : List Int) : ∀ k : Nat, sumMax a a k = (a.take k).sum
  | 0 => by simp [sumMax]
  | k + 1 => by
    have ih := sumMax_self a k
    rw [take_sum, sumMax]
    omega
theorem tally_pos (n : Nat) (f : Nat → Nat) (c : Nat) : ∀ k, (tally n f k)[c]?.getD 0 ≠ 0 → ∃ j, j < k ∧ f j = c
  | 0, h => by
    exfalso
    apply h
    simp only [tally]
    rw [List.getElem?_replicate]
    split <;> rfl
  | k + 1, h => by
    by_cases he : f k = c
    · exact ⟨k, by omega, he⟩
    · obtain ⟨j, hj, hf⟩ := tally_pos n f c k (by
        simp only [tally, bump, List.getElem?_set] at h
        rw [if_neg he] at h
        exact h)
      exact ⟨j, by omega, hf⟩
theorem tally_wide (n m : Nat) (f : Nat → Nat) (hf : ∀ j, f j < n) : ∀ k, tally (n + m) f k = tally n f k ++ List.replicate m 0
  | 0 => by simp [tally, List.replicate_append_replicate]
  | k + 1 => by
    have h := hf k
    have hl := tally_length n f k
    rw [tally, tally, tally_wide n m f hf k]
    unfold bump
    rw [List.set_append_left _ _ (by omega), List.getElem?_append_left (by omega)]
theorem vcF_inj (p : Int) (hp : 2 ≤ p) (l l' : List Int) (hl : ∀ z ∈ l, 0 ≤ z ∧ z < p) (hl' : ∀ z ∈ l', 0 ≤ z ∧ z < p) (hn : l.length = l'.length) (h : vcF p l = vcF p l') : l = l' := by
  have e1 := digs_code p hp l hl
  have e2 := digs_code p hp l' hl'
  rw [h, hn, e2] at e1
  exact e1.symm
theorem bgV_mem (q i : Int) (hi : 0 ≤ i ∧ i < 2) (o c : Nat) (ho : o ≤ 1) : (bgV q i o c).length = 11 ∧ ∀ z ∈ bgV q i o c, 0 ≤ z ∧ z < 2 := by
  have h := rvL_mem 2 (if q = 0 then i else o) (if q = 0 then (o : Int) else i) q (digs 2 c 9).1 (by omega) (by split <;> omega) (by split <;> omega) (digs_len 2 c 9) (digs_mem 2 c (by omega) 9)
  exact h
theorem bgC_inj (q i : Int) (hi : 0 ≤ i ∧ i < 2) (o o' c c' : Nat) (ho : o ≤ 1) (ho' : o' ≤ 1) (h : bgC q i o c = bgC q i o' c') : bgV q i o c = bgV q i o' c' := by
  have m := bgV_mem q i hi o c ho
  have m' := bgV_mem q i hi o' c' ho'
  have b := bgC_bd q i hi o c ho
  have b' := bgC_bd q i hi o' c' ho'
  exact vcF_inj 2 (by omega) _ _ m.2 m'.2 (m.1.trans m'.1.symm) (by omega)
/-- With the own input 1 the view tells the other's. -/
theorem apart_one (q : Int) (hq : q = 0 ∨ q = 1) (c c' : Nat) : bgV q 1 0 c ≠ bgV q 1 1 c' := by
  intro h
  unfold bgV at h
  rw [rv_sv 2 _ _ q _ (digs_len 2 c 9) hq, rv_sv 2 _ _ q _ (digs_len 2 c' 9) hq] at h
  have l1 := (sg_mem 2 (if q = 0 then 1 else ((0 : Nat) : Int)) (if q = 0 then ((0 : Nat) : Int) else 1) q (by omega) _ (digs_len 2 c 9) (digs_mem 2 c (by omega) 9)).1
  have l2 := (sg_mem 2 (if q = 0 then 1 else ((1 : Nat) : Int)) (if q = 0 then ((1 : Nat) : Int) else 1) q (by omega) _ (digs_len 2 c' 9) (digs_mem 2 c' (by omega) 9)).1
  generalize sg 2 (if q = 0 then 1 else ((0 : Nat) : Int)) (if q = 0 then ((0 : Nat) : Int) else 1) q (digs 2 c 9).1 = s at h l1
  generalize sg 2 (if q = 0 then 1 else ((1 : Nat) : Int)) (if q = 0 then ((1 : Nat) : Int) else 1) q (digs 2 c' 9).1 = s' at h l2
  obtain ⟨r0, r1, r2, r3, r4, r5, r6, r7, r8, rfl⟩ := nine l1
  obtain ⟨t0, t1, t2, t3, t4, t5, t6, t7, t8, rfl⟩ := nine l2
  have hm : ∀ E : Int, ¬ (0 - E) % 2 = (1 - E) % 2 := fun E => by omega
  rcases hq with rfl | rfl
  all_goals
    simp only [svL, smR, List.cons.injEq, and_true] at h
    obtain ⟨_, rfl, rfl, rfl, rfl, rfl, rfl, rfl, rfl, rfl, hz⟩ := h
    unfold smZ at hz
    exact hm _ (by simpa using hz)
/-- With the other's mask the view tells the other's input. -/
theorem apart_three (q i : Int) (hq : q = 0 ∨ q = 1) (c c' : Nat) : ¬ (bgV q i 0 c = bgV q i 1 c' ∧ exF q 3 (digs 2 c 9).1 = exF q 3 (digs 2 c' 9).1) := by
  rintro ⟨h, h'⟩
  unfold bgV at h
  have l1 := digs_len 2 c 9
  have l2 := digs_len 2 c' 9
  have m1 := digs_mem 2 c (by omega) 9
  have m2 := digs_mem 2 c' (by omega) 9
  generalize (digs 2 c 9).1 = s at *
  generalize (digs 2 c' 9).1 = s' at *
  obtain ⟨r0, r1, r2, r3, r4, r5, r6, r7, r8, rfl⟩ := nine l1
  obtain ⟨t0, t1, t2, t3, t4, t5, t6, t7, t8, rfl⟩ := nine l2
  rcases hq with rfl | rfl
  · simp only [rvL, vw0, exF, List.cons.injEq, if_pos] at h h'
    obtain ⟨_, _, _, _, _, _, _, h7, _⟩ := h
    simp at h7 h'
    omega
  · simp only [rvL, Int.one_ne_zero, if_false, vw1, List.cons.injEq] at h
    obtain ⟨_, _, _, _, _, _, _, h7, _⟩ := h
    simp [exF] at h'
    simp at h7
    omega
theorem bg_apart (q i e : Int) (hi : 0 ≤ i ∧ i < 2) (hd : ∀ c c' : Nat, bgS q i e 0 c ≠ bgS q i e 1 c') : sumMax (tally 4096 (bgS q i e 0) 512) (tally 4096 (bgS q i e 1) 512) 4096 = 1024 := by
  have b0 := fun j => (bgI_rho q i e hi 0 j (by omega)).2
  have b1 := fun j => (bgI_rho q i e hi 1 j (by omega)).2
  rw [sumMax_apart _ _ (fun c => ?_) (fun c => (tally_bd _ _ _ c).1) (fun c => (tally_bd _ _ _ c).1)]
  · rw [List.take_of_length_le (by rw [tally_length]; omega), List.take_of_length_le (by rw [tally_length]; omega), sum_tallyG _ _ _ (fun j _ => b0 j), sum_tallyG _ _ _ (fun j _ => b1 j)]
    rfl
  · rcases Decidable.em ((tally 4096 (bgS q i e 0) 512)[c]?.getD 0 = 0) with h | h
    · exact .inl h
    · refine .inr (Decidable.byContradiction fun h2 => ?_)
      obtain ⟨j, _, e1⟩ := tally_pos _ _ _ _ h
      obtain ⟨j', _, e2⟩ := tally_pos _ _ _ _ h2
      exact hd j j' (e1.trans e2.symm)
theorem bgS_inj (q i e : Int) (hi : 0 ≤ i ∧ i < 2) (o o' c c' : Nat) (ho : o ≤ 1) (ho' : o' ≤ 1) (h : bgS q i e o c = bgS q i e o' c') : bgV q i o c = bgV q i o' c' ∧ exF q e (digs 2 c 9).1 = exF q e (digs 2 c' 9).1 := by
  have b := bgC_bd q i hi o c ho
  have b' := bgC_bd q i hi o' c' ho'
  have x := bgE_bd q e c
  have x' := bgE_bd q e c'
  unfold bgS at h
  exact ⟨bgC_inj q i hi o o' c c' ho ho' (by omega), by omega⟩
theorem bg_equal (q : Int) (hq : q = 0 ∨ q = 1) : tally 4096 (bgS q 0 0 0) 512 = tally 4096 (bgS q 0 0 1) 512 := by
  have hE : ∀ o : Nat, bgS q 0 0 o = bgC q 0 o := fun o => funext fun c => by
    unfold bgS bgE exF
    split <;> simp
  have hC : ∀ o : Nat, o ≤ 1 → tally 2048 (bgC q 0 o) 512 = cntN 2 (fun code : Nat => svL 2 q 0 0 (digs 2 code 9).1) := fun o ho => by
    have h := cnt_equal 2 (if q = 0 then 0 else (o : Int)) (if q = 0 then (o : Int) else 0) q (.inl rfl) hq
    have e1 : (if q = 0 then (if q = 0 then 0 else (o : Int)) else (if q = 0 then (o : Int) else 0)) = 0 := by split <;> rfl
    have e2 : (if q = 0 then 0 else (o : Int)) * (if q = 0 then (o : Int) else 0) % 2 = 0 := by split <;> simp
    rw [e1, e2] at h
    rw [← h]
    have p1 : (pw 2 11).toNat = 2048 := by decide
    have p2 : (pw 2 9).toNat = 512 := by decide
    unfold cntN
    rw [p1, p2]
    rfl
  have w0 := tally_wide 2048 2048 (bgC q 0 0) (fun j => (bgC_bd q 0 (by omega) 0 j (by omega)).2) 512
  have w1 := tally_wide 2048 2048 (bgC q 0 1) (fun j => (bgC_bd q 0 (by omega) 1 j (by omega)).2) 512
  rw [hE, hE]
  refine w0.trans (Eq.trans ?_ w1.symm)
  rw [hC 0 (by omega), hC 1 (by omega)]
theorem bg_facts (q i e : Int) (h : bgB q i e = true) : igB q i = true ∧ igR q i ≤ bgR q i e ∧ bgR q i e ≤ 1024 ∧ (e = 0 → bgR q i e = igR q i) ∧ (e = 3 → bgR q i e = 1024) ∧ (0 ≤ e ∧ e ≤ 3) := by
  have hR : bgR q i e = sumMax (tally 4096 (bgS q i e 0) 512) (tally 4096 (bgS q i e 1) 512) 4096 := by unfold bgR; rw [if_pos h]
  simp only [bgB, Bool.and_eq_true] at h
  have a := inR_iff.1 h.1.1
  have b := inR_iff.1 h.1.2
  have d := inR_iff.1 h.2
  have hI : igB q i = true := by unfold igB; rw [h.1.1, h.1.2]; rfl
  have hi : 0 ≤ i ∧ i < 2 := by omega
  have hq : q = 0 ∨ q = 1 := by omega
  have b0 := fun j => (bgI_rho q i e hi 0 j (by omega)).2
  have b1 := fun j => (bgI_rho q i e hi 1 j (by omega)).2
  have hle := sumMax_le (tally 4096 (bgS q i e 0) 512) (tally 4096 (bgS q i e 1) 512) (fun c => (tally_bd _ _ _ c).1) (fun c => (tally_bd _ _ _ c).1) 4096
  rw [List.take_of_length_le (by rw [tally_length]; omega), List.take_of_length_le (by rw [tally_length]; omega), sum_tallyG _ _ _ (fun j _ => b0 j), sum_tallyG _ _ _ (fun j _ => b1 j), ← hR] at hle
  have hg : igR q i = if i = 0 then 512 else 1024 := by unfold igR; rw [if_pos hI]
  have h3 : e = 3 → bgR q i e = 1024 := by
    rintro rfl
    rw [hR]
    refine bg_apart q i 3 hi fun c c' he => ?_
    exact apart_three q i hq c c' (bgS_inj q i 3 hi 0 1 c c' (by omega) (by omega) he)
  have h1 : i = 1 → bgR q i e = 1024 := by
    rintro rfl
    rw [hR]
    refine bg_apart q 1 e hi fun c c' he => ?_
    exact apart_one q hq c c' (bgS_inj q 1 e hi 0 1 c c' (by omega) (by omega) he).1
  have h0 : i = 0 → e = 0 → bgR q i e = 512 := by
    rintro rfl rfl
    rw [hR, ← bg_equal q hq, sumMax_self, List.take_of_length_le (by rw [tally_length]; omega), sum_tallyG _ _ _ (fun j _ => b0 j)]
    rfl
  refine ⟨hI, ?_, by omega, fun he => ?_, h3, d⟩
  · rw [hg]
    split
    · omega
    · have := h1 (by omega); omega
  · rw [hg]
    split
    · rename_i hz; exact h0 hz he
    · exact h1 (by omega)
theorem raR_facts (p c : Int) (h : raB p c = true) : (2 ≤ p ∧ p ≤ 7) ∧ raR p c = (digs p c 9).1 ∧ (raR p c).length = 9 ∧ (∀ z ∈ raR p c, 0 ≤ z ∧ z < p) ∧ vcF p (raR p c) = c := by
  have hR : raR p c = (digs p c 9).1 := by unfold raR; rw [if_pos h]
  simp only [raB, Bool.and_eq_true] at h
  have hp := smallB_bd h.1
  have hc := inR_iff.1 h.2
  rw [hR]
  exact ⟨hp, rfl, digs_len p c 9, digs_mem p c (by omega) 9, code_digs p hp.1 9 c hc.1 (by omega)⟩
theorem vcF_take {p x : Int} {l : List Int} {k : Nat} (h : l[k]? = some x) : vcF p (l.take (k + 1)) = vcF p (l.take k) + x * pw p k := by
  have hk : k < l.length := (List.getElem?_eq_some_iff.1 h).1
  rw [List.take_add_one, h]
  show vcF p (l.take k ++ [x]) = _
  rw [vcF_snoc, List.length_take, Nat.min_eq_left (by omega), Int.mul_comm]
theorem consR_mem (p party i o : Int) (hB : consB p party i o = true) : ∀ v ∈ consR p party i o, (2 ≤ p ∧ p ≤ 251) ∧ (0 ≤ i ∧ i < p) ∧ (0 ≤ v ∧ v < p) ∧ i * v % p = o := by
  intro v hv
  unfold consR at hv
  rw [if_pos hB] at hv
  simp only [consB, Bool.and_eq_true] at hB
  have hp := primeB_bd hB.1.1.1
  have hi := inR_iff.1 hB.1.1.2
  have H : ∀ k : Nat, v ∈ consL p i o k → (0 ≤ v ∧ v < (k : Int)) ∧ i * v % p = o := by
    intro k
    induction k with
    | zero => intro h; simp [consL] at h
    | succ k ih =>
      intro h
      simp only [consL, List.mem_append] at h
      rcases h with h | h
      · have := ih h; exact ⟨by omega, this.2⟩
      · split at h
        · rename_i he
          rw [List.mem_singleton] at h
          subst h
          exact ⟨by omega, he⟩
        · simp at h
  have := H _ hv
  exact ⟨hp, by omega, by omega, this.2⟩
end Go.Proofs.Ytglgaicbcackbaa
