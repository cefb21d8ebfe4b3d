/- Plain laws for AndLayers: layers of gates, how they grow, and that no layer in between is empty.
   Conditions: none. -/
import Derived.Test.YtlmlffiajgofeaaCid
namespace Go.Proofs.Ytlmlffiajgofeaa
open Go.RowKit
set_option linter.unusedVariables false
/-- The gates GtAnd with depth j among the first k. -/
def lay (N : Nat) (L : List Int) (gl : List Gt) (j : Nat) : Nat → List Int
  | 0 => []
  | k + 1 => lay N L gl j k ++ if (gl[k]?.getD Gt.zero).k = 1 ∧ L[N + k]?.getD 0 = (j : Int) then [(k : Int)] else []
def LLk (N : Nat) (L : List Int) (gl : List Gt) (k m : Nat) : List (List Int) := (List.range m).map fun j => lay N L gl (j + 1) k
theorem lay_y {N : Nat} {L : List Int} {gl : List Gt} {k j : Nat} {x y : Int} (h : gl[k]? = some ⟨1, x, y⟩) (hv : L[N + k]? = some (j : Int)) : lay N L gl j (k + 1) = lay N L gl j k ++ [(k : Int)] := by simp [lay, h, hv]
theorem lay_n {N : Nat} {L : List Int} {gl : List Gt} {k j : Nat} {K x y v : Int} (h : gl[k]? = some ⟨K, x, y⟩) (hv : L[N + k]? = some v) (hn : ¬ (K = 1 ∧ v = j)) : lay N L gl j (k + 1) = lay N L gl j k := by
  simp only [lay, h, hv, Option.getD_some]
  rw [if_neg hn, List.append_nil]
theorem lay_kind {N : Nat} {L : List Int} {gl : List Gt} {k j : Nat} {K x y : Int} (h : gl[k]? = some ⟨K, x, y⟩) (hn : ¬ K = 1) : lay N L gl j (k + 1) = lay N L gl j k := by
  simp only [lay, h, Option.getD_some]
  rw [if_neg (fun e => hn e.1), List.append_nil]
theorem lay_len (N : Nat) (L : List Int) (gl : List Gt) (j k : Nat) : (lay N L gl j k).length ≤ k := by
  induction k with
  | zero => simp [lay]
  | succ k ih => simp only [lay, List.length_append]; split <;> simp <;> omega
theorem LLk_len (N : Nat) (L : List Int) (gl : List Gt) (k m : Nat) : (LLk N L gl k m).length = m := by simp [LLk]
theorem LLk_get (N : Nat) (L : List Int) (gl : List Gt) (k m j : Nat) (h : j < m) : (LLk N L gl k m)[j]? = some (lay N L gl (j + 1) k) := by
  unfold LLk; rw [List.getElem?_map, List.getElem?_range h]; rfl
theorem LLk_kind {N : Nat} {L : List Int} {gl : List Gt} {k m : Nat} {K x y : Int} (h : gl[k]? = some ⟨K, x, y⟩) (hn : ¬ K = 1) : LLk N L gl (k + 1) m = LLk N L gl k m := by
  unfold LLk
  exact List.map_congr_left fun j _ => lay_kind h hn
theorem LLk_set {N : Nat} {L : List Int} {gl : List Gt} {k m e : Nat} {x y : Int} (h : gl[k]? = some ⟨1, x, y⟩) (hv : L[N + k]? = some ((e + 1 : Nat) : Int)) (he : e < m) : LLk N L gl (k + 1) m = (LLk N L gl k m).set e (lay N L gl (e + 1) k ++ [(k : Int)]) := by
  apply List.ext_getElem?
  intro j
  rcases Nat.lt_or_ge j m with hj | hj
  · rw [LLk_get _ _ _ _ _ _ hj]
    by_cases hje : j = e
    · subst hje
      rw [List.getElem?_set_self (by rw [LLk_len]; exact he), lay_y h hv]
    · rw [List.getElem?_set_ne (Ne.symm hje), LLk_get _ _ _ _ _ _ hj, lay_n h hv (by omega)]
  · rw [List.getElem?_eq_none (by rw [LLk_len]; exact hj), List.getElem?_eq_none (by rw [List.length_set, LLk_len]; exact hj)]
theorem LLk_pad {N : Nat} {L : List Int} {gl : List Gt} {k m : Nat} (h : lay N L gl (m + 1) k = []) : LLk N L gl k (m + 1) = LLk N L gl k m ++ [[]] := by
  unfold LLk
  rw [List.range_succ, List.map_append, List.map_singleton, h]
theorem LLk_snoc (N : Nat) (L : List Int) (gl : List Gt) (k m : Nat) : LLk N L gl k (m + 1) = LLk N L gl k m ++ [lay N L gl (m + 1) k] := by
  unfold LLk
  rw [List.range_succ, List.map_append, List.map_singleton]
theorem lay_mem {N : Nat} {L : List Int} {gl : List Gt} {j k n : Nat} {x y : Int} (h : gl[k]? = some ⟨1, x, y⟩) (hv : L[N + k]? = some (j : Int)) (hk : k < n) : lay N L gl j n ≠ [] := by
  induction n with
  | zero => omega
  | succ n ih =>
    intro he
    simp only [lay, List.append_eq_nil_iff] at he
    by_cases hkn : k = n
    · subst hkn
      have := he.2
      simp [h, hv] at this
    · exact ih (by omega) he.1
theorem lay_none {N : Nat} {L : List Int} {gl : List Gt} {j n : Nat} (h : lay N L gl j n ≠ []) : ∃ k, k < n ∧ (gl[k]?.getD Gt.zero).k = 1 ∧ L[N + k]?.getD 0 = (j : Int) := by
  induction n with
  | zero => exact absurd rfl h
  | succ n ih =>
    by_cases h1 : lay N L gl j n = []
    · simp only [lay, h1, List.nil_append] at h
      split at h
      · rename_i h2; exact ⟨n, by omega, h2.1, h2.2⟩
      · exact absurd rfl h
    · obtain ⟨k, hk, h2⟩ := ih h1
      exact ⟨k, by omega, h2⟩
/-- How many layers there are. -/
def IsTop (N : Nat) (L : List Int) (gl : List Gt) (n m : Nat) : Prop := (∀ j, m < j → lay N L gl j n = []) ∧ ∀ j, 1 ≤ j → j ≤ m → lay N L gl j n ≠ []
theorem adL_get (N : Nat) (gl : List Gt) (n k : Nat) (h : k < n) : (adL N gl n)[N + k]? = some (depG (adL N gl k) (gl[k]?.getD Gt.zero)) := by
  induction n with
  | zero => omega
  | succ n ih =>
    simp only [adL]
    by_cases hk : k = n
    · subst hk
      rw [← adL_length N gl k, List.getElem?_concat_length]
    · rw [List.getElem?_append_left (by rw [adL_length]; omega)]
      exact ih (by omega)
theorem depMax_mem (L ps : List Int) : depMax L ps = 0 ∨ depMax L ps ∈ L := by
  unfold depMax
  suffices H : ∀ (ps : List Int) (m : Int), (m = 0 ∨ m ∈ L) → ps.foldl (fun m x => max m (L[x.toNat]?.getD 0)) m = 0 ∨ ps.foldl (fun m x => max m (L[x.toNat]?.getD 0)) m ∈ L from H ps 0 (.inl rfl)
  intro ps
  induction ps with
  | nil => intro m h; exact h
  | cons x ps ih =>
    intro m h
    refine ih _ ?_
    rcases hx : L[x.toNat]? with _ | y
    · show max m (L[x.toNat]?.getD 0) = 0 ∨ max m (L[x.toNat]?.getD 0) ∈ L
      rw [hx, Option.getD_none]
      rcases Int.le_total m 0 with h1 | h1
      · rw [Int.max_eq_right h1]; exact .inl rfl
      · rw [Int.max_eq_left h1]; exact h
    · show max m (L[x.toNat]?.getD 0) = 0 ∨ max m (L[x.toNat]?.getD 0) ∈ L
      rw [hx, Option.getD_some]
      rcases Int.le_total m y with h1 | h1
      · rw [Int.max_eq_right h1]; exact .inr (List.mem_of_getElem? hx)
      · rw [Int.max_eq_left h1]; exact h
theorem adL_cont (N : Nat) (gl : List Gt) : ∀ k v, v ∈ adL N gl k → ∀ e : Nat, 1 ≤ e → (e : Int) ≤ v → ∃ i, i < k ∧ (gl[i]?.getD Gt.zero).k = 1 ∧ (adL N gl k)[N + i]? = some (e : Int) := by
  intro k
  induction k with
  | zero => intro v hv e h1 h2; have := List.eq_of_mem_replicate hv; omega
  | succ k ih =>
    intro v hv e h1 h2
    have lift : (∃ i, i < k ∧ (gl[i]?.getD Gt.zero).k = 1 ∧ (adL N gl k)[N + i]? = some (e : Int)) → ∃ i, i < k + 1 ∧ (gl[i]?.getD Gt.zero).k = 1 ∧ (adL N gl (k + 1))[N + i]? = some (e : Int) := by
      rintro ⟨i, hi, hk, hx⟩
      refine ⟨i, by omega, hk, ?_⟩
      simp only [adL]
      rw [List.getElem?_append_left (by rw [adL_length]; omega)]
      exact hx
    simp only [adL, List.mem_append, List.mem_singleton] at hv
    rcases hv with hv | rfl
    · exact lift (ih v hv e h1 h2)
    · have hm := depMax_mem (adL N gl k) (partsL (gl[k]?.getD Gt.zero))
      by_cases hle : (e : Int) ≤ depMax (adL N gl k) (partsL (gl[k]?.getD Gt.zero))
      · rcases hm with h0 | hm
        · omega
        · exact lift (ih _ hm e h1 hle)
      · have hk1 : (gl[k]?.getD Gt.zero).k = 1 := by
          unfold depG at h2
          split at h2
          · assumption
          · omega
        have he : depG (adL N gl k) (gl[k]?.getD Gt.zero) = (e : Int) := by
          unfold depG at h2 ⊢
          rw [if_pos hk1] at h2 ⊢
          omega
        exact ⟨k, by omega, hk1, by rw [adL_get N gl (k + 1) k (by omega), he]⟩
theorem top_exists (N : Nat) (gl : List Gt) (n : Nat) : ∃ m, m ≤ n ∧ IsTop N (adL N gl n) gl n m := by
  have hbig : ∀ j, n < j → lay N (adL N gl n) gl j n = [] := fun j hj => by
    by_cases h : lay N (adL N gl n) gl j n = []
    · exact h
    · obtain ⟨k, hk, _, hv⟩ := lay_none h
      have hg := adL_get N gl n k hk
      rw [hg, Option.getD_some] at hv
      have := adL_bd N gl n _ (List.mem_of_getElem? hg)
      omega
  have hdown : ∀ d, d ≤ n → (∀ j, n - d < j → lay N (adL N gl n) gl j n = []) → ∃ m, m ≤ n ∧ (∀ j, m < j → lay N (adL N gl n) gl j n = []) ∧ (m = 0 ∨ lay N (adL N gl n) gl m n ≠ []) := by
    intro d hd
    induction h : n - d generalizing d with
    | zero => intro hj; exact ⟨0, by omega, hj, .inl rfl⟩
    | succ m ih =>
      intro hj
      by_cases he : lay N (adL N gl n) gl (m + 1) n = []
      · exact ih (d + 1) (by omega) (by omega) (fun j hj2 => by
          by_cases hjm : j = m + 1
          · subst hjm; exact he
          · exact hj j (by omega))
      · exact ⟨m + 1, by omega, hj, .inr he⟩
  obtain ⟨m, hm, h1, h2⟩ := hdown 0 (by omega) (fun j hj => hbig j (by omega))
  refine ⟨m, hm, h1, fun j hj1 hj2 => ?_⟩
  rcases h2 with rfl | h2
  · omega
  · obtain ⟨k, hk, _, hv⟩ := lay_none h2
    have hg := adL_get N gl n k hk
    rw [hg, Option.getD_some] at hv
    obtain ⟨i, hi, hk1, hx⟩ := adL_cont N gl n _ (List.mem_of_getElem? hg) j hj1 (by omega)
    rcases hgi : gl[i]? with _ | g
    · rw [hgi] at hk1; simp [Gt.zero] at hk1
    · rw [hgi, Option.getD_some] at hk1
      obtain ⟨K, x, y⟩ := g
      dsimp only at hk1
      subst hk1
      exact lay_mem hgi hx hi
theorem adL_and {N : Nat} {gl : List Gt} {n k : Nat} {x y v : Int} (h : gl[k]? = some ⟨1, x, y⟩) (hk : k < n) (hv : (adL N gl n)[N + k]? = some v) : 1 ≤ v ∧ v ≤ n := by
  have hb := adL_bd N gl n v (List.mem_of_getElem? hv)
  rw [adL_get N gl n k hk, h, Option.getD_some] at hv
  injection hv with hv
  have hd := depMax_bd (adL N gl k) k (by omega) (adL_bd N gl k) (partsL ⟨1, x, y⟩)
  unfold depG at hv
  rw [if_pos rfl] at hv
  omega
theorem top_le {N : Nat} {L : List Int} {gl : List Gt} {n m k d : Nat} {x y : Int} (h : IsTop N L gl n m) (hg : gl[k]? = some ⟨1, x, y⟩) (hk : k < n) (hv : L[N + k]? = some (d : Int)) : d ≤ m := by
  rcases Nat.lt_or_ge m d with h1 | h1
  · exact absurd (h.1 d h1) (lay_mem hg hv hk)
  · exact h1
end Go.Proofs.Ytlmlffiajgofeaa
