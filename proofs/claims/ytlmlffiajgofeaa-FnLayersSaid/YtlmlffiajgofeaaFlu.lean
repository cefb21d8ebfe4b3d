/- Plain facts on last uses: a gate's parts and the outs are used no earlier.
   Conditions: none. -/
import Derived.Test.YtlmlffiajgofeaaLus
namespace Go.Proofs.Ytlmlffiajgofeaa
open Go.RowKit
set_option linter.unusedVariables false
/-- What a list keeps where places are written with greater numbers. -/
theorem putA_cons (l : List Int) (x : Int) (ps : List Int) (v : Int) : putA l (x :: ps) v = putA (l.set x.toNat v) ps v := rfl
theorem putA_ge (v : Int) (ps : List Int) : ∀ (l : List Int) (p : Nat) (u : Int), l[p]? = some u → u ≤ v → ∃ u', (putA l ps v)[p]? = some u' ∧ u ≤ u' := by
  induction ps with
  | nil => intro l p u h _; exact ⟨u, h, Int.le_refl _⟩
  | cons x ps ih =>
    intro l p u h huv
    rw [putA_cons]
    by_cases hp : x.toNat = p
    · have hl : p < l.length := (List.getElem?_eq_some_iff.1 h).1
      obtain ⟨u', h1, h2⟩ := ih (l.set x.toNat v) p v (by rw [hp, List.getElem?_set_self hl]) (Int.le_refl _)
      exact ⟨u', h1, by omega⟩
    · exact ih (l.set x.toNat v) p u (by rw [List.getElem?_set_ne hp]; exact h) huv
theorem putA_in (v : Int) (ps : List Int) : ∀ (l : List Int) (x : Int), x ∈ ps → x.toNat < l.length → ∃ u', (putA l ps v)[x.toNat]? = some u' ∧ v ≤ u' := by
  induction ps with
  | nil => intro l x h _; cases h
  | cons y ps ih =>
    intro l x h hl
    rw [putA_cons]
    rcases List.mem_cons.1 h with rfl | h
    · exact putA_ge v ps _ _ v (by rw [List.getElem?_set_self hl]) (Int.le_refl _)
    · exact ih _ x h (by rw [List.length_set]; exact hl)
theorem luG_ge {N : Nat} {gl : List Gt} {k : Nat} {x : Int} (hx : x ∈ partsL (gl[k]?.getD Gt.zero)) (hl : x.toNat < N) : ∀ j, k < j → ∃ u, (luG N gl j)[x.toNat]? = some u ∧ (k : Int) ≤ u
  | 0, h => by omega
  | j + 1, h => by
    rcases Nat.lt_or_ge k j with hk | hk
    · obtain ⟨u, h1, h2⟩ := luG_ge (N := N) hx hl j hk
      have := (luG_bd N gl j u (List.mem_of_getElem? h1)).2
      obtain ⟨u', h3, h4⟩ := putA_ge (j : Int) (partsL (gl[j]?.getD Gt.zero)) _ _ _ h1 this
      exact ⟨u', h3, by omega⟩
    · have : k = j := by omega
      subst this
      exact putA_in (k : Int) _ (luG N gl k) x hx (by rw [luG_len]; exact hl)
theorem luL_gate {N : Nat} {gl : List Gt} {ol : List Int} {k : Nat} {g : Gt} {x : Int} (hk : gl[k]? = some g) (hx : x ∈ partsL g) (hl : x.toNat < N) : (k : Int) ≤ (luL N gl ol)[x.toNat]?.getD 0 := by
  obtain ⟨u, h1, h2⟩ := luG_ge (N := N) (gl := gl) (k := k) (x := x) (by rw [hk]; exact hx) hl gl.length (List.getElem?_eq_some_iff.1 hk).1
  have := (luG_bd N gl gl.length u (List.mem_of_getElem? h1)).2
  obtain ⟨u', h3, h4⟩ := putA_ge (gl.length : Int) ol _ _ _ h1 this
  unfold luL
  rw [h3]
  show (k : Int) ≤ u'
  omega
theorem luL_out {N : Nat} {gl : List Gt} {ol : List Int} {x : Int} (hx : x ∈ ol) (hl : x.toNat < N) : (gl.length : Int) ≤ (luL N gl ol)[x.toNat]?.getD 0 := by
  obtain ⟨u', h3, h4⟩ := putA_in (gl.length : Int) ol (luG N gl gl.length) x hx (by rw [luG_len]; exact hl)
  unfold luL
  rw [h3]; exact h4
end Go.Proofs.Ytlmlffiajgofeaa
