/- Plain laws for EvalInCells: the cells after the inputs, after each gate, and what is read at the end.
   Conditions: none. -/
import Derived.Test.YtlmlffiajgofeaaEvc
namespace Go.Proofs.Ytlmlffiajgofeaa
open Go.RowKit
set_option linter.unusedVariables false
def C0 : List Int := List.replicate 1000 0
/-- Cells as the program keeps them. -/
def Cells (cs : List Int) : Prop := cs.length = 1000 ∧ ∀ z ∈ cs, z = 0 ∨ z = 1
theorem cells0 : Cells C0 := ⟨by unfold C0; exact List.length_replicate, fun z hz => .inl (List.eq_of_mem_replicate hz)⟩
theorem Cells.set {cs : List Int} (h : Cells cs) (i : Nat) {v : Int} (hv : v = 0 ∨ v = 1) : Cells (cs.set i v) := ⟨by simp [h.1], fun z hz => by
  rcases List.mem_or_eq_of_mem_set hz with h1 | h1
  · exact h.2 z h1
  · exact h1 ▸ hv⟩
theorem Cells.at_ {cs : List Int} (h : Cells cs) {p : Nat} (hp : p < 1000) : ∃ u, cs[p]? = some u ∧ (u = 0 ∨ u = 1) := ⟨cs[p]'(by rw [h.1]; exact hp), List.getElem?_eq_getElem (by rw [h.1]; exact hp), h.2 _ (List.getElem_mem _)⟩
def putE (P I cs : List Int) (i : Int) : List Int := cs.set (P[i.toNat]?.getD 0).toNat (I[i.toNat]?.getD 0)
theorem putE_eq {P I cs : List Int} {i p : Nat} {v : Int} (hp : P[i]? = some (p : Int)) (hv : I[i]? = some v) : putE P I cs (i : Int) = cs.set p v := by simp [putE, hp, hv]
/-- The cells behind the first k inputs. -/
def inC (P U I : List Int) : Nat → List Int
  | 0 => C0
  | k + 1 => if 0 ≤ U[k]?.getD 0 then putE P I (inC P U I k) (k : Int) else inC P U I k
theorem inC_y {P U I : List Int} {k p : Nat} {u v : Int} (hu : U[k]? = some u) (h : 0 ≤ u) (hp : P[k]? = some (p : Int)) (hv : I[k]? = some v) : inC P U I (k + 1) = (inC P U I k).set p v := by
  rw [inC, hu, Option.getD_some, if_pos h, putE_eq hp hv]
theorem inC_n {P U I : List Int} {k : Nat} {u : Int} (hu : U[k]? = some u) (h : ¬ 0 ≤ u) : inC P U I (k + 1) = inC P U I k := by rw [inC, hu, Option.getD_some, if_neg h]
theorem inC_fold (P U I : List Int) : ∀ k, inC P U I k = (liveL U (-1) k).foldl (putE P I) C0
  | 0 => rfl
  | k + 1 => by
    rw [inC, liveL, List.foldl_append, ← inC_fold P U I k]
    by_cases h : 0 ≤ U[k]?.getD 0
    · rw [if_pos h, if_pos (by omega)]; rfl
    · rw [if_neg h, if_neg (by omega)]; rfl
theorem getD_bit {I : List Int} (h : ∀ z ∈ I, z = 0 ∨ z = 1) (k : Nat) : I[k]?.getD 0 = 0 ∨ I[k]?.getD 0 = 1 := by
  rcases hk : I[k]? with _ | v
  · exact .inl rfl
  · exact h v (List.mem_of_getElem? hk)
theorem inC_cells (P U I : List Int) (hI : ∀ z ∈ I, z = 0 ∨ z = 1) : ∀ k, Cells (inC P U I k)
  | 0 => cells0
  | k + 1 => by
    rw [inC]
    split
    · exact (inC_cells P U I hI k).set _ (getD_bit hI _)
    · exact inC_cells P U I hI k
theorem fold_cells (P I : List Int) (hI : ∀ z ∈ I, z = 0 ∨ z = 1) (l : List Int) : ∀ cs, Cells cs → Cells (l.foldl (putE P I) cs) := by
  induction l with
  | nil => intro cs h; exact h
  | cons x l ih => intro cs h; exact ih _ (h.set _ (getD_bit hI _))
theorem fold_take {P I cs l : List Int} {j : Nat} {x : Int} (h : l[j]? = some x) : (l.take (j + 1)).foldl (putE P I) cs = putE P I ((l.take j).foldl (putE P I) cs) x := by
  rw [List.take_add_one, h, List.foldl_append]; rfl
/-- What a gate computes out of two cells. -/
def gop (K u v : Int) : Int := if K = 0 then (if u = v then 0 else 1) else if K = 1 then u * v else if K = 2 then 1 - u else 1
theorem gop_bit {K u v : Int} (hu : u = 0 ∨ u = 1) (hv : v = 0 ∨ v = 1) : gop K u v = 0 ∨ gop K u v = 1 := by
  unfold gop
  rcases hu with rfl | rfl <;> rcases hv with rfl | rfl <;> (repeat' split) <;> simp
def cellAt (P cs : List Int) (x : Int) : Int := cs[(P[x.toNat]?.getD 0).toNat]?.getD 0
theorem cellAt_bit {P cs : List Int} (h : Cells cs) (x : Int) : cellAt P cs x = 0 ∨ cellAt P cs x = 1 := getD_bit h.2 _
theorem cellAt_eq {P cs : List Int} {x p : Nat} {u : Int} (hp : P[x]? = some (p : Int)) (hu : cs[p]? = some u) : cellAt P cs (x : Int) = u := by simp [cellAt, hp, hu]
/-- The cells behind the first k gates. -/
def gaC (P : List Int) (N : Nat) (gl : List Gt) (cs : List Int) : Nat → List Int
  | 0 => cs
  | k + 1 => (gaC P N gl cs k).set (P[N + k]?.getD 0).toNat (gop (gl[k]?.getD Gt.zero).k (cellAt P (gaC P N gl cs k) (gl[k]?.getD Gt.zero).a) (cellAt P (gaC P N gl cs k) (gl[k]?.getD Gt.zero).b))
theorem gaC_step {P : List Int} {N : Nat} {gl : List Gt} {cs : List Int} {k q : Nat} {K x y : Int} (h : gl[k]? = some ⟨K, x, y⟩) (hq : P[N + k]? = some (q : Int)) : gaC P N gl cs (k + 1) = (gaC P N gl cs k).set q (gop K (cellAt P (gaC P N gl cs k) x) (cellAt P (gaC P N gl cs k) y)) := by
  simp [gaC, h, hq]
theorem gaC_cells {P : List Int} {N : Nat} {gl : List Gt} {cs : List Int} (h : Cells cs) : ∀ k, Cells (gaC P N gl cs k)
  | 0 => h
  | k + 1 => (gaC_cells h k).set _ (gop_bit (cellAt_bit (gaC_cells h k) _) (cellAt_bit (gaC_cells h k) _))
theorem rightB_facts {P L : List Int} {N n : Nat} (h : rightB P L N n = true) : P.length = N + n ∧ ∀ x ∈ P, 0 ≤ x ∧ x < 1000 := by
  simp only [rightB, Bool.and_eq_true, decide_eq_true_eq] at h
  exact ⟨h.1.1.1, fun x hx => by have := allR_mem h.1.1.2 hx; omega⟩
theorem ask_facts {a b : Int} {gl : List Gt} {ol la lb : List Int} (h : askB a b gl ol la lb = true) : goodC a b gl ol = true ∧ (la.length : Int) = a ∧ (lb.length : Int) = b ∧ ∀ z ∈ la ++ lb, z = 0 ∨ z = 1 := by
  simp only [askB, Bool.and_eq_true, decide_eq_true_eq] at h
  obtain ⟨⟨⟨⟨h1, h2⟩, h3⟩, h4⟩, h5⟩ := h
  refine ⟨h1, h4, h5, fun z hz => ?_⟩
  rcases List.mem_append.1 hz with hz | hz
  · have := allR_mem h2 hz; omega
  · have := allR_mem h3 hz; omega
/-- The parts of a good gate, as numbers. -/
theorem part_nat {P : List Int} {N n k : Nat} {x : Int} (hP : P.length = N + n ∧ ∀ x ∈ P, 0 ≤ x ∧ x < 1000) (hk : k ≤ n) (h0 : 0 ≤ x) (h1 : x < (N : Int) + k) : ∃ X p : Nat, x = (X : Int) ∧ X < N + n ∧ P[X]? = some (p : Int) ∧ p < 1000 := by
  have hX : x.toNat < P.length := by rw [hP.1]; omega
  have hb := hP.2 _ (List.getElem_mem hX)
  exact ⟨x.toNat, (P[x.toNat]).toNat, by omega, by omega, by rw [List.getElem?_eq_getElem hX]; congr 1; omega, by omega⟩
theorem pickE_two {P cs ol : List Int} {k X p : Nat} {u : Int} (h : ol[k]? = some (X : Int)) (hp : P[X]? = some (p : Int)) (hu : cs[p]? = some u) : pickE cs (pickE P (ol.take (k + 1))) = pickE cs (pickE P (ol.take k)) ++ [u] := by
  rw [pickE_step h (by rw [Int.toNat_natCast]; exact hp)]
  unfold pickE
  rw [List.map_append]
  simp [hu]
def evB (a b : Int) (gl : List Gt) (ol P la lb : List Int) : Bool := askB a b gl ol la lb && rightB P (luL ((a + b).toNat + gl.length) gl ol) (a + b).toNat gl.length
/-- The values of the outs. -/
def evO (a b : Int) (gl : List Gt) (ol P la lb : List Int) : List Int := pickE (gaC P (a + b).toNat gl (inC P (luL ((a + b).toNat + gl.length) gl ol) (la ++ lb) (a + b).toNat) gl.length) (pickE P ol)
def evR (a b : Int) (gl : List Gt) (ol P la lb : List Int) : List Int := if evB a b gl ol P la lb then evO a b gl ol P la lb else []
end Go.Proofs.Ytlmlffiajgofeaa
