/- A drawn region with several stores: S holds throughout, C until number s has come up; what reads under C and is waited for by s, and what reads under S, may be taken first.
   Conditions: as said. -/
import Derived.Test.YtjggecbaladiiaaGreatDoorHel
namespace Go.Proofs.YtjggecbaladiiaaGreatDoor
open Go.RowKit
set_option linter.unusedVariables false
section
variable {P : Program} {ops : Array Oper} {Q : Exit → Act → World → Prop} {md : Region.Mode} {S C : World → Prop} {s : Nat}
/-- Whatever order comes: behind every operation S holds, and C until number s has come up. -/
def AnyF (P : Program) (md : Region.Mode) (ops : Array Oper) (Q : Exit → Act → World → Prop) (S C : World → Prop) (s : Nat) : Nat → Array Bool → Act → World → Prop
  | 0, listed, a, w => Region.ready md ops listed = [] ∧ Q .normal a w
  | fuel + 1, listed, a, w =>
    (Region.ready md ops listed = [] → Q .normal a w) ∧
    ∀ i ∈ Region.ready md ops listed, wpOp P ops Q i (fun a' w' => (S w' ∧ ((listed.setIfInBounds i true).getD s false = false → C w')) ∧ AnyF P md ops Q S C s fuel (listed.setIfInBounds i true) a' w') a w
theorem any_of_F : ∀ (fuel : Nat) (listed : Array Bool) (a : Act) (w : World), AnyF P md ops Q S C s fuel listed a w → wpAny P md ops Q fuel listed a w
  | 0, _, _, _, h => h
  | fuel + 1, _, _, _, h => ⟨h.1, fun i hi => wpOp_mono (fun a' w' h' => any_of_F fuel _ a' w' h'.2) (h.2 i hi)⟩
/-- The condition under which number i is read: C where s waits for it, else S. -/
theorem f_first {i : Nat} {oi : Oper} {v : Value} {D : World → Prop} (hi : ops[i]? = some oi)
    (hD : ∀ (listed : Array Bool) (w : World), Closed md ops listed → i ∈ Region.ready md ops listed → S w → (listed.getD s false = false → C w) → D w)
    (hsel : ∀ (j : Nat) (o : Oper) cs b, ops[j]? = some o → o.op ≠ .select cs b) (hQ : ∀ c a w, Q (.panic c) (a.put oi.dst v) w → Q (.panic c) a w) (his : i ≠ s) :
    ∀ (fuel : Nat) (listed : Array Bool) (a : Act) (w : World),
      (∀ j oj, ops[j]? = some oj → j ≠ i → listed.getD j true = false → (∀ e ∈ oj.after, Region.binds md e = true → e.on ≠ i) → oi.apart ops oj = true) →
      i ∈ Region.ready md ops listed → YieldsIf P ops D oi v a → Closed md ops listed → S w → (listed.getD s false = false → C w) →
      AnyF P md ops Q S C s fuel (listed.setIfInBounds i true) (a.put oi.dst v) w → AnyF P md ops Q S C s (fuel + 1) listed a w := by
  intro fuel
  induction fuel with
  | zero =>
    intro listed a w _ hr hy hcl hS hC H
    refine ⟨fun h => (by rw [h] at hr; cases hr), fun j hj => ?_⟩
    by_cases hji : j = i
    · subst hji; exact hy.wpOp hi (hD _ _ hcl hr hS hC) ⟨⟨hS, fun h => hC (by rwa [getD_set_ne false his] at h)⟩, H⟩
    · have := ready_mono hj hji
      rw [H.1] at this
      cases this
  | succ fuel ih =>
    intro listed a w hfree hr hy hcl hS hC H
    refine ⟨fun h => (by rw [h] at hr; cases hr), fun j hj => ?_⟩
    by_cases hji : j = i
    · subst hji; exact hy.wpOp hi (hD _ _ hcl hr hS hC) ⟨⟨hS, fun h => hC (by rwa [getD_set_ne false his] at h)⟩, H⟩
    · have h1 := H.2 j (ready_mono hj hji)
      obtain ⟨hjun, oj, hoj, hall⟩ := mem_ready.1 hj
      have hnot : ∀ e ∈ oj.after, Region.binds md e = true → e.on ≠ i := fun e he hb heq => by
        have h1 := hall e he hb
        have h0 := (mem_ready.1 hr).1
        rw [heq] at h1
        rcases Nat.lt_or_ge i listed.size with h' | h'
        · simp [h'] at h0 h1; rw [h0] at h1; cases h1
        · simp [Array.getElem?_eq_none h'] at h1
      have h2 := wpOp_putIf hoj (hfree j oj hoj hji hjun hnot) (fun cs b => hsel i oi cs b hi) (fun cs b => hsel j oj cs b hoj) hQ hy h1
      have hfree' : ∀ k ok, ops[k]? = some ok → k ≠ i → (listed.setIfInBounds j true).getD k true = false →
          (∀ e ∈ ok.after, Region.binds md e = true → e.on ≠ i) → oi.apart ops ok = true := fun k ok hk hki hun hno => by
        refine hfree k ok hk hki ?_ hno
        by_cases hjk : j = k
        · subst hjk; exact hjun
        · rw [getD_set_ne true hjk] at hun; exact hun
      refine wpOp_mono (fun a' w' h3 => ?_) h2
      have hC' : (listed.setIfInBounds j true).getD s false = false → C w' := fun h => h3.2.1.2 (by
        by_cases hjs : j = s
        · subst hjs
          rw [Array.setIfInBounds_comm _ _ his, getD_set_ne false his]; exact h
        · rw [getD_set_ne false hjs, getD_set_ne false his]; rwa [getD_set_ne false hjs] at h)
      refine ⟨⟨h3.2.1.1, hC'⟩, ih (listed.setIfInBounds j true) a' w' hfree' (ready_mono hr (Ne.symm hji)) h3.1 (hcl.set hj) h3.2.1.1 hC' ?_⟩
      rw [Array.setIfInBounds_comm _ _ hji]
      exact h3.2.2
/-- Taken first under C: s waits for it. -/
theorem f_takeC {i d : Nat} {oi : Oper} {v : Value} {fuel : Nat} {listed : Array Bool} {l : List Value} {w : World} (p : List Nat) (hi : ops[i]? = some oi) (hd : oi.dst = some d) (hc : chainG md ops s p = true) (hil : p.contains i = true)
    (hsl : Region.noSelect ops = true) (hf : Region.free md ops listed i = true) (hr : (Region.ready md ops listed).contains i = true) (hcl : closedB md ops listed = true)
    (hQ : ∀ c a w, Q (.panic c) (a.put oi.dst v) w → Q (.panic c) a w) (his : i ≠ s) (hy : YieldsIf P ops C oi v ⟨l.toArray, []⟩) (hSC : S w ∧ C w)
    (h : AnyF P md ops Q S C s fuel (listed.setIfInBounds i true) ⟨(l.set d v).toArray, []⟩ w) : AnyF P md ops Q S C s (fuel + 1) listed ⟨l.toArray, []⟩ w := by
  refine f_first (D := C) hi (fun li w hcl hr _ hC => hC ?_) (Region.noSelect_spec hsl) hQ his fuel listed _ w (Region.free_spec hi hf) (by simpa using hr) hy (closed_of hcl) hSC.1 (fun _ => hSC.2) ?_
  · rcases hb : li.getD s false
    · rfl
    · have h1 := chain_listed hcl p s hb hc i (by simpa using hil)
      have h0 := (mem_ready.1 hr).1
      rcases Nat.lt_or_ge i li.size with h' | h'
      · simp [h'] at h0 h1; rw [h0] at h1; cases h1
      · simp [Array.getElem?_eq_none h'] at h1
  · rw [hd]
    simpa [Act.put] using h
/-- Taken first under S. -/
theorem f_takeS {i d : Nat} {oi : Oper} {v : Value} {fuel : Nat} {listed : Array Bool} {l : List Value} {w : World} (hi : ops[i]? = some oi) (hd : oi.dst = some d)
    (hsl : Region.noSelect ops = true) (hf : Region.free md ops listed i = true) (hr : (Region.ready md ops listed).contains i = true) (hcl : closedB md ops listed = true)
    (hQ : ∀ c a w, Q (.panic c) (a.put oi.dst v) w → Q (.panic c) a w) (his : i ≠ s) (hy : YieldsIf P ops S oi v ⟨l.toArray, []⟩) (hS : S w) (hC : listed.getD s false = false → C w)
    (h : AnyF P md ops Q S C s fuel (listed.setIfInBounds i true) ⟨(l.set d v).toArray, []⟩ w) : AnyF P md ops Q S C s (fuel + 1) listed ⟨l.toArray, []⟩ w := by
  refine f_first (D := S) hi (fun _ _ _ _ hS _ => hS) (Region.noSelect_spec hsl) hQ his fuel listed _ w (Region.free_spec hi hf) (by simpa using hr) hy (closed_of hcl) hS hC ?_
  rw [hd]
  simpa [Act.put] using h
/-- The only one that may come up, before number s. -/
theorem f_step {i : Nat} {o : Oper} {fuel : Nat} {listed : Array Bool} {a : Act} {w : World} (hr : Region.ready md ops listed = [i]) (ho : ops[i]? = some o)
    (h : ∀ K' : Act → World → Prop, Shut (∀ a w, S w ∧ C w → (S w ∧ C w → AnyF P md ops Q S C s fuel (listed.setIfInBounds i true) a w) → K' a w) → if Region.wanted o (yielded ops a.tmps) = true then Oper.wp P o a w K' Q else K' (a.put o.dst undef) w) :
    AnyF P md ops Q S C s (fuel + 1) listed a w := by
  refine ⟨fun h0 => (by rw [hr] at h0; cases h0), fun j hj => ?_⟩
  rw [hr, List.mem_singleton] at hj
  subst hj
  exact wpOp_step ho fun K' hK => h K' (fun a w hC hG => hK a w ⟨⟨hC.1, fun _ => hC.2⟩, hG hC⟩)
/-- The only one that may come up: number s, or one behind it. -/
theorem f_last {i : Nat} {o : Oper} {fuel : Nat} {listed : Array Bool} {a : Act} {w : World} (hr : Region.ready md ops listed = [i]) (ho : ops[i]? = some o) (hs : (listed.setIfInBounds i true).getD s false = true)
    (h : ∀ K' : Act → World → Prop, Shut (∀ a w, S w → (S w → AnyF P md ops Q S C s fuel (listed.setIfInBounds i true) a w) → K' a w) → if Region.wanted o (yielded ops a.tmps) = true then Oper.wp P o a w K' Q else K' (a.put o.dst undef) w) :
    AnyF P md ops Q S C s (fuel + 1) listed a w := by
  refine ⟨fun h0 => (by rw [hr] at h0; cases h0), fun j hj => ?_⟩
  rw [hr, List.mem_singleton] at hj
  subst hj
  exact wpOp_step ho fun K' hK => h K' (fun a w hS hG => hK a w ⟨⟨hS, fun h0 => by rw [hs] at h0; cases h0⟩, hG hS⟩)
theorem f_done {listed : Array Bool} {a : Act} {w : World} (hr : Region.ready md ops listed = []) (h : Q .normal a w) : ∀ fuel, AnyF P md ops Q S C s fuel listed a w
  | 0 => ⟨hr, h⟩
  | _ + 1 => ⟨fun _ => h, by rw [hr]; simp⟩
theorem region_F {id : Nat} {a : Act} {w : World} (S C : World → Prop) (s : Nat) (hm : P.follows .mixedOrders = true) (hC : S w.drew ∧ C w.drew)
    (h : S w.drew ∧ C w.drew → AnyF P .any ops Q S C s ops.size (Array.replicate ops.size false) a w.drew) : (Code.region id ops true).wp P Q a w :=
  wp_region_any hm (any_of_F _ _ _ _ (h hC))
end
end Go.Proofs.YtjggecbaladiiaaGreatDoor
