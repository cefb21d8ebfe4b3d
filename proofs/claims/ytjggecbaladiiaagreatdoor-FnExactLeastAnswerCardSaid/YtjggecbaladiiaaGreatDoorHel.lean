/- A drawn region whose last operation writes what the region reads: until number s has come up a condition C on the world holds, and what reads under C may be taken first.
   Conditions: every operation that is taken first is waited for by number s. -/
import Derived.Test.YtjggecbaladiiaaGreatDoorBase
namespace Go.Proofs.YtjggecbaladiiaaGreatDoor
open Go.RowKit
set_option linter.unusedVariables false
section
variable {P : Program} {ops : Array Oper} {Q : Exit → Act → World → Prop} {md : Region.Mode} {C : World → Prop} {s : Nat}
/-- Whatever order comes, and until number s has come up C holds behind every operation. -/
def AnyG (P : Program) (md : Region.Mode) (ops : Array Oper) (Q : Exit → Act → World → Prop) (C : World → Prop) (s : Nat) : Nat → Array Bool → Act → World → Prop
  | 0, listed, a, w => Region.ready md ops listed = [] ∧ Q .normal a w
  | fuel + 1, listed, a, w =>
    (Region.ready md ops listed = [] → Q .normal a w) ∧
    ∀ i ∈ Region.ready md ops listed, wpOp P ops Q i (fun a' w' => ((listed.setIfInBounds i true).getD s false = false → C w') ∧ AnyG P md ops Q C s fuel (listed.setIfInBounds i true) a' w') a w
theorem any_of_G : ∀ (fuel : Nat) (listed : Array Bool) (a : Act) (w : World), AnyG P md ops Q C s fuel listed a w → wpAny P md ops Q fuel listed a w
  | 0, _, _, _, h => h
  | fuel + 1, _, _, _, h => ⟨h.1, fun i hi => wpOp_mono (fun a' w' h' => any_of_G fuel _ a' w' h'.2) (h.2 i hi)⟩
/-- What has come up had all that it waits for. -/
def Closed (md : Region.Mode) (ops : Array Oper) (listed : Array Bool) : Prop :=
  ∀ j oj, ops[j]? = some oj → listed.getD j false = true → ∀ e ∈ oj.after, Region.binds md e = true → listed.getD e.on false = true
def closedB (md : Region.Mode) (ops : Array Oper) (listed : Array Bool) : Bool :=
  (List.range ops.size).all fun j => !listed.getD j false || match ops[j]? with
    | some oj => oj.after.all fun e => !Region.binds md e || listed.getD e.on false
    | none => true
theorem closed_of {listed : Array Bool} (h : closedB md ops listed = true) : Closed md ops listed := by
  intro j oj hj hl e he hb
  simp only [closedB, List.all_eq_true, List.mem_range] at h
  have h1 := h j (Array.getElem?_eq_some_iff.1 hj).1
  simp only [hl, hj, Bool.not_true, Bool.false_or, Array.all_eq_true_iff_forall_mem] at h1
  have h2 := h1 e he
  simpa [hb] using h2
theorem Closed.set {listed : Array Bool} {j : Nat} (h : Closed md ops listed) (hj : j ∈ Region.ready md ops listed) : Closed md ops (listed.setIfInBounds j true) := by
  obtain ⟨_, oj, hoj, hall⟩ := mem_ready.1 hj
  intro k ok hk hl e he hb
  by_cases hjk : j = k
  · subst hjk
    have : ok = oj := Option.some.inj (hk.symm.trans hoj)
    subst this
    exact getD_set_true (hall e he hb)
  · rw [getD_set_ne false hjk] at hl
    exact getD_set_true (h k ok hk hl e he hb)
/-- Each waits for the next. -/
def chainG (md : Region.Mode) (ops : Array Oper) : Nat → List Nat → Bool
  | _, [] => true
  | x, y :: l => Region.waitsFor md ops x y && chainG md ops y l
theorem chain_listed {listed : Array Bool} (h : Closed md ops listed) : ∀ (l : List Nat) (x : Nat), listed.getD x false = true → chainG md ops x l = true → ∀ y ∈ l, listed.getD y false = true
  | [], _, _, _ => by simp
  | y :: l, x, hx, hc => by
    simp only [chainG, Bool.and_eq_true] at hc
    obtain ⟨ox, hox, e, he, hb, heq⟩ := Region.waitsFor_spec hc.1
    have hy : listed.getD y false = true := heq ▸ h x ox hox hx e he hb
    intro z hz
    rcases List.mem_cons.1 hz with rfl | hz
    · exact hy
    · exact chain_listed h l y hy hc.2 z hz
theorem chain_ready {listed : Array Bool} (h : Closed md ops listed) {l : List Nat} (hs : s ∈ Region.ready md ops listed) (hc : chainG md ops s l = true) : ∀ y ∈ l, listed.getD y false = true := by
  cases l with
  | nil => simp
  | cons y l =>
    simp only [chainG, Bool.and_eq_true] at hc
    obtain ⟨ox, hox, e, he, hb, heq⟩ := Region.waitsFor_spec hc.1
    obtain ⟨_, os, hos, hall⟩ := mem_ready.1 hs
    have : ox = os := Option.some.inj (hox.symm.trans hos)
    subst this
    have hy : listed.getD y false = true := heq ▸ hall e he hb
    intro z hz
    rcases List.mem_cons.1 hz with rfl | hz
    · exact hy
    · exact chain_listed h l y hy hc.2 z hz
theorem g_first {i : Nat} {oi : Oper} {v : Value} {l : List Nat} (hi : ops[i]? = some oi) (hc : chainG md ops s l = true) (hil : i ∈ l)
    (hsel : ∀ (j : Nat) (o : Oper) cs b, ops[j]? = some o → o.op ≠ .select cs b) (hQ : ∀ c a w, Q (.panic c) (a.put oi.dst v) w → Q (.panic c) a w) (his : i ≠ s) :
    ∀ (fuel : Nat) (listed : Array Bool) (a : Act) (w : World),
      (∀ j oj, ops[j]? = some oj → j ≠ i → listed.getD j true = false → (∀ e ∈ oj.after, Region.binds md e = true → e.on ≠ i) → oi.apart ops oj = true) →
      i ∈ Region.ready md ops listed → YieldsIf P ops C oi v a → listed.getD s false = false → Closed md ops listed → C w →
      AnyG P md ops Q C s fuel (listed.setIfInBounds i true) (a.put oi.dst v) w → AnyG P md ops Q C s (fuel + 1) listed a w := by
  intro fuel
  induction fuel with
  | zero =>
    intro listed a w _ hr hy hls _ hC H
    refine ⟨fun h => (by rw [h] at hr; cases hr), fun j hj => ?_⟩
    by_cases hji : j = i
    · subst hji; exact hy.wpOp hi hC ⟨fun _ => hC, H⟩
    · have := ready_mono hj hji
      rw [H.1] at this
      cases this
  | succ fuel ih =>
    intro listed a w hfree hr hy hls hcl hC H
    refine ⟨fun h => (by rw [h] at hr; cases hr), fun j hj => ?_⟩
    by_cases hji : j = i
    · subst hji; exact hy.wpOp hi hC ⟨fun _ => hC, H⟩
    · have h1 := H.2 j (ready_mono hj hji)
      obtain ⟨hjun, oj, hoj, hall⟩ := mem_ready.1 hj
      have hnot : ∀ e ∈ oj.after, Region.binds md e = true → e.on ≠ i := fun e he hb heq => by
        have h1 := hall e he hb
        have h0 := (mem_ready.1 hr).1
        rw [heq] at h1
        rcases Nat.lt_or_ge i listed.size with h' | h'
        · simp [h'] at h0 h1; rw [h0] at h1; cases h1
        · simp [Array.getElem?_eq_none h'] at h1
      have hjs : j ≠ s := by
        rintro rfl
        have h1 := chain_ready hcl hj hc i hil
        have h0 := (mem_ready.1 hr).1
        rcases Nat.lt_or_ge i listed.size with h' | h'
        · simp [h'] at h0 h1; rw [h0] at h1; cases h1
        · simp [Array.getElem?_eq_none h'] at h1
      have h2 := wpOp_putIf hoj (hfree j oj hoj hji hjun hnot) (fun cs b => hsel i oi cs b hi) (fun cs b => hsel j oj cs b hoj) hQ hy h1
      have hfree' : ∀ k ok, ops[k]? = some ok → k ≠ i → (listed.setIfInBounds j true).getD k true = false →
          (∀ e ∈ ok.after, Region.binds md e = true → e.on ≠ i) → oi.apart ops ok = true := fun k ok hk hki hun hno => by
        refine hfree k ok hk hki ?_ hno
        by_cases hjk : j = k
        · subst hjk; exact hjun
        · rw [getD_set_ne true hjk] at hun; exact hun
      have hls' : (listed.setIfInBounds j true).getD s false = false := by rw [getD_set_ne false hjs]; exact hls
      refine wpOp_mono (fun a' w' h3 => ?_) h2
      have hC' : C w' := h3.2.1 (by rw [getD_set_ne false hjs, getD_set_ne false his]; exact hls)
      refine ⟨fun _ => hC', ih (listed.setIfInBounds j true) a' w' hfree' (ready_mono hr (Ne.symm hji)) h3.1 hls' (hcl.set hj) hC' ?_⟩
      rw [Array.setIfInBounds_comm _ _ hji]
      exact h3.2.2
/-- One operation is taken first: its slot is written. -/
theorem g_take {i d : Nat} {oi : Oper} {v : Value} {fuel : Nat} {listed : Array Bool} {l : List Value} {w : World} (p : List Nat) (hi : ops[i]? = some oi) (hd : oi.dst = some d) (hc : chainG md ops s p = true) (hil : p.contains i = true)
    (hsl : Region.noSelect ops = true) (hf : Region.free md ops listed i = true) (hr : (Region.ready md ops listed).contains i = true) (hcl : closedB md ops listed = true)
    (hQ : ∀ c a w, Q (.panic c) (a.put oi.dst v) w → Q (.panic c) a w) (his : i ≠ s) (hls : listed.getD s false = false) (hy : YieldsIf P ops C oi v ⟨l.toArray, []⟩) (hC : C w)
    (h : AnyG P md ops Q C s fuel (listed.setIfInBounds i true) ⟨(l.set d v).toArray, []⟩ w) : AnyG P md ops Q C s (fuel + 1) listed ⟨l.toArray, []⟩ w := by
  refine g_first hi hc (by simpa using hil) (Region.noSelect_spec hsl) hQ his fuel listed _ w (Region.free_spec hi hf) (by simpa using hr) hy hls (closed_of hcl) hC ?_
  rw [hd]
  simpa [Act.put] using h
/-- The only one that may come up, before number s: C is to be shown anew behind it. -/
theorem g_step {i : Nat} {o : Oper} {fuel : Nat} {listed : Array Bool} {a : Act} {w : World} (hr : Region.ready md ops listed = [i]) (ho : ops[i]? = some o)
    (h : ∀ K' : Act → World → Prop, Shut (∀ a w, C w → (C w → AnyG P md ops Q C s fuel (listed.setIfInBounds i true) a w) → K' a w) → if Region.wanted o (yielded ops a.tmps) = true then Oper.wp P o a w K' Q else K' (a.put o.dst undef) w) :
    AnyG P md ops Q C s (fuel + 1) listed a w := by
  refine ⟨fun h0 => (by rw [hr] at h0; cases h0), fun j hj => ?_⟩
  rw [hr, List.mem_singleton] at hj
  subst hj
  exact wpOp_step ho fun K' hK => h K' (fun a w hC hG => hK a w ⟨fun _ => hC, hG hC⟩)
/-- The only one that may come up, number s itself: nothing is to be shown anew. -/
theorem g_last {o : Oper} {fuel : Nat} {listed : Array Bool} {a : Act} {w : World} (hr : Region.ready md ops listed = [s]) (ho : ops[s]? = some o) (hs : s < listed.size)
    (h : ∀ K' : Act → World → Prop, Shut (∀ a w, AnyG P md ops Q C s fuel (listed.setIfInBounds s true) a w → K' a w) → if Region.wanted o (yielded ops a.tmps) = true then Oper.wp P o a w K' Q else K' (a.put o.dst undef) w) :
    AnyG P md ops Q C s (fuel + 1) listed a w := by
  refine ⟨fun h0 => (by rw [hr] at h0; cases h0), fun j hj => ?_⟩
  rw [hr, List.mem_singleton] at hj
  subst hj
  exact wpOp_step ho fun K' hK => h K' (fun a w hG => hK a w ⟨fun h0 => by simp [hs] at h0, hG⟩)
theorem g_done {listed : Array Bool} {a : Act} {w : World} (hr : Region.ready md ops listed = []) (h : Q .normal a w) : ∀ fuel, AnyG P md ops Q C s fuel listed a w
  | 0 => ⟨hr, h⟩
  | _ + 1 => ⟨fun _ => h, by rw [hr]; simp⟩
theorem region_G {id : Nat} {a : Act} {w : World} (C : World → Prop) (s : Nat) (hm : P.follows .mixedOrders = true) (hC : C w.drew)
    (h : C w.drew → AnyG P .any ops Q C s ops.size (Array.replicate ops.size false) a w.drew) : (Code.region id ops true).wp P Q a w :=
  wp_region_any hm (any_of_G _ _ _ _ (h hC))
end
end Go.Proofs.YtjggecbaladiiaaGreatDoor
