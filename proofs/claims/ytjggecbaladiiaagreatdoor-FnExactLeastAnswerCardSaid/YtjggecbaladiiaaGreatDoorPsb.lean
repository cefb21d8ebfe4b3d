/- Contracts of the program's widths of all lines of a valid program.
   Conditions: valid lines. -/
import Derived.Test.YtjggecbaladiiaaGreatDoorPsa
namespace Go.Proofs.YtjggecbaladiiaaGreatDoor
open Go.RowKit
set_option linter.unusedVariables false
theorem sbEq (a b : ByteArray) : (a.toList == b.toList) = decide (a = b) := sb_eq a b
/-- The place of the first line of a name. -/
def lnI (l : List Ln) (s : ByteArray) : Option Nat := l.findIdx? fun x => decide (x.nm = s)
def lnV (l : List Ln) (s : ByteArray) : Int := match lnI l s with
  | some k => (k : Int)
  | none => -1
def lnF (l : List Ln) (s : ByteArray) : Int := if s = ⟨#[]⟩ then -1 else lnV l s
theorem lnV_lt {l : List Ln} {s : ByteArray} : lnV l s < l.length := by
  unfold lnV
  rcases h : lnI l s with _ | k
  · show (-1 : Int) < _; omega
  · have := (List.findIdx?_eq_some_iff_getElem.1 h).1
    show (k : Int) < _; omega
theorem wdsR_in {l : List Ln} : ∀ {pre : List Ln} {ws R : List Int}, wdsR pre ws l = some R → ∃ R', R = ws ++ R' ∧ R'.length = l.length ∧ ∀ (i : Nat) x, l[i]? = some x → ∃ v, R'[i]? = some v ∧ wdO (pre ++ l.take i) (ws ++ R'.take i) x = some v := by
  induction l with
  | nil => intro pre ws R h; rw [wdsR] at h; injection h with h; exact ⟨[], by simp [h], rfl, fun i x hx => by simp at hx⟩
  | cons a r ih =>
    intro pre ws R h
    rw [wdsR] at h
    split at h
    · cases h
    · rename_i v hv
      obtain ⟨R', rfl, hl, hi⟩ := ih h
      refine ⟨v :: R', by simp, by simp [hl], fun i x hx => ?_⟩
      cases i with
      | zero => simp at hx; subst hx; exact ⟨v, rfl, by simpa using hv⟩
      | succ i =>
        simp at hx
        obtain ⟨u, h1, h2⟩ := hi i x hx
        exact ⟨u, by simpa using h1, by simpa using h2⟩
theorem wdsL_in {l : List Ln} {ws : List Int} (h : wdsL l = some ws) : ws.length = l.length ∧ ∀ (i : Nat) x, l[i]? = some x → ∃ v, ws[i]? = some v ∧ wdO (l.take i) (ws.take i) x = some v := by
  obtain ⟨R', rfl, h1, h2⟩ := wdsR_in h
  exact ⟨by simpa using h1, fun i x hx => by simpa using h2 i x hx⟩
theorem wdO_in {l : List Ln} {ws : List Int} {x : Ln} {v : Int} (h : wdO l ws x = some v) : (x.k = 1 → x.wd = v ∧ inR x.pt 0 1 = true ∧ inR v 1 10 = true) ∧ (∀ s ∈ x.ps, 0 ≤ fndL l s) := by
  obtain ⟨k, nm, op, ps, pt, wd, vl⟩ := x
  unfold wdO at h
  dsimp only at h ⊢
  split at h
  · split at h
    · rename_i h1; injection h with h; subst h; exact ⟨fun _ => ⟨rfl, h1.2.2.2.2.2.1, h1.2.2.2.2.2.2⟩, fun s hs => by cases hs⟩
    · split at h
      · rename_i h1; exact ⟨fun e => by omega, fun s hs => by cases hs⟩
      · cases h
  · split at h
    · rename_i h1; exact ⟨fun e => by omega, fun s hs => by obtain rfl := List.mem_singleton.1 hs; exact h1.2.2.2⟩
    · split at h
      · rename_i h1; exact ⟨fun e => by omega, fun s hs => by obtain rfl := List.mem_singleton.1 hs; exact h1.2.2⟩
      · cases h
  · split at h
    · rename_i h1; exact ⟨fun e => by omega, fun s hs => by simp only [List.mem_cons, List.not_mem_nil, or_false] at hs; rcases hs with rfl | rfl; exact h1.2.2.2.1.1; exact h1.2.2.2.1.2⟩
    · cases h
  · split at h
    · rename_i h1; exact ⟨fun e => by omega, fun s hs => by simp only [List.mem_cons, List.not_mem_nil, or_false] at hs; rcases hs with rfl | rfl | rfl; exact h1.2.2.2.1.1; exact h1.2.2.2.1.2.1; exact h1.2.2.2.1.2.2⟩
    · cases h
  · cases h
/-- The program finds the lines that the reference finds, and no name twice. -/
def okI (L : List Ln) : Bool := (List.range L.length).all fun i => match L[i]? with
  | none => true
  | some x => (x.ps.all fun s => decide (lnF (L.take i) s = fndL (L.take i) s)) && (decide (x.nm = ⟨#[]⟩) || decide (lnF (L.take i) x.nm < 0))
theorem okI_at {L : List Ln} (h : okI L = true) {i : Nat} {x : Ln} (hx : L[i]? = some x) : (∀ s ∈ x.ps, lnF (L.take i) s = fndL (L.take i) s) ∧ (x.nm = ⟨#[]⟩ ∨ lnF (L.take i) x.nm < 0) := by
  have hi := (List.getElem?_eq_some_iff.1 hx).1
  have := List.all_eq_true.1 h i (List.mem_range.2 hi)
  rw [hx] at this
  simp only [Bool.and_eq_true, List.all_eq_true, decide_eq_true_eq, Bool.or_eq_true] at this
  exact this
theorem line_1 (s : ByteArray) (x : Ln) (C : Option Addr) (m cc g : Nat) (w : World) (hc : w.cell? ⟨g, 0, none⟩ = some (.string s)) :
    Calls Tryz.prog 137 #[.agg #[.int .i64 x.k, .string x.nm, .string x.op, .slice C m cc, .int .i64 x.pt, .int .i64 x.wd, .int .i64 x.vl], .pointer (some ⟨g, 0, none⟩)] w fun e w' => e = .returned (.bool (decide (x.nm = s))) ∧ Bl w w' := by
  obtain ⟨k, nm, op, ps, pt, wd, vl⟩ := x
  have hg : g < w.heap.size := World.block_lt_of_cell? w _ hc
  have hb := sbEq nm s
  dsimp only
  go_enter Tryz.func137, Tryz.ntmps137
  go_wp2_with fail
  go_ret
  exact ⟨rfl, (by (repeat (first | with_reducible assumption | with_reducible exact Bl.refl _ | with_reducible refine Bl.drewN ?_ _ | with_reducible refine Bl.drew ?_ | with_reducible refine Bl.alloc ?_ _ | with_reducible refine Bl.setCell ?_ (by first | (dsimp only; omega) | (simp; omega)) _ | (with_reducible refine Bl.call ?_ (by with_reducible assumption)))))⟩
set_option maxHeartbeats 1000000 in
theorem IndexFunc_line (s : ByteArray) (g : Nat) (A : Option Addr) (n c : Nat) (l : List (Hd × Ln)) (w : World) (hc : w.cell? ⟨g, 0, none⟩ = some (.string s)) (h : RdL w A n c l) :
    Calls Tryz.prog 136 #[.slice A n c, .func (.func 137) #[] #[.pointer (some ⟨g, 0, none⟩)]] w
      fun e w' => e = .returned (.int .i64 (lnV (l.map (·.2)) s)) ∧ Bl w w' := by
  obtain ⟨hle1, hle2⟩ := h.le
  have hlen := Lib.hid h.len
  have hen : ∀ (a : Array Value) (w : World), Sem.run Tryz.prog (callFunc 137 a) w = .ok (.enter 137 a) w := fun _ _ => by kernel_rfl
  have h0 := Bl.refl w
  go_enter Tryz.func136, Tryz.ntmps136
  go_wp2
  go_loopw [8] (fun i wr => ∃ k : Nat, k ≤ n ∧ i = .int .i64 k ∧ Hid (∀ (j : Nat) p, j < k → l[j]? = some p → ¬ p.2.nm = s) ∧ Bl w wr) (fun i _ => n - (intOf i).toNat)
  case atStart => exact ⟨0, by omega, rfl, Lib.hid (fun j m hj => by omega), h0⟩
  case round =>
    obtain ⟨k, hk, rfl, hq, hb⟩ := hrel
    clear h0
    by_cases hlt : k < n
    · obtain ⟨ad, p, rfl, hadb, hx, hps, q0, q1, q2, q3, q4, q5, q6⟩ := (h.keep hb).at_ hlt
      have HX := Lib.hid hx
      clear hx
      have hc' := hb.cells hc
      have i1 : (k : Int) < n := by omega
      by_cases hg : p.2.nm = s
      · have hst := Lib.hid (show lnI (l.map (·.2)) s = some k by
          unfold lnI
          rw [List.findIdx?_eq_some_iff_getElem]
          have hkl : k < l.length := (List.getElem?_eq_some_iff.1 HX.out).1
          refine ⟨by simpa using hkl, ?_, fun j hj => ?_⟩
          · have := (List.getElem?_eq_some_iff.1 HX.out).2
            rw [List.getElem_map, this]; simpa using hg
          · have hjl : j < l.length := by omega
            have := hq.out j l[j] hj (List.getElem?_eq_getElem hjl)
            rw [List.getElem_map]; simpa using this)
        have hd := Lib.hid (decide_eq_true hg)
        clear hg
        go_wp2_with fail
        refine (line_1 s p.2 p.1.A p.1.n p.1.c g _ hc').mono ?_
        rintro e w' ⟨rfl, hb1⟩
        rw [hd.out]
        go_wp2_with fail
        go_ret
        exact ⟨by unfold lnV; rw [hst.out]; rfl, hb.call hb1⟩
      · have hst := Lib.hid (show ∀ (j : Nat) p, j < k + 1 → l[j]? = some p → ¬ p.2.nm = s from fun j p hj hm => by
          by_cases e : j = k
          · subst e
            rw [HX.out] at hm; injection hm with hm; subst hm; exact hg
          · exact hq.out j p (by omega) hm)
        have hd := Lib.hid (decide_eq_false hg)
        clear hg
        go_wp2_with fail
        refine (line_1 s p.2 p.1.A p.1.n p.1.c g _ hc').mono ?_
        rintro e w' ⟨rfl, hb1⟩
        rw [hd.out]
        go_wp2_with fail
        go_roundw
        case rel => exact ⟨k + 1, by omega, by go_num, hst, hb.call hb1⟩
        case measure => simp [intOf]; omega
    · obtain rfl : k = n := by omega
      have hst := Lib.hid (show lnI (l.map (·.2)) s = none by
        unfold lnI
        rw [List.findIdx?_eq_none_iff]
        intro x hx
        obtain ⟨p, hp, rfl⟩ := List.mem_map.1 hx
        obtain ⟨j, hj⟩ := List.mem_iff_getElem?.1 hp
        have := hq.out j p (by have := (List.getElem?_eq_some_iff.1 hj).1; have := hlen.out; omega) hj
        simpa using this)
      go_wp2
      go_ret
      exact ⟨by unfold lnV; rw [hst.out]; rfl, hb⟩
theorem impl_lineOf (s : ByteArray) (A : Option Addr) (n c : Nat) (l : List (Hd × Ln)) (w : World) (h : RdL w A n c l) :
    Calls Tryz.prog 89 #[.slice A n c, .string s] w fun e w' => e = .returned (.int .i64 (lnF (l.map (·.2)) s)) ∧ Bl w w' := by
  have hb := sbEq s ⟨#[]⟩
  by_cases hs : s = ⟨#[]⟩
  · have HE := Lib.hid (show lnF (l.map (·.2)) s = -1 by unfold lnF; rw [if_pos hs])
    rw [decide_eq_true hs] at hb
    have hb2 : (s.toList == []) = true := by rw [nil_list]; exact hb
    clear hs
    go_enter Tryz.func89, Tryz.ntmps89
    go_wp2_with fail
    go_ret
    exact ⟨by rw [HE.out]; rfl, (by (repeat (first | with_reducible assumption | with_reducible exact Bl.refl _ | with_reducible refine Bl.drewN ?_ _ | with_reducible refine Bl.drew ?_ | with_reducible refine Bl.alloc ?_ _ | with_reducible refine Bl.setCell ?_ (by first | (dsimp only; omega) | (simp; omega)) _ | (with_reducible refine Bl.call ?_ (by with_reducible assumption)))))⟩
  · have HE := Lib.hid (show lnF (l.map (·.2)) s = lnV (l.map (·.2)) s by unfold lnF; rw [if_neg hs])
    rw [decide_eq_false hs] at hb
    have hb2 : (s.toList == []) = false := by rw [nil_list]; exact hb
    clear hs
    have hX := Blk.new w 9 #[.string s] (g := w.heap.size)
    have hV := (Bl.refl w).alloc (.cells #[.string s] 9)
    go_enter Tryz.func89, Tryz.ntmps89
    go_wp2_with fail
    refine (IndexFunc_line s w.heap.size A n c l _ (hX.cell 0 _ rfl) (h.keep hV)).mono ?_
    rintro e w1 ⟨rfl, hb1⟩
    go_wp2_with fail
    go_ret
    exact ⟨by rw [HE.out]; rfl, hV.call hb1⟩
end Go.Proofs.YtjggecbaladiiaaGreatDoor
