/- Words for both compilers' memory: its start, what a line adds, what a line's parts are.
   Conditions: none. -/
import Derived.Test.YtjggecbaladiiaaGreatDoorCmi
import Derived.Test.YtjggecbaladiiaaGreatDoorPsd
import Derived.Test.YtjggecbaladiiaaGreatDoorHef
namespace Go.Proofs.YtjggecbaladiiaaGreatDoor
open Go.RowKit
set_option linter.unusedVariables false
section
variable {P : Program} {ops : Array Oper} {Q : Exit → Act → World → Prop} {md : Region.Mode} {S C : World → Prop} {s : Nat}
/-- Any of these may come up, before number s. -/
theorem f_all {rs : List Nat} {fuel : Nat} {listed : Array Bool} {a : Act} {w : World} (hr : Region.ready md ops listed = rs) (hne : rs ≠ [])
    (h : ∀ i ∈ rs, ∃ o, ops[i]? = some o ∧ ∀ K' : Act → World → Prop, Shut (∀ a w, S w ∧ C w → (S w ∧ C w → AnyF P md ops Q S C s fuel (listed.setIfInBounds i true) a w) → K' a w) → if Region.wanted o (yielded ops a.tmps) = true then Oper.wp P o a w K' Q else K' (a.put o.dst undef) w) :
    AnyF P md ops Q S C s (fuel + 1) listed a w := by
  refine ⟨fun h0 => (by rw [hr] at h0; exact absurd h0 hne), fun j hj => ?_⟩
  rw [hr] at hj
  obtain ⟨o, ho, h'⟩ := h j hj
  exact wpOp_step ho fun K' hK => h' K' (fun a w hC hG => hK a w ⟨⟨hC.1, fun _ => hC.2⟩, hG hC⟩)
end
def okS (L : List Ln) : Bool := allR (insL L 0) 0 1000 && allR (insL L 1) 0 1000
theorem okS_at {L : List Ln} (h : okS L = true) : allR (insL L 0) 0 1000 = true ∧ allR (insL L 1) 0 1000 = true := by unfold okS at h; rwa [Bool.and_eq_true] at h
theorem lnF_take {L : List Ln} {k : Nat} {s : ByteArray} (h : 0 ≤ lnF (L.take k) s) : lnF L s = lnF (L.take k) s := by
  unfold lnF at h ⊢
  by_cases hs : s = ⟨#[]⟩
  · rw [if_pos hs, if_pos hs]
  · rw [if_neg hs] at h
    rw [if_neg hs, if_neg hs]
    unfold lnV at h ⊢
    rcases hi : lnI (L.take k) s with _ | q
    · rw [hi] at h; exact absurd h (by decide)
    · have : lnI L s = some q := by
        unfold lnI at hi ⊢
        obtain ⟨h1, h2, h3⟩ := List.findIdx?_eq_some_iff_getElem.1 hi
        rw [List.length_take] at h1
        refine List.findIdx?_eq_some_iff_getElem.2 ⟨by omega, ?_, fun j hj => ?_⟩
        · rw [List.getElem_take] at h2; exact h2
        · have := h3 j hj; rw [List.getElem_take] at this; exact this
      rw [this]
theorem Blk.fm {w w' : World} {x g : Nat} {t : TypeId} {cs : Array Value} {A A' : Option Addr} (h : Blk w g t cs) (hf : Fm w w' x A A') (h1 : g ≠ x) (h2 : A.map (·.block) ≠ some g) : Blk w' g t cs := (hf.kept g h.lt h1 h2).trans h
theorem Cs.init {T TB TO : TypeId} {w3 : World} {a b : Int} {oc : Array Value} (ha : 0 ≤ a ∧ a ≤ 100) (hb : 0 ≤ b ∧ b ≤ 100) :
    Cs ⟨T, TB, TO, w3, w3.heap.size, w3.heap.size + 1, w3.heap.size + 1 + 1, w3.heap.size + 1, a, b⟩ (((w3.alloc (.cells #[.int .i64 a, .int .i64 b, .slice none 0 0, .slice none 0 0] T)).alloc (.cells oc TO)).alloc (.cells #[.int .i64 0, .int .i64 a] TB)) (w3.heap.size + 1 + 1 + 1) [] [] 0 a 0 none none 0 none 0 [] none 0 0 [] oc [] := by
  have hb1 := (((Bl.refl w3).alloc (.cells #[.int .i64 a, .int .i64 b, .slice none 0 0, .slice none 0 0] T)).alloc (.cells oc TO)).alloc (.cells #[.int .i64 0, .int .i64 a] TB)
  refine ⟨⟨rfl, ⟨0, ?_, ⟨OwnV.nil _ _ _ _, rfl⟩⟩, OwnI.nil _ _, Nat.lt_succ_self _, fun k e => by simp at e, ?_, ha, hb⟩, OwnV.nil _ _ _ _, OwnI.nil _ _, ?_, ?_, ?_, ?_, fun p hp => by simp at hp, hb1, ?_⟩
  · exact ((Blk.new w3 T _ (g := w3.heap.size)).alloc _).alloc _
  · simp
  · exact Blk.new _ _ _ (by simp)
  · exact (Blk.new _ _ _ (by simp)).alloc _
  · intro i j q hi hj
    dsimp only [mts] at hi hj
    match i, j with
    | 0, 0 => rfl
    | 0, 5 => simp at hi hj; omega
    | 0, 6 => simp at hi hj; omega
    | 5, 0 => simp at hi hj; omega
    | 5, 5 => rfl
    | 5, 6 => simp at hi hj; omega
    | 6, 0 => simp at hi hj; omega
    | 6, 5 => simp at hi hj; omega
    | 6, 6 => rfl
    | 1, _ => simp at hi
    | 2, _ => simp at hi
    | 3, _ => simp at hi
    | 4, _ => simp at hi
    | _, 1 => simp at hj
    | _, 2 => simp at hj
    | _, 3 => simp at hj
    | _, 4 => simp at hj
    | i + 7, _ => simp at hi
    | _, j + 7 => simp at hj
  · intro m hm q e
    simp only [mts, List.mem_cons, List.not_mem_nil, or_false] at hm
    rcases hm with rfl | rfl | rfl | rfl | rfl | rfl | rfl <;> simp at e <;> (dsimp only; omega)
  · simp
section
variable {Q : Cq} {w w' : World} {Tm : Nat} {g : List Gt} {ol : List Int} {n0 n1 : Int} {n : Nat} {A B : Option Addr} {d : Nat} {WA : Option Addr} {wc : Nat} {hs : List Hd} {EA : Option Addr} {ke ec : Nat} {el : List Int} {ov : Array Value} {rs : List (Hd × List Int)}
theorem Cs.lx (h : Cs Q w Tm g ol n0 n1 n A B d WA wc hs EA ke ec el ov rs) {y : Hd} {l : List Int} (hp : (y, l) ∈ rs) : Lx w Q.x A y.A y.n y.c l := by
  obtain ⟨h1, h2⟩ := h.rr _ hp
  exact ⟨h1, fun k hk => ⟨Nat.lt_of_lt_of_le (h2 k hk).1 h.tm, fun e => (h2 k hk).2 (some Q.x) (by simp [mts]) (by rw [e]), fun e => (h2 k hk).2 _ (by simp [mts]) e⟩⟩
/-- A line's gates are made, and its wires are read. -/
theorem Cs.made {g' : List Gt} {n' : Nat} {A' S : Option Addr} {m c : Nat} {l : List Int} (h : Cs Q w Tm g ol n0 n1 n A B d WA wc hs EA ke ec el ov rs) (hm : ME Q.T ⟨Q.x, Q.base, Q.a, Q.b, B, ol.length, d, ol⟩ w' n' g' A') (hf : Fm w w' Q.x A A') (hr : RdI w' S m c l)
    (hq : ∀ q, S.map (·.block) = some q → w.heap.size ≤ q ∧ q < w'.heap.size ∧ A'.map (·.block) ≠ some q) : Cs Q w' w'.heap.size g' ol n0 n1 n' A' B d WA wc hs EA ke ec el ov (rs ++ [(⟨S, m, c⟩, l)]) := by
  refine (h.gates hm hf).read ⟨hr, fun q e => ⟨(hq q e).2.1, fun mm hmm e2 => ?_⟩⟩
  have h1 := (hq q e).1
  have hT := h.tm
  simp only [mts, List.mem_cons, List.not_mem_nil, or_false] at hmm
  rcases hmm with rfl | rfl | rfl | rfl | rfl | rfl | rfl
  · have := (h.lo (some Q.x) (by simp [mts]) q e2).2; omega
  · exact (hq q e).2.2 e2
  · have := (h.lo (B.map (·.block)) (by simp [mts]) q e2).2; omega
  · have := (h.lo (WA.map (·.block)) (by simp [mts]) q e2).2; omega
  · have := (h.lo (EA.map (·.block)) (by simp [mts]) q e2).2; omega
  · have := (h.lo (some Q.bT) (by simp [mts]) q e2).2; omega
  · have := (h.lo (some Q.bO) (by simp [mts]) q e2).2; omega
theorem Cs.xlt (h : Cs Q w Tm g ol n0 n1 n A B d WA wc hs EA ke ec el ov rs) : Q.x < Tm ∧ Q.bT < Tm ∧ Q.bO < Tm ∧ Q.w0.heap.size ≤ Q.x ∧ Q.w0.heap.size ≤ Q.bT ∧ Q.w0.heap.size ≤ Q.bO :=
  ⟨(h.lo (some Q.x) (by simp [mts]) _ rfl).2, (h.lo (some Q.bT) (by simp [mts]) _ rfl).2, (h.lo (some Q.bO) (by simp [mts]) _ rfl).2, (h.lo (some Q.x) (by simp [mts]) _ rfl).1, (h.lo (some Q.bT) (by simp [mts]) _ rfl).1, (h.lo (some Q.bO) (by simp [mts]) _ rfl).1⟩
theorem Cs.ltA (h : Cs Q w Tm g ol n0 n1 n A B d WA wc hs EA ke ec el ov rs) : (∀ q, A.map (·.block) = some q → q < Tm) ∧ (∀ q, B.map (·.block) = some q → q < Tm) ∧ (∀ q, WA.map (·.block) = some q → q < Tm) ∧ ∀ q, EA.map (·.block) = some q → q < Tm :=
  ⟨fun q e => (h.lo _ (by simp [mts]) q e).2, fun q e => (h.lo (B.map (·.block)) (by simp [mts]) q e).2, fun q e => (h.lo (WA.map (·.block)) (by simp [mts]) q e).2, fun q e => (h.lo (EA.map (·.block)) (by simp [mts]) q e).2⟩
/-- The maker's cells. -/
theorem Cs.mkr (h : Cs Q w Tm g ol n0 n1 n A B d WA wc hs EA ke ec el ov rs) : ∃ c, Blk w Q.x Q.T #[.int .i64 Q.a, .int .i64 Q.b, .slice A n c, .slice B ol.length d] ∧ OwnG Q.base w A n c g := h.me.ex
end
/-- All lines' wires are among the rows that are read. -/
def RS (hs : List Hd) (W : List (List Int)) (rs : List (Hd × List Int)) : Prop := hs.length = W.length ∧ ∀ (i : Nat) (h : Hd) (l : List Int), hs[i]? = some h → W[i]? = some l → (h, l) ∈ rs
theorem RS.mono {hs : List Hd} {W : List (List Int)} {rs rs' : List (Hd × List Int)} (h : RS hs W rs) (hr : ∀ p ∈ rs, p ∈ rs') : RS hs W rs' := ⟨h.1, fun i y l h1 h2 => hr _ (h.2 i y l h1 h2)⟩
theorem RS.push {hs : List Hd} {W : List (List Int)} {rs : List (Hd × List Int)} {y : Hd} {l : List Int} (h : RS hs W rs) (hy : (y, l) ∈ rs) : RS (hs ++ [y]) (W ++ [l]) rs := by
  refine ⟨by simp [h.1], fun i z r hz hr => ?_⟩
  by_cases hi : i < hs.length
  · rw [List.getElem?_append_left hi] at hz
    rw [List.getElem?_append_left (by rw [← h.1]; exact hi)] at hr
    exact h.2 i z r hz hr
  · rw [List.getElem?_append_right (by omega)] at hz
    rw [List.getElem?_append_right (by rw [← h.1]; omega), ← h.1] at hr
    match e : i - hs.length with
    | 0 => rw [e] at hz hr; simp at hz hr; rw [← hz, ← hr]; exact hy
    | j + 1 => rw [e] at hz; simp at hz
/-- The parts of a line are among the rows that are read. -/
def PR (hp : List Hd) (P : List (List Int)) (rs : List (Hd × List Int)) (j : Nat) : Prop := hp.length = j ∧ ∀ i, i < j → ∃ h l, hp[i]? = some h ∧ P[i]? = some l ∧ (h, l) ∈ rs
theorem PR.push {hp : List Hd} {P : List (List Int)} {rs : List (Hd × List Int)} {j : Nat} {y : Hd} {l : List Int} (h : PR hp P rs j) (hP : P[j]? = some l) (hy : (y, l) ∈ rs) : PR (hp ++ [y]) P rs (j + 1) := by
  refine ⟨by simp [h.1], fun i hi => ?_⟩
  by_cases hij : i < j
  · obtain ⟨z, r, h1, h2, h3⟩ := h.2 i hij
    exact ⟨z, r, by rw [List.getElem?_append_left (by rw [h.1]; exact hij)]; exact h1, h2, h3⟩
  · obtain rfl : i = j := by omega
    exact ⟨y, l, by rw [List.getElem?_append_right (by rw [h.1]; exact Nat.le_refl _), h.1, Nat.sub_self]; rfl, hP, hy⟩
theorem PR.one {hp : List Hd} {p : List Int} {rs : List (Hd × List Int)} (h : PR hp [p] rs 1) : ∃ y, hp = [y] ∧ (y, p) ∈ rs := by
  obtain ⟨h1, h2⟩ := h
  obtain ⟨y, l, e1, e2, e3⟩ := h2 0 (by omega)
  simp at e2; subst e2
  exact ⟨y, by
    match hp, h1, e1 with
    | [z], _, e1 => simp at e1; rw [e1], e3⟩
theorem PR.two {hp : List Hd} {p q : List Int} {rs : List (Hd × List Int)} (h : PR hp [p, q] rs 2) : ∃ y z, hp = [y, z] ∧ (y, p) ∈ rs ∧ (z, q) ∈ rs := by
  obtain ⟨h1, h2⟩ := h
  obtain ⟨y, l, e1, e2, e3⟩ := h2 0 (by omega)
  obtain ⟨z, l', f1, f2, f3⟩ := h2 1 (by omega)
  simp at e2 f2; subst e2; subst f2
  exact ⟨y, z, by
    match hp, h1, e1, f1 with
    | [a, b], _, e1, f1 => simp at e1 f1; rw [e1, f1], e3, f3⟩
theorem PR.three {hp : List Hd} {p q r : List Int} {rs : List (Hd × List Int)} (h : PR hp [p, q, r] rs 3) : ∃ y z u, hp = [y, z, u] ∧ (y, p) ∈ rs ∧ (z, q) ∈ rs ∧ (u, r) ∈ rs := by
  obtain ⟨h1, h2⟩ := h
  obtain ⟨y, l, e1, e2, e3⟩ := h2 0 (by omega)
  obtain ⟨z, l', f1, f2, f3⟩ := h2 1 (by omega)
  obtain ⟨u, l'', g1, g2, g3⟩ := h2 2 (by omega)
  simp at e2 f2 g2; subst e2; subst f2; subst g2
  exact ⟨y, z, u, by
    match hp, h1, e1, f1, g1 with
    | [a, b, c], _, e1, f1, g1 => simp at e1 f1 g1; rw [e1, f1, g1], e3, f3, g3⟩
def wsA (pre : List Ln) (ws : List Int) (s : ByteArray) : Int := ws.getD (fndL pre s).toNat 0
/-- What a line's gates are made of. -/
structure Wk (pre : List Ln) (ws : List Int) (x : Ln) : Prop where
  k : x.k = 1 ∨ x.k = 2 ∨ x.k = 3 ∨ x.k = 4 ∨ x.k = 5 ∨ x.k = 6
  f : ∀ s ∈ x.ps, 0 ≤ fndL pre s
  k1 : x.k = 1 → (x.pt = 0 ∨ x.pt = 1) ∧ 1 ≤ x.wd ∧ x.wd ≤ 10
  k2 : x.k = 2 → (1 ≤ x.wd ∧ x.wd ≤ 10) ∧ 0 ≤ x.vl ∧ x.vl ≤ 1023
  k3 : x.k = 3 → ∃ p q, x.ps = [p, q] ∧ x.op ∈ opsL ∧ wsA pre ws p = wsA pre ws q ∧ 1 ≤ wsA pre ws q ∧ wsA pre ws q ≤ 4
  k4 : x.k = 4 → ∃ p, x.ps = [p] ∧ 1 ≤ wsA pre ws p ∧ wsA pre ws p ≤ 10
  k5 : x.k = 5 → ∃ p q r, x.ps = [p, q, r] ∧ wsA pre ws p = 1 ∧ wsA pre ws q = wsA pre ws r ∧ 1 ≤ wsA pre ws r ∧ wsA pre ws r ≤ 10
  k6 : x.k = 6 → ∃ p, x.ps = [p] ∧ 1 ≤ wsA pre ws p ∧ wsA pre ws p ≤ 10
theorem pow10 {w : Int} (h1 : 1 ≤ w) (h2 : w ≤ 10) : (2 : Int) ^ w.toNat - 1 ≤ 1023 := by
  rcases (by omega : w = 1 ∨ w = 2 ∨ w = 3 ∨ w = 4 ∨ w = 5 ∨ w = 6 ∨ w = 7 ∨ w = 8 ∨ w = 9 ∨ w = 10) with e | e | e | e | e | e | e | e | e | e <;> rw [e] <;> decide
theorem wk_of {pre : List Ln} {ws : List Int} {x : Ln} {v : Int} (h : wdO pre ws x = some v) (hl : ws.length = pre.length) (hw4 : x.k = 3 → (pws pre ws x.ps).getD 0 0 ≤ 4) (hall : ∀ u ∈ ws, inR u 1 10 = true) : Wk pre ws x := by
  have hq : ∀ s, 0 ≤ fndL pre s → (fndL pre s).toNat < ws.length := fun s h0 => by have := fndL_lt pre s; omega
  have hin : ∀ s, 0 ≤ fndL pre s → 1 ≤ wsA pre ws s ∧ wsA pre ws s ≤ 10 := fun s h1 => by
    unfold wsA
    rw [List.getD_eq_getElem?_getD, List.getElem?_eq_getElem (hq s h1)]
    exact inR_iff.1 (hall _ (List.getElem_mem (hq s h1)))
  obtain ⟨k, nm, op, ps, pt, wd, vl⟩ := x
  unfold wdO at h
  dsimp only at h hw4
  split at h
  · split at h
    · rename_i h1; obtain ⟨rfl, _, _, _, _, h2, h3⟩ := h1
      have h2 := inR_iff.1 h2
      have h3 := inR_iff.1 h3
      exact ⟨by simp, by simp, fun _ => ⟨by show pt = 0 ∨ pt = 1; omega, h3⟩, fun e => by simp at e, fun e => by simp at e, fun e => by simp at e, fun e => by simp at e, fun e => by simp at e⟩
    · split at h
      · rename_i h1; obtain ⟨rfl, _, _, _, _, h2, h3⟩ := h1
        have h2 := inR_iff.1 h2
        have h3 := inR_iff.1 h3
        have := pow10 h2.1 h2.2
        exact ⟨by simp, by simp, fun e => by simp at e, fun _ => ⟨h2, h3.1, by show vl ≤ 1023; omega⟩, fun e => by simp at e, fun e => by simp at e, fun e => by simp at e, fun e => by simp at e⟩
      · cases h
  · rename_i p
    split at h
    · rename_i h1; obtain ⟨⟨rfl, _⟩, _, _, h2⟩ := h1
      exact ⟨by simp, by simpa using h2, fun e => by simp at e, fun e => by simp at e, fun e => by simp at e, fun _ => ⟨p, rfl, hin p h2⟩, fun e => by simp at e, fun e => by simp at e⟩
    · split at h
      · rename_i h1; obtain ⟨⟨rfl, _⟩, _, h2⟩ := h1
        exact ⟨by simp, by simpa using h2, fun e => by simp at e, fun e => by simp at e, fun e => by simp at e, fun e => by simp at e, fun e => by simp at e, fun _ => ⟨p, rfl, hin p h2⟩⟩
      · cases h
  · rename_i p q
    split at h
    · rename_i h1; obtain ⟨⟨rfl, _⟩, _, _, ⟨h2, h3⟩, h4, h5, _, h6, _⟩ := h1
      have e2 : ws.getD (fndL pre q).toNat 0 = ws.getD (fndL pre p).toNat 0 := by injection h4 with _ h4; injection h4
      have hw := hw4 rfl
      refine ⟨by simp, by simp; exact ⟨h2, h3⟩, fun e => by simp at e, fun e => by simp at e, fun _ => ⟨p, q, rfl, opB_mem h6, e2.symm, (hin q h3).1, ?_⟩, fun e => by simp at e, fun e => by simp at e, fun e => by simp at e⟩
      unfold wsA
      rw [e2]
      exact hw
    · cases h
  · rename_i p q r
    split at h
    · rename_i h1; obtain ⟨⟨rfl, _⟩, _, _, ⟨h2, h3, h4⟩, h5⟩ := h1
      have e1 : ws.getD (fndL pre p).toNat 0 = 1 := by injection h5 with h5
      have e3 : ws.getD (fndL pre r).toNat 0 = ws.getD (fndL pre q).toNat 0 := by injection h5 with _ h5; injection h5 with _ h5; injection h5
      exact ⟨by simp, by simp; exact ⟨h2, h3, h4⟩, fun e => by simp at e, fun e => by simp at e, fun e => by simp at e, fun e => by simp at e, fun _ => ⟨p, q, r, rfl, e1, e3.symm, hin r h4⟩, fun e => by simp at e⟩
    · cases h
  · cases h
theorem part_at {mul : Mul} {L : List Ln} {ws : List Int} {k : Nat} {s : ByteArray} (hoc : OkC mul L ws k) (i1 : ws.length = L.length) (hk : k ≤ L.length) (hs0 : 0 ≤ fndL (L.take k) s) :
    ∃ q r, fndL (L.take k) s = (q : Nat) ∧ q < k ∧ (cpL mul L k).W[q]? = some r ∧ (cpL mul L k).W.getD (fndL (L.take k) s).toNat [] = r ∧ (r.length : Int) = wsA (L.take k) (ws.take k) s := by
  have hlt2 := fndL_lt (L.take k) s
  rw [List.length_take] at hlt2
  obtain ⟨q, hq⟩ : ∃ q : Nat, fndL (L.take k) s = (q : Nat) := ⟨(fndL (L.take k) s).toNat, by omega⟩
  obtain ⟨r, hr1, hr2⟩ := hoc.len (q := q) i1 hk (by omega)
  refine ⟨q, r, hq, by omega, hr1, ?_, ?_⟩
  · rw [hq, Int.toNat_natCast, List.getD_eq_getElem?_getD, hr1]; rfl
  · unfold wsA
    rw [hr2, hq, Int.toNat_natCast, getD_take (by omega)]
theorem own_madeV (w : World) {g : Nat} (hg : w.heap.size = g) : OwnV 27 1 g (w.alloc (.cells #[] 27)) (some ⟨g, 0, none⟩) 0 0 [] := by
  subst hg
  exact World.ownsRow_made (size := 1) w #[] 0 (Nat.le_refl _) (by simp) (by simp)
/-- The parts' widths. -/
theorem prt_len {pre : List Ln} {W : List (List Int)} {ws : List Int} {p : ByteArray} {N : Int} (h : ∃ q r, fndL pre p = (q : Nat) ∧ W[q]? = some r ∧ W.getD (fndL pre p).toNat [] = r ∧ (r.length : Int) = wsA pre ws p) (hN : wsA pre ws p = N) : ((W.getD (fndL pre p).toNat []).length : Int) = N := by
  obtain ⟨q, r, _, _, h3, h4⟩ := h
  rw [h3, h4, hN]
theorem RdI.grownF_ {w w' : World} {g n c : Nat} {l : List Int} {row : Option Nat} (h : RdI w (some ⟨g, 0, none⟩) n c l) (hg : w.grownBy w' row) (hne : row ≠ some g) : RdI w' (some ⟨g, 0, none⟩) n c l :=
  RdI.grown h hg (fun a ha e => by injection ha with ha; subst ha; exact hne e.symm)
theorem rngL_step (f : Int) (k : Nat) : rngL f (k + 1) = rngL f k ++ [f + (k : Int)] := by simp [rngL, List.range_succ]
end Go.Proofs.YtjggecbaladiiaaGreatDoor
