/- The values of a valid program as plain data.
   Conditions: none. -/
import Derived.Test.YtdndkkaacfbkkaaGreatDoorPsh
namespace Go.Proofs.YtdndkkaacfbkkaaGreatDoor
open Go.RowKit
set_option linter.unusedVariables false
/-- The value of a line behind others with values. -/
def valV (pre : List Ln) (ws vals : List Int) (inp : Int) (x : Ln) : Int :=
  if x.k = 1 then inp else if x.k = 2 then x.vl
  else if x.k = 3 then opV x.op ((pws pre ws x.ps).getD 0 0) ((pws pre vals x.ps).getD 0 0) ((pws pre vals x.ps).getD 1 0)
  else if x.k = 4 then 2 ^ ((pws pre ws x.ps).getD 0 0).toNat - 1 - (pws pre vals x.ps).getD 0 0
  else if x.k = 5 then (pws pre vals x.ps).getD (2 - (pws pre vals x.ps).getD 0 0).toNat 0
  else (pws pre vals x.ps).getD 0 0
def inpV (a b : List Int) (pre : List Ln) (x : Ln) : Int := if x.pt = 0 then a.getD (insL pre 0).length 0 else b.getD (insL pre 1).length 0
def evR (ws a b : List Int) : List Ln → List Int → List Ln → List Int
  | _, vals, [] => vals
  | pre, vals, x :: t => evR ws a b (pre ++ [x]) (vals ++ [valV pre (ws.take pre.length) vals (inpV a b pre x) x]) t
/-- The values of all lines. -/
def evL (ws : List Int) (L : List Ln) (a b : List Int) : List Int := evR ws a b [] [] L
theorem evR_in {ws a b : List Int} {l : List Ln} : ∀ {pre : List Ln} {vals : List Int}, ∃ R', evR ws a b pre vals l = vals ++ R' ∧ R'.length = l.length ∧ ∀ (i : Nat) x, l[i]? = some x → R'[i]? = some (valV (pre ++ l.take i) (ws.take (pre.length + i)) (vals ++ R'.take i) (inpV a b (pre ++ l.take i) x) x) := by
  induction l with
  | nil => intro pre vals; exact ⟨[], by simp [evR], rfl, fun i x hx => by simp at hx⟩
  | cons y r ih =>
    intro pre vals
    obtain ⟨R', e, hl, hi⟩ := ih (pre := pre ++ [y]) (vals := vals ++ [valV pre (ws.take pre.length) vals (inpV a b pre y) y])
    refine ⟨valV pre (ws.take pre.length) vals (inpV a b pre y) y :: R', by rw [evR, e]; simp, by simp [hl], fun i x hx => ?_⟩
    cases i with
    | zero => simp at hx; subst hx; simp
    | succ i =>
      simp at hx
      have := hi i x hx
      rw [List.length_append, List.length_singleton, show pre.length + 1 + i = pre.length + (i + 1) by omega] at this
      simpa using this
theorem evL_in (ws : List Int) (L : List Ln) (a b : List Int) : (evL ws L a b).length = L.length ∧ ∀ (i : Nat) x, L[i]? = some x → (evL ws L a b)[i]? = some (valV (L.take i) (ws.take i) ((evL ws L a b).take i) (inpV a b (L.take i) x) x) := by
  obtain ⟨R', e, h1, h2⟩ := evR_in (ws := ws) (a := a) (b := b) (l := L) (pre := []) (vals := [])
  unfold evL
  rw [e]
  exact ⟨by simpa using h1, fun i x hx => by simpa using h2 i x hx⟩
theorem fitR_at : ∀ {a ws : List Int}, fitR a ws = true → ∀ (k : Nat) v, ws[k]? = some v → ∃ x, a[k]? = some x ∧ 0 ≤ x ∧ x ≤ 2 ^ v.toNat - 1
  | [], [], _, k, v, hv => by simp at hv
  | x :: r, u :: s, h, 0, v, hv => by
    simp at hv; subst hv
    rw [fitR, Bool.and_eq_true] at h
    have := inR_iff.1 h.1
    exact ⟨x, rfl, this.1, this.2⟩
  | x :: r, u :: s, h, k + 1, v, hv => by
    rw [fitR, Bool.and_eq_true] at h
    simp at hv
    obtain ⟨y, h1, h2⟩ := fitR_at h.2 k v hv
    exact ⟨y, by simpa using h1, h2⟩
  | [], _ :: _, h, _, _, _ => by simp [fitR] at h
  | _ :: _, [], h, _, _, _ => by simp [fitR] at h
theorem insL_at {L : List Ln} {p : Int} {k : Nat} {x : Ln} (hx : L[k]? = some x) (hk : x.k = 1) (hp : x.pt = p) : (insL L p)[(insL (L.take k) p).length]? = some x.wd := by
  have hlt := (List.getElem?_eq_some_iff.1 hx).1
  have e : L = L.take k ++ x :: L.drop (k + 1) := by
    rw [← (List.getElem?_eq_some_iff.1 hx).2, List.getElem_cons_drop, List.take_append_drop]
  have h2 : insL L p = insL (L.take k) p ++ x.wd :: insL (L.drop (k + 1)) p := by
    rw [e]
    unfold insL
    rw [List.filterMap_append, List.filterMap_cons]
    rw [if_pos ⟨hk, hp⟩, List.take_append_of_le_length (by rw [List.length_take]; omega), List.take_take, Nat.min_self, List.drop_append, List.length_take, Nat.min_eq_left (by omega)]
    have : List.drop (k + 1) (List.take k L) = [] := List.drop_eq_nil_of_le (by rw [List.length_take]; omega)
    rw [this, List.nil_append, show k + 1 - k = 1 by omega]
    rfl
  rw [h2, List.getElem?_append_right (Nat.le_refl _), Nat.sub_self]
  rfl
def bfB (x y m : Nat) : Bool := decide (0 ≤ bits .and .i64 (x : Nat) (y : Nat)) && decide (0 ≤ bits .or .i64 (x : Nat) (y : Nat)) && decide (0 ≤ bits .xor .i64 (x : Nat) (y : Nat)) &&
  (!(decide (x ≤ m) && decide (y ≤ m)) || (decide (bits .and .i64 (x : Nat) (y : Nat) ≤ (m : Nat)) && decide (bits .or .i64 (x : Nat) (y : Nat) ≤ (m : Nat)) && decide (bits .xor .i64 (x : Nat) (y : Nat) ≤ (m : Nat))))
theorem bits_fin : ∀ x, x < 16 → ∀ y, y < 16 → bfB x y 1 = true ∧ bfB x y 3 = true ∧ bfB x y 7 = true ∧ bfB x y 15 = true := by decide +kernel
theorem bfB_at {x y m : Nat} (h : bfB x y m = true) (h1 : x ≤ m) (h2 : y ≤ m) : (0 ≤ bits .and .i64 (x : Nat) (y : Nat) ∧ 0 ≤ bits .or .i64 (x : Nat) (y : Nat) ∧ 0 ≤ bits .xor .i64 (x : Nat) (y : Nat)) ∧ bits .and .i64 (x : Nat) (y : Nat) ≤ (m : Nat) ∧ bits .or .i64 (x : Nat) (y : Nat) ≤ (m : Nat) ∧ bits .xor .i64 (x : Nat) (y : Nat) ≤ (m : Nat) := by
  unfold bfB at h
  simp only [Bool.and_eq_true, Bool.or_eq_true, decide_eq_true_eq, Bool.not_eq_true', decide_eq_true h1, decide_eq_true h2, Bool.and_self, Bool.true_eq_false, false_or] at h
  exact ⟨⟨h.1.1.1, h.1.1.2, h.1.2⟩, h.2.1.1, h.2.1.2, h.2.2⟩
theorem bits_bd {x y : Int} {m : Nat} (hm : m = 1 ∨ m = 3 ∨ m = 7 ∨ m = 15) (hx : 0 ≤ x ∧ x ≤ m) (hy : 0 ≤ y ∧ y ≤ m) : (0 ≤ bits .and .i64 x y ∧ 0 ≤ bits .or .i64 x y ∧ 0 ≤ bits .xor .i64 x y) ∧ bits .and .i64 x y ≤ m ∧ bits .or .i64 x y ≤ m ∧ bits .xor .i64 x y ≤ m := by
  obtain ⟨a, rfl⟩ : ∃ a : Nat, x = a := ⟨x.toNat, by omega⟩
  obtain ⟨b, rfl⟩ : ∃ b : Nat, y = b := ⟨y.toNat, by omega⟩
  obtain ⟨h1, h2, h3, h4⟩ := bits_fin a (by omega) b (by omega)
  rcases hm with rfl | rfl | rfl | rfl
  · exact bfB_at h1 (by omega) (by omega)
  · exact bfB_at h2 (by omega) (by omega)
  · exact bfB_at h3 (by omega) (by omega)
  · exact bfB_at h4 (by omega) (by omega)
theorem opV_bd {op : ByteArray} (ho : op ∈ opsL) {w x y : Int} (hw : 1 ≤ w ∧ w ≤ 4) (hx : 0 ≤ x ∧ x ≤ 2 ^ w.toNat - 1) (hy : 0 ≤ y ∧ y ≤ 2 ^ w.toNat - 1) : 0 ≤ opV op w x y ∧ opV op w x y ≤ 2 ^ (twoW op w).toNat - 1 := by
  simp only [opsL, List.mem_cons, List.not_mem_nil, or_false] at ho
  have key : ∀ (c : Nat) (v : Nat), v = 2 ^ w.toNat - 1 → v = c → True := fun _ _ _ _ => trivial
  rcases (by omega : w = 1 ∨ w = 2 ∨ w = 3 ∨ w = 4) with rfl | rfl | rfl | rfl
  all_goals
    try replace hx : 0 ≤ x ∧ x ≤ ((1 : Nat) : Int) := hx
    try replace hy : 0 ≤ y ∧ y ≤ ((1 : Nat) : Int) := hy
    try replace hx : 0 ≤ x ∧ x ≤ ((3 : Nat) : Int) := hx
    try replace hy : 0 ≤ y ∧ y ≤ ((3 : Nat) : Int) := hy
    try replace hx : 0 ≤ x ∧ x ≤ ((7 : Nat) : Int) := hx
    try replace hy : 0 ≤ y ∧ y ≤ ((7 : Nat) : Int) := hy
    try replace hx : 0 ≤ x ∧ x ≤ ((15 : Nat) : Int) := hx
    try replace hy : 0 ≤ y ∧ y ≤ ((15 : Nat) : Int) := hy
    have hb := bits_bd (by simp) hx hy
    have hm1 := Int.mul_le_mul hx.2 hy.2 hy.1 (by omega)
    have hm2 := Int.mul_nonneg hx.1 hy.1
    rcases ho with rfl | rfl | rfl | rfl | rfl | rfl | rfl | rfl
  all_goals
    first
      | (show 0 ≤ (x + y) % 2 ∧ (x + y) % 2 ≤ 1; omega)
      | (show 0 ≤ (x + y) % 4 ∧ (x + y) % 4 ≤ 3; omega)
      | (show 0 ≤ (x + y) % 8 ∧ (x + y) % 8 ≤ 7; omega)
      | (show 0 ≤ (x + y) % 16 ∧ (x + y) % 16 ≤ 15; omega)
      | (show 0 ≤ (x - y) % 2 ∧ (x - y) % 2 ≤ 1; omega)
      | (show 0 ≤ (x - y) % 4 ∧ (x - y) % 4 ≤ 3; omega)
      | (show 0 ≤ (x - y) % 8 ∧ (x - y) % 8 ≤ 7; omega)
      | (show 0 ≤ (x - y) % 16 ∧ (x - y) % 16 ≤ 15; omega)
      | (show 0 ≤ x * y ∧ x * y ≤ 3; exact ⟨hm2, Int.le_trans hm1 (by decide)⟩)
      | (show 0 ≤ x * y ∧ x * y ≤ 15; exact ⟨hm2, Int.le_trans hm1 (by decide)⟩)
      | (show 0 ≤ x * y ∧ x * y ≤ 63; exact ⟨hm2, Int.le_trans hm1 (by decide)⟩)
      | (show 0 ≤ x * y ∧ x * y ≤ 255; exact ⟨hm2, Int.le_trans hm1 (by decide)⟩)
      | (show 0 ≤ (if x < y then (1 : Int) else 0) ∧ (if x < y then (1 : Int) else 0) ≤ 1; split <;> omega)
      | (show 0 ≤ (if x = y then (1 : Int) else 0) ∧ (if x = y then (1 : Int) else 0) ≤ 1; split <;> omega)
      | exact ⟨hb.1.1, hb.2.1⟩
      | exact ⟨hb.1.2.1, hb.2.2.1⟩
      | exact ⟨hb.1.2.2, hb.2.2.2⟩
theorem getD_take {l : List Int} {k q : Nat} (h : q < k) : (l.take k).getD q 0 = l.getD q 0 := by
  rw [List.getD_eq_getElem?_getD, List.getD_eq_getElem?_getD, List.getElem?_take_of_lt h]
/-- Operations take numbers of at most four bits. -/
def okW (L : List Ln) (ws : List Int) : Bool := (List.range L.length).all fun i => match L[i]? with
  | none => true
  | some x => !decide (x.k = 3) || decide ((pws (L.take i) (ws.take i) x.ps).getD 0 0 ≤ 4)
theorem okW_at {L : List Ln} {ws : List Int} (h : okW L ws = true) {i : Nat} {x : Ln} (hx : L[i]? = some x) (hk : x.k = 3) : (pws (L.take i) (ws.take i) x.ps).getD 0 0 ≤ 4 := by
  have hi := (List.getElem?_eq_some_iff.1 hx).1
  have := List.all_eq_true.1 h i (List.mem_range.2 hi)
  rw [hx] at this
  simp only [hk, decide_true, Bool.not_true, Bool.false_or, decide_eq_true_eq] at this
  exact this
/-- What a line's value is made of. -/
structure Vk (pre : List Ln) (ws vals : List Int) (x : Ln) : Prop where
  k : x.k = 1 ∨ x.k = 2 ∨ x.k = 3 ∨ x.k = 4 ∨ x.k = 5 ∨ x.k = 6
  k1 : x.k = 1 → x.pt = 0 ∨ x.pt = 1
  k3 : x.k = 3 → ∃ w u v, pws pre ws x.ps = [w, w] ∧ pws pre vals x.ps = [u, v] ∧ x.op ∈ opsL ∧ (1 ≤ w ∧ w ≤ 4) ∧ (0 ≤ u ∧ u ≤ 2 ^ w.toNat - 1) ∧ (0 ≤ v ∧ v ≤ 2 ^ w.toNat - 1)
  k4 : x.k = 4 → ∃ w u, pws pre ws x.ps = [w] ∧ pws pre vals x.ps = [u] ∧ inR w 1 10 = true ∧ (0 ≤ u ∧ u ≤ 2 ^ w.toNat - 1)
  k5 : x.k = 5 → ∃ s u v, pws pre vals x.ps = [s, u, v] ∧ (s = 0 ∨ s = 1)
  k6 : x.k = 6 → ∃ u, pws pre vals x.ps = [u]
theorem vk_of {pre : List Ln} {ws vals : List Int} {x : Ln} {v : Int} (h : wdO pre ws x = some v) (hl : ws.length = pre.length) (hw4 : x.k = 3 → (pws pre ws x.ps).getD 0 0 ≤ 4) (hall : ∀ u ∈ ws, inR u 1 10 = true)
    (hb : ∀ q, q < ws.length → 0 ≤ vals.getD q 0 ∧ vals.getD q 0 ≤ 2 ^ (ws.getD q 0).toNat - 1) : Vk pre ws vals x := by
  have hq : ∀ s, 0 ≤ fndL pre s → (fndL pre s).toNat < ws.length := fun s h0 => by have := fndL_lt pre s; omega
  have hin : ∀ q, q < ws.length → inR (ws.getD q 0) 1 10 = true := fun q h1 => by
    rw [List.getD_eq_getElem?_getD, List.getElem?_eq_getElem h1]
    exact hall _ (List.getElem_mem h1)
  obtain ⟨k, nm, op, ps, pt, wd, vl⟩ := x
  unfold wdO at h
  dsimp only at h hw4
  split at h
  · split at h
    · rename_i h1; obtain ⟨rfl, _, _, _, _, h2, _⟩ := h1
      have := inR_iff.1 h2
      exact ⟨by simp, fun _ => by show pt = 0 ∨ pt = 1; omega, fun e => by simp at e, fun e => by simp at e, fun e => by simp at e, fun e => by simp at e⟩
    · split at h
      · rename_i h1; obtain ⟨rfl, _⟩ := h1
        exact ⟨by simp, fun e => by simp at e, fun e => by simp at e, fun e => by simp at e, fun e => by simp at e, fun e => by simp at e⟩
      · cases h
  · rename_i p
    split at h
    · rename_i h1; obtain ⟨⟨rfl, _⟩, _, _, h2⟩ := h1
      exact ⟨by simp, fun e => by simp at e, fun e => by simp at e, fun _ => ⟨_, _, rfl, rfl, hin _ (hq p h2), hb _ (hq p h2)⟩, fun e => by simp at e, fun e => by simp at e⟩
    · split at h
      · rename_i h1; obtain ⟨⟨rfl, _⟩, _⟩ := h1
        exact ⟨by simp, fun e => by simp at e, fun e => by simp at e, fun e => by simp at e, fun e => by simp at e, fun _ => ⟨_, rfl⟩⟩
      · cases h
  · rename_i p q
    split at h
    · rename_i h1; obtain ⟨⟨rfl, _⟩, _, _, ⟨h2, h3⟩, h4, h5, _, h6, _⟩ := h1
      have e2 : ws.getD (fndL pre q).toNat 0 = ws.getD (fndL pre p).toNat 0 := by injection h4 with _ h4; injection h4
      refine ⟨by simp, fun e => by simp at e, fun _ => ⟨_, _, _, h4, rfl, opB_mem h6, ⟨h5, hw4 rfl⟩, hb _ (hq p h2), ?_⟩, fun e => by simp at e, fun e => by simp at e, fun e => by simp at e⟩
      rw [← e2]
      exact hb _ (hq q h3)
    · cases h
  · rename_i p q r
    split at h
    · rename_i h1; obtain ⟨⟨rfl, _⟩, _, _, ⟨h2, h3, h4⟩, h5⟩ := h1
      have e1 : ws.getD (fndL pre p).toNat 0 = 1 := by injection h5 with h5
      have hs := hb _ (hq p h2)
      rw [e1] at hs
      replace hs : 0 ≤ vals.getD (fndL pre p).toNat 0 ∧ vals.getD (fndL pre p).toNat 0 ≤ 1 := hs
      exact ⟨by simp, fun e => by simp at e, fun e => by simp at e, fun e => by simp at e, fun _ => ⟨vals.getD (fndL pre p).toNat 0, _, _, rfl, by omega⟩, fun e => by simp at e⟩
    · cases h
  · cases h
/-- A value lies within its width. -/
theorem valV_bd {pre : List Ln} {ws vals : List Int} {x : Ln} {v inp : Int} (h : wdO pre ws x = some v) (hl : ws.length = pre.length) (hw4 : x.k = 3 → (pws pre ws x.ps).getD 0 0 ≤ 4) (hall : ∀ u ∈ ws, inR u 1 10 = true)
    (hb : ∀ q, q < ws.length → 0 ≤ vals.getD q 0 ∧ vals.getD q 0 ≤ 2 ^ (ws.getD q 0).toNat - 1) (hi : x.k = 1 → 0 ≤ inp ∧ inp ≤ 2 ^ x.wd.toNat - 1) : 0 ≤ valV pre ws vals inp x ∧ valV pre ws vals inp x ≤ 2 ^ v.toNat - 1 := by
  have hq : ∀ s, 0 ≤ fndL pre s → (fndL pre s).toNat < ws.length := fun s h0 => by have := fndL_lt pre s; omega
  obtain ⟨k, nm, op, ps, pt, wd, vl⟩ := x
  unfold wdO at h
  dsimp only at h hw4 hi
  split at h
  · split at h
    · rename_i h1; obtain ⟨rfl, _⟩ := h1; injection h with h; subst h
      exact hi rfl
    · split at h
      · rename_i h1; obtain ⟨rfl, _, _, _, _, _, h2⟩ := h1; injection h with h; subst h
        exact inR_iff.1 h2
      · cases h
  · rename_i p
    split at h
    · rename_i h1; obtain ⟨⟨rfl, _⟩, _, _, h2⟩ := h1; injection h with h; subst h
      have := hb _ (hq p h2)
      show 0 ≤ 2 ^ (ws.getD (fndL pre p).toNat 0).toNat - 1 - vals.getD (fndL pre p).toNat 0 ∧ 2 ^ (ws.getD (fndL pre p).toNat 0).toNat - 1 - vals.getD (fndL pre p).toNat 0 ≤ 2 ^ (ws.getD (fndL pre p).toNat 0).toNat - 1
      omega
    · split at h
      · rename_i h1; obtain ⟨⟨rfl, _⟩, _, h2⟩ := h1; injection h with h; subst h
        exact hb _ (hq p h2)
      · cases h
  · rename_i p q
    split at h
    · rename_i h1; obtain ⟨⟨rfl, _⟩, _, _, ⟨h2, h3⟩, h4, h5, _, h6, _⟩ := h1; injection h with h; subst h
      have e2 : ws.getD (fndL pre q).toNat 0 = ws.getD (fndL pre p).toNat 0 := by injection h4 with _ h4; injection h4
      have hbq := hb _ (hq q h3)
      rw [e2] at hbq
      exact opV_bd (opB_mem h6) ⟨h5, hw4 rfl⟩ (hb _ (hq p h2)) hbq
    · cases h
  · rename_i p q r
    split at h
    · rename_i h1; obtain ⟨⟨rfl, _⟩, _, _, ⟨h2, h3, h4⟩, h5⟩ := h1; injection h with h; subst h
      have e1 : ws.getD (fndL pre p).toNat 0 = 1 := by injection h5 with h5
      have e3 : ws.getD (fndL pre r).toNat 0 = ws.getD (fndL pre q).toNat 0 := by injection h5 with _ h5; injection h5 with _ h5; injection h5
      have hs := hb _ (hq p h2)
      rw [e1] at hs
      replace hs : 0 ≤ vals.getD (fndL pre p).toNat 0 ∧ vals.getD (fndL pre p).toNat 0 ≤ 1 := hs
      have hbr := hb _ (hq r h4)
      rw [e3] at hbr
      show 0 ≤ ([vals.getD (fndL pre p).toNat 0, vals.getD (fndL pre q).toNat 0, vals.getD (fndL pre r).toNat 0] : List Int).getD (2 - vals.getD (fndL pre p).toNat 0).toNat 0 ∧ ([vals.getD (fndL pre p).toNat 0, vals.getD (fndL pre q).toNat 0, vals.getD (fndL pre r).toNat 0] : List Int).getD (2 - vals.getD (fndL pre p).toNat 0).toNat 0 ≤ _
      rcases (by omega : vals.getD (fndL pre p).toNat 0 = 0 ∨ vals.getD (fndL pre p).toNat 0 = 1) with e | e
      · rw [e]; exact hbr
      · rw [e]; exact hb _ (hq q h3)
    · cases h
  · cases h
theorem evL_bd {L : List Ln} {ws a b : List Int} (hg : goodB L = true) (hws : wdsL L = some ws) (hw : okW L ws = true) (hq : askR L a b = true) : ∀ k, k ≤ L.length → ∀ q, q < k → 0 ≤ (evL ws L a b).getD q 0 ∧ (evL ws L a b).getD q 0 ≤ 2 ^ (ws.getD q 0).toNat - 1 := by
  obtain ⟨i1, i2⟩ := wdsL_in hws
  obtain ⟨ws', hws', _, hall, _⟩ := goodB_at hg
  obtain rfl : ws = ws' := by rw [hws] at hws'; injection hws'
  obtain ⟨e1, e2⟩ := evL_in ws L a b
  unfold askR at hq
  rw [Bool.and_eq_true] at hq
  intro k
  induction k with
  | zero => intro _ q h; omega
  | succ k ih =>
    intro hk q hqk
    by_cases hq2 : q < k
    · exact ih (by omega) q hq2
    · obtain rfl : q = k := by omega
      obtain ⟨x, hx⟩ : ∃ x, L[q]? = some x := ⟨_, List.getElem?_eq_getElem (by omega)⟩
      obtain ⟨v, hv, hwd⟩ := i2 q x hx
      have he := e2 q x hx
      rw [List.getD_eq_getElem?_getD, he, List.getD_eq_getElem?_getD, hv]
      refine valV_bd hwd (by rw [List.length_take, List.length_take, i1]) (okW_at hw hx) (fun u hu => List.all_eq_true.1 hall u (List.mem_of_mem_take hu)) (fun r hr => ?_) (fun h1 => ?_)
      · rw [List.length_take] at hr
        rw [getD_take (by omega), getD_take (by omega)]
        exact ih (by omega) r (by omega)
      · have hpt := (wdO_nm hwd).2.2 h1
        unfold inpV
        rcases hpt with hp | hp
        · obtain ⟨y, hy, hr⟩ := fitR_at hq.1 _ _ (insL_at hx h1 hp)
          rw [if_pos hp, List.getD_eq_getElem?_getD, hy]; exact hr
        · obtain ⟨y, hy, hr⟩ := fitR_at hq.2 _ _ (insL_at hx h1 hp)
          rw [if_neg (by omega), List.getD_eq_getElem?_getD, hy]; exact hr
end Go.Proofs.YtdndkkaacfbkkaaGreatDoor
