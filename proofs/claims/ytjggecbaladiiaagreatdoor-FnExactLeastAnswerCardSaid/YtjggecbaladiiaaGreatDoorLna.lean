/- The least answer as plain data: texts, their numbers, and the numbers of rows of bits.
   Conditions: none. -/
import Derived.Test.YtjggecbaladiiaaGreatDoorPss
import Derived.Lib.ItoaMem
import Derived.Lib.LaidTab
import Derived.Maps.RangeWalk
import Derived.Maps.OwnOps
namespace Go.Proofs.YtjggecbaladiiaaGreatDoor
open Go.RowKit Go.WideElems
set_option linter.unusedVariables false
/-- How often a text stands in a list. -/
def cnB (T : List ByteArray) (s : ByteArray) : Nat := T.countP fun t => decide (t = s)
theorem cnB_le (T : List ByteArray) (s : ByteArray) : cnB T s ≤ T.length := List.countP_le_length
theorem cnB_snoc (T : List ByteArray) (t s : ByteArray) : cnB (T ++ [t]) s = cnB T s + if t = s then 1 else 0 := by
  unfold cnB
  rw [List.countP_append, List.countP_singleton]
  simp
theorem cnB_zero {T : List ByteArray} {s : ByteArray} (h : s ∉ T) : cnB T s = 0 := by
  unfold cnB
  rw [List.countP_eq_zero]
  intro a ha hd
  exact h (by rw [← of_decide_eq_true hd]; exact ha)
theorem cnB_one {T : List ByteArray} {s : ByteArray} (h : s ∈ T) : 1 ≤ cnB T s := by
  unfold cnB
  exact List.countP_pos_iff.2 ⟨s, h, by simp⟩
/-- The least of these numbers among the first texts. -/
def lsB (T : List ByteArray) : Nat → Nat
  | 0 => T.length
  | k + 1 => match T[k]? with
    | none => lsB T k
    | some s => min (lsB T k) (cnB T s)
theorem lsB_step {T : List ByteArray} {k : Nat} {s : ByteArray} (h : T[k]? = some s) : lsB T (k + 1) = min (lsB T k) (cnB T s) := by rw [lsB, h]
theorem lsB_top (T : List ByteArray) (k : Nat) : lsB T k ≤ T.length := by
  induction k with
  | zero => exact Nat.le_refl _
  | succ k ih =>
    rw [lsB]
    split
    · exact ih
    · omega
theorem lsB_le {T : List ByteArray} {i : Nat} {s : ByteArray} (h : T[i]? = some s) : ∀ k, i < k → lsB T k ≤ cnB T s := by
  intro k
  induction k with
  | zero => intro hk; omega
  | succ k ih =>
    intro hk
    rcases (by omega : i < k ∨ i = k) with h1 | rfl
    · have := ih h1
      rw [lsB]
      split
      · exact this
      · omega
    · rw [lsB_step h]; omega
theorem lsB_is (T : List ByteArray) (k : Nat) : lsB T k = T.length ∨ ∃ s ∈ T, lsB T k = cnB T s := by
  induction k with
  | zero => exact .inl rfl
  | succ k ih =>
    rw [lsB]
    split
    · exact ih
    · rename_i s hs
      by_cases h : lsB T k ≤ cnB T s
      · rw [Nat.min_eq_left h]; exact ih
      · rw [Nat.min_eq_right (by omega)]; exact .inr ⟨s, List.mem_of_getElem? hs, rfl⟩
theorem lsB_uniq {T : List ByteArray} {v : Nat} (h1 : v ≤ T.length) (h2 : v = T.length ∨ ∃ s ∈ T, v = cnB T s) (h3 : ∀ s ∈ T, v ≤ cnB T s) : v = lsB T T.length := by
  have a : v ≤ lsB T T.length := by
    rcases lsB_is T T.length with e | ⟨s, hs, e⟩
    · omega
    · rw [e]; exact h3 s hs
  have b : lsB T T.length ≤ v := by
    rcases h2 with e | ⟨s, hs, e⟩
    · rw [e]; exact lsB_top _ _
    · obtain ⟨i, hi⟩ := List.mem_iff_getElem?.1 hs
      have hl : i < T.length := by have := List.getElem?_eq_some_iff.1 hi; exact this.1
      rw [e]; exact lsB_le hi _ hl
  omega
theorem cnB_map {α : Type} {f g : α → ByteArray} (h : ∀ a b, f a = f b ↔ g a = g b) (V : List α) (a : α) : cnB (V.map f) (f a) = cnB (V.map g) (g a) := by
  unfold cnB
  rw [List.countP_map, List.countP_map]
  refine List.countP_congr fun b hb => ?_
  simp only [Function.comp, decide_eq_true_eq]
  exact h b a
theorem lsB_map {α : Type} {f g : α → ByteArray} (h : ∀ a b, f a = f b ↔ g a = g b) (V : List α) (k : Nat) : lsB (V.map f) k = lsB (V.map g) k := by
  induction k with
  | zero => simp [lsB]
  | succ k ih =>
    rcases hv : V[k]? with _ | a
    · rw [lsB, lsB, List.getElem?_map, List.getElem?_map, hv, ih]; rfl
    · rw [lsB_step (s := f a) (by rw [List.getElem?_map, hv]; rfl), lsB_step (s := g a) (by rw [List.getElem?_map, hv]; rfl), ih, cnB_map h]
/-- The program's text of a row of numbers, and the reference's. -/
def tIl (l : List Int) : List UInt8 := l.flatMap fun x => 32 :: Lib.itoa x
def tSl (l : List Int) : List UInt8 := l.flatMap fun x => Lib.itoa x ++ [32]
def tI (l : List Int) : ByteArray := toB (tIl l ++ [10])
def tS (l : List Int) : ByteArray := toB (tSl l)
theorem t_shift (l : List Int) : 32 :: tSl l = tIl l ++ [32] := by
  induction l with
  | nil => rfl
  | cons x r ih =>
    show 32 :: (Lib.itoa x ++ [32] ++ tSl r) = 32 :: Lib.itoa x ++ tIl r ++ [32]
    rw [List.append_assoc (32 :: Lib.itoa x), ← ih]
    simp
theorem t_iff (a b : List Int) : tI a = tI b ↔ tS a = tS b := by
  unfold tI tS
  rw [toB_inj, toB_inj]
  constructor
  · intro h
    have h1 := List.append_cancel_right h
    have h2 := t_shift a
    rw [h1, ← t_shift b] at h2
    injection h2
  · intro h
    have h2 := t_shift a
    rw [h, t_shift b] at h2
    rw [List.append_cancel_right h2]
theorem tIl_step {l : List Int} {k : Nat} {x : Int} (h : l[k]? = some x) : toB (tIl (l.take (k + 1))) = toB (tIl (l.take k)) ++ (toB [32] ++ toB (Lib.itoa x)) := by
  rw [List.take_add_one, h, toB_app, toB_app]
  congr 1
  simp [tIl]
theorem tSl_step {l : List Int} {k : Nat} {x : Int} (h : l[k]? = some x) : toB (tSl (l.take (k + 1))) = toB (tSl (l.take k)) ++ (toB (Lib.itoa x) ++ toB [32]) := by
  rw [List.take_add_one, h, toB_app, toB_app]
  congr 1
  simp [tSl]
/-- The number of a row of bits, the lowest first. -/
def nmL : List Int → Int
  | [] => 0
  | b :: r => b + 2 * nmL r
theorem nmL_snoc (l : List Int) (b : Int) : nmL (l ++ [b]) = nmL l + b * 2 ^ l.length := by
  induction l with
  | nil => simp [nmL]
  | cons a r ih =>
    simp only [List.cons_append, nmL, ih, List.length_cons, Int.pow_succ]
    rw [Int.mul_add, ← Int.mul_assoc b, Int.mul_comm (b * 2 ^ r.length) 2]
    omega
theorem nmL_bd {l : List Int} (h : ∀ b ∈ l, b = 0 ∨ b = 1) : 0 ≤ nmL l ∧ nmL l ≤ 2 ^ l.length - 1 := by
  induction l with
  | nil => simp [nmL]
  | cons a r ih =>
    have h1 := ih fun b hb => h b (List.mem_cons_of_mem _ hb)
    have h2 := h a (List.mem_cons_self)
    simp only [nmL, List.length_cons, Int.pow_succ]
    omega
/-- The numbers of a row of bits, cut by widths. -/
def nmsL : List Int → List Int → List Int
  | [], _ => []
  | w :: ws, l => nmL (l.take w.toNat) :: nmsL ws (l.drop w.toNat)
theorem nmsL_len (ws l : List Int) : (nmsL ws l).length = ws.length := by
  induction ws generalizing l with
  | nil => rfl
  | cons w ws ih => simp [nmsL, ih]
theorem nmsL_fit {ws l : List Int} (hw : ∀ w ∈ ws, 0 ≤ w) (hl : ws.sum = l.length) (h : ∀ b ∈ l, b = 0 ∨ b = 1) : fitR (nmsL ws l) ws = true := by
  induction ws generalizing l with
  | nil => rfl
  | cons w ws ih =>
    have h0 := hw w (List.mem_cons_self)
    have hs : 0 ≤ ws.sum := by
      clear ih hl h
      induction ws with
      | nil => simp
      | cons x r ih2 => have := ih2 fun u hu => hw u (by simp at hu ⊢; rcases hu with rfl | hu <;> simp [*]); have := hw x (by simp); simp; omega
    rw [List.sum_cons] at hl
    have h1 := nmL_bd (l := l.take w.toNat) fun b hb => h b (List.mem_of_mem_take hb)
    rw [List.length_take, Nat.min_eq_left (by omega)] at h1
    rw [nmsL, fitR, Bool.and_eq_true]
    exact ⟨inR_iff.2 ⟨h1.1, h1.2⟩, ih (fun u hu => hw u (List.mem_cons_of_mem _ hu)) (by rw [List.length_drop]; omega) fun b hb => h b (List.mem_of_mem_drop hb)⟩
theorem bitL_01 {v : Int} {w : Nat} : ∀ b ∈ bitL v w, b = 0 ∨ b = 1 := by
  intro b hb
  unfold bitL at hb
  obtain ⟨i, _, rfl⟩ := List.mem_map.1 hb
  omega
/-- What a text reads as, as a key. -/
def kq (s : ByteArray) : Lit := .string s.data.toList
theorem kq_inj {a b : ByteArray} (h : kq a = kq b) : a = b := by
  unfold kq at h
  injection h with h
  exact ByteArray.ext (Array.toList_inj.1 h)
/-- A map that holds how often each text of a list stands in it. -/
structure MapT (T : List ByteArray) (D : DataW Unit) : Prop where
  m : Maps.IsMap D
  h : ∀ s, Maps.has D (kq s) = true ↔ s ∈ T
  c : ∀ s z, s ∈ T → D.atKey (kq s) z = .lit (.int .i64 (cnB T s))
theorem MapT.nil : MapT [] (.map []) := ⟨Maps.isMap_empty, fun s => ⟨fun h => (by cases h), fun h => (by cases h)⟩, fun s z h => by simp at h⟩
theorem MapT.not {T : List ByteArray} {D : DataW Unit} {s : ByteArray} (h : MapT T D) (hs : s ∉ T) : Maps.has D (kq s) = false := by
  rcases e : Maps.has D (kq s) with _ | _
  · rfl
  · exact absurd ((h.h s).1 e) hs
theorem MapT.step {T : List ByteArray} {D : DataW Unit} {s : ByteArray} {c : Int} (h : MapT T D) (hs : WideAt.IsKeyLit (kq s)) (hc : D.atKey (kq s) (.lit (.int .i64 0)) = .lit (.int .i64 c)) : c = cnB T s ∧ MapT (T ++ [s]) (D.put (kq s) (.lit (.int .i64 (c + 1)))) := by
  have e : c = cnB T s := by
    by_cases hm : s ∈ T
    · rw [h.c s _ hm] at hc
      injection hc with hc; injection hc with _ hc; exact hc.symm
    · rw [Maps.atKey_of_not_has (h.not hm)] at hc
      injection hc with hc; injection hc with _ hc
      rw [cnB_zero hm, ← hc]; rfl
  refine ⟨e, h.m.put _ _, fun u => ?_, fun u z hu => ?_⟩
  · by_cases he : u = s
    · subst he
      rw [Maps.has_put_same h.m hs]
      simp
    · rw [Maps.has_put_other (fun e => he (kq_inj e)), h.h u]
      simp [he]
  · by_cases he : u = s
    · subst he
      rw [Maps.atKey_put_same h.m hs, cnB_snoc, if_pos rfl, e]
      rfl
    · have hu' : u ∈ T := by simpa [he] using hu
      rw [Maps.atKey_put_other (fun e => he (kq_inj e)), h.c u z hu', cnB_snoc, if_neg (fun e => he e.symm)]
      rfl
/-- The least number among the texts that have come. -/
structure Lst (T : List ByteArray) (left : Lit → Bool) (v : Nat) : Prop where
  t : v ≤ T.length
  i : v = T.length ∨ ∃ s ∈ T, v = cnB T s
  l : ∀ s ∈ T, left (kq s) = false → v ≤ cnB T s
theorem Lst.start {T : List ByteArray} {D : DataW Unit} (h : MapT T D) : Lst T (Maps.has D) T.length :=
  ⟨Nat.le_refl _, .inl rfl, fun s hs hl => by rw [(h.h s).2 hs] at hl; cases hl⟩
theorem Lst.step {T : List ByteArray} {D : DataW Unit} {left : Lit → Bool} {v : Nat} {s : ByteArray} {c : Int} (h : Lst T left v) (hm : MapT T D) (hc : ∀ z, D.atKey (kq s) z = .lit (.int .i64 c)) : c = cnB T s ∧ Lst T (fun z => left z && !z.sameKey (kq s)) (min v (cnB T s)) := by
  have hs : s ∈ T := (hm.h s).1 (Maps.has_true_of_atKey hc)
  have e : c = cnB T s := by
    have := hc (.lit (.int .i64 0))
    rw [hm.c s _ hs] at this
    injection this with this; injection this with _ this; exact this.symm
  refine ⟨e, by have := h.t; omega, ?_, fun u hu hl => ?_⟩
  · by_cases hv : v ≤ cnB T s
    · rw [Nat.min_eq_left hv]; exact h.i
    · rw [Nat.min_eq_right (by omega)]; exact .inr ⟨s, hs, rfl⟩
  · by_cases he : u = s
    · subst he; omega
    · have hk : left (kq u) = false := by
        rw [Maps.sameKey_ne (fun e => he (kq_inj e))] at hl
        simpa using hl
      have := h.l u hu hk
      omega
theorem Lst.fin {T : List ByteArray} {left : Lit → Bool} {v : Nat} (h : Lst T left v) (hl : ∀ k, left k = false) : v = lsB T T.length := lsB_uniq h.t h.i fun s hs => h.l s hs (hl _)
section
variable {P : Program} {w : World} {ops : Array Oper} {rest : List Oper} {o : Oper} {a : Act} {Q : Exit → Act → World → Prop}
/-- The step of a range over a map of texts to numbers. -/
theorem next_si (hg : o.guard = none) (it : Operand) (hop : o.op = Op.next it false) (k e : TypeId) (K : Maps.Keyed P k) (hk : P.underlying k = some .string) (he : P.underlying e = some (.int .i64))
    (b r n : Nat) (D : DataW Unit) (left : Lit → Bool) (cnt : Nat) (hit : a.eval it = .pointer (some ⟨r, 0, none⟩)) (h : w.ranges P k (plainElem P e) b r n D left cnt)
    (hDone : cnt = 0 → (∀ kl, left kl = false) → wpList P ops Q rest (a.put o.dst (.tuple #[.bool false])) w)
    (hMore : ∀ (x : ByteArray) (c : Int) (w' : World) (cnt' : Nat), (∀ zd, D.atKey (kq x) zd = .lit (.int .i64 c)) → w'.ranges P k (plainElem P e) b r n D (fun z => left z && !z.sameKey (kq x)) cnt' → cnt' < cnt →
      w.grownBy w' (some r) → w'.heap.size = w.heap.size → (Instr.entry (.pointer (some ⟨r, 0, none⟩))).run P w' = .ok (.tuple #[.string x, .int .i64 c]) w' → wpList P ops Q rest (a.put o.dst (.tuple #[.bool true, .string x, .int .i64 c])) w') :
    wpList P ops Q (o :: rest) a w :=
  wpList_next_ranges w hg it hop k K (plainElem P e) Value.string (Value.int .i64) (fun key kl hkey => by obtain ⟨x, rfl, _⟩ := WideMaps.string_of_keyOf hk hkey; exact ⟨x, rfl⟩) (fun v y hv => by obtain ⟨c, rfl, _⟩ := plainElem_int_inv he hv; exact ⟨c, rfl⟩)
    b r n D left cnt hit h hDone (fun x c kl y w' cnt' hkey hlk hv hat hrg hlt hgr hsz hen => by
      obtain ⟨x', ex, rfl, hwx⟩ := WideMaps.string_of_keyOf hk hkey
      cases ex
      obtain ⟨c', ec, rfl, hwc⟩ := plainElem_int_inv he hv
      cases ec
      exact hMore x c w' cnt' hat hrg hlt hgr hsz hen)
end
/-- A library's table stays as it lies. -/
theorem tab_keep {P : Program} {w w' : World} {name : String} {k : IntKind} {zs : List Int} (h : Lib.TabIs P w name k zs) (hb : Bl w w') : Lib.TabIs P w' name k zs := by
  unfold Lib.TabIs World.var? at h ⊢
  rcases hg : P.globalNamed name with _ | g
  · rw [hg] at h; cases h
  · (try rw [hg] at h)
    (try rw [hg])
    simp only [Option.bind_some] at h ⊢
    have hlt : g < w.heap.size := by
      refine Nat.lt_of_not_le fun hge => ?_
      rw [Array.getElem?_eq_none hge] at h
      cases h
    rw [hb.block g hlt]
    exact h
end Go.Proofs.YtjggecbaladiiaaGreatDoor
