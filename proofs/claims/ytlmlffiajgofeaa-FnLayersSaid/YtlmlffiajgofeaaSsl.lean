/- Slices of slices of numbers: words, append, and the laws' compare, mark and held.
   Conditions: none. -/
import Derived.Test.YtlmlffiajgofeaaRow
import Derived.Test.YtlmlffiajgofeaaLst
import Derived.Test.YtlmlffiajgofeaaHel
import Derived.Test.YtlmlffiajgofeaaFld
namespace Go.Proofs.Ytlmlffiajgofeaa
open Go.RowKit
set_option linter.unusedVariables false
/-- A slice value. -/
structure Hd where
  A : Option Addr
  n : Nat
  c : Nat
def Hd.val (h : Hd) : Value := .slice h.A h.n h.c
def Hd.blk (h : Hd) : Option Nat := h.A.map (·.block)
/-- A slice of slices in blocks of its own, all apart. -/
structure OwnSS (base : Nat) (w : World) (A : Option Addr) (n c : Nat) (hs : List Hd) (LL : List (List Int)) : Prop where
  hd : OwnV 24 1 base w A n c (hs.map Hd.val)
  len : hs.length = LL.length
  row : ∀ (i : Nat) (h : Hd) (l : List Int), hs[i]? = some h → LL[i]? = some l → OwnI base w h.A h.n h.c l
  apA : ∀ (i : Nat) (h : Hd), hs[i]? = some h → ∀ b, h.blk = some b → A.map (·.block) ≠ some b
  apR : ∀ (i j : Nat) (h h' : Hd), i ≠ j → hs[i]? = some h → hs[j]? = some h' → ∀ b, h.blk = some b → h'.blk ≠ some b
section
variable {base n c : Nat} {w w' : World} {A : Option Addr} {hs : List Hd} {LL : List (List Int)}
theorem OwnSS.nil (base : Nat) (w : World) : OwnSS base w none 0 0 [] [] := ⟨OwnV.nil _ _ _ _, rfl, by simp, by simp, by simp⟩
theorem OwnSS.keep (h : OwnSS base w A n c hs LL) (hb : Bl w w') : OwnSS base w' A n c hs LL := ⟨h.hd.keep hb, h.len, fun i x l h1 h2 => (h.row i x l h1 h2).keep hb, h.apA, h.apR⟩
theorem OwnSS.alloc (h : OwnSS base w A n c hs LL) (o : Obj) : OwnSS base (w.alloc o) A n c hs LL := h.keep ((Bl.refl w).alloc o)
theorem OwnSS.mono {base' : Nat} (h : OwnSS base w A n c hs LL) (hb : base' ≤ base) : OwnSS base' w A n c hs LL := ⟨h.hd.mono hb, h.len, fun i x l h1 h2 => (h.row i x l h1 h2).mono hb, h.apA, h.apR⟩
theorem OwnSS.n_eq (h : OwnSS base w A n c hs LL) : hs.length = n := by have := h.hd.rd.len; simpa using this
theorem OwnSS.l_eq (h : OwnSS base w A n c hs LL) : LL.length = n := h.len.symm.trans h.n_eq
theorem OwnSS.le (h : OwnSS base w A n c hs LL) : n ≤ c ∧ c ≤ 9223372036854775807 := ⟨h.hd.rd.cap, by have := h.hd.rd.max; unfold maxLen at this; exact this⟩
theorem OwnSS.get (h : OwnSS base w A n c hs LL) {i : Nat} (hi : i < n) : ∃ x l, hs[i]? = some x ∧ LL[i]? = some l ∧ OwnI base w x.A x.n x.c l :=
  ⟨_, _, List.getElem?_eq_getElem (by rw [h.n_eq]; exact hi), List.getElem?_eq_getElem (by rw [h.l_eq]; exact hi), h.row i _ _ (List.getElem?_eq_getElem (by rw [h.n_eq]; exact hi)) (List.getElem?_eq_getElem (by rw [h.l_eq]; exact hi))⟩
/-- All blocks lie below T. -/
def UnderSS (T : Nat) (A : Option Addr) (hs : List Hd) : Prop := (∀ k, A.map (·.block) = some k → k < T) ∧ ∀ (i : Nat) (h : Hd), hs[i]? = some h → ∀ k, h.blk = some k → k < T
theorem OwnSS.under (h : OwnSS base w A n c hs LL) : UnderSS w.heap.size A hs := by
  refine ⟨fun k hk => (h.hd.blk k hk).2, fun i x hx k hk => ?_⟩
  have hi : i < LL.length := by rw [← h.len]; exact (List.getElem?_eq_some_iff.1 hx).1
  exact ((h.row i x _ hx (List.getElem?_eq_getElem hi)).blk k hk).2
theorem OwnSS.above (h : OwnSS base w A n c hs LL) : (∀ k, A.map (·.block) = some k → base ≤ k) ∧ ∀ (i : Nat) (x : Hd), hs[i]? = some x → ∀ k, x.blk = some k → base ≤ k := by
  refine ⟨fun k hk => (h.hd.blk k hk).1, fun i x hx k hk => ?_⟩
  have hi : i < LL.length := by rw [← h.len]; exact (List.getElem?_eq_some_iff.1 hx).1
  exact ((h.row i x _ hx (List.getElem?_eq_getElem hi)).blk k hk).1
theorem OwnI.grownR {row : Option Nat} {l : List Int} (h : OwnI base w A n c l) (hg : w.grownBy w' row) (hne : ∀ k, A.map (·.block) = some k → row ≠ some k) : OwnI base w' A n c l :=
  World.ownsRow.kept (row := row) h hg (by
    rw [ownBlock_slice]
    rcases hA : A.map (·.block) with _ | k
    · exact .inl hA
    · exact .inr fun e => hne k hA (e.symm.trans hA))
theorem OwnV.grownR {e size : Nat} {row : Option Nat} {xs : List Value} (h : OwnV e size base w A n c xs) (hg : w.grownBy w' row) (hne : ∀ k, A.map (·.block) = some k → row ≠ some k) : OwnV e size base w' A n c xs := by
  refine h.grown hg ?_
  rcases hA : A.map (·.block) with _ | k
  · exact .inl hA
  · exact .inr fun e => hne k hA (e.symm.trans hA)
theorem OwnSS.grownR {row : Option Nat} (h : OwnSS base w A n c hs LL) (hg : w.grownBy w' row) (hA : ∀ k, A.map (·.block) = some k → row ≠ some k) (hR : ∀ (i : Nat) (x : Hd), hs[i]? = some x → ∀ k, x.blk = some k → row ≠ some k) : OwnSS base w' A n c hs LL :=
  ⟨h.hd.grownR hg hA, h.len, fun i x l h1 h2 => (h.row i x l h1 h2).grownR hg (hR i x h1), h.apA, h.apR⟩
theorem OwnSS.grownLow {row : Option Nat} (h : OwnSS base w A n c hs LL) (hg : w.grownBy w' row) (hr : ∀ k, row = some k → k < base) : OwnSS base w' A n c hs LL :=
  h.grownR hg (fun k hk e => by have := h.above.1 k hk; have := hr k e; omega) (fun i x hx k hk e => by have := h.above.2 i x hx k hk; have := hr k e; omega)
theorem OwnSS.grownHigh {row : Option Nat} {T : Nat} (h : OwnSS base w A n c hs LL) (hg : w.grownBy w' row) (hu : UnderSS T A hs) (hr : ∀ k, row = some k → T ≤ k) : OwnSS base w' A n c hs LL :=
  h.grownR hg (fun k hk e => by have := hu.1 k hk; have := hr k e; omega) (fun i x hx k hk e => by have := hu.2 i x hx k hk; have := hr k e; omega)
theorem OwnSS.cell (h : OwnSS base w A n c hs LL) {i : Nat} (hi : i < n) : ∃ g x l, A = some ⟨g, 0, none⟩ ∧ hs[i]? = some x ∧ LL[i]? = some l ∧ base ≤ g ∧ g < w.heap.size ∧ w.cell? ⟨g, i, none⟩ = some (.slice x.A x.n x.c) ∧ (∀ k, w.frozen? ⟨g, k, none⟩ = false) ∧ OwnI base w x.A x.n x.c l := by
  obtain ⟨x, l, hx, hl, ho⟩ := h.get hi
  obtain ⟨g, hg, hb, hlt, hc, hf⟩ := h.hd.form (by omega)
  exact ⟨g, x, l, hg, hx, hl, hb, hlt, hc i _ (by rw [List.getElem?_map, hx]; rfl), hf, ho⟩
/-- A row is written anew: its slice value stored. -/
theorem OwnSS.putRow {g : Nat} (h : OwnSS base w (some ⟨g, 0, none⟩) n c hs LL) {i : Nat} (hi : i < n) {x x' : Hd} {l' : List Int} (hx : hs[i]? = some x) (ho : OwnI base w' x'.A x'.n x'.c l') (hg : w.grownBy w' x.blk) (hb : x'.blk = x.blk ∨ x'.blk = some w.heap.size) :
    OwnSS base (w'.setCell ⟨g, i, none⟩ (.slice x'.A x'.n x'.c)) (some ⟨g, 0, none⟩) n c (hs.set i x') (LL.set i l') := by
  have hn := h.n_eq
  have hgl := (h.hd.blk g rfl).2
  have hnA : ∀ (j : Nat) (y : Hd), hs[j]? = some y → ∀ k, y.blk = some k → k ≠ g := fun j y hy k hk e => by subst e; exact h.apA j y hy k hk rfl
  have hxg : ∀ k, x'.blk = some k → k ≠ g := fun k hk e => by
    rcases hb with h1 | h1
    · exact hnA i x hx k (h1 ▸ hk) e
    · rw [h1] at hk; injection hk with hk; omega
  have hH : OwnV 24 1 base w' (some ⟨g, 0, none⟩) n c (hs.map Hd.val) := h.hd.grownR hg (fun k hk e => by
    have hk : g = k := by simpa using hk
    exact hnA i x hx k e hk.symm)
  have hset := hH.set_ i (.slice x'.A x'.n x'.c) (by omega)
  have hfar : ∀ (y : Hd) (l : List Int), (∀ k, y.blk = some k → k ≠ g) → OwnI base w' y.A y.n y.c l → OwnI base (w'.setCell ⟨g, i, none⟩ (.slice x'.A x'.n x'.c)) y.A y.n y.c l := fun y l hy ho =>
    OwnI.grownR ho (grownBy_setCell w' g i _) (fun k hk e => by injection e with e; exact hy k hk e.symm)
  have hother : ∀ (j : Nat) (y : Hd), j ≠ i → hs[j]? = some y → ∀ k, y.blk = some k → x'.blk ≠ some k := fun j y hj hy k hk e => by
    rcases hb with h1 | h1
    · exact h.apR j i y x hj hy hx k hk (h1 ▸ e)
    · rw [h1] at e; injection e with e
      have := h.under.2 j y hy k hk
      omega
  refine ⟨?_, by simp [h.len], fun j y l hy hl => ?_, fun j y hy k hk => ?_, fun j j' y y' hj hy hy' k hk => ?_⟩
  · have e : (hs.set i x').map Hd.val = (hs.map Hd.val).set i (.slice x'.A x'.n x'.c) := by rw [List.map_set]; rfl
    rw [e]; exact hset
  · by_cases hji : j = i
    · subst hji
      rw [List.getElem?_set_self (by omega)] at hy
      rw [List.getElem?_set_self (by rw [h.l_eq]; exact hi)] at hl
      injection hy with hy; injection hl with hl
      subst hy; subst hl
      exact hfar _ _ hxg ho
    · rw [List.getElem?_set_ne (Ne.symm hji)] at hy hl
      refine hfar _ _ (hnA j y hy) (OwnI.grownR (h.row j y l hy hl) hg (fun k hk e => ?_))
      exact h.apR j i y x hji hy hx k hk e
  · by_cases hji : j = i
    · subst hji
      rw [List.getElem?_set_self (by omega)] at hy
      injection hy with hy
      subst hy
      intro e
      have e : g = k := by simpa using e
      exact hxg k hk e.symm
    · rw [List.getElem?_set_ne (Ne.symm hji)] at hy
      exact h.apA j y hy k hk
  · by_cases hji : j = i
    · subst hji
      rw [List.getElem?_set_self (by omega)] at hy
      injection hy with hy
      subst hy
      rw [List.getElem?_set_ne hj] at hy'
      intro e
      exact hother j' y' (Ne.symm hj) hy' k e hk
    · rw [List.getElem?_set_ne (Ne.symm hji)] at hy
      by_cases hji' : j' = i
      · subst hji'
        rw [List.getElem?_set_self (by omega)] at hy'
        injection hy' with hy'
        subst hy'
        exact hother j y hji hy k hk
      · rw [List.getElem?_set_ne (Ne.symm hji')] at hy'
        exact h.apR j j' y y' hj hy hy' k hk
/-- A row is written in its place. -/
theorem OwnSS.rowed {g : Nat} (h : OwnSS base w (some ⟨g, 0, none⟩) n c hs LL) {i : Nat} (hi : i < n) {x : Hd} {l' : List Int} (hx : hs[i]? = some x) (ho : OwnI base w' x.A x.n x.c l') (hg : w.grownBy w' x.blk) :
    OwnSS base w' (some ⟨g, 0, none⟩) n c hs (LL.set i l') := by
  refine ⟨h.hd.grownR hg (fun k hk e => h.apA i x hx k e hk), by simp [h.len], fun j y l hy hl => ?_, h.apA, h.apR⟩
  by_cases hji : j = i
  · subst hji
    rw [List.getElem?_set_self (by rw [h.l_eq]; exact hi)] at hl
    injection hl with hl
    rw [hx] at hy
    injection hy with hy
    subst hy; subst hl
    exact ho
  · rw [List.getElem?_set_ne (Ne.symm hji)] at hl
    exact (h.row j y l hy hl).grownR hg (fun k hk e => h.apR j i y x hji hy hx k hk e)
theorem getElem?_snoc {α : Type} {l : List α} {x y : α} {i : Nat} (h : (l ++ [x])[i]? = some y) : l[i]? = some y ∧ i < l.length ∨ i = l.length ∧ y = x := by
  rcases Nat.lt_trichotomy i l.length with h1 | h1 | h1
  · rw [List.getElem?_append_left h1] at h; exact .inl ⟨h, h1⟩
  · subst h1; rw [List.getElem?_concat_length] at h; injection h with h; exact .inr ⟨rfl, h.symm⟩
  · rw [List.getElem?_eq_none (by simp; omega)] at h; cases h
/-- A row at the end. -/
theorem OwnSS.snoc {A' : Option Addr} {c' : Nat} {x : Hd} {l : List Int} (h : OwnSS base w A n c hs LL) (hx : OwnI base w x.A x.n x.c l) (hxA : ∀ k, x.blk = some k → A.map (·.block) ≠ some k) (hxR : ∀ (i : Nat) (y : Hd), hs[i]? = some y → ∀ k, y.blk = some k → x.blk ≠ some k)
    (hv : OwnV 24 1 base w' A' (n + 1) c' (hs.map Hd.val ++ [x.val])) (hg : w.grownBy w' (A.map (·.block))) (hb : A'.map (·.block) = A.map (·.block) ∨ A'.map (·.block) = some w.heap.size) : OwnSS base w' A' (n + 1) c' (hs ++ [x]) (LL ++ [l]) := by
  have hu := h.under
  have hxu : ∀ k, x.blk = some k → k < w.heap.size := fun k hk => (hx.blk k hk).2
  refine ⟨by rw [List.map_append]; exact hv, by simp [h.len], fun i y m hy hm => ?_, fun i y hy k hk e => ?_, fun i j y y' hij hy hy' k hk e => ?_⟩
  · rcases getElem?_snoc hy with ⟨h1, h2⟩ | ⟨rfl, rfl⟩
    · rw [List.getElem?_append_left (by rw [← h.len]; exact h2)] at hm
      exact (h.row i y m h1 hm).grownR hg (fun k hk e => h.apA i y h1 k hk e)
    · rw [h.len, List.getElem?_concat_length] at hm
      injection hm with hm
      subst hm
      exact hx.grownR hg (fun k hk e => hxA k hk e)
  · rcases getElem?_snoc hy with ⟨h1, h2⟩ | ⟨rfl, rfl⟩
    · rcases hb with h3 | h3
      · exact h.apA i y h1 k hk (h3 ▸ e)
      · rw [h3] at e; injection e with e; have := hu.2 i y h1 k hk; omega
    · rcases hb with h3 | h3
      · exact hxA k hk (h3 ▸ e)
      · rw [h3] at e; injection e with e; have := hxu k hk; omega
  · rcases getElem?_snoc hy with ⟨h1, h2⟩ | ⟨rfl, rfl⟩
    · rcases getElem?_snoc hy' with ⟨h3, h4⟩ | ⟨rfl, rfl⟩
      · exact h.apR i j y y' hij h1 h3 k hk e
      · exact hxR i y h1 k hk e
    · rcases getElem?_snoc hy' with ⟨h3, h4⟩ | ⟨rfl, rfl⟩
      · exact hxR j y' h3 k e hk
      · exact hij rfl
end
/-- A block lies apart from all of them. -/
def ApSS (q : Option Nat) (A : Option Addr) (hs : List Hd) : Prop := ∀ k, q = some k → A.map (·.block) ≠ some k ∧ ∀ (i : Nat) (x : Hd), hs[i]? = some x → x.blk ≠ some k
theorem ApSS.snoc {q : Option Nat} {A A' : Option Addr} {hs : List Hd} {x : Hd} {N : Nat} (h : ApSS q A hs) (hN : ∀ k, q = some k → k < N) (hb : A'.map (·.block) = A.map (·.block) ∨ A'.map (·.block) = some N) (hx : ∀ k, q = some k → x.blk ≠ some k) : ApSS q A' (hs ++ [x]) := by
  intro k hk
  refine ⟨fun e => ?_, fun i y hy e => ?_⟩
  · rcases hb with h1 | h1
    · exact (h k hk).1 (h1 ▸ e)
    · rw [h1] at e; injection e with e; have := hN k hk; omega
  · rcases getElem?_snoc hy with ⟨h1, _⟩ | ⟨rfl, rfl⟩
    · exact (h k hk).2 i y h1 e
    · exact hx k hk e
theorem ApSS.set {q : Option Nat} {A : Option Addr} {hs : List Hd} {x x' : Hd} {N i : Nat} (h : ApSS q A hs) (hN : ∀ k, q = some k → k < N) (hi : hs[i]? = some x) (hb : x'.blk = x.blk ∨ x'.blk = some N) : ApSS q A (hs.set i x') := by
  intro k hk
  refine ⟨(h k hk).1, fun j y hy e => ?_⟩
  by_cases hj : j = i
  · subst hj
    rw [List.getElem?_set_self (List.getElem?_eq_some_iff.1 hi).1] at hy
    injection hy with hy
    subst hy
    rcases hb with h1 | h1
    · exact (h k hk).2 j x hi (h1 ▸ e)
    · rw [h1] at e; injection e with e; have := hN k hk; omega
  · rw [List.getElem?_set_ne (Ne.symm hj)] at hy
    exact (h k hk).2 j y hy e
theorem hd_one (l : List Hd) : ∀ u ∈ l.map Hd.val, u.oneCell' = true := by
  intro u hu
  obtain ⟨x, _, rfl⟩ := List.mem_map.1 hu
  rfl
theorem ints_info : (Try.prog.info? 24).map (fun i => (i.zero, i.size, i.bytes)) = some (some (.slice none 0 0), 1, 24) := by kernel_rfl
theorem rd_hd1 (w : World) (x : Hd) {g : Nat} (hg : w.heap.size = g := by first | with_reducible rfl | simp) : Rd (w.alloc (.cells #[.slice x.A x.n x.c] 24)) 1 (some ⟨g, 0, none⟩) 1 1 [x.val] := rd_new w #[.slice x.A x.n x.c] 24 (by simp [maxLen]) hg
section
variable {ops : Array Oper} {rest : List Oper} {o : Oper} {a : Act} {Q : Exit → Act → World → Prop} {w : World}
theorem ap_ss (hgd : o.guard = none) {s x : Operand} (ho : o.op = .call { callee := .builtin .append, args := #[s, x], argTypes := #[41, 41] })
    {base n c d : Nat} {A B : Option Addr} {hs : List Hd} {LL : List (List Int)} {y : Hd} {l : List Int} (hs_ : a.eval s = .slice A n c) (hown : OwnSS base w A n c hs LL) (hx : a.eval x = .slice B 1 d) (hr : Rd w 1 B 1 d [y.val])
    (hy : OwnI base w y.A y.n y.c l) (hxA : ∀ k, y.blk = some k → A.map (·.block) ≠ some k) (hxR : ∀ (i : Nat) (z : Hd), hs[i]? = some z → ∀ k, z.blk = some k → y.blk ≠ some k)
    (hb : n + 1 ≤ 3000000) (hbase : base ≤ w.heap.size)
    (h : ∀ A' c' w', OwnSS base w' A' (n + 1) c' (hs ++ [y]) (LL ++ [l]) → w.grownBy w' (A.map (·.block)) → (A'.map (·.block) = A.map (·.block) ∨ A'.map (·.block) = some w.heap.size) → wpList Try.prog ops Q rest (a.put o.dst (.slice A' (n + 1) c')) w') : wpList Try.prog ops Q (o :: rest) a w := by
  obtain ⟨i0, hi, hz0, hz1, hz2⟩ := info_parts ints_info
  obtain ⟨A', c', w', hrun, h2, h3, h4⟩ := run_append_any (P := Try.prog) w base 41 o.type 24 i0 _ 1 24 Try.underlying41 hi hz0 hz1 hz2 rfl (by decide)
    (.slice A n c) n (hs.map Hd.val) hown.hd B 1 d [y.val] hr (fun u hu => by rw [List.mem_singleton] at hu; subst hu; rfl) (by simp only [maxLen]; omega) (by omega) hbase
  rw [ownBlock_slice] at h3 h4
  refine wpList_plain hgd fun K hK => ?_
  unfold Oper.wp execOp
  simp only [ho, resolve, invoke, builtin, Sem.run_bind, Sem.run_pure, Result.andThen_ok, List.map_toArray, List.map_cons, List.map_nil, hs_, hx, hrun]
  exact hK _ _ (h A' c' w' (hown.snoc hy hxA hxR h2 h3 h4) h3 h4)
end
/-- How many numbers there are. -/
def total : List (List Int) → Nat
  | [] => 0
  | l :: LL => l.length + total LL
theorem total_snoc (LL : List (List Int)) (l : List Int) : total (LL ++ [l]) = total LL + l.length := by
  induction LL with
  | nil => simp [total]
  | cons x LL ih => simp only [List.cons_append, total, ih]; omega
theorem total_take {LL : List (List Int)} {i : Nat} {l : List Int} (h : LL[i]? = some l) : total (LL.take (i + 1)) = total (LL.take i) + l.length := by
  rw [List.take_add_one, h]; exact total_snoc _ _
theorem total_le {LL : List (List Int)} : ∀ i, total (LL.take i) ≤ total LL := by
  induction LL with
  | nil => intro i; simp [total]
  | cons x LL ih =>
    intro i
    cases i with
    | zero => simp [total]
    | succ i => simp only [List.take_succ_cons, total]; have := ih i; omega
/-- The rows marked, the first i of them. -/
def markSS (k : Int) (LL : List (List Int)) (i : Nat) : List (List Int) := (List.range LL.length).map fun j => if j < i then marks (k + total (LL.take j)) (LL[j]?.getD []).length else LL[j]?.getD []
theorem markSS_get {k : Int} {LL : List (List Int)} {i j : Nat} (hj : j < LL.length) : (markSS k LL i)[j]? = some (if j < i then marks (k + total (LL.take j)) (LL[j]?.getD []).length else LL[j]?.getD []) := by
  unfold markSS
  rw [List.getElem?_map, List.getElem?_range hj]
  rfl
theorem markSS_zero (k : Int) (LL : List (List Int)) : markSS k LL 0 = LL := by
  apply List.ext_getElem?
  intro j
  rcases Nat.lt_or_ge j LL.length with h | h
  · rw [markSS_get h, if_neg (by omega), List.getElem?_eq_getElem h]; rfl
  · rw [List.getElem?_eq_none h, List.getElem?_eq_none (by simpa [markSS] using h)]
theorem markSS_step {k : Int} {LL : List (List Int)} {i : Nat} {l : List Int} (h : LL[i]? = some l) : (markSS k LL i).set i (marks (k + total (LL.take i)) l.length) = markSS k LL (i + 1) := by
  have hi : i < LL.length := (List.getElem?_eq_some_iff.1 h).1
  apply List.ext_getElem?
  intro j
  rcases Nat.lt_or_ge j LL.length with hj | hj
  · rw [markSS_get hj]
    by_cases hji : j = i
    · subst hji
      rw [List.getElem?_set_self (by simpa [markSS] using hi), if_pos (by omega), h]
      rfl
    · rw [List.getElem?_set_ne (Ne.symm hji), markSS_get hj]
      by_cases h1 : j < i
      · rw [if_pos h1, if_pos (by omega)]
      · rw [if_neg h1, if_neg (by omega)]
  · rw [List.getElem?_eq_none (by simpa [markSS] using hj), List.getElem?_eq_none (by simpa [markSS] using hj)]
end Go.Proofs.Ytlmlffiajgofeaa
