/- Lines of programs: as data, and in memory: rows of strings and of lines that read as lists, or lie in blocks of a call's own.
   Conditions: none. -/
import Derived.Test.YtjggecbaladiiaaGreatDoorRow
import Derived.Test.YtjggecbaladiiaaGreatDoorMak
import Derived.Lib.Strings
namespace Go.Proofs.YtjggecbaladiiaaGreatDoor
open Go.RowKit
set_option linter.unusedVariables false
/-- A line of a program. -/
structure Ln where
  k : Int
  nm : ByteArray
  op : ByteArray
  ps : List ByteArray
  pt : Int
  wd : Int
  vl : Int
deriving DecidableEq
/-- A slice value. -/
structure Hd where
  A : Option Addr
  n : Nat
  c : Nat
def Hd.blk (h : Hd) : Option Nat := h.A.map (·.block)
def Hd.none : Hd := ⟨Option.none, 0, 0⟩
/-- The cells of a line whose parts lie where h says. -/
def encL (p : Hd × Ln) : List Value := [.int .i64 p.2.k, .string p.2.nm, .string p.2.op, .slice p.1.A p.1.n p.1.c, .int .i64 p.2.pt, .int .i64 p.2.wd, .int .i64 p.2.vl]
theorem encL_len (p : Hd × Ln) : (encL p).length = 7 := rfl
def strs (l : List ByteArray) : List Value := l.map Value.string
@[simp] theorem strs_length (l : List ByteArray) : (strs l).length = l.length := by simp [strs]
theorem strs_append (a b : List ByteArray) : strs (a ++ b) = strs a ++ strs b := by simp [strs]
theorem strs_get (l : List ByteArray) (j : Nat) : (strs l)[j]? = l[j]?.map Value.string := by simp [strs]
theorem strs_one (l : List ByteArray) : ∀ u ∈ strs l, u.oneCell' = true := by simp [strs, Value.oneCell']
theorem encL_one (l : List (Hd × Ln)) : ∀ u ∈ encs encL l, u.oneCell' = true := by
  intro u hu
  obtain ⟨p, _, hp⟩ := List.mem_flatMap.1 hu
  simp only [encL, List.mem_cons, List.not_mem_nil, or_false] at hp
  rcases hp with rfl | rfl | rfl | rfl | rfl | rfl | rfl <;> rfl
/-- A slice of strings reads as the list l. -/
def RdS (w : World) (A : Option Addr) (n c : Nat) (l : List ByteArray) : Prop := Rd w 1 A n c (strs l)
/-- A slice of strings in a block of its own. -/
def OwnS (base : Nat) (w : World) (A : Option Addr) (n c : Nat) (l : List ByteArray) : Prop := OwnV 9 1 base w A n c (strs l)
section
variable {w w' : World} {base n c : Nat} {A : Option Addr} {l : List ByteArray}
theorem RdS.length (h : RdS w A n c l) : l.length = n := by have := h.len; simpa using this
theorem RdS.at_ (h : RdS w A n c l) {k : Nat} (hk : k < n) : ∃ ad v, A = some ad ∧ ad.block < w.heap.size ∧ l[k]? = some v ∧ w.cell? (ad.add k) = some (.string v) := by
  obtain ⟨ad, e, hb, hc⟩ := h.at0 (by omega)
  have hl : k < l.length := by rw [h.length]; exact hk
  exact ⟨ad, l[k], e, hb, List.getElem?_eq_getElem hl, hc k _ (by rw [strs_get, List.getElem?_eq_getElem hl]; rfl)⟩
theorem RdS.at0_ {g : Nat} (h : RdS w (some ⟨g, 0, Option.none⟩) n c l) {k : Nat} (hk : k < n) : ∃ v, g < w.heap.size ∧ l[k]? = some v ∧ w.cell? ⟨g, k, Option.none⟩ = some (.string v) := by
  obtain ⟨ad, v, e, hb, hv, hc⟩ := h.at_ hk
  injection e with e
  subst e
  have hadd : (⟨g, 0, Option.none⟩ : Addr).add k = ⟨g, k, Option.none⟩ := by unfold Addr.add; split <;> simp_all
  rw [hadd] at hc
  exact ⟨v, hb, hv, hc⟩
theorem RdS.nil (w : World) : RdS w none 0 0 [] := Rd.nil w 1
theorem RdS.keep (h : RdS w A n c l) (hb : Bl w w') : RdS w' A n c l := Rd.keep h hb
theorem RdS.le (h : RdS w A n c l) : n ≤ c ∧ c ≤ 9223372036854775807 := ⟨h.cap, by have := h.max; unfold maxLen at this; exact this⟩
theorem Rd.grown_ {size : Nat} {xs : List Value} {row : Option Nat} (h : Rd w size A n c xs) (hg : w.grownBy w' row) (hne : 0 < n → ∀ a, A = some a → some a.block ≠ row) : Rd w' size A n c xs := by
  refine ⟨h.len, h.cap, h.max, fun hn => ?_⟩
  obtain ⟨ad, rfl, hl, hc⟩ := h.at0 hn
  refine ⟨ad, rfl, Nat.lt_of_lt_of_le hl hg.size, fun j u hu => ?_⟩
  rw [World.cell?_of_block (w := w) (w' := w') (a := ad.add j) (hg.block _ (by rw [block_of_add]; exact hl) (by rw [block_of_add]; exact hne hn ad rfl))]
  exact hc j u hu
theorem RdS.grown {row : Option Nat} (h : RdS w A n c l) (hg : w.grownBy w' row) (hne : 0 < n → ∀ a, A = some a → some a.block ≠ row) : RdS w' A n c l := Rd.grown_ h hg hne
theorem OwnS.rd (h : OwnS base w A n c l) : RdS w A n c l := OwnV.rd h
theorem OwnS.keep (h : OwnS base w A n c l) (hb : Bl w w') : OwnS base w' A n c l := OwnV.keep h hb
theorem OwnS.nil (base : Nat) (w : World) : OwnS base w none 0 0 [] := OwnV.nil _ _ _ _
theorem OwnS.length (h : OwnS base w A n c l) : l.length = n := h.rd.length
theorem OwnS.low {g i : Nat} (h : OwnS base w A n c l) (hg : g < base) (u : Value) : OwnS base (w.setCell ⟨g, i, Option.none⟩ u) A n c l :=
  OwnV.grown h (grownBy_setCell w g i u) (by
    rcases A with _ | q
    · exact .inl rfl
    · refine .inr fun e => ?_
      have h1 : base ≤ q.block := (OwnV.blk h q.block rfl).1
      have h2 : q.block = g := by injection e
      omega)
theorem OwnS.mono {base' : Nat} (h : OwnS base w A n c l) (hb : base' ≤ base) : OwnS base' w A n c l := OwnV.mono h hb
/-- All but the first k strings. -/
theorem RdS.cut {ad : Addr} (h : RdS w (some ad) n c l) {k : Nat} (hk : k ≤ n) (hc : ¬ c = k) : RdS w (some (ad.add k)) (n - k) (c - k) (l.drop k) := by
  have := Rd.cut h hk
  rw [if_neg hc] at this
  unfold RdS
  rw [show strs (l.drop k) = (strs l).drop (k * 1) by simp [strs, List.map_drop]]
  simpa using this
/-- A literal slice of strings. -/
theorem own_strs (w : World) (l : List ByteArray) {base g : Nat} (hg : w.heap.size = g) (hb : base ≤ g) (hm : l.length ≤ 1000000) : OwnS base (w.alloc (.cells (l.map Value.string).toArray 9)) (some ⟨g, 0, none⟩) l.length l.length l := by
  subst hg
  refine ⟨by simp, .inr ⟨w.heap.size, l.length, _, rfl, hb, heap_alloc_new w _, Nat.le_refl _, by unfold maxLen; omega, by simp, ?_⟩⟩
  rw [Nat.mul_one, List.take_of_length_le (by simp)]
  simp [strs]
end
/-- A slice of lines reads as the list l: each with the place of its parts. -/
structure RdL (w : World) (A : Option Addr) (n c : Nat) (l : List (Hd × Ln)) : Prop where
  rd : Rd w 7 A n c (encs encL l)
  len : l.length = n
  ps : ∀ p ∈ l, RdS w p.1.A p.1.n p.1.c p.2.ps
/-- A slice of lines in blocks of its own, all apart. -/
structure OwnL (base : Nat) (w : World) (A : Option Addr) (n c : Nat) (l : List (Hd × Ln)) : Prop where
  row : OwnV 92 7 base w A n c (encs encL l)
  len : l.length = n
  ps : ∀ p ∈ l, OwnS base w p.1.A p.1.n p.1.c p.2.ps
  apA : ∀ p ∈ l, ∀ k, p.1.blk = some k → A.map (·.block) ≠ some k
  apR : l.Pairwise fun p q => ∀ k, p.1.blk = some k → q.1.blk ≠ some k
/-- A slice of lines in a block of its own, the parts elsewhere. -/
structure OwnR (base : Nat) (w : World) (A : Option Addr) (n c : Nat) (l : List (Hd × Ln)) : Prop where
  row : OwnV 92 7 base w A n c (encs encL l)
  len : l.length = n
  ps : ∀ p ∈ l, RdS w p.1.A p.1.n p.1.c p.2.ps
  ap : ∀ p ∈ l, ∀ k, p.1.blk = some k → k < w.heap.size ∧ A.map (·.block) ≠ some k
section
variable {w w' : World} {base n c : Nat} {A : Option Addr} {l : List (Hd × Ln)}
theorem RdL.keep (h : RdL w A n c l) (hb : Bl w w') : RdL w' A n c l := ⟨h.rd.keep hb, h.len, fun p hp => (h.ps p hp).keep hb⟩
theorem RdL.le (h : RdL w A n c l) : n ≤ c ∧ c ≤ 9223372036854775807 := ⟨h.rd.cap, by have := h.rd.max; unfold maxLen at this; exact this⟩
theorem RdL.nil (w : World) : RdL w none 0 0 [] := ⟨Rd.nil w 7, rfl, fun p hp => by cases hp⟩
/-- One line. -/
theorem RdL.at_ (h : RdL w A n c l) {i : Nat} (hi : i < n) : ∃ ad p, A = some ad ∧ ad.block < w.heap.size ∧ l[i]? = some p ∧ RdS w p.1.A p.1.n p.1.c p.2.ps ∧
    w.cell? (ad.add (i * 7)) = some (.int .i64 p.2.k) ∧ w.cell? ⟨(ad.add (i * 7)).block, (ad.add (i * 7)).off + 1, none⟩ = some (.string p.2.nm) ∧ w.cell? ⟨(ad.add (i * 7)).block, (ad.add (i * 7)).off + 2, none⟩ = some (.string p.2.op) ∧
    w.cell? ⟨(ad.add (i * 7)).block, (ad.add (i * 7)).off + 3, none⟩ = some (.slice p.1.A p.1.n p.1.c) ∧ w.cell? ⟨(ad.add (i * 7)).block, (ad.add (i * 7)).off + 4, none⟩ = some (.int .i64 p.2.pt) ∧
    w.cell? ⟨(ad.add (i * 7)).block, (ad.add (i * 7)).off + 5, none⟩ = some (.int .i64 p.2.wd) ∧ w.cell? ⟨(ad.add (i * 7)).block, (ad.add (i * 7)).off + 6, none⟩ = some (.int .i64 p.2.vl) := by
  obtain ⟨ad, p, e, hb, hx, hc⟩ := Rd.elem encL_len h.rd h.len hi
  have h0 := hc 0 _ (by omega) rfl
  rw [show ((ad.add (i * 7)).add 0) = ad.add (i * 7) from rfl] at h0
  exact ⟨ad, p, e, hb, hx, h.ps p (List.mem_of_getElem? hx), h0, hc 1 _ (by omega) rfl, hc 2 _ (by omega) rfl, hc 3 _ (by omega) rfl, hc 4 _ (by omega) rfl, hc 5 _ (by omega) rfl, hc 6 _ (by omega) rfl⟩
theorem OwnL.rd (h : OwnL base w A n c l) : RdL w A n c l := ⟨h.row.rd, h.len, fun p hp => (h.ps p hp).rd⟩
theorem OwnR.rd (h : OwnR base w A n c l) : RdL w A n c l := ⟨h.row.rd, h.len, h.ps⟩
theorem OwnL.keep (h : OwnL base w A n c l) (hb : Bl w w') : OwnL base w' A n c l := ⟨h.row.keep hb, h.len, fun p hp => (h.ps p hp).keep hb, h.apA, h.apR⟩
theorem OwnR.keep (h : OwnR base w A n c l) (hb : Bl w w') : OwnR base w' A n c l := ⟨h.row.keep hb, h.len, fun p hp => (h.ps p hp).keep hb, fun p hp k hk => ⟨Nat.lt_of_lt_of_le (h.ap p hp k hk).1 hb.sz, (h.ap p hp k hk).2⟩⟩
theorem OwnL.mono {base' : Nat} (h : OwnL base w A n c l) (hb : base' ≤ base) : OwnL base' w A n c l := ⟨h.row.mono hb, h.len, fun p hp => OwnV.mono (h.ps p hp) hb, h.apA, h.apR⟩
theorem OwnL.nil (base : Nat) (w : World) : OwnL base w none 0 0 [] := ⟨OwnV.nil _ _ _ _, rfl, fun p hp => (by cases hp), fun p hp => (by cases hp), List.Pairwise.nil⟩
theorem OwnR.nil (base : Nat) (w : World) : OwnR base w none 0 0 [] := ⟨OwnV.nil _ _ _ _, rfl, fun p hp => (by cases hp), fun p hp => (by cases hp)⟩
theorem RdL.grown {row : Option Nat} (h : RdL w A n c l) (hg : w.grownBy w' row) (h1 : 0 < n → ∀ a, A = some a → some a.block ≠ row) (h2 : ∀ p ∈ l, 0 < p.1.n → ∀ a, p.1.A = some a → some a.block ≠ row) : RdL w' A n c l :=
  ⟨h.rd.grown_ hg h1, h.len, fun p hp => (h.ps p hp).grown hg (h2 p hp)⟩
/-- Whatever was read before a world of this size stays. -/
theorem RdL.above {row : Option Nat} (h : RdL w A n c l) {N : Nat} (hN : w.heap.size ≤ N) {v v' : World} (hv : Bl w v) (hg : v.grownBy v' row) (hr : ∀ k, row = some k → N ≤ k) : RdL v' A n c l := by
  refine (h.keep hv).grown hg (fun hn a ha e => ?_) (fun p hp hn a ha e => ?_)
  · obtain ⟨ad, rfl, hl, _⟩ := h.rd.at0 hn
    injection ha with ha; subst ha
    have := hr _ e.symm; omega
  · obtain ⟨ad, e2, hl, _⟩ := (h.ps p hp).at0 hn
    rw [ha] at e2; injection e2 with e2; subst e2
    have := hr _ e.symm; omega
end
theorem line_info : (Tryz.prog.info? 92).map (fun i => (i.zero, i.size, i.bytes)) = some (some (.agg #[.int .i64 0, .string ByteArray.empty, .string ByteArray.empty, .slice none 0 0, .int .i64 0, .int .i64 0, .int .i64 0]), 7, 88) := by kernel_rfl
theorem str_info : (Tryz.prog.info? 9).map (fun i => (i.zero, i.size, i.bytes)) = some (some (.string ByteArray.empty), 1, 16) := by kernel_rfl
section
variable {ops : Array Oper} {rest : List Oper} {o : Oper} {a : Act} {Q : Exit → Act → World → Prop} {w : World}
/-- append of strings onto a row of the call's own, as a step of the walk. -/
theorem ap_strs (hgd : o.guard = none) {s x : Operand} (ho : o.op = .call { callee := .builtin .append, args := #[s, x], argTypes := #[65, 65] })
    {base n c m d : Nat} {A B : Option Addr} {l l' : List ByteArray} (hs_ : a.eval s = .slice A n c) (hown : OwnS base w A n c l) (hx : a.eval x = .slice B m d) (hr : RdS w B m d l')
    (hb : n + m ≤ 8000000000000) (hbase : base ≤ w.heap.size)
    (h : ∀ A' c' w', OwnS base w' A' (n + m) c' (l ++ l') → w.grownBy w' (A.map (·.block)) → (A'.map (·.block) = A.map (·.block) ∨ A'.map (·.block) = some w.heap.size) → wpList Tryz.prog ops Q rest (a.put o.dst (.slice A' (n + m) c')) w') : wpList Tryz.prog ops Q (o :: rest) a w := by
  obtain ⟨i0, hi, hz0, hz1, hz2⟩ := info_parts str_info
  obtain ⟨A', c', w', hrun, h2, h3, h4⟩ := run_append_any (P := Tryz.prog) w base 65 o.type 9 i0 _ 1 16 Tryz.underlying65 hi hz0 hz1 hz2 rfl (by decide)
    (.slice A n c) n (strs l) hown B m d (strs l') hr (strs_one l') (by simp only [maxLen]; omega) (by omega) hbase
  rw [ownBlock_slice] at h3 h4
  refine wpList_plain hgd fun K_ hK => ?_
  unfold Oper.wp execOp
  simp only [ho, resolve, invoke, builtin, Sem.run_bind, Sem.run_pure, Result.andThen_ok, List.map_toArray, List.map_cons, List.map_nil, hs_, hx, hrun]
  refine hK _ _ (h A' c' w' ?_ h3 h4)
  unfold OwnS
  rw [strs_append]
  exact h2
/-- append of lines onto a row of the call's own, as a step of the walk. -/
theorem ap_lines (hgd : o.guard = none) {s x : Operand} (ho : o.op = .call { callee := .builtin .append, args := #[s, x], argTypes := #[39, 39] })
    {base n c m d : Nat} {A B : Option Addr} {l l' : List (Hd × Ln)} (hs_ : a.eval s = .slice A n c) (hown : OwnV 92 7 base w A n c (encs encL l)) (hx : a.eval x = .slice B m d) (hr : Rd w 7 B m d (encs encL l'))
    (hb : n + m ≤ 1000000) (hbase : base ≤ w.heap.size)
    (h : ∀ A' c' w', OwnV 92 7 base w' A' (n + m) c' (encs encL (l ++ l')) → w.grownBy w' (A.map (·.block)) → (A'.map (·.block) = A.map (·.block) ∨ A'.map (·.block) = some w.heap.size) → wpList Tryz.prog ops Q rest (a.put o.dst (.slice A' (n + m) c')) w') : wpList Tryz.prog ops Q (o :: rest) a w := by
  obtain ⟨i0, hi, hz0, hz1, hz2⟩ := info_parts line_info
  obtain ⟨A', c', w', hrun, h2, h3, h4⟩ := run_append_any (P := Tryz.prog) w base 39 o.type 92 i0 _ 7 88 Tryz.underlying39 hi hz0 hz1 hz2 rfl (by decide)
    (.slice A n c) n (encs encL l) hown B m d (encs encL l') hr (encL_one l') (by simp only [maxLen]; omega) (by omega) hbase
  rw [ownBlock_slice] at h3 h4
  refine wpList_plain hgd fun K_ hK => ?_
  unfold Oper.wp execOp
  simp only [ho, resolve, invoke, builtin, Sem.run_bind, Sem.run_pure, Result.andThen_ok, List.map_toArray, List.map_cons, List.map_nil, hs_, hx, hrun]
  refine hK _ _ (h A' c' w' ?_ h3 h4)
  rw [encs_append]
  exact h2
/-- append of lines, as a step of a drawn region. -/
theorem ap_lines_step {K : Act → World → Prop} {E : Prop} (hgd : o.guard = none) {s x : Operand} (ho : o.op = .call { callee := .builtin .append, args := #[s, x], argTypes := #[39, 39] })
    {base n c m d : Nat} {A B : Option Addr} {l l' : List (Hd × Ln)} (hs_ : a.eval s = .slice A n c) (hown : OwnV 92 7 base w A n c (encs encL l)) (hx : a.eval x = .slice B m d) (hr : Rd w 7 B m d (encs encL l'))
    (hb : n + m ≤ 1000000) (hbase : base ≤ w.heap.size)
    (h : ∀ A' c' w', OwnV 92 7 base w' A' (n + m) c' (encs encL (l ++ l')) → w.grownBy w' (A.map (·.block)) → (A'.map (·.block) = A.map (·.block) ∨ A'.map (·.block) = some w.heap.size) → K (a.put o.dst (.slice A' (n + m) c')) w') : if Region.wanted o (yielded ops a.tmps) = true then Oper.wp Tryz.prog o a w K Q else E := by
  obtain ⟨i0, hi, hz0, hz1, hz2⟩ := info_parts line_info
  obtain ⟨A', c', w', hrun, h2, h3, h4⟩ := run_append_any (P := Tryz.prog) w base 39 o.type 92 i0 _ 7 88 Tryz.underlying39 hi hz0 hz1 hz2 rfl (by decide)
    (.slice A n c) n (encs encL l) hown B m d (encs encL l') hr (encL_one l') (by simp only [maxLen]; omega) (by omega) hbase
  rw [ownBlock_slice] at h3 h4
  have hw : Region.wanted o (yielded ops a.tmps) = true := by simp [Region.wanted, hgd]
  rw [if_pos hw]
  unfold Oper.wp execOp
  simp only [ho, resolve, invoke, builtin, Sem.run_bind, Sem.run_pure, Result.andThen_ok, List.map_toArray, List.map_cons, List.map_nil, hs_, hx, hrun]
  refine h A' c' w' ?_ h3 h4
  rw [encs_append]
  exact h2
end
/-- A literal slice of one line. -/
theorem rd_line (w : World) (h : Hd) (k : Int) (nm op : ByteArray) (pt wd vl : Int) (ps : List ByteArray) {g : Nat} (hg : w.heap.size = g := by first | with_reducible rfl | simp) :
    Rd (w.alloc (.cells #[.int .i64 k, .string nm, .string op, .slice h.A h.n h.c, .int .i64 pt, .int .i64 wd, .int .i64 vl] 92)) 7 (some ⟨g, 0, none⟩) 1 1 (encs encL [(h, ⟨k, nm, op, ps, pt, wd, vl⟩)]) := by
  subst hg
  refine ⟨by simp [encs, encL], Nat.le_refl _, by simp [maxLen], fun _ => ⟨_, rfl, by simp, fun j u hu => ?_⟩⟩
  have hadd : (⟨w.heap.size, 0, none⟩ : Addr).add j = ⟨w.heap.size, j, none⟩ := by unfold Addr.add; split <;> simp_all
  rw [hadd, cell_of_row _ w.heap.size j _ 92 (0, 0) (heap_alloc_new w _)]
  simpa [encs, encL] using hu
section
variable {w w' : World} {base n c : Nat} {A A' : Option Addr} {l : List (Hd × Ln)}
/-- A line at the end of an own row: its parts lie in a row of their own that is apart. -/
theorem OwnL.snoc {v : World} {c' : Nat} {h : Hd} {x : Ln} (hl : OwnL base w A n c l) (hv : Bl w v) (hx : OwnS base v h.A h.n h.c x.ps) (hx1 : ∀ k, h.blk = some k → w.heap.size ≤ k) (hx2 : ∀ k, h.blk = some k → k < v.heap.size)
    (hrow : OwnV 92 7 base w' A' (n + 1) c' (encs encL (l ++ [(h, x)]))) (hg : v.grownBy w' (A.map (·.block))) (ha : A'.map (·.block) = A.map (·.block) ∨ A'.map (·.block) = some v.heap.size) : OwnL base w' A' (n + 1) c' (l ++ [(h, x)]) := by
  have hA : ∀ k, A.map (·.block) = some k → k < w.heap.size := fun k hk => (hl.row.blk k hk).2
  have hps : ∀ p ∈ l, ∀ k, p.1.blk = some k → k < w.heap.size := fun p hp k hk => (OwnV.blk (hl.ps p hp) k hk).2
  refine ⟨hrow, by simp [hl.len], fun p hp => ?_, fun p hp k hk e => ?_, ?_⟩
  · rcases List.mem_append.1 hp with hp | hp
    · refine OwnV.grown ((hl.ps p hp).keep hv) hg ?_
      rcases hq : p.1.A with _ | q
      · exact .inl rfl
      · exact .inr fun e => hl.apA p hp q.block (by unfold Hd.blk; rw [hq]; rfl) e.symm
    · rw [List.mem_singleton] at hp; subst hp
      refine OwnV.grown hx hg ?_
      rcases hq : h.A with _ | q
      · exact .inl rfl
      · refine .inr fun e => ?_
        have h1 := hx1 q.block (by unfold Hd.blk; rw [hq]; rfl)
        have h2 := hA q.block (by rw [← e]; rfl)
        omega
  · rcases List.mem_append.1 hp with hp | hp
    · rcases ha with ha | ha
      · exact hl.apA p hp k hk (ha.symm.trans e)
      · have h1 := hps p hp k hk
        rw [ha] at e; injection e with e
        have := hv.sz; omega
    · rw [List.mem_singleton] at hp; subst hp
      have h1 := hx1 k hk
      rcases ha with ha | ha
      · have h2 := hA k (ha.symm.trans e); omega
      · rw [ha] at e; injection e with e
        have := hx2 k hk; omega
  · rw [List.pairwise_append]
    refine ⟨hl.apR, by simp, fun p hp q hq k hk e => ?_⟩
    rw [List.mem_singleton] at hq; subst hq
    have h1 := hps p hp k hk
    have h2 := hx1 k e
    omega
/-- Lines without parts at the end of an own row. -/
theorem OwnL.app {v : World} {m c' : Nat} {l' : List (Hd × Ln)} (hl : OwnL base w A n c l) (hv : Bl w v) (h' : ∀ p ∈ l', p.1 = Hd.none ∧ p.2.ps = []) (hm : l'.length = m)
    (hrow : OwnV 92 7 base w' A' (n + m) c' (encs encL (l ++ l'))) (hg : v.grownBy w' (A.map (·.block))) (ha : A'.map (·.block) = A.map (·.block) ∨ A'.map (·.block) = some v.heap.size) : OwnL base w' A' (n + m) c' (l ++ l') := by
  have hps : ∀ p ∈ l, ∀ k, p.1.blk = some k → k < w.heap.size := fun p hp k hk => (OwnV.blk (hl.ps p hp) k hk).2
  refine ⟨hrow, by simp [hl.len, hm], fun p hp => ?_, fun p hp k hk e => ?_, ?_⟩
  · rcases List.mem_append.1 hp with hp | hp
    · refine OwnV.grown ((hl.ps p hp).keep hv) hg ?_
      rcases hq : p.1.A with _ | q
      · exact .inl rfl
      · exact .inr fun e => hl.apA p hp q.block (by unfold Hd.blk; rw [hq]; rfl) e.symm
    · obtain ⟨h1, h2⟩ := h' p hp
      rw [h1, h2]; exact OwnS.nil _ _
  · rcases List.mem_append.1 hp with hp | hp
    · rcases ha with ha | ha
      · exact hl.apA p hp k hk (ha.symm.trans e)
      · have h1 := hps p hp k hk
        rw [ha] at e; injection e with e
        have := hv.sz; omega
    · rw [(h' p hp).1] at hk; cases hk
  · rw [List.pairwise_append]
    refine ⟨hl.apR, ?_, fun p hp q hq k hk e => ?_⟩
    · refine List.pairwise_iff_getElem.2 fun i j hi hj _ k hk _ => ?_
      rw [(h' _ (List.getElem_mem hi)).1] at hk; cases hk
    · rw [(h' q hq).1] at e; cases e
/-- A line at the end of a row. -/
theorem OwnR.snoc {v : World} {c' : Nat} {h : Hd} {x : Ln} (hl : OwnR base w A n c l) (hv : Bl w v) (hx : RdS v h.A h.n h.c x.ps) (hx1 : ∀ k, h.blk = some k → k < v.heap.size ∧ A.map (·.block) ≠ some k)
    (hrow : OwnV 92 7 base w' A' (n + 1) c' (encs encL (l ++ [(h, x)]))) (hg : v.grownBy w' (A.map (·.block))) (ha : A'.map (·.block) = A.map (·.block) ∨ A'.map (·.block) = some v.heap.size) : OwnR base w' A' (n + 1) c' (l ++ [(h, x)]) := by
  have hp2 : ∀ p ∈ l ++ [(h, x)], ∀ k, p.1.blk = some k → k < v.heap.size ∧ A.map (·.block) ≠ some k := fun p hp k hk => by
    rcases List.mem_append.1 hp with hp | hp
    · exact ⟨Nat.lt_of_lt_of_le (hl.ap p hp k hk).1 hv.sz, (hl.ap p hp k hk).2⟩
    · rw [List.mem_singleton] at hp; subst hp; exact hx1 k hk
  refine ⟨hrow, by simp [hl.len], fun p hp => ?_, fun p hp k hk => ⟨Nat.lt_of_lt_of_le (hp2 p hp k hk).1 hg.size, fun e => ?_⟩⟩
  · have hr : RdS v p.1.A p.1.n p.1.c p.2.ps := by
      rcases List.mem_append.1 hp with h1 | h1
      · exact (hl.ps p h1).keep hv
      · rw [List.mem_singleton] at h1; subst h1; exact hx
    exact hr.grown hg (fun _ a ha2 e => (hp2 p hp a.block (by unfold Hd.blk; rw [ha2]; rfl)).2 e.symm)
  · rcases ha with ha | ha
    · exact (hp2 p hp k hk).2 (ha.symm.trans e)
    · rw [ha] at e; injection e with e
      have := (hp2 p hp k hk).1; omega
end
end Go.Proofs.YtjggecbaladiiaaGreatDoor
