/- Contracts of makers of circuits on both sides: the gates one by one.
   Conditions: at most nine hundred gates. -/
import Derived.Test.YtjggecbaladiiaaGreatDoorCir
import Derived.Test.YtjggecbaladiiaaGreatDoorCil
import Derived.Test.YtjggecbaladiiaaGreatDoorAps
namespace Go.Proofs.YtjggecbaladiiaaGreatDoor
open Go.RowKit
set_option linter.unusedVariables false
/-- What a maker's call may turn: its block, and the row of its gates. -/
structure Fm (w w' : World) (x : Nat) (A A' : Option Addr) : Prop where
  size : w.heap.size ≤ w'.heap.size
  kept : ∀ k, k < w.heap.size → k ≠ x → A.map (·.block) ≠ some k → w'.heap[k]? = w.heap[k]?
  row : A'.map (·.block) = A.map (·.block) ∨ ∃ k, A'.map (·.block) = some k ∧ w.heap.size ≤ k
  low : Below x w w'
theorem Fm.refl (w : World) (x : Nat) (A : Option Addr) : Fm w w x A A := ⟨Nat.le_refl _, fun _ _ _ _ => rfl, .inl rfl, Below.refl _ _⟩
theorem Fm.trans {w w1 w2 : World} {x : Nat} {A A1 A2 : Option Addr} (h : Fm w w1 x A A1) (h' : Fm w1 w2 x A1 A2) : Fm w w2 x A A2 := by
  refine ⟨Nat.le_trans h.size h'.size, fun k hk hx hA => ?_, ?_, h.low.trans h'.low⟩
  · rw [h'.kept k (Nat.lt_of_lt_of_le hk h.size) hx ?_]
    · exact h.kept k hk hx hA
    · rcases h.row with e | ⟨q, e, hq⟩
      · rw [e]; exact hA
      · rw [e]; intro e2; injection e2 with e2; omega
  · rcases h'.row with e | ⟨q, e, hq⟩
    · rcases h.row with e1 | ⟨q, e1, hq⟩
      · exact .inl (e.trans e1)
      · exact .inr ⟨q, e.trans e1, hq⟩
    · exact .inr ⟨q, e, Nat.le_trans h.size hq⟩
/-- The world only grew. -/
theorem Fm.grew {w w1 w2 : World} {x : Nat} {A A1 : Option Addr} (h : Fm w w1 x A A1) (hb : Bl w1 w2) (hx : x ≤ w1.heap.size) : Fm w w2 x A A1 :=
  ⟨Nat.le_trans h.size hb.size, fun k hk h1 h2 => (hb.block k (Nat.lt_of_lt_of_le hk h.size)).trans (h.kept k hk h1 h2), h.row, h.low.trans (Below.mono hb hx)⟩
/-- What no gate turns: the maker's block, its inputs, its outs. -/
structure Mx where
  x : Nat
  base : Nat
  a : Int
  b : Int
  B : Option Addr
  m : Nat
  d : Nat
  ol : List Int
def Mx.t (X : Mx) : Int := X.a + X.b
/-- The wire of the gate behind n others. -/
def wn (t : Int) (n : Nat) : Int := t + (n : Int)
/-- A maker with these gates. -/
structure ME (T : TypeId) (X : Mx) (w : World) (n : Nat) (g : List Gt) (A : Option Addr) : Prop where
  len : g.length = n
  ex : ∃ c, Blk w X.x T #[.int .i64 X.a, .int .i64 X.b, .slice A n c, .slice X.B X.m X.d] ∧ OwnG X.base w A n c g
  os : OwnI X.base w X.B X.m X.d X.ol
  far : X.x < X.base
  ap : ∀ k, A.map (·.block) = some k → X.B.map (·.block) ≠ some k
  top : X.base ≤ w.heap.size
  ra : 0 ≤ X.a ∧ X.a ≤ 100
  rb : 0 ≤ X.b ∧ X.b ≤ 100
section
variable {T : TypeId} {X : Mx} {w w' w0 : World} {n n1 : Nat} {g g' : List Gt} {A A' A0 : Option Addr}
theorem ME.nn (h : ME T X w n g A) (k : Nat) : 0 ≤ wn X.t k := by have := h.ra; have := h.rb; unfold wn Mx.t; omega
theorem ME.keep (h : ME T X w n g A) (hb : Bl w w') : ME T X w' n g A := by
  obtain ⟨c, h1, h2⟩ := h.ex
  exact ⟨h.len, ⟨c, h1.keep hb, h2.keep hb⟩, h.os.keep hb, h.far, h.ap, Nat.le_trans h.top hb.size, h.ra, h.rb⟩
theorem ME.lt (h : ME T X w n g A) : X.x < w.heap.size := by obtain ⟨c, h1, h2⟩ := h.ex; exact h1.lt
theorem ME.at_ (h : ME T X w n g A) : ∀ k, A.map (·.block) = some k → X.x < k ∧ k < w.heap.size := by
  obtain ⟨c, h1, h2⟩ := h.ex
  intro k hk
  have := h2.blk k hk
  have := h.far
  omega
theorem ME.grown {row : Option Nat} (h : ME T X w n g A) (hg : w.grownBy w' row) (hr : ∀ k, row = some k → k ≠ X.x ∧ A.map (·.block) ≠ some k ∧ X.B.map (·.block) ≠ some k) : ME T X w' n g A := by
  obtain ⟨c, h1, h2⟩ := h.ex
  exact ⟨h.len, ⟨c, h1.grown hg (fun e => (hr X.x e.symm).1 rfl), h2.grown hg (fun q hq e => (hr q.block e.symm).2.1 (by rw [hq]; rfl))⟩, h.os.grown hg (fun q hq e => (hr q.block e.symm).2.2 (by rw [hq]; rfl)), h.far, h.ap, Nat.le_trans h.top hg.size, h.ra, h.rb⟩
/-- A slice of numbers apart from the maker. -/
structure Lx (w : World) (x : Nat) (A S : Option Addr) (n c : Nat) (l : List Int) : Prop where
  rd : RdI w S n c l
  ap : ∀ k, S.map (·.block) = some k → k < w.heap.size ∧ k ≠ x ∧ A.map (·.block) ≠ some k
variable {S S' : Option Addr} {x m c c' : Nat} {l l' : List Int} {A1 : Option Addr} {n' : Nat}
theorem RdI.fm (h : RdI w S m c l) (hap : ∀ k, S.map (·.block) = some k → k ≠ x ∧ A.map (·.block) ≠ some k) (hf : Fm w w' x A A') : RdI w' S m c l := by
  refine ⟨h.len, h.cap, h.max, fun hn => ?_⟩
  obtain ⟨ad, e, hl, hc⟩ := h.at0 hn
  obtain ⟨h2, h3⟩ := hap ad.block (by rw [e]; rfl)
  refine ⟨ad, e, Nat.lt_of_lt_of_le hl hf.size, fun j u hu => ?_⟩
  exact (World.cell?_of_block (a := ad.add j) (by rw [block_of_add]; exact hf.kept _ hl h2 h3)).trans (hc j u hu)
theorem Lx.fm (h : Lx w x A S m c l) (hf : Fm w w' x A A') : Lx w' x A' S m c l := by
  refine ⟨h.rd.fm (fun k hk => (h.ap k hk).2) hf, fun k hk => ?_⟩
  obtain ⟨h1, h2, h3⟩ := h.ap k hk
  refine ⟨Nat.lt_of_lt_of_le h1 hf.size, h2, ?_⟩
  rcases hf.row with e | ⟨q, e, hq⟩
  · rw [e]; exact h3
  · rw [e]; intro e2; injection e2 with e2; omega
theorem Lx.keep (h : Lx w x A S m c l) (hb : Bl w w') : Lx w' x A S m c l := ⟨h.rd.keep hb, fun k hk => ⟨Nat.lt_of_lt_of_le (h.ap k hk).1 hb.size, (h.ap k hk).2⟩⟩
theorem Lx.at_ (h : Lx w x A S m c l) {k : Nat} (hk : k < m) : ∃ ad v, S = some ad ∧ l[k]? = some v ∧ ∀ (W : World) (B : Option Addr), Fm w W x A B → W.cell? (ad.add k) = some (.int .i64 v) := by
  obtain ⟨ad, v, e, hl, hv, hc⟩ := h.rd.at_ hk
  subst e
  refine ⟨ad, v, rfl, hv, fun W B hf => ?_⟩
  obtain ⟨h1, h2, h3⟩ := h.ap ad.block rfl
  exact (World.cell?_of_block (a := ad.add k) (by rw [block_of_add]; exact hf.kept _ h1 h2 h3)).trans hc
theorem Lx.le (h : Lx w x A S m c l) : m ≤ c ∧ c ≤ 9223372036854775807 := h.rd.le
theorem own_blk {B : Nat} (h : OwnI B w S m c l) (hb : ∀ k, S.map (·.block) = some k → k < w.heap.size → w'.heap[k]? = w.heap[k]?) : OwnI B w' S m c l := by
  refine ⟨h.1, ?_⟩
  rcases h.2 with h0 | ⟨g, cap, cur, h1, h2, h3, h4⟩
  · exact .inl h0
  · have e : S.map (·.block) = some g := by injection h1 with h1; rw [h1]; rfl
    exact .inr ⟨g, cap, cur, h1, h2, (hb g e (Array.getElem?_eq_some_iff.1 h3).1).trans h3, h4⟩
/-- A list of the call's own grows beside the maker. -/
structure LE (T : TypeId) (X : Mx) (w0 w : World) (A0 A : Option Addr) (n : Nat) (g : List Gt) (S : Option Addr) (m c : Nat) (l : List Int) : Prop where
  ms : ME T X w n g A
  fm : Fm w0 w X.x A0 A
  own : OwnI w0.heap.size w S m c l
  ap : ∀ k, S.map (·.block) = some k → k ≠ X.x ∧ A.map (·.block) ≠ some k
  bl : ∀ k, X.B.map (·.block) = some k → k < w0.heap.size
theorem LE.start (h : ME T X w n g A) : LE T X w w A A n g none 0 0 [] := ⟨h, Fm.refl _ _ _, OwnI.nil _ _, fun k e => by simp at e, fun k e => (h.os.blk k e).2⟩
theorem LE.made (h : ME T X w n g A) : LE T X w (w.alloc (.cells #[] 3)) A A n g (some ⟨w.heap.size, 0, none⟩) 0 0 [] :=
  ⟨h.keep ((Bl.refl w).alloc _), (Fm.refl _ _ _).grew ((Bl.refl w).alloc _) (Nat.le_of_lt h.lt), own_made w, fun k e => by
    injection e with e
    have e : w.heap.size = k := e
    have := h.lt
    exact ⟨by omega, fun e2 => by have := (h.at_ k e2).2; omega⟩, fun k e => (h.os.blk k e).2⟩
theorem LE.step (h : LE T X w0 w A0 A n g S m c l) (hm : ME T X w' n1 g' A') (hf : Fm w w' X.x A A') : LE T X w0 w' A0 A' n1 g' S m c l := by
  refine ⟨hm, h.fm.trans hf, own_blk h.own (fun k hk hl => hf.kept k hl (h.ap k hk).1 (h.ap k hk).2), fun k hk => ?_, h.bl⟩
  refine ⟨(h.ap k hk).1, ?_⟩
  have := (h.own.blk k hk).2
  rcases hf.row with e | ⟨q, e, hq⟩
  · rw [e]; exact (h.ap k hk).2
  · rw [e]; intro e2; injection e2 with e2; omega
theorem LE.grew (h : LE T X w0 w A0 A n g S m c l) (hb : Bl w w') : LE T X w0 w' A0 A n g S m c l :=
  ⟨h.ms.keep hb, h.fm.grew hb (Nat.le_of_lt h.ms.lt), h.own.keep hb, h.ap, h.bl⟩
theorem LE.app {o : Obj} (h : LE T X w0 w A0 A n g S m c l) (hx : X.x < w0.heap.size) (ho : OwnI w0.heap.size w' S' n' c' l') (hg : (w.alloc o).grownBy w' (S.map (·.block))) (hat : S'.map (·.block) = S.map (·.block) ∨ S'.map (·.block) = some (w.alloc o).heap.size) :
    LE T X w0 w' A0 A n g S' n' c' l' := by
  have hB : Bl w (w.alloc o) := (Bl.refl w).alloc o
  have hs := h.fm.size
  have hl := h.ms.lt
  refine ⟨(h.ms.keep hB).grown hg (fun k e => ⟨(h.ap k e).1, (h.ap k e).2, fun e2 => by have := h.bl k e2; have := (h.own.blk k e).1; omega⟩), ⟨Nat.le_trans h.fm.size (Nat.le_trans hB.size hg.size), fun k hk h1 h2 => ?_, h.fm.row, (h.fm.low.trans (Below.mono hB (by omega))).grown hg (by have := hB.size; omega) (fun k e => by have := (h.own.blk k e).1; omega)⟩, ho, fun k hk => ?_, h.bl⟩
  · rw [hg.block k (by have := hB.size; omega) (fun e => by have := (h.own.blk k e.symm).1; omega), hB.block k (by omega)]
    exact h.fm.kept k hk h1 h2
  · rcases hat with e | e
    · exact h.ap k (e.symm.trans hk)
    · rw [e] at hk
      injection hk with hk
      have := hB.size
      refine ⟨by omega, fun e2 => ?_⟩
      have := (h.ms.at_ k e2).2
      omega
theorem LE.lx (h : LE T X w0 w A0 A n g S m c l) : Lx w X.x A S m c l := ⟨h.own.rd, fun k hk => ⟨(h.own.blk k hk).2, h.ap k hk⟩⟩
end
/-- What a gate's call leaves. -/
def GtE (T : TypeId) (X : Mx) (w : World) (n : Nat) (g : List Gt) (A : Option Addr) (y : Gt) (e : Ending) (w' : World) : Prop := ∃ A', e = .returned (.int .i64 (wn X.t n)) ∧ ME T X w' (n + 1) (g ++ [y]) A' ∧ Fm w w' X.x A A'
/-- What a call leaves that returns a wire. -/
def WirE (T : TypeId) (X : Mx) (w : World) (A : Option Addr) (g' : List Gt) (v : Int) (e : Ending) (w' : World) : Prop := ∃ A' n1, e = .returned (.int .i64 v) ∧ ME T X w' n1 g' A' ∧ Fm w w' X.x A A'
/-- What a gadget's call leaves: these gates, a list of these wires. -/
def GadE (T : TypeId) (X : Mx) (w : World) (A : Option Addr) (g' : List Gt) (m : Nat) (l' : List Int) (e : Ending) (w' : World) : Prop := ∃ A' n1 S c, e = .returned (.slice S m c) ∧ LE T X w w' A A' n1 g' S m c l'
/-- A gadget's call with a wire besides. -/
def TupE (T : TypeId) (X : Mx) (w : World) (A : Option Addr) (g' : List Gt) (m : Nat) (l' : List Int) (v : Int) (e : Ending) (w' : World) : Prop := ∃ A' n1 S c, e = .returned (.tuple #[.slice S m c, .int .i64 v]) ∧ LE T X w w' A A' n1 g' S m c l'
theorem rd_gate (w : World) (K p q : Int) {g : Nat} (hg : w.heap.size = g := by first | with_reducible rfl | simp) : RdG (w.alloc (.cells #[.int .i64 K, .int .i64 p, .int .i64 q] 114)) (some ⟨g, 0, none⟩) 1 1 [⟨K, p, q⟩] := by
  subst hg
  refine ⟨⟨rfl, Nat.le_refl _, by simp [maxLen], fun _ => ⟨_, rfl, by simp, fun j u hu => ?_⟩⟩, rfl⟩
  have hadd : (⟨w.heap.size, 0, none⟩ : Addr).add j = ⟨w.heap.size, j, none⟩ := by unfold Addr.add; split <;> simp_all
  rw [hadd, cell_of_row _ w.heap.size j _ _ (0, 0) (heap_alloc_new w _)]
  simpa [gts, encs, Gt.enc] using hu
theorem gt_one (K p q : Int) : ∀ u ∈ gts [⟨K, p, q⟩], u.oneCell' = true := by
  intro u hu
  simp [gts, encs, Gt.enc] at hu
  rcases hu with rfl | rfl | rfl <;> rfl
section
variable {ops : Array Oper} {rest : List Oper} {o : Oper} {a : Act} {Q : Exit → Act → World → Prop} {w : World}
/-- append of a gate onto a row of the call's own, as a step of the walk. -/
theorem ap_gate (hgd : o.guard = none) {s x : Operand} (ho : o.op = .call { callee := .builtin .append, args := #[s, x], argTypes := #[51, 51] })
    {base n c d : Nat} {A B : Option Addr} {gl : List Gt} {K p q : Int} (hs_ : a.eval s = .slice A n c) (hown : OwnG base w A n c gl) (hx : a.eval x = .slice B 1 d) (hr : RdG w B 1 d [⟨K, p, q⟩])
    (hb : n + 1 ≤ 1000000) (hbase : base ≤ w.heap.size)
    (h : ∀ A' c' w', OwnG base w' A' (n + 1) c' (gl ++ [⟨K, p, q⟩]) → w.grownBy w' (A.map (·.block)) → (A'.map (·.block) = A.map (·.block) ∨ A'.map (·.block) = some w.heap.size) → wpList Tryz.prog ops Q rest (a.put o.dst (.slice A' (n + 1) c')) w') : wpList Tryz.prog ops Q (o :: rest) a w := by
  obtain ⟨i0, hi, hz0, hz1, hz2⟩ := info_parts gate_info
  obtain ⟨A', c', w', hrun, h2, h3, h4⟩ := run_append_any (P := Tryz.prog) w base 51 o.type 114 i0 _ 3 24 Tryz.underlying51 hi hz0 hz1 hz2 rfl (by decide)
    (.slice A n c) n (gts gl) hown.1 B 1 d (gts [⟨K, p, q⟩]) hr.1 (gt_one K p q) (by simp only [maxLen]; omega) (by omega) hbase
  rw [ownBlock_slice] at h3 h4
  refine wpList_plain hgd fun K_ hK => ?_
  unfold Oper.wp execOp
  simp only [ho, resolve, invoke, builtin, Sem.run_bind, Sem.run_pure, Result.andThen_ok, List.map_toArray, List.map_cons, List.map_nil, hs_, hx, hrun]
  refine hK _ _ (h A' c' w' ⟨?_, by simp [hown.2]⟩ h3 h4)
  have e : gts (gl ++ [⟨K, p, q⟩]) = gts gl ++ gts [⟨K, p, q⟩] := by simp [gts, encs]
  rw [e]
  exact h2
end
set_option maxHeartbeats 2000000 in
theorem mi_gate {w : World} {X : Mx} {n : Nat} {g : List Gt} {A : Option Addr} (h : ME 117 X w n g A) (hn : n ≤ 900) (K p q : Int) :
    Calls Tryz.prog 189 #[.pointer (some ⟨X.x, 0, none⟩), .int .i64 K, .int .i64 p, .int .i64 q] w (GtE 117 X w n g A ⟨K, p, q⟩) := by
  obtain ⟨hN, ⟨c, hB, hgs⟩, hos, hfar, hap, htop, ha, hb⟩ := h
  obtain ⟨x, base, a, b, B, m, d, ol⟩ := X
  dsimp only at hB hgs hos hfar hap htop ha hb ⊢
  unfold GtE
  dsimp only
  have HN := Lib.hid hN
  clear hN
  have hB_l := hB.lt; have hB_f := hB.frozen; have hB_0 := hB.cell 0 _ rfl; have hB_1 := hB.cell 1 _ rfl; have hB_2 := hB.cell 2 _ rfl; have hB_3 := hB.cell 3 _ rfl
  have hx1 := Lib.hid (fun k (hk : A.map (·.block) = some k) => (hgs.blk k hk))
  go_enter Tryz.func189, Tryz.ntmps189
  go_wp2_with (first
    | (at_builtin; refine ap_gate rfl rfl rfl (hgs.keep ((Bl.refl _).alloc _)) rfl (rd_gate _ _ _ _) (by omega) (by simp; omega) ?_; intro A4 c4 w4 hown4 hg4 hat4
       have hB4 := (hB.alloc (.cells #[.int .i64 K, .int .i64 p, .int .i64 q] 114)).grown hg4 (by intro e; have := (hx1.out x e.symm).1; omega)
       have hW4 : Below x w w4 := ((Below.refl x w).alloc (by omega) _).grown hg4 (by simp; omega) (fun k hk => by have := (hx1.out k hk).1; omega)
       have hO4 := (hos.alloc (.cells #[.int .i64 K, .int .i64 p, .int .i64 q] 114)).grown hg4 (by intro q hq e; exact hap q.block e.symm (by rw [hq]; rfl))
       clear hB_l hB_f hB_0 hB_1 hB_2 hB_3
       have hC_l := hB4.lt; have hC_f := hB4.frozen; have hC_0 := hB4.cell 0 _ rfl; have hC_1 := hB4.cell 1 _ rfl; have hC_2 := hB4.cell 2 _ rfl; have hC_3 := hB4.cell 3 _ rfl)
    | (go_at_call 151; refine (impl_wires a b A4 B (n + 1) c4 m d _ (by omega) (by omega) (by omega) (by omega) (by omega)).mono ?_; rintro e w5 ⟨rfl, hb5⟩))
  go_ret
  have hz4 := hg4.size
  have hz5 := hb5.size
  simp [World.setCell] at hz4 hz5
  have hl1 : (g ++ [(⟨K, p, q⟩ : Gt)]).length = n + 1 := by rw [List.length_append, HN.out]; rfl
  refine ⟨A4, ret_int (by unfold wn Mx.t; dsimp only; omega), ⟨hl1, ⟨c4, ?_, ?_⟩, (hO4.low hfar _).keep hb5, hfar, fun k hk hk2 => ?_, (show base ≤ w5.heap.size by omega), ha, hb⟩, ⟨by omega, fun k hk h1 h2 => ?_, ?_, (hW4.setCell (Nat.le_refl _) _).trans (Below.mono hb5 (by simp [World.setCell]; omega))⟩⟩
  · exact (hB4.set_ 2 (.slice A4 (n + 1) c4)).keep hb5
  · exact (hown4.low hfar _).keep hb5
  · rcases hat4 with e | e
    · exact hap k (e.symm.trans hk) hk2
    · have e2 := e.symm.trans hk
      injection e2 with e2
      have := (hos.blk k hk2).2
      simp at e2
      omega
  · rw [hb5.block k (by simp [World.setCell]; omega), Below.heap_setCell w4 ⟨x, 2, none⟩ _ k (fun e => h1 e), hg4.block k (by simp; omega) (fun e => h2 e.symm)]
    exact Below.heap_alloc w _ k hk
  · rcases hat4 with e | e
    · exact .inl e
    · exact .inr ⟨_, e, by simp⟩
theorem mi_xor {w : World} {X : Mx} {n : Nat} {g : List Gt} {A : Option Addr} (h : ME 117 X w n g A) (hn : n ≤ 900) (p q : Int) :
    Calls Tryz.prog 188 #[.pointer (some ⟨X.x, 0, none⟩), .int .i64 p, .int .i64 q] w (GtE 117 X w n g A ⟨0, p, q⟩) := by
  go_enter Tryz.func188, Tryz.ntmps188
  go_wp2_with (go_at_call 189; refine (mi_gate h hn 0 p q).mono ?_; rintro e w1 ⟨A1, rfl, hm1, hb1⟩)
  go_ret
  exact ⟨A1, rfl, hm1, hb1⟩
theorem mi_and {w : World} {X : Mx} {n : Nat} {g : List Gt} {A : Option Addr} (h : ME 117 X w n g A) (hn : n ≤ 900) (p q : Int) :
    Calls Tryz.prog 187 #[.pointer (some ⟨X.x, 0, none⟩), .int .i64 p, .int .i64 q] w (GtE 117 X w n g A ⟨1, p, q⟩) := by
  go_enter Tryz.func187, Tryz.ntmps187
  go_wp2_with (go_at_call 189; refine (mi_gate h hn 1 p q).mono ?_; rintro e w1 ⟨A1, rfl, hm1, hb1⟩)
  go_ret
  exact ⟨A1, rfl, hm1, hb1⟩
theorem mi_not {w : World} {X : Mx} {n : Nat} {g : List Gt} {A : Option Addr} (h : ME 117 X w n g A) (hn : n ≤ 900) (p : Int) :
    Calls Tryz.prog 140 #[.pointer (some ⟨X.x, 0, none⟩), .int .i64 p] w (GtE 117 X w n g A ⟨2, p, 0⟩) := by
  go_enter Tryz.func140, Tryz.ntmps140
  go_wp2_with (go_at_call 189; refine (mi_gate h hn 2 p 0).mono ?_; rintro e w1 ⟨A1, rfl, hm1, hb1⟩)
  go_ret
  exact ⟨A1, rfl, hm1, hb1⟩
set_option maxHeartbeats 2000000 in
theorem ms_gate {w : World} {X : Mx} {n : Nat} {g : List Gt} {A : Option Addr} (h : ME 102 X w n g A) (hn : n ≤ 900) (K p q : Int) :
    Calls Tryz.prog 178 #[.pointer (some ⟨X.x, 0, none⟩), .int .i64 K, .int .i64 p, .int .i64 q] w (GtE 102 X w n g A ⟨K, p, q⟩) := by
  obtain ⟨hN, ⟨c, hB, hgs⟩, hos, hfar, hap, htop, ha, hb⟩ := h
  obtain ⟨x, base, a, b, B, m, d, ol⟩ := X
  dsimp only at hB hgs hos hfar hap htop ha hb ⊢
  unfold GtE
  dsimp only
  have HN := Lib.hid hN
  clear hN
  have hB_l := hB.lt; have hB_f := hB.frozen; have hB_0 := hB.cell 0 _ rfl; have hB_1 := hB.cell 1 _ rfl; have hB_2 := hB.cell 2 _ rfl; have hB_3 := hB.cell 3 _ rfl
  have hx1 := Lib.hid (fun k (hk : A.map (·.block) = some k) => (hgs.blk k hk))
  go_enter Tryz.func178, Tryz.ntmps178
  go_wp2_with (first
    | (at_builtin; refine ap_gate rfl rfl rfl (hgs.keep ((Bl.refl _).alloc _)) rfl (rd_gate _ _ _ _) (by omega) (by simp; omega) ?_; intro A4 c4 w4 hown4 hg4 hat4
       have hB4 := (hB.alloc (.cells #[.int .i64 K, .int .i64 p, .int .i64 q] 114)).grown hg4 (by intro e; have := (hx1.out x e.symm).1; omega)
       have hW4 : Below x w w4 := ((Below.refl x w).alloc (by omega) _).grown hg4 (by simp; omega) (fun k hk => by have := (hx1.out k hk).1; omega)
       have hO4 := (hos.alloc (.cells #[.int .i64 K, .int .i64 p, .int .i64 q] 114)).grown hg4 (by intro q hq e; exact hap q.block e.symm (by rw [hq]; rfl))
       clear hB_l hB_f hB_0 hB_1 hB_2 hB_3
       have hC_l := hB4.lt; have hC_f := hB4.frozen; have hC_0 := hB4.cell 0 _ rfl; have hC_1 := hB4.cell 1 _ rfl; have hC_2 := hB4.cell 2 _ rfl; have hC_3 := hB4.cell 3 _ rfl)
    | (go_at_call 146; refine (spec_ciWires a b A4 B (n + 1) c4 m d _ (by omega) (by omega) (by omega) (by omega) (by omega)).mono ?_; rintro e w5 ⟨rfl, hb5⟩))
  go_ret
  have hz4 := hg4.size
  have hz5 := hb5.size
  simp [World.setCell] at hz4 hz5
  have hl1 : (g ++ [(⟨K, p, q⟩ : Gt)]).length = n + 1 := by rw [List.length_append, HN.out]; rfl
  refine ⟨A4, ret_int (by unfold wn Mx.t; dsimp only; omega), ⟨hl1, ⟨c4, ?_, ?_⟩, (hO4.low hfar _).keep hb5, hfar, fun k hk hk2 => ?_, (show base ≤ w5.heap.size by omega), ha, hb⟩, ⟨by omega, fun k hk h1 h2 => ?_, ?_, (hW4.setCell (Nat.le_refl _) _).trans (Below.mono hb5 (by simp [World.setCell]; omega))⟩⟩
  · exact (hB4.set_ 2 (.slice A4 (n + 1) c4)).keep hb5
  · exact (hown4.low hfar _).keep hb5
  · rcases hat4 with e | e
    · exact hap k (e.symm.trans hk) hk2
    · have e2 := e.symm.trans hk
      injection e2 with e2
      have := (hos.blk k hk2).2
      simp at e2
      omega
  · rw [hb5.block k (by simp [World.setCell]; omega), Below.heap_setCell w4 ⟨x, 2, none⟩ _ k (fun e => h1 e), hg4.block k (by simp; omega) (fun e => h2 e.symm)]
    exact Below.heap_alloc w _ k hk
  · rcases hat4 with e | e
    · exact .inl e
    · exact .inr ⟨_, e, by simp⟩
theorem ms_xor {w : World} {X : Mx} {n : Nat} {g : List Gt} {A : Option Addr} (h : ME 102 X w n g A) (hn : n ≤ 900) (p q : Int) :
    Calls Tryz.prog 177 #[.pointer (some ⟨X.x, 0, none⟩), .int .i64 p, .int .i64 q] w (GtE 102 X w n g A ⟨0, p, q⟩) := by
  go_enter Tryz.func177, Tryz.ntmps177
  go_wp2_with (go_at_call 178; refine (ms_gate h hn 0 p q).mono ?_; rintro e w1 ⟨A1, rfl, hm1, hb1⟩)
  go_ret
  exact ⟨A1, rfl, hm1, hb1⟩
theorem ms_and {w : World} {X : Mx} {n : Nat} {g : List Gt} {A : Option Addr} (h : ME 102 X w n g A) (hn : n ≤ 900) (p q : Int) :
    Calls Tryz.prog 176 #[.pointer (some ⟨X.x, 0, none⟩), .int .i64 p, .int .i64 q] w (GtE 102 X w n g A ⟨1, p, q⟩) := by
  go_enter Tryz.func176, Tryz.ntmps176
  go_wp2_with (go_at_call 178; refine (ms_gate h hn 1 p q).mono ?_; rintro e w1 ⟨A1, rfl, hm1, hb1⟩)
  go_ret
  exact ⟨A1, rfl, hm1, hb1⟩
theorem ms_not {w : World} {X : Mx} {n : Nat} {g : List Gt} {A : Option Addr} (h : ME 102 X w n g A) (hn : n ≤ 900) (p : Int) :
    Calls Tryz.prog 131 #[.pointer (some ⟨X.x, 0, none⟩), .int .i64 p] w (GtE 102 X w n g A ⟨2, p, 0⟩) := by
  go_enter Tryz.func131, Tryz.ntmps131
  go_wp2_with (go_at_call 178; refine (ms_gate h hn 2 p 0).mono ?_; rintro e w1 ⟨A1, rfl, hm1, hb1⟩)
  go_ret
  exact ⟨A1, rfl, hm1, hb1⟩
theorem ms_one {w : World} {X : Mx} {n : Nat} {g : List Gt} {A : Option Addr} (h : ME 102 X w n g A) (hn : n ≤ 900) :
    Calls Tryz.prog 171 #[.pointer (some ⟨X.x, 0, none⟩)] w (GtE 102 X w n g A ⟨3, 0, 0⟩) := by
  go_enter Tryz.func171, Tryz.ntmps171
  go_wp2_with (go_at_call 178; refine (ms_gate h hn 3 0 0).mono ?_; rintro e w1 ⟨A1, rfl, hm1, hb1⟩)
  go_ret
  exact ⟨A1, rfl, hm1, hb1⟩
theorem mi_zero {w : World} {X : Mx} {n : Nat} {g : List Gt} {A : Option Addr} (h : ME 117 X w n g A) (hn : n ≤ 800) :
    Calls Tryz.prog 182 #[.pointer (some ⟨X.x, 0, none⟩)] w fun e w' => ∃ A', e = .returned (.int .i64 (wn X.t (n + 1))) ∧ ME 117 X w' (n + 1 + 1) (g ++ [⟨3, 0, 0⟩] ++ [⟨2, wn X.t n, 0⟩]) A' ∧ Fm w w' X.x A A' := by
  go_enter Tryz.func182, Tryz.ntmps182
  go_wp2_with (first
    | (go_at_call 189; refine (mi_gate h (by omega) 3 0 0).mono ?_; rintro e w1 ⟨A1, rfl, hm1, hb1⟩)
    | (go_at_call 140; refine (mi_not hm1 (by omega) _).mono ?_; rintro e w2 ⟨A2, rfl, hm2, hb2⟩))
  go_ret
  exact ⟨A2, rfl, hm2, hb1.trans hb2⟩
end Go.Proofs.YtjggecbaladiiaaGreatDoor
