/- Contracts of gadgets: sums, differences, comparisons, choices, over a maker of circuits.
   Conditions: at most five wires a number. -/
import Derived.Test.YtlmlffiajgofeaaFrd
namespace Go.Proofs.Ytlmlffiajgofeaa
open Go.RowKit
set_option linter.unusedVariables false
/-- What a maker's call may turn: its block, and the row of its gates. -/
structure Fm (w w' : World) (x : Nat) (A A' : Option Addr) : Prop where
  size : w.heap.size ≤ w'.heap.size
  kept : ∀ k, k < w.heap.size → k ≠ x → A.map (·.block) ≠ some k → w'.heap[k]? = w.heap[k]?
  row : A'.map (·.block) = A.map (·.block) ∨ ∃ k, A'.map (·.block) = some k ∧ w.heap.size ≤ k
  low : Below x w w'
theorem Fm.refl (w : World) (x : Nat) (A : Option Addr) : Fm w w x A A := ⟨Nat.le_refl _, fun _ _ _ _ => rfl, .inl rfl, Below.refl _ _⟩
theorem Fm.trans {w w1 w2 : World} {x : Nat} {A A1 A2 : Option Addr} (h : Fm w w1 x A A1) (h' : Fm w1 w2 x A1 A2) : Fm w w2 x A A2 := by
  refine ⟨Nat.le_trans h.size h'.size, fun k hk hx hA => ?_, ?_, h.low.trans h'.low⟩
  · rw [h'.kept k (Nat.lt_of_lt_of_le hk h.size) hx ?_]
    · exact h.kept k hk hx hA
    · rcases h.row with e | ⟨q, e, hq⟩
      · rw [e]; exact hA
      · rw [e]; intro e2; injection e2 with e2; omega
  · rcases h'.row with e | ⟨q, e, hq⟩
    · rcases h.row with e1 | ⟨q, e1, hq⟩
      · exact .inl (e.trans e1)
      · exact .inr ⟨q, e.trans e1, hq⟩
    · exact .inr ⟨q, e, Nat.le_trans h.size hq⟩
/-- The world only grew. -/
theorem Fm.grew {w w1 w2 : World} {x : Nat} {A A1 : Option Addr} (h : Fm w w1 x A A1) (hb : Bl w1 w2) (hx : x ≤ w1.heap.size) : Fm w w2 x A A1 :=
  ⟨Nat.le_trans h.size hb.size, fun k hk h1 h2 => (hb.block k (Nat.lt_of_lt_of_le hk h.size)).trans (h.kept k hk h1 h2), h.row, h.low.trans (Below.mono hb hx)⟩
/-- A maker, its rows somewhere. -/
def MS (w : World) (x base : Nat) (a b : Int) (n : Nat) (A : Option Addr) : Prop := ∃ c gl, Mk w x base a b A n c gl none 0 0 []
section
variable {w w' w0 : World} {x base : Nat} {a b : Int} {n : Nat} {A A' A0 : Option Addr}
theorem MS.keep (h : MS w x base a b n A) (hb : Bl w w') : MS w' x base a b n A := by obtain ⟨c, gl, h⟩ := h; exact ⟨c, gl, h.keep hb⟩
theorem MS.lt (h : MS w x base a b n A) : x < w.heap.size := by obtain ⟨c, gl, h⟩ := h; exact h.blk.lt
theorem MS.at_ (h : MS w x base a b n A) : ∀ k, A.map (·.block) = some k → x < k ∧ k < w.heap.size := by
  obtain ⟨c, gl, h⟩ := h
  intro k hk
  have := h.gs.blk k hk
  have := h.far
  omega
theorem MS.grown {row : Option Nat} (h : MS w x base a b n A) (hg : w.grownBy w' row) (hr : ∀ k, row = some k → k ≠ x ∧ A.map (·.block) ≠ some k) : MS w' x base a b n A := by
  obtain ⟨c, gl, h⟩ := h
  refine ⟨c, gl, h.blk.grown hg (fun e => (hr x e.symm).1 rfl), h.gs.grown hg (fun q hq e => (hr q.block e.symm).2 (by rw [hq]; rfl)), OwnI.nil _ _, h.far, fun k _ e => by simp at e, Nat.le_trans h.top hg.size⟩
/-- A slice of numbers apart from the maker. -/
structure Lx (w : World) (x : Nat) (A S : Option Addr) (n c : Nat) (l : List Int) : Prop where
  rd : RdI w S n c l
  ap : ∀ k, S.map (·.block) = some k → k < w.heap.size ∧ k ≠ x ∧ A.map (·.block) ≠ some k
variable {S S' : Option Addr} {m c c' : Nat} {l l' : List Int} {A1 : Option Addr} {n' : Nat}
theorem Lx.fm (h : Lx w x A S m c l) (hf : Fm w w' x A A') : Lx w' x A' S m c l := by
  refine ⟨⟨h.rd.len, h.rd.cap, h.rd.max, fun hn => ?_⟩, fun k hk => ?_⟩
  · obtain ⟨ad, e, hl, hc⟩ := h.rd.at0 hn
    obtain ⟨h1, h2, h3⟩ := h.ap ad.block (by rw [e]; rfl)
    refine ⟨ad, e, Nat.lt_of_lt_of_le hl hf.size, fun j u hu => ?_⟩
    exact (World.cell?_of_block (a := ad.add j) (by rw [block_of_add]; exact hf.kept _ h1 h2 h3)).trans (hc j u hu)
  · obtain ⟨h1, h2, h3⟩ := h.ap k hk
    refine ⟨Nat.lt_of_lt_of_le h1 hf.size, h2, ?_⟩
    rcases hf.row with e | ⟨q, e, hq⟩
    · rw [e]; exact h3
    · rw [e]; intro e2; injection e2 with e2; omega
theorem Lx.keep (h : Lx w x A S m c l) (hb : Bl w w') : Lx w' x A S m c l := ⟨h.rd.keep hb, fun k hk => ⟨Nat.lt_of_lt_of_le (h.ap k hk).1 hb.size, (h.ap k hk).2⟩⟩
theorem Lx.at_ (h : Lx w x A S m c l) {k : Nat} (hk : k < m) : ∃ ad v, S = some ad ∧ ∀ (W : World) (B : Option Addr), Fm w W x A B → W.cell? (ad.add k) = some (.int .i64 v) := by
  obtain ⟨ad, v, e, hl, hv, hc⟩ := h.rd.at_ hk
  subst e
  refine ⟨ad, v, rfl, fun W B hf => ?_⟩
  obtain ⟨h1, h2, h3⟩ := h.ap ad.block rfl
  exact (World.cell?_of_block (a := ad.add k) (by rw [block_of_add]; exact hf.kept _ h1 h2 h3)).trans hc
theorem own_blk {B : Nat} (h : OwnI B w S m c l) (hb : ∀ k, S.map (·.block) = some k → k < w.heap.size → w'.heap[k]? = w.heap[k]?) : OwnI B w' S m c l := by
  refine ⟨h.1, ?_⟩
  rcases h.2 with h0 | ⟨g, cap, cur, h1, h2, h3, h4⟩
  · exact .inl h0
  · have e : S.map (·.block) = some g := by injection h1 with h1; rw [h1]; rfl
    exact .inr ⟨g, cap, cur, h1, h2, (hb g e (Array.getElem?_eq_some_iff.1 h3).1).trans h3, h4⟩
/-- A list of the call's own grows beside the maker. -/
structure LI (w0 w : World) (x base : Nat) (a b : Int) (A0 A : Option Addr) (n : Nat) (S : Option Addr) (m c : Nat) (l : List Int) : Prop where
  ms : MS w x base a b n A
  fm : Fm w0 w x A0 A
  own : OwnI w0.heap.size w S m c l
  ap : ∀ k, S.map (·.block) = some k → k ≠ x ∧ A.map (·.block) ≠ some k
theorem LI.start (h : MS w x base a b n A) : LI w w x base a b A A n none 0 0 [] := ⟨h, Fm.refl _ _ _, OwnI.nil _ _, fun k e => by simp at e⟩
theorem LI.step (h : LI w0 w x base a b A0 A n S m c l) (hm : MS w' x base a b n' A') (hf : Fm w w' x A A') : LI w0 w' x base a b A0 A' n' S m c l := by
  refine ⟨hm, h.fm.trans hf, own_blk h.own (fun k hk hl => hf.kept k hl (h.ap k hk).1 (h.ap k hk).2), fun k hk => ?_⟩
  · refine ⟨(h.ap k hk).1, ?_⟩
    have := (h.own.blk k hk).2
    rcases hf.row with e | ⟨q, e, hq⟩
    · rw [e]; exact (h.ap k hk).2
    · rw [e]; intro e2; injection e2 with e2; omega
theorem LI.grew (h : LI w0 w x base a b A0 A n S m c l) (hb : Bl w w') : LI w0 w' x base a b A0 A n S m c l :=
  ⟨h.ms.keep hb, h.fm.grew hb (Nat.le_of_lt h.ms.lt), h.own.keep hb, h.ap⟩
theorem LI.app {o : Obj} (h : LI w0 w x base a b A0 A n S m c l) (hx : x < w0.heap.size) (ho : OwnI w0.heap.size w' S' n' c' l') (hg : (w.alloc o).grownBy w' (S.map (·.block))) (hat : S'.map (·.block) = S.map (·.block) ∨ S'.map (·.block) = some (w.alloc o).heap.size) :
    LI w0 w' x base a b A0 A n S' n' c' l' := by
  have hB : Bl w (w.alloc o) := (Bl.refl w).alloc o
  have hs := h.fm.size
  have hl := h.ms.lt
  refine ⟨(h.ms.keep hB).grown hg (fun k e => h.ap k e), ⟨Nat.le_trans h.fm.size (Nat.le_trans hB.size hg.size), fun k hk h1 h2 => ?_, h.fm.row, (h.fm.low.trans (Below.mono hB (by omega))).grown hg (by have := hB.size; omega) (fun k e => by have := (h.own.blk k e).1; omega)⟩, ho, fun k hk => ?_⟩
  · rw [hg.block k (by have := hB.size; omega) (fun e => by have := (h.own.blk k e.symm).1; omega), hB.block k (by omega)]
    exact h.fm.kept k hk h1 h2
  · rcases hat with e | e
    · exact h.ap k (e.symm.trans hk)
    · rw [e] at hk
      injection hk with hk
      have := hB.size
      refine ⟨by omega, fun e2 => ?_⟩
      have := (h.ms.at_ k e2).2
      omega
theorem LI.lx (h : LI w0 w x base a b A0 A n S m c l) : Lx w x A S m c l := ⟨h.own.rd, fun k hk => ⟨(h.own.blk k hk).2, h.ap k hk⟩⟩
end
/-- What a gate's call leaves. -/
def GateP (w : World) (x base : Nat) (a b : Int) (n : Nat) (A : Option Addr) (e : Ending) (w' : World) : Prop := ∃ A' v, e = .returned (.int .i64 v) ∧ MS w' x base a b (n + 1) A' ∧ Fm w w' x A A'
/-- What a gadget's call leaves: K new gates at most, a list of m wires. -/
def GadP (w : World) (x base : Nat) (a b : Int) (n : Nat) (A : Option Addr) (K m : Nat) (e : Ending) (w' : World) : Prop := ∃ A' n' S c l, e = .returned (.slice S m c) ∧ n' ≤ n + K ∧ LI w w' x base a b A A' n' S m c l
theorem gadP {w w' : World} {x base : Nat} {a b : Int} {n n' : Nat} {A A' S : Option Addr} {K m c : Nat} {l : List Int} (h1 : n' ≤ n + K) (h2 : LI w w' x base a b A A' n' S m c l) : GadP w x base a b n A K m (.returned (.slice S m c)) w' := ⟨A', n', S, c, l, rfl, h1, h2⟩
set_option maxHeartbeats 2000000 in
theorem mk_gate {w : World} {x base : Nat} {a b : Int} {n : Nat} {A : Option Addr} (h : MS w x base a b n A) (ha : 0 ≤ a ∧ a ≤ 100) (hb : 0 ≤ b ∧ b ≤ 100) (hn : n ≤ 900) (K p q : Int) :
    Calls Try.prog 146 #[.pointer (some ⟨x, 0, none⟩), .int .i64 K, .int .i64 p, .int .i64 q] w (GateP w x base a b n A) := by
  obtain ⟨c, gl, h⟩ := h
  obtain ⟨hB, hgs, hos, hfar, hap, htop⟩ := h
  have hB_l := hB.lt; have hB_f := hB.frozen; have hB_0 := hB.cell 0 _ rfl; have hB_1 := hB.cell 1 _ rfl; have hB_2 := hB.cell 2 _ rfl; have hB_3 := hB.cell 3 _ rfl
  have hx1 := Lib.hid (fun k (hk : A.map (·.block) = some k) => (hgs.blk k hk))
  go_enter Try.func146, Try.ntmps146
  go_wp2_with (first
    | (at_builtin; refine ap_gate rfl rfl rfl (hgs.keep ((Bl.refl _).alloc _)) rfl (rd_gate _ _ _ _) (by omega) (by simp; omega) ?_; intro A4 c4 w4 hown4 hg4 hat4
       have hB4 := (hB.alloc (.cells #[.int .i64 K, .int .i64 p, .int .i64 q] 57)).grown hg4 (by intro e; have := (hx1.out x e.symm).1; omega)
       have hW4 : Below x w w4 := ((Below.refl x w).alloc (by omega) _).grown hg4 (by simp; omega) (fun k hk => by have := (hx1.out k hk).1; omega)
       clear hB_l hB_f hB_0 hB_1 hB_2 hB_3
       have hC_l := hB4.lt; have hC_f := hB4.frozen; have hC_0 := hB4.cell 0 _ rfl; have hC_1 := hB4.cell 1 _ rfl; have hC_2 := hB4.cell 2 _ rfl; have hC_3 := hB4.cell 3 _ rfl)
    | (go_at_call 104; refine (spec_ciWires a b A4 none (n + 1) c4 0 0 _ (by omega) (by omega) (by omega) (by omega) (by omega)).mono ?_; rintro e w5 ⟨rfl, hb5⟩))
  go_ret
  have hz4 := hg4.size
  have hz5 := hb5.size
  simp [World.setCell] at hz4 hz5
  refine ⟨A4, a + b + n, ret_int (by omega), ⟨c4, _, (hB4.set_ 2 (.slice A4 (n + 1) c4)).keep hb5, (hown4.low hfar _).keep hb5, OwnI.nil _ _, hfar, fun k hk hk2 => by simp at hk2, by omega⟩, ⟨by omega, fun k hk h1 h2 => ?_, ?_, (hW4.setCell (Nat.le_refl _) _).trans (Below.mono hb5 (by simp [World.setCell]; omega))⟩⟩
  · rw [hb5.block k (by simp [World.setCell]; omega), Below.heap_setCell w4 ⟨x, 2, none⟩ _ k (fun e => h1 e), hg4.block k (by simp; omega) (fun e => h2 e.symm)]
    exact Below.heap_alloc w _ k hk
  · rcases hat4 with e | e
    · exact .inl e
    · exact .inr ⟨_, e, by simp⟩
theorem mk_one {w : World} {x base : Nat} {a b : Int} {n : Nat} {A : Option Addr} (h : MS w x base a b n A) (ha : 0 ≤ a ∧ a ≤ 100) (hb : 0 ≤ b ∧ b ≤ 100) (hn : n ≤ 900) :
    Calls Try.prog 133 #[.pointer (some ⟨x, 0, none⟩)] w (GateP w x base a b n A) := by
  go_enter Try.func133, Try.ntmps133
  go_wp2_with (go_at_call 146; refine (mk_gate h ha hb hn 3 0 0).mono ?_; rintro e w1 ⟨A1, v, rfl, hm1, hb1⟩)
  go_ret
  exact ⟨A1, _, rfl, hm1, hb1⟩
theorem mk_not {w : World} {x base : Nat} {a b : Int} {n : Nat} {A : Option Addr} (h : MS w x base a b n A) (ha : 0 ≤ a ∧ a ≤ 100) (hb : 0 ≤ b ∧ b ≤ 100) (hn : n ≤ 900) (p : Int) :
    Calls Try.prog 134 #[.pointer (some ⟨x, 0, none⟩), .int .i64 p] w (GateP w x base a b n A) := by
  go_enter Try.func134, Try.ntmps134
  go_wp2_with (go_at_call 146; refine (mk_gate h ha hb hn 2 p 0).mono ?_; rintro e w1 ⟨A1, v, rfl, hm1, hb1⟩)
  go_ret
  exact ⟨A1, _, rfl, hm1, hb1⟩
theorem mk_xor {w : World} {x base : Nat} {a b : Int} {n : Nat} {A : Option Addr} (h : MS w x base a b n A) (ha : 0 ≤ a ∧ a ≤ 100) (hb : 0 ≤ b ∧ b ≤ 100) (hn : n ≤ 900) (p q : Int) :
    Calls Try.prog 135 #[.pointer (some ⟨x, 0, none⟩), .int .i64 p, .int .i64 q] w (GateP w x base a b n A) := by
  go_enter Try.func135, Try.ntmps135
  go_wp2_with (go_at_call 146; refine (mk_gate h ha hb hn 0 p q).mono ?_; rintro e w1 ⟨A1, v, rfl, hm1, hb1⟩)
  go_ret
  exact ⟨A1, _, rfl, hm1, hb1⟩
theorem mk_and {w : World} {x base : Nat} {a b : Int} {n : Nat} {A : Option Addr} (h : MS w x base a b n A) (ha : 0 ≤ a ∧ a ≤ 100) (hb : 0 ≤ b ∧ b ≤ 100) (hn : n ≤ 900) (p q : Int) :
    Calls Try.prog 136 #[.pointer (some ⟨x, 0, none⟩), .int .i64 p, .int .i64 q] w (GateP w x base a b n A) := by
  go_enter Try.func136, Try.ntmps136
  go_wp2_with (go_at_call 146; refine (mk_gate h ha hb hn 1 p q).mono ?_; rintro e w1 ⟨A1, v, rfl, hm1, hb1⟩)
  go_ret
  exact ⟨A1, _, rfl, hm1, hb1⟩
end Go.Proofs.Ytlmlffiajgofeaa
