/- Contracts of the makers of drawn circuits: a new maker, its gates, and a drawn circuit.
   Conditions: the cursor's, and small numbers. -/
import Derived.Test.YtlmlffiajgofeaaCuv
import Derived.Test.YtlmlffiajgofeaaCil
import Derived.Test.YtlmlffiajgofeaaAps
import Derived.Test.YtlmlffiajgofeaaCid
namespace Go.Proofs.Ytlmlffiajgofeaa
open Go.RowKit
set_option linter.unusedVariables false
/-- A maker of circuits at block x; its rows lie in blocks of their own behind it. -/
structure Mk (w : World) (x base : Nat) (a b : Int) (A : Option Addr) (n c : Nat) (gl : List Gt) (B : Option Addr) (m d : Nat) (ol : List Int) : Prop where
  blk : Blk w x 105 #[.int .i64 a, .int .i64 b, .slice A n c, .slice B m d]
  gs : OwnG base w A n c gl
  os : OwnI base w B m d ol
  far : x < base
  ap : ∀ k, A.map (·.block) = some k → B.map (·.block) ≠ some k
  top : base ≤ w.heap.size
section
variable {w w' : World} {x base : Nat} {a b : Int} {A : Option Addr} {n c : Nat} {gl : List Gt} {B : Option Addr} {m d : Nat} {ol : List Int}
theorem Mk.keep (h : Mk w x base a b A n c gl B m d ol) (hb : Bl w w') : Mk w' x base a b A n c gl B m d ol := ⟨h.blk.keep hb, h.gs.keep hb, h.os.keep hb, h.far, h.ap, Nat.le_trans h.top hb.size⟩
theorem Mk.cur {g : Nat} (h : Mk w x base a b A n c gl B m d ol) (hg : w.grownBy w' (some g)) (hx : g < x) : Mk w' x base a b A n c gl B m d ol :=
  ⟨h.blk.grown hg (by intro e; injection e with e; omega), h.gs.grown hg (by intro q hq e; injection e with e; have := (h.gs.blk q.block (by rw [hq]; rfl)).1; have := h.far; omega),
    h.os.grown hg (by intro q hq e; injection e with e; have := (h.os.blk q.block (by rw [hq]; rfl)).1; have := h.far; omega), h.far, h.ap, Nat.le_trans h.top hg.size⟩
end
theorem rd_gate (w : World) (K p q : Int) {g : Nat} (hg : w.heap.size = g := by first | with_reducible rfl | simp) : RdG (w.alloc (.cells #[.int .i64 K, .int .i64 p, .int .i64 q] 57)) (some ⟨g, 0, none⟩) 1 1 [⟨K, p, q⟩] := by
  subst hg
  refine ⟨⟨rfl, Nat.le_refl _, by simp [maxLen], fun _ => ⟨_, rfl, by simp, fun j u hu => ?_⟩⟩, rfl⟩
  have hadd : (⟨w.heap.size, 0, none⟩ : Addr).add j = ⟨w.heap.size, j, none⟩ := by unfold Addr.add; split <;> simp_all
  rw [hadd, cell_of_row _ w.heap.size j _ _ (0, 0) (heap_alloc_new w _)]
  simpa [gts, encs, Gt.enc] using hu
theorem gt_one (K p q : Int) : ∀ u ∈ gts [⟨K, p, q⟩], u.oneCell' = true := by
  intro u hu
  simp [gts, encs, Gt.enc] at hu
  rcases hu with rfl | rfl | rfl <;> rfl
section
variable {ops : Array Oper} {rest : List Oper} {o : Oper} {a : Act} {Q : Exit → Act → World → Prop} {w : World}
/-- append of a gate onto a row of the call's own, as a step of the walk. -/
theorem ap_gate (hgd : o.guard = none) {s x : Operand} (ho : o.op = .call { callee := .builtin .append, args := #[s, x], argTypes := #[23, 23] })
    {base n c d : Nat} {A B : Option Addr} {gl : List Gt} {K p q : Int} (hs_ : a.eval s = .slice A n c) (hown : OwnG base w A n c gl) (hx : a.eval x = .slice B 1 d) (hr : RdG w B 1 d [⟨K, p, q⟩])
    (hb : n + 1 ≤ 1000000) (hbase : base ≤ w.heap.size)
    (h : ∀ A' c' w', OwnG base w' A' (n + 1) c' (gl ++ [⟨K, p, q⟩]) → w.grownBy w' (A.map (·.block)) → (A'.map (·.block) = A.map (·.block) ∨ A'.map (·.block) = some w.heap.size) → wpList Try.prog ops Q rest (a.put o.dst (.slice A' (n + 1) c')) w') : wpList Try.prog ops Q (o :: rest) a w := by
  obtain ⟨i0, hi, hz0, hz1, hz2⟩ := info_parts gate_info
  obtain ⟨A', c', w', hrun, h2, h3, h4⟩ := run_append_any (P := Try.prog) w base 23 o.type 57 i0 _ 3 24 Try.underlying23 hi hz0 hz1 hz2 rfl (by decide)
    (.slice A n c) n (gts gl) hown.1 B 1 d (gts [⟨K, p, q⟩]) hr.1 (gt_one K p q) (by simp only [maxLen]; omega) (by omega) hbase
  rw [ownBlock_slice] at h3 h4
  refine wpList_plain hgd fun K_ hK => ?_
  unfold Oper.wp execOp
  simp only [ho, resolve, invoke, builtin, Sem.run_bind, Sem.run_pure, Result.andThen_ok, List.map_toArray, List.map_cons, List.map_nil, hs_, hx, hrun]
  refine hK _ _ (h A' c' w' ⟨?_, by simp [hown.2]⟩ h3 h4)
  have e : gts (gl ++ [⟨K, p, q⟩]) = gts gl ++ gts [⟨K, p, q⟩] := by simp [gts, encs]
  rw [e]
  exact h2
end
theorem spec_ciNew (a b : Int) (w : World) :
    Calls Try.prog 132 #[.int .i64 a, .int .i64 b] w fun e w' => e = .returned (.pointer (some ⟨w.heap.size, 0, none⟩)) ∧ w' = w.alloc (.cells #[.int .i64 a, .int .i64 b, .slice none 0 0, .slice none 0 0] 105) := by
  go_enter Try.func132, Try.ntmps132
  go_wp2
  go_ret
  exact ⟨rfl, rfl⟩
set_option maxHeartbeats 2000000 in
theorem maker_gate (w : World) (x base : Nat) (a b : Int) (A : Option Addr) (n c : Nat) (gl : List Gt) (B : Option Addr) (m d : Nat) (ol : List Int) (h : Mk w x base a b A n c gl B m d ol) (ha : 0 ≤ a ∧ a ≤ 100) (hb : 0 ≤ b ∧ b ≤ 100) (hn : n ≤ 900) (K p q : Int) :
    Calls Try.prog 146 #[.pointer (some ⟨x, 0, none⟩), .int .i64 K, .int .i64 p, .int .i64 q] w fun e w' => ∃ A' c', e = .returned (.int .i64 (a + b + n)) ∧ Mk w' x base a b A' (n + 1) c' (gl ++ [⟨K, p, q⟩]) B m d ol ∧ Below x w w' := by
  obtain ⟨hB, hgs, hos, hfar, hap, htop⟩ := h
  have hB_l := hB.lt; have hB_f := hB.frozen; have hB_0 := hB.cell 0 _ rfl; have hB_1 := hB.cell 1 _ rfl; have hB_2 := hB.cell 2 _ rfl; have hB_3 := hB.cell 3 _ rfl
  have hx1 := Lib.hid (fun k (hk : A.map (·.block) = some k) => (hgs.blk k hk))
  go_enter Try.func146, Try.ntmps146
  go_wp2_with (first
    | (at_builtin; refine ap_gate rfl rfl rfl (hgs.keep ((Bl.refl _).alloc _)) rfl (rd_gate _ _ _ _) (by omega) (by simp; omega) ?_; intro A4 c4 w4 hown4 hg4 hat4
       have hB4 := (hB.alloc (.cells #[.int .i64 K, .int .i64 p, .int .i64 q] 57)).grown hg4 (by intro e; have := (hx1.out x e.symm).1; omega)
       have hos4 := (hos.alloc (.cells #[.int .i64 K, .int .i64 p, .int .i64 q] 57)).grown hg4 (by intro q hq e; exact hap q.block e.symm (by rw [hq]; rfl))
       have hW4 : Below x w w4 := ((Below.refl x w).alloc (by omega) _).grown hg4 (by simp; omega) (fun k hk => by have := (hx1.out k hk).1; omega)
       clear hB_l hB_f hB_0 hB_1 hB_2 hB_3
       have hC_l := hB4.lt; have hC_f := hB4.frozen; have hC_0 := hB4.cell 0 _ rfl; have hC_1 := hB4.cell 1 _ rfl; have hC_2 := hB4.cell 2 _ rfl; have hC_3 := hB4.cell 3 _ rfl)
    | (go_at_call 104; refine (spec_ciWires a b A4 B (n + 1) c4 m d _ (by omega) (by omega) (by omega) (by omega) (by omega)).mono ?_; rintro e w5 ⟨rfl, hb5⟩))
  go_ret
  refine ⟨A4, c4, ret_int (by omega), ⟨(hB4.set_ 2 (.slice A4 (n + 1) c4)).keep hb5, (hown4.low hfar _).keep hb5, (hos4.low hfar _).keep hb5, hfar, fun k hk hk2 => ?_, ?_⟩, (hW4.setCell (Nat.le_refl _) _).trans (Below.mono hb5 (by simp [World.setCell]; omega))⟩
  · rcases hat4 with e | e
    · exact hap k (e.symm.trans hk) hk2
    · have e2 := e.symm.trans hk
      injection e2 with e2
      have := (hos.blk k hk2).2
      simp at e2
      omega
  · have := hb5.size
    have := hg4.size
    simp [World.setCell] at *
    omega
set_option maxHeartbeats 1000000 in
theorem maker_one (w : World) (x base : Nat) (a b : Int) (A : Option Addr) (n c : Nat) (gl : List Gt) (B : Option Addr) (m d : Nat) (ol : List Int) (h : Mk w x base a b A n c gl B m d ol) (ha : 0 ≤ a ∧ a ≤ 100) (hb : 0 ≤ b ∧ b ≤ 100) (hn : n ≤ 900) :
    Calls Try.prog 133 #[.pointer (some ⟨x, 0, none⟩)] w fun e w' => ∃ A' c' y v, e = .returned (.int .i64 v) ∧ Mk w' x base a b A' (n + 1) c' (gl ++ [y]) B m d ol ∧ Below x w w' := by
  go_enter Try.func133, Try.ntmps133
  go_wp2_with (go_at_call 146; refine (maker_gate w x base a b A n c gl B m d ol h ha hb hn 3 0 0).mono ?_; rintro e w1 ⟨A1, c1, rfl, hm1, hb1⟩)
  go_ret
  exact ⟨A1, c1, _, _, rfl, hm1, hb1⟩
set_option maxHeartbeats 1000000 in
theorem maker_not (w : World) (x base : Nat) (a b : Int) (A : Option Addr) (n c : Nat) (gl : List Gt) (B : Option Addr) (m d : Nat) (ol : List Int) (h : Mk w x base a b A n c gl B m d ol) (ha : 0 ≤ a ∧ a ≤ 100) (hb : 0 ≤ b ∧ b ≤ 100) (hn : n ≤ 900) (p : Int) :
    Calls Try.prog 134 #[.pointer (some ⟨x, 0, none⟩), .int .i64 p] w fun e w' => ∃ A' c' y v, e = .returned (.int .i64 v) ∧ Mk w' x base a b A' (n + 1) c' (gl ++ [y]) B m d ol ∧ Below x w w' := by
  go_enter Try.func134, Try.ntmps134
  go_wp2_with (go_at_call 146; refine (maker_gate w x base a b A n c gl B m d ol h ha hb hn 2 p 0).mono ?_; rintro e w1 ⟨A1, c1, rfl, hm1, hb1⟩)
  go_ret
  exact ⟨A1, c1, _, _, rfl, hm1, hb1⟩
set_option maxHeartbeats 1000000 in
theorem maker_xor (w : World) (x base : Nat) (a b : Int) (A : Option Addr) (n c : Nat) (gl : List Gt) (B : Option Addr) (m d : Nat) (ol : List Int) (h : Mk w x base a b A n c gl B m d ol) (ha : 0 ≤ a ∧ a ≤ 100) (hb : 0 ≤ b ∧ b ≤ 100) (hn : n ≤ 900) (p q : Int) :
    Calls Try.prog 135 #[.pointer (some ⟨x, 0, none⟩), .int .i64 p, .int .i64 q] w fun e w' => ∃ A' c' y v, e = .returned (.int .i64 v) ∧ Mk w' x base a b A' (n + 1) c' (gl ++ [y]) B m d ol ∧ Below x w w' := by
  go_enter Try.func135, Try.ntmps135
  go_wp2_with (go_at_call 146; refine (maker_gate w x base a b A n c gl B m d ol h ha hb hn 0 p q).mono ?_; rintro e w1 ⟨A1, c1, rfl, hm1, hb1⟩)
  go_ret
  exact ⟨A1, c1, _, _, rfl, hm1, hb1⟩
set_option maxHeartbeats 1000000 in
theorem maker_and (w : World) (x base : Nat) (a b : Int) (A : Option Addr) (n c : Nat) (gl : List Gt) (B : Option Addr) (m d : Nat) (ol : List Int) (h : Mk w x base a b A n c gl B m d ol) (ha : 0 ≤ a ∧ a ≤ 100) (hb : 0 ≤ b ∧ b ≤ 100) (hn : n ≤ 900) (p q : Int) :
    Calls Try.prog 136 #[.pointer (some ⟨x, 0, none⟩), .int .i64 p, .int .i64 q] w fun e w' => ∃ A' c' y v, e = .returned (.int .i64 v) ∧ Mk w' x base a b A' (n + 1) c' (gl ++ [y]) B m d ol ∧ Below x w w' := by
  go_enter Try.func136, Try.ntmps136
  go_wp2_with (go_at_call 146; refine (maker_gate w x base a b A n c gl B m d ol h ha hb hn 1 p q).mono ?_; rintro e w1 ⟨A1, c1, rfl, hm1, hb1⟩)
  go_ret
  exact ⟨A1, c1, _, _, rfl, hm1, hb1⟩
end Go.Proofs.Ytlmlffiajgofeaa
