/- Contracts of the draws of the law on rounds: a circuit, and a circuit with a key and inputs.
   Conditions: the text is one of bytes. -/
import Derived.Test.YtlmlffiajgofeaaFrd
namespace Go.Proofs.Ytlmlffiajgofeaa
open Go.RowKit
set_option linter.unusedVariables false
theorem OwnC.mono {base base' : Nat} {w : World} {A B : Option Addr} {n c m d : Nat} {gl : List Gt} {ol : List Int} (h : OwnC base' w A n c gl B m d ol) (hb : base ≤ base') : OwnC base w A n c gl B m d ol := ⟨h.1.mono hb, OwnI.mono h.2.1 hb, h.2.2⟩
theorem OwnC.low {base g i : Nat} {w : World} {A B : Option Addr} {n c m d : Nat} {gl : List Gt} {ol : List Int} (h : OwnC base w A n c gl B m d ol) (hg : g < base) (u : Value) : OwnC base (w.setCell ⟨g, i, none⟩ u) A n c gl B m d ol := ⟨h.1.low hg u, h.2.1.low hg u, h.2.2⟩
theorem OwnC.cur {base g : Nat} {w w' : World} {A B : Option Addr} {n c m d : Nat} {gl : List Gt} {ol : List Int} (h : OwnC base w A n c gl B m d ol) (hg : w.grownBy w' (some g)) (hb : g < base) : OwnC base w' A n c gl B m d ol :=
  h.grown hg (by rintro a rfl e; injection e with e; have := (h.1.blk a.block rfl).1; omega) (by rintro a rfl e; injection e with e; have := (h.2.1.blk a.block rfl).1; omega)
/-- A drawn circuit. -/
def DrcP (w : World) (e : Ending) (w' : World) : Prop := ∃ a b A n c gl B m d ol, e = .returned (.agg #[.int .i64 a, .int .i64 b, .slice A n c, .slice B m d]) ∧ ((-1 ≤ a ∧ a ≤ 30) ∧ (-1 ≤ b ∧ b ≤ 30) ∧ n ≤ 301 ∧ m ≤ 41) ∧ OwnC w.heap.size w' A n c gl B m d ol ∧ Bl w w'
theorem drcP {w w' : World} {a b : Int} {A B : Option Addr} {n c m d : Nat} {gl : List Gt} {ol : List Int} (h1 : (-1 ≤ a ∧ a ≤ 30) ∧ (-1 ≤ b ∧ b ≤ 30) ∧ n ≤ 301 ∧ m ≤ 41) (h2 : OwnC w.heap.size w' A n c gl B m d ol) (h3 : Bl w w') : DrcP w (.returned (.agg #[.int .i64 a, .int .i64 b, .slice A n c, .slice B m d])) w' :=
  ⟨a, b, A, n, c, gl, B, m, d, ol, rfl, h1, h2, h3⟩
/-- A drawn circuit with a key and inputs. -/
def RunP (w : World) (e : Ending) (w' : World) : Prop := ∃ a b A n c gl B m d ol key A1 n1 c1 l1 A2 n2 c2 l2, e = .returned (.tuple #[.agg #[.int .i64 a, .int .i64 b, .slice A n c, .slice B m d], .int .i64 key, .slice A1 n1 c1, .slice A2 n2 c2]) ∧ ((-1 ≤ a ∧ a ≤ 30) ∧ (-1 ≤ b ∧ b ≤ 30) ∧ n ≤ 301 ∧ m ≤ 41) ∧ OwnC w.heap.size w' A n c gl B m d ol ∧ Bl w w' ∧ (-1 ≤ key ∧ key ≤ 60000) ∧ n1 ≤ 31 ∧ n2 ≤ 31 ∧ OwnI w.heap.size w' A1 n1 c1 l1 ∧ OwnI w.heap.size w' A2 n2 c2 l2
theorem runP {w w' : World} {a b key : Int} {A B A1 A2 : Option Addr} {n c m d n1 c1 n2 c2 : Nat} {gl : List Gt} {ol l1 l2 : List Int} (h1 : (-1 ≤ a ∧ a ≤ 30) ∧ (-1 ≤ b ∧ b ≤ 30) ∧ n ≤ 301 ∧ m ≤ 41) (h2 : OwnC w.heap.size w' A n c gl B m d ol) (h3 : Bl w w') (h4 : -1 ≤ key ∧ key ≤ 60000) (h5 : n1 ≤ 31) (h6 : n2 ≤ 31) (h7 : OwnI w.heap.size w' A1 n1 c1 l1) (h8 : OwnI w.heap.size w' A2 n2 c2 l2) :
    RunP w (.returned (.tuple #[.agg #[.int .i64 a, .int .i64 b, .slice A n c, .slice B m d], .int .i64 key, .slice A1 n1 c1, .slice A2 n2 c2])) w' := ⟨a, b, A, n, c, gl, B, m, d, ol, key, A1, n1, c1, l1, A2, n2, c2, l2, rfl, h1, h2, h3, h4, h5, h6, h7, h8⟩
set_option maxHeartbeats 2000000 in
theorem spec_DrawHalfRows (w : World) (Ac : Option Addr) (nc cc : Nat) (lc : List Int) (h : RdB w Ac nc cc lc) : Calls Try.prog 49 #[.slice Ac nc cc] w (DrcP w) := by
  have hR := Blk.new w 26 #[.int .i64 0, .int .i64 0, .slice none 0 0, .slice none 0 0] (g := w.heap.size)
  have hs0 : (w.alloc (.cells #[.int .i64 0, .int .i64 0, .slice none 0 0, .slice none 0 0] 26)).heap.size = w.heap.size + 1 := by simp
  have hC := Cur.new (w.alloc (.cells #[.int .i64 0, .int .i64 0, .slice none 0 0, .slice none 0 0] 26)) (h.keep ((Bl.refl w).alloc _)) (g := w.heap.size + 1)
  replace hR := hR.alloc (.cells #[.slice Ac nc cc, .int .i64 0, .int .u64 0] 71)
  have hW := ((Bl.refl w).alloc (.cells #[.int .i64 0, .int .i64 0, .slice none 0 0, .slice none 0 0] 26)).alloc (.cells #[.slice Ac nc cc, .int .i64 0, .int .u64 0] 71)
  have hs1 : ((w.alloc (.cells #[.int .i64 0, .int .i64 0, .slice none 0 0, .slice none 0 0] 26)).alloc (.cells #[.slice Ac nc cc, .int .i64 0, .int .u64 0] 71)).heap.size = w.heap.size + 2 := by simp
  clear h
  go_enter Try.func49, Try.ntmps49
  go_wp2_with fail
  refine (cur_anyCircuit _ _ _ hC (by omega)).mono ?_
  rintro e w2 ⟨a, b, A, n, c, gl, B, m, d, ol, rfl, ha, hb, hn, hm, hO, hC2, hG⟩
  rw [hs1] at hO
  replace hR := hR.grown hG (by intro e; injection e with e; omega)
  replace hW := hW.grown hG (by intro k hk; injection hk with hk; omega)
  have hl : w.heap.size < w.heap.size + 2 := by omega
  clear hC hC2 hG hs0 hs1
  have hR_l := hR.lt; have hR_f := hR.frozen; have hR_0 := hR.cell 0 _ rfl; have hR_1 := hR.cell 1 _ rfl; have hR_2 := hR.cell 2 _ rfl; have hR_3 := hR.cell 3 _ rfl
  go_wp2_with fail
  refine bodyPost_ret (v := .agg #[.int .i64 a, .int .i64 b, .slice A n c, .slice B m d]) (by simp only [results, Try.results49]; go_simp) rfl (drcP ⟨ha, hb, hn, hm⟩ (OwnC.mono ((((hO.low hl _).low hl _).low hl _).low hl _) (by omega)) ((((hW.setCell (p := ⟨w.heap.size, 0, none⟩) (Nat.le_refl _) _).setCell (p := ⟨w.heap.size, 1, none⟩) (Nat.le_refl _) _).setCell (p := ⟨w.heap.size, 2, none⟩) (Nat.le_refl _) _).setCell (p := ⟨w.heap.size, 3, none⟩) (Nat.le_refl _) _))
set_option maxHeartbeats 2000000 in
theorem spec_DrawRoundsOf (w : World) (Ac : Option Addr) (nc cc : Nat) (lc : List Int) (h : RdB w Ac nc cc lc) : Calls Try.prog 6 #[.slice Ac nc cc] w (DrcP w) := by
  have hR := Blk.new w 26 #[.int .i64 0, .int .i64 0, .slice none 0 0, .slice none 0 0] (g := w.heap.size)
  have hs0 : (w.alloc (.cells #[.int .i64 0, .int .i64 0, .slice none 0 0, .slice none 0 0] 26)).heap.size = w.heap.size + 1 := by simp
  have hW := ((Bl.refl w).alloc (.cells #[.int .i64 0, .int .i64 0, .slice none 0 0, .slice none 0 0] 26))
  have h0 := h.keep hW
  clear h
  go_enter Try.func6, Try.ntmps6
  go_wp2_with fail
  refine (spec_DrawHalfRows _ Ac nc cc lc h0).mono ?_
  rintro e w2 ⟨a, b, A, n, c, gl, B, m, d, ol, rfl, hbd, hO, hb2⟩
  rw [hs0] at hO
  replace hR := hR.keep hb2
  replace hW := hW.call hb2
  have hl : w.heap.size < w.heap.size + 1 := by omega
  clear h0 hb2 hs0
  have hR_l := hR.lt; have hR_f := hR.frozen; have hR_0 := hR.cell 0 _ rfl; have hR_1 := hR.cell 1 _ rfl; have hR_2 := hR.cell 2 _ rfl; have hR_3 := hR.cell 3 _ rfl
  go_wp2_with fail
  refine bodyPost_ret (v := .agg #[.int .i64 a, .int .i64 b, .slice A n c, .slice B m d]) (by simp only [results, Try.results6]; go_simp) rfl (drcP hbd (OwnC.mono ((((hO.low hl _).low hl _).low hl _).low hl _) (by omega)) ((((hW.setCell (p := ⟨w.heap.size, 0, none⟩) (Nat.le_refl _) _).setCell (p := ⟨w.heap.size, 1, none⟩) (Nat.le_refl _) _).setCell (p := ⟨w.heap.size, 2, none⟩) (Nat.le_refl _) _).setCell (p := ⟨w.heap.size, 3, none⟩) (Nat.le_refl _) _))
set_option maxRecDepth 20000 in
set_option maxHeartbeats 4000000 in
theorem spec_DrawRunHalved (w : World) (Ac : Option Addr) (nc cc : Nat) (lc : List Int) (h : RdB w Ac nc cc lc) : Calls Try.prog 60 #[.slice Ac nc cc] w (RunP w) := by
  have hR := Blk.new w 26 #[.int .i64 0, .int .i64 0, .slice none 0 0, .slice none 0 0] (g := w.heap.size)
  have hs0 : (w.alloc (.cells #[.int .i64 0, .int .i64 0, .slice none 0 0, .slice none 0 0] 26)).heap.size = w.heap.size + 1 := by simp
  have hC := Cur.new (w.alloc (.cells #[.int .i64 0, .int .i64 0, .slice none 0 0, .slice none 0 0] 26)) (h.keep ((Bl.refl w).alloc _)) (g := w.heap.size + 1)
  replace hR := hR.alloc (.cells #[.slice Ac nc cc, .int .i64 0, .int .u64 0] 71)
  have hW := ((Bl.refl w).alloc (.cells #[.int .i64 0, .int .i64 0, .slice none 0 0, .slice none 0 0] 26)).alloc (.cells #[.slice Ac nc cc, .int .i64 0, .int .u64 0] 71)
  have hs1 : ((w.alloc (.cells #[.int .i64 0, .int .i64 0, .slice none 0 0, .slice none 0 0] 26)).alloc (.cells #[.slice Ac nc cc, .int .i64 0, .int .u64 0] 71)).heap.size = w.heap.size + 2 := by simp
  clear h
  go_enter Try.func60, Try.ntmps60
  go_wp2_with fail
  refine (cur_anyCircuit _ _ _ hC (by omega)).mono ?_
  rintro e w2 ⟨a, b, A, n, c, gl, B, m, d, ol, rfl, ha, hb, hn, hm, hO, hC2, hG⟩
  rw [hs1] at hO
  replace hR := (hR.grown hG (by intro e; injection e with e; omega)).alloc (.cells #[.int .i64 a, .int .i64 b, .slice A n c, .slice B m d] 26)
  have hs2 : w.heap.size + 2 ≤ w2.heap.size := by have := hG.size; omega
  replace hW := (hW.grown hG (by intro k hk; injection hk with hk; omega)).alloc (.cells #[.int .i64 a, .int .i64 b, .slice A n c, .slice B m d] 26)
  have hX := Blk.new w2 26 #[.int .i64 a, .int .i64 b, .slice A n c, .slice B m d] (g := w2.heap.size)
  replace hO := hO.keep ((Bl.refl w2).alloc (.cells #[.int .i64 a, .int .i64 b, .slice A n c, .slice B m d] 26))
  clear hC hG hs0 hs1
  have hC := hC2.keep ((Bl.refl w2).alloc (.cells #[.int .i64 a, .int .i64 b, .slice A n c, .slice B m d] 26))
  clear hC2
  have hsz : (w2.alloc (.cells #[.int .i64 a, .int .i64 b, .slice A n c, .slice B m d] 26)).heap.size = w2.heap.size + 1 := by simp
  have hX_l := hX.lt; have hX_f := hX.frozen; have hX_0 := hX.cell 0 _ rfl; have hX_1 := hX.cell 1 _ rfl; have hX_2 := hX.cell 2 _ rfl; have hX_3 := hX.cell 3 _ rfl
  go_wp2_with fail
  (try clear hX_l hX_f hX_0 hX_1 hX_2 hX_3)
  refine (cur_inputs _ (w.heap.size + 1) _ hC (by omega) a b A B n c m d).mono ?_
  rintro e w4 ⟨A1, n1, c1, l1, A2, n2, c2, l2, rfl, hn1, hn2, o1, o2, hC4, hG4⟩
  rw [hsz] at o1 o2
  replace hR := hR.grown hG4 (by intro e; injection e with e; omega)
  replace hX := hX.grown hG4 (by intro e; injection e with e; omega)
  replace hO := hO.cur hG4 (by omega)
  replace hW := hW.grown hG4 (by intro k hk; injection hk with hk; omega)
  clear hC hG4 hsz
  have hC := hC4
  clear hC4
  go_wp2_with fail
  generalize w2.heap.size = x at hX hs2 o1 o2 ⊢
  obtain ⟨g, hg⟩ : ∃ g, w.heap.size + 1 = g := ⟨_, rfl⟩
  rw [hg] at hC ⊢
  have hgb : g < w.heap.size + 2 := by omega
  have hgw : g < x + 1 := by omega
  refine region_F (fun _ => True) (fun w' => w'.cell? ⟨x, 0, none⟩ = some (.int .i64 a) ∧ w'.cell? ⟨x, 1, none⟩ = some (.int .i64 b) ∧ w'.cell? ⟨x, 2, none⟩ = some (.slice A n c) ∧ w'.cell? ⟨x, 3, none⟩ = some (.slice B m d)) 10 (by kernel_rfl) ?_ (fun hHeld => ?_)
  · (try dsimp only); have q := hX; exact ⟨trivial, q.cell 0 _ rfl, q.cell 1 _ rfl, q.cell 2 _ rfl, q.cell 3 _ rfl⟩
  refine f_takeC (i := 0) (d := 21) (v := ?_) [0] rfl rfl (by kernel_rfl) (by kernel_rfl) (by kernel_rfl) (by kernel_rfl) (by kernel_rfl) (by kernel_rfl) (fun _ _ _ h => h) (by decide) (Or.inl ⟨by rfl, ?_⟩) hHeld ?_
  rotate_left
  · (intro w hSw; (try dsimp only at hSw); go_simp; (try with_reducible rfl))
  simp only [List.set_cons_zero, List.set_cons_succ]
  refine f_takeC (i := 1) (d := 22) (v := ?_) [7, 1] rfl rfl (by kernel_rfl) (by kernel_rfl) (by kernel_rfl) (by kernel_rfl) (by kernel_rfl) (by kernel_rfl) (fun _ _ _ h => h) (by decide) (Or.inl ⟨by rfl, ?_⟩) hHeld ?_
  rotate_left
  · (intro w hSw; (try dsimp only at hSw); go_simp; (try with_reducible rfl))
  simp only [List.set_cons_zero, List.set_cons_succ]
  refine f_takeC (i := 2) (d := 23) (v := ?_) [7, 6, 3, 2] rfl rfl (by kernel_rfl) (by kernel_rfl) (by kernel_rfl) (by kernel_rfl) (by kernel_rfl) (by kernel_rfl) (fun _ _ _ h => h) (by decide) (Or.inl ⟨by rfl, ?_⟩) hHeld ?_
  rotate_left
  · (intro w hSw; (try dsimp only at hSw); go_simp; (try with_reducible rfl))
  simp only [List.set_cons_zero, List.set_cons_succ]
  refine f_takeC (i := 4) (d := 25) (v := ?_) [7, 5, 4] rfl rfl (by kernel_rfl) (by kernel_rfl) (by kernel_rfl) (by kernel_rfl) (by kernel_rfl) (by kernel_rfl) (fun _ _ _ h => h) (by decide) (Or.inl ⟨by rfl, ?_⟩) hHeld ?_
  rotate_left
  · (intro w hSw; (try dsimp only at hSw); go_simp; (try with_reducible rfl))
  simp only [List.set_cons_zero, List.set_cons_succ]
  refine f_takeS (i := 8) (d := 29) (v := ?_) rfl rfl (by kernel_rfl) (by kernel_rfl) (by kernel_rfl) (by kernel_rfl) (fun _ _ _ h => h) (by decide) (Or.inl ⟨by rfl, ?_⟩) hHeld.1 (fun _ => hHeld.2) ?_
  rotate_left
  · (intro w hSw; (try dsimp only at hSw); go_simp; (try with_reducible rfl))
  simp only [List.set_cons_zero, List.set_cons_succ]
  refine f_takeS (i := 9) (d := 30) (v := ?_) rfl rfl (by kernel_rfl) (by kernel_rfl) (by kernel_rfl) (by kernel_rfl) (fun _ _ _ h => h) (by decide) (Or.inl ⟨by rfl, ?_⟩) hHeld.1 (fun _ => hHeld.2) ?_
  rotate_left
  · (intro w hSw; (try dsimp only at hSw); go_simp; (try with_reducible rfl))
  simp only [List.set_cons_zero, List.set_cons_succ]
  refine f_step (i := 3) (by kernel_rfl) rfl (fun K hK => ?_)
  go_simp
  go_at_call 76; refine (cur_pick _ g _ (hC.keep (Bl.refl _).drew) (by omega) 60000 (by omega)).mono ?_; rintro e v1 ⟨k1, rfl, k10, k11, hC1, hG1⟩; have hX1 := (hX.keep (Bl.refl _).drew).grown hG1 (by intro e; injection e with e; omega); have hR1 := (hR.keep (Bl.refl _).drew).grown hG1 (by intro e; injection e with e; omega); have hO1 := (hO.keep (Bl.refl _).drew).cur hG1 hgb; have o11 := (o1.keep (Bl.refl _).drew).grownC hG1 hgw; have o21 := (o2.keep (Bl.refl _).drew).grownC hG1 hgw
  go_wp2_with fail
  refine hK.out _ _ ?_ (fun hHeld => ?_)
  · (try dsimp only); have q := hX1; exact ⟨trivial, q.cell 0 _ rfl, q.cell 1 _ rfl, q.cell 2 _ rfl, q.cell 3 _ rfl⟩
  clear hK K
  (try simp only [Act.put]); (try simp only [List.setIfInBounds_toArray]); (try simp only [List.set_cons_succ]); (try simp only [List.set_cons_zero])
  refine f_step (i := 5) (by kernel_rfl) rfl (fun K hK => ?_)
  go_simp
  go_at_call 76; refine (cur_pick _ g _ hC1 (by omega) 60000 (by omega)).mono ?_; rintro e v2 ⟨k2, rfl, k20, k21, hC2, hG2⟩; have hX2 := hX1.grown hG2 (by intro e; injection e with e; omega); have hR2 := hR1.grown hG2 (by intro e; injection e with e; omega); have hO2 := hO1.cur hG2 hgb; have o12 := o11.grownC hG2 hgw; have o22 := o21.grownC hG2 hgw
  go_wp2_with fail
  refine hK.out _ _ ?_ (fun hHeld => ?_)
  · (try dsimp only); have q := hX2; exact ⟨trivial, q.cell 0 _ rfl, q.cell 1 _ rfl, q.cell 2 _ rfl, q.cell 3 _ rfl⟩
  clear hK K
  (try simp only [Act.put]); (try simp only [List.setIfInBounds_toArray]); (try simp only [List.set_cons_succ]); (try simp only [List.set_cons_zero])
  refine f_step (i := 6) (by kernel_rfl) rfl (fun K hK => ?_)
  go_simp
  refine hK.out _ _ ?_ (fun hHeld => ?_)
  · (try dsimp only); have q := hX2.alloc (.cells #[.int .i64 k1, .int .i64 k2, .int .i64 0, .int .i64 (-1)] 3); exact ⟨trivial, q.cell 0 _ rfl, q.cell 1 _ rfl, q.cell 2 _ rfl, q.cell 3 _ rfl⟩
  clear hK K
  (try simp only [Act.put]); (try simp only [List.setIfInBounds_toArray]); (try simp only [List.set_cons_succ]); (try simp only [List.set_cons_zero])
  refine f_step (i := 7) (by kernel_rfl) rfl (fun K hK => ?_)
  go_simp
  go_at_call 77; refine (cur_among_v v2 g _ hC2 (by omega) #[.int .i64 k1, .int .i64 k2, .int .i64 0, .int .i64 (-1)] 3 rfl 4 rfl (by simp) rfl).mono ?_; rintro e v3 ⟨key, rfl, hkey, hC3, hG3⟩; have hX3 := hX2.grown hG3 (by intro e; injection e with e; omega); have hR3 := hR2.grown hG3 (by intro e; injection e with e; omega); have hO3 := hO2.cur hG3 hgb; have o13 := o12.grownC hG3 hgw; have o23 := o22.grownC hG3 hgw; have hkb : -1 ≤ key ∧ key ≤ 60000 := (by simp at hkey; omega); clear hkey; have hR3_l := hR3.lt; have hR3_f := hR3.frozen; have hR3_0 := hR3.cell 0 _ rfl; have hR3_1 := hR3.cell 1 _ rfl; have hR3_2 := hR3.cell 2 _ rfl; have hR3_3 := hR3.cell 3 _ rfl
  go_wp2_with fail
  refine hK.out _ _ ?_ (fun hHeld => ?_)
  · (try dsimp only); have q := hX3; exact ⟨trivial, q.cell 0 _ rfl, q.cell 1 _ rfl, q.cell 2 _ rfl, q.cell 3 _ rfl⟩
  clear hK K
  (try simp only [Act.put]); (try simp only [List.setIfInBounds_toArray]); (try simp only [List.set_cons_succ]); (try simp only [List.set_cons_zero])
  refine f_last (i := 10) (by kernel_rfl) rfl (by simp) (fun K hK => ?_)
  go_simp
  refine hK.out _ _ ?_ (fun hHeld => ?_)
  · exact trivial
  clear hK K
  (try simp only [Act.put]); (try simp only [List.setIfInBounds_toArray]); (try simp only [List.set_cons_succ]); (try simp only [List.set_cons_zero])
  refine f_takeS (i := 11) (d := 3) (v := ?_) rfl rfl (by kernel_rfl) (by kernel_rfl) (by kernel_rfl) (by kernel_rfl) (fun _ _ _ h => h) (by decide) (Or.inl ⟨by rfl, ?_⟩) hHeld (fun h => by simp at h) ?_
  rotate_left
  · (intro w hSw; (try dsimp only at hSw); go_simp; (try with_reducible rfl))
  simp only [List.set_cons_zero, List.set_cons_succ]
  refine f_takeS (i := 12) (d := 4) (v := ?_) rfl rfl (by kernel_rfl) (by kernel_rfl) (by kernel_rfl) (by kernel_rfl) (fun _ _ _ h => h) (by decide) (Or.inl ⟨by rfl, ?_⟩) hHeld (fun h => by simp at h) ?_
  rotate_left
  · (intro w hSw; (try dsimp only at hSw); go_simp; (try with_reducible rfl))
  simp only [List.set_cons_zero, List.set_cons_succ]
  refine f_takeS (i := 13) (d := 5) (v := ?_) rfl rfl (by kernel_rfl) (by kernel_rfl) (by kernel_rfl) (by kernel_rfl) (fun _ _ _ h => h) (by decide) (Or.inl ⟨by rfl, ?_⟩) hHeld (fun h => by simp at h) ?_
  rotate_left
  · (intro w hSw; (try dsimp only at hSw); go_simp; (try with_reducible rfl))
  simp only [List.set_cons_zero, List.set_cons_succ]
  refine f_done (by kernel_rfl) ?_ _
  have hl : w.heap.size < w.heap.size + 2 := by omega
  have hl1 : w.heap.size < x + 1 := by omega
  have hWf := ((hW.drew.grown hG1 (by intro k hk; injection hk with hk; omega)).grown hG2 (by intro k hk; injection hk with hk; omega)).grown hG3 (by intro k hk; injection hk with hk; omega)
  go_wp2_with fail
  refine bodyPost_ret (v := .tuple #[.agg #[.int .i64 a, .int .i64 b, .slice A n c, .slice B m d], .int .i64 key, .slice A1 n1 c1, .slice A2 n2 c2]) (by simp only [results, Try.results60]; go_simp) rfl (runP ⟨ha, hb, hn, hm⟩ (OwnC.mono ((((hO3.low hl _).low hl _).low hl _).low hl _) (by omega)) ((((hWf.setCell (p := ⟨w.heap.size, 0, none⟩) (Nat.le_refl _) _).setCell (p := ⟨w.heap.size, 1, none⟩) (Nat.le_refl _) _).setCell (p := ⟨w.heap.size, 2, none⟩) (Nat.le_refl _) _).setCell (p := ⟨w.heap.size, 3, none⟩) (Nat.le_refl _) _) hkb hn1 hn2 (OwnI.mono ((((o13.low hl1 _).low hl1 _).low hl1 _).low hl1 _) (by omega)) (OwnI.mono ((((o23.low hl1 _).low hl1 _).low hl1 _).low hl1 _) (by omega)))
set_option maxHeartbeats 2000000 in
theorem spec_DrawShareInputs (w : World) (Ac : Option Addr) (nc cc : Nat) (lc : List Int) (h : RdB w Ac nc cc lc) : Calls Try.prog 13 #[.slice Ac nc cc] w (RunP w) := by
  have hR := Blk.new w 26 #[.int .i64 0, .int .i64 0, .slice none 0 0, .slice none 0 0] (g := w.heap.size)
  have hs0 : (w.alloc (.cells #[.int .i64 0, .int .i64 0, .slice none 0 0, .slice none 0 0] 26)).heap.size = w.heap.size + 1 := by simp
  have hW := ((Bl.refl w).alloc (.cells #[.int .i64 0, .int .i64 0, .slice none 0 0, .slice none 0 0] 26))
  have h0 := h.keep hW
  clear h
  go_enter Try.func13, Try.ntmps13
  go_wp2_with fail
  refine (spec_DrawRunHalved _ Ac nc cc lc h0).mono ?_
  rintro e w2 ⟨a, b, A, n, c, gl, B, m, d, ol, key, A1, n1, c1, l1, A2, n2, c2, l2, rfl, hbd, hO, hb2, hkb, hn1, hn2, o1, o2⟩
  rw [hs0] at hO o1 o2
  replace hR := hR.keep hb2
  replace hW := hW.call hb2
  have hl : w.heap.size < w.heap.size + 1 := by omega
  clear h0 hb2 hs0
  have hR_l := hR.lt; have hR_f := hR.frozen; have hR_0 := hR.cell 0 _ rfl; have hR_1 := hR.cell 1 _ rfl; have hR_2 := hR.cell 2 _ rfl; have hR_3 := hR.cell 3 _ rfl
  go_wp2_with fail
  refine bodyPost_ret (v := .tuple #[.agg #[.int .i64 a, .int .i64 b, .slice A n c, .slice B m d], .int .i64 key, .slice A1 n1 c1, .slice A2 n2 c2]) (by simp only [results, Try.results13]; go_simp) rfl (runP hbd (OwnC.mono ((((hO.low hl _).low hl _).low hl _).low hl _) (by omega)) ((((hW.setCell (p := ⟨w.heap.size, 0, none⟩) (Nat.le_refl _) _).setCell (p := ⟨w.heap.size, 1, none⟩) (Nat.le_refl _) _).setCell (p := ⟨w.heap.size, 2, none⟩) (Nat.le_refl _) _).setCell (p := ⟨w.heap.size, 3, none⟩) (Nat.le_refl _) _) hkb hn1 hn2 (OwnI.mono ((((o1.low hl _).low hl _).low hl _).low hl _) (by omega)) (OwnI.mono ((((o2.low hl _).low hl _).low hl _).low hl _) (by omega)))
end Go.Proofs.Ytlmlffiajgofeaa
