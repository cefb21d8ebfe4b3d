/- Contract of a drawn circuit, changed at one place now and then.
   Conditions: the cursor's. -/
import Derived.Test.YtlmlffiajgofeaaFrb
import Derived.Test.YtlmlffiajgofeaaMak
namespace Go.Proofs.Ytlmlffiajgofeaa
open Go.RowKit
set_option linter.unusedVariables false
/-- A circuit in block x; its rows lie in blocks of their own from 'base' on, but not at x. -/
structure Cx (w : World) (x base : Nat) (a b : Int) (A : Option Addr) (n c : Nat) (gl : List Gt) (B : Option Addr) (m d : Nat) (ol : List Int) : Prop where
  blk : Blk w x 26 #[.int .i64 a, .int .i64 b, .slice A n c, .slice B m d]
  gs : OwnG base w A n c gl
  os : OwnI base w B m d ol
  lo : base ≤ x
  na : ∀ k, A.map (·.block) = some k → k ≠ x
  nb : ∀ k, B.map (·.block) = some k → k ≠ x
  ap : ∀ k, A.map (·.block) = some k → B.map (·.block) ≠ some k
section
variable {w w' : World} {x base : Nat} {a b : Int} {A : Option Addr} {n c : Nat} {gl : List Gt} {B : Option Addr} {m d : Nat} {ol : List Int}
theorem Cx.keep (h : Cx w x base a b A n c gl B m d ol) (hb : Bl w w') : Cx w' x base a b A n c gl B m d ol := ⟨h.blk.keep hb, h.gs.keep hb, h.os.keep hb, h.lo, h.na, h.nb, h.ap⟩
theorem Cx.cur {g : Nat} (h : Cx w x base a b A n c gl B m d ol) (hg : w.grownBy w' (some g)) (hx : g < base) : Cx w' x base a b A n c gl B m d ol :=
  ⟨h.blk.grown hg (by intro e; injection e with e; have := h.lo; omega), h.gs.grown hg (by intro q hq e; injection e with e; have := (h.gs.blk q.block (by rw [hq]; rfl)).1; omega),
    h.os.grown hg (by intro q hq e; injection e with e; have := (h.os.blk q.block (by rw [hq]; rfl)).1; omega), h.lo, h.na, h.nb, h.ap⟩
theorem Cx.setG (h : Cx w x base a b A n c gl B m d ol) (i : Nat) (u : Value) : OwnG base (w.setCell ⟨x, i, none⟩ u) A n c gl ∧ OwnI base (w.setCell ⟨x, i, none⟩ u) B m d ol :=
  ⟨h.gs.grown (grownBy_setCell w x i u) (by intro q hq e; injection e with e; exact h.na q.block (by rw [hq]; rfl) e), h.os.grown (grownBy_setCell w x i u) (by intro q hq e; injection e with e; exact h.nb q.block (by rw [hq]; rfl) e)⟩
theorem Cx.set0 (h : Cx w x base a b A n c gl B m d ol) (v : Int) : Cx (w.setCell ⟨x, 0, none⟩ (.int .i64 v)) x base v b A n c gl B m d ol := ⟨h.blk.set_ 0 _, (h.setG 0 _).1, (h.setG 0 _).2, h.lo, h.na, h.nb, h.ap⟩
theorem Cx.set1 (h : Cx w x base a b A n c gl B m d ol) (v : Int) : Cx (w.setCell ⟨x, 1, none⟩ (.int .i64 v)) x base a v A n c gl B m d ol := ⟨h.blk.set_ 1 _, (h.setG 1 _).1, (h.setG 1 _).2, h.lo, h.na, h.nb, h.ap⟩
/-- One more out. -/
theorem Cx.out (h : Cx w x base a b A n c gl B m d ol) {o : Obj} {B' : Option Addr} {d' : Nat} {ol' : List Int} (ho : OwnI base w' B' (m + 1) d' ol') (hg : (w.alloc o).grownBy w' (B.map (·.block)))
    (hat : B'.map (·.block) = B.map (·.block) ∨ B'.map (·.block) = some (w.alloc o).heap.size) : Cx (w'.setCell ⟨x, 3, none⟩ (.slice B' (m + 1) d')) x base a b A n c gl B' (m + 1) d' ol' := by
  have hxl := h.blk.lt
  have hb' := (h.blk.alloc o).grown hg (by intro e; exact h.nb x e.symm rfl)
  have hg' := (h.gs.keep ((Bl.refl w).alloc o)).grown hg (by intro q hq e; exact h.ap q.block (by rw [hq]; rfl) e.symm)
  have hn' : ∀ k, B'.map (·.block) = some k → k ≠ x := by
    intro k hk e
    rcases hat with e1 | e1
    · exact h.nb k (e1.symm.trans hk) e
    · have e2 := e1.symm.trans hk
      injection e2 with e2
      simp at e2
      omega
  refine ⟨hb'.set_ 3 _, hg'.grown (grownBy_setCell w' x 3 _) (by intro q hq e; injection e with e; exact h.na q.block (by rw [hq]; rfl) e), ho.grown (grownBy_setCell w' x 3 _) (by intro q hq e; injection e with e; exact hn' q.block (by rw [hq]; rfl) e), h.lo, h.na, hn', fun k hk hk2 => ?_⟩
  rcases hat with e1 | e1
  · exact h.ap k hk (e1.symm.trans hk2)
  · have e2 := e1.symm.trans hk2
    injection e2 with e2
    have := (h.gs.blk k hk).2
    simp at e2
    omega
/-- One more gate. -/
theorem Cx.gate (h : Cx w x base a b A n c gl B m d ol) {o : Obj} {A' : Option Addr} {c' : Nat} {gl' : List Gt} (ho : OwnG base w' A' (n + 1) c' gl') (hg : (w.alloc o).grownBy w' (A.map (·.block)))
    (hat : A'.map (·.block) = A.map (·.block) ∨ A'.map (·.block) = some (w.alloc o).heap.size) : Cx (w'.setCell ⟨x, 2, none⟩ (.slice A' (n + 1) c')) x base a b A' (n + 1) c' gl' B m d ol := by
  have hxl := h.blk.lt
  have hb' := (h.blk.alloc o).grown hg (by intro e; exact h.na x e.symm rfl)
  have hg' := (h.os.keep ((Bl.refl w).alloc o)).grown hg (by intro q hq e; exact h.ap q.block e.symm (by rw [hq]; rfl))
  have hn' : ∀ k, A'.map (·.block) = some k → k ≠ x := by
    intro k hk e
    rcases hat with e1 | e1
    · exact h.na k (e1.symm.trans hk) e
    · have e2 := e1.symm.trans hk
      injection e2 with e2
      simp at e2
      omega
  refine ⟨hb'.set_ 2 _, ho.grown (grownBy_setCell w' x 2 _) (by intro q hq e; injection e with e; exact hn' q.block (by rw [hq]; rfl) e), hg'.grown (grownBy_setCell w' x 2 _) (by intro q hq e; injection e with e; exact h.nb q.block (by rw [hq]; rfl) e), h.lo, hn', h.nb, fun k hk hk2 => ?_⟩
  rcases hat with e1 | e1
  · exact h.ap k (e1.symm.trans hk) hk2
  · have e2 := e1.symm.trans hk
    injection e2 with e2
    have := (h.os.blk k hk2).2
    simp at e2
    omega
/-- One cell of a gate is written. -/
theorem Cx.cell {ga : Nat} (h : Cx w x base a b (some ⟨ga, 0, none⟩) n c gl B m d ol) {k : Nat} (hk : k < n) (j : Nat) (hj : j < 2) (v : Int) : ∃ gl', Cx (w.setCell ⟨ga, k * 3 + j, none⟩ (.int .i64 v)) x base a b (some ⟨ga, 0, none⟩) n c gl' B m d ol := by
  have hgx : ga ≠ x := h.na ga rfl
  obtain ⟨K, p, q, hx, _, _, _, _⟩ := h.gs.at_ hk
  have hkl : k < gl.length := by rw [h.gs.2]; exact hk
  have he : ∃ y : Gt, (gts gl).set (k * 3 + j) (.int .i64 v) = gts (gl.set k y) := by
    rcases (by omega : j = 0 ∨ j = 1) with rfl | rfl
    · refine ⟨⟨v, p, q⟩, ?_⟩
      unfold gts
      rw [← putAt_encs Gt.enc_len gl k ⟨v, p, q⟩ hkl]
      apply List.ext_getElem?
      intro i
      have e1 : (encs Gt.enc gl)[k * 3 + 1]? = some (.int .i64 p) := by rw [encs_get Gt.enc_len gl k 1 _ hx (by omega)]; rfl
      have e2 : (encs Gt.enc gl)[k * 3 + 2]? = some (.int .i64 q) := by rw [encs_get Gt.enc_len gl k 2 _ hx (by omega)]; rfl
      simp only [Gt.enc, putAt, List.getElem?_set, List.length_set]
      (repeat' split) <;> simp_all <;> omega
    · refine ⟨⟨K, v, q⟩, ?_⟩
      unfold gts
      rw [← putAt_encs Gt.enc_len gl k ⟨K, v, q⟩ hkl]
      apply List.ext_getElem?
      intro i
      have e0 : (encs Gt.enc gl)[k * 3 + 0]? = some (.int .i64 K) := by rw [encs_get Gt.enc_len gl k 0 _ hx (by omega)]; rfl
      have e2 : (encs Gt.enc gl)[k * 3 + 2]? = some (.int .i64 q) := by rw [encs_get Gt.enc_len gl k 2 _ hx (by omega)]; rfl
      simp only [Gt.enc, putAt, List.getElem?_set, List.length_set]
      (repeat' split) <;> simp_all <;> omega
  obtain ⟨y, he⟩ := he
  refine ⟨gl.set k y, h.blk.far (by exact fun e => hgx e.symm) _, ⟨?_, by simpa using h.gs.2⟩, h.os.grown (grownBy_setCell w ga _ _) (by intro q hq e; injection e with e; exact h.ap ga rfl (by rw [hq, ← e]; rfl)), h.lo, h.na, h.nb, h.ap⟩
  rw [← he]
  exact h.gs.1.set_ (k * 3 + j) _ (by omega)
end
/-- What a drawn circuit is that may be changed. -/
def DrA (w w' : World) (g k : Nat) (a b : Int) (A : Option Addr) (n c : Nat) (gl : List Gt) (B : Option Addr) (m d : Nat) (ol : List Int) : Prop :=
  (-1 ≤ a ∧ a ≤ 30) ∧ (-1 ≤ b ∧ b ≤ 30) ∧ n ≤ 301 ∧ m ≤ 41 ∧ OwnC w.heap.size w' A n c gl B m d ol ∧ Cur w' g k ∧ w.grownBy w' (some g)
def lenOf : Option Value → Nat
  | some (.slice _ n _) => n
  | _ => 0
theorem three_bd {q : Int} {W : Int} (hW : -1 ≤ W ∧ W ≤ 30) (h : Value.int .i64 q ∈ #[Value.int .i64 (-1), .int .i64 20, .int .i64 21].toList) : -1 ≤ q ∧ q ≤ 30 := by
  simp at h
  omega
set_option maxRecDepth 20000 in
set_option maxHeartbeats 4000000 in
theorem cur_anyCircuit (w : World) (g k : Nat) (h : Cur w g k) (hk : k < 700000000) :
    Calls Try.prog 66 #[.pointer (some ⟨g, 0, none⟩)] w fun e w' => ∃ a b A n c gl B m d ol, e = .returned (.agg #[.int .i64 a, .int .i64 b, .slice A n c, .slice B m d]) ∧ DrA w w' g (k + 300) a b A n c gl B m d ol := by
  have hgw := h.lt
  have hC := h.keep ((Bl.refl w).alloc (.cells #[.int .i64 0, .int .i64 0, .slice none 0 0, .slice none 0 0] 26))
  have hR := Blk.new w 26 #[.int .i64 0, .int .i64 0, .slice none 0 0, .slice none 0 0] (g := w.heap.size)
  have hG := World.grownBy_alloc w (.cells #[.int .i64 0, .int .i64 0, .slice none 0 0, .slice none 0 0] 26) (some g)
  clear h
  go_enter Try.func66, Try.ntmps66
  go_wp2_with fail
  refine (cur_circuit _ g _ hC (by omega)).mono ?_
  rintro e w1 ⟨p1, p2, A, n, c, gl, B, m, d, ol, rfl, ⟨p10, p11⟩, ⟨p20, p21⟩, hn, hm, hO, hC1, hG1⟩
  clear hC
  replace hR := hR.grown hG1 (by intro e; injection e with e; omega); replace hG := Lib.grownBy_trans hG hG1
  have hsz : (w.alloc (.cells #[.int .i64 0, .int .i64 0, .slice none 0 0, .slice none 0 0] 26)).heap.size = w.heap.size + 1 := by simp
  rw [hsz] at hO
  have hl : w.heap.size < w.heap.size + 1 := Nat.lt_succ_self _
  have hgb : g < w.heap.size + 1 := by omega
  have hxs : w.heap.size + 1 ≤ w1.heap.size := by have := hG1.size; omega
  have hM : Cx (w1.alloc (.cells #[.int .i64 p1, .int .i64 p2, .slice A n c, .slice B m d] 26)) w1.heap.size (w.heap.size + 1) p1 p2 A n c gl B m d ol :=
    ⟨Blk.new w1 _ _, hO.1.keep ((Bl.refl w1).alloc _), hO.2.1.keep ((Bl.refl w1).alloc _), hxs, fun k hk e => by have := (hO.1.blk k hk).2; omega, fun k hk e => by have := (hO.2.1.blk k hk).2; omega,
      fun k hk hk2 => by
        cases hA : A with
        | none => rw [hA] at hk; cases hk
        | some a => rw [hA] at hk; injection hk with hk; exact hO.2.2 a hA (by rw [hk2, ← hk])⟩
  have hC := hC1.keep ((Bl.refl w1).alloc (.cells #[.int .i64 p1, .int .i64 p2, .slice A n c, .slice B m d] 26))
  replace hR := hR.alloc (.cells #[.int .i64 p1, .int .i64 p2, .slice A n c, .slice B m d] 26)
  replace hG := Lib.grownBy_below hG ((Bl.refl w1).alloc (.cells #[.int .i64 p1, .int .i64 p2, .slice A n c, .slice B m d] 26))
  clear hC1 hO hG1 hsz
  go_wp2_with fail
  generalize w1.alloc (.cells #[.int .i64 p1, .int .i64 p2, .slice A n c, .slice B m d] 26) = w3 at hM hC hR hG ⊢
  generalize w1.heap.size = x at hM hxs ⊢
  go_wp2_with fail
  refine (cur_pick _ g _ hC (by omega) 30 (by omega)).mono ?_
  rintro e w5 ⟨s, rfl, s0, s1, hC5, hG5⟩
  clear hC; have hC := hC5; clear hC5
  replace hM := hM.cur hG5 hgb; replace hR := hR.grown hG5 (by intro e; injection e with e; omega); replace hG := Lib.grownBy_trans hG hG5
  clear hG5
  rcases (by omega : s = 0 ∨ s = 1 ∨ s = 2 ∨ s = 3 ∨ s = 4 ∨ s = 5 ∨ s = 6 ∨ 7 ≤ s) with rfl | rfl | rfl | rfl | rfl | rfl | rfl | hs
  · have hB := hM.blk
    have hB_l := hB.lt; have hB_f := hB.frozen; have hB_0 := hB.cell 0 _ rfl; have hB_1 := hB.cell 1 _ rfl; have hB_2 := hB.cell 2 _ rfl; have hB_3 := hB.cell 3 _ rfl
    go_wp2_with fail
    (try clear hB_l hB_f hB_0 hB_1 hB_2 hB_3)
    clear hB
    refine (cur_among_v _ g _ hC (by omega) #[.int .i64 (-1), .int .i64 20, .int .i64 21] 3 rfl 3 rfl (by decide) rfl).mono ?_
    rintro e w6 ⟨q, rfl, hq, hC6, hG6⟩
    have hqb := three_bd (W := 0) (by omega) hq
    clear hq hC; have hC := hC6; clear hC6
    replace hM := hM.cur hG6 hgb; replace hR := hR.grown hG6 (by intro e; injection e with e; omega); replace hG := Lib.grownBy_trans hG hG6
    clear hG6
    have hB := hM.blk
    have hB_l := hB.lt; have hB_f := hB.frozen; have hB_0 := hB.cell 0 _ rfl; have hB_1 := hB.cell 1 _ rfl; have hB_2 := hB.cell 2 _ rfl; have hB_3 := hB.cell 3 _ rfl
    have hR_l := hR.lt; have hR_f := hR.frozen; have hR_0 := hR.cell 0 _ rfl; have hR_1 := hR.cell 1 _ rfl; have hR_2 := hR.cell 2 _ rfl; have hR_3 := hR.cell 3 _ rfl
    have hMx := hM.set0 q
    have hCx := hC.farSet x 0 (.int .i64 q) (by omega)
    have hRx := hR.far (p := ⟨x, 0, none⟩) (by show w.heap.size ≠ x; omega) (.int .i64 q)
    have hGx := grown_far hG x 0 (.int .i64 q) (by omega)
    go_wp2_with fail
    clear hM hC hG
    have hM := hMx; have hC := hCx; have hG := hGx
    first | (refine bodyPost_ret (v := .agg #[.int .i64 (q), .int .i64 (p2), .slice A (n) c, .slice B (m) d]) (by simp only [results, Try.results66]; go_simp) rfl ⟨_, _, _, _, _, gl, _, _, _, ol, rfl, ⟨by omega, by omega⟩, ⟨by omega, by omega⟩, by omega, by omega, ?_, ?_, ?_⟩) | (refine bodyPost_ret (v := .agg #[.int .i64 (q), .int .i64 (p2), .slice A (n) c, .slice B (m) d]) (by simp only [results, Try.results66]; go_simp) rfl ⟨_, _, _, _, _, gl, _, _, _, rfl, ol, ⟨by omega, by omega⟩, ⟨by omega, by omega⟩, by omega, by omega, ?_, ?_, ?_⟩)
    · exact ⟨OwnG.mono ((((hM.gs.low hl _).low hl _).low hl _).low hl _) (by omega), OwnI.mono ((((hM.os.low hl _).low hl _).low hl _).low hl _) (by omega), fun a ha e => hM.ap a.block (by rw [ha]; rfl) e.symm⟩
    · exact ((((hC.farSet _ _ _ hgw).farSet _ _ _ hgw).farSet _ _ _ hgw).farSet _ _ _ hgw).mono (by omega)
    · exact grown_far (grown_far (grown_far (grown_far hG _ _ _ (Nat.le_refl _)) _ _ _ (Nat.le_refl _)) _ _ _ (Nat.le_refl _)) _ _ _ (Nat.le_refl _)
  · have hB := hM.blk
    have hB_l := hB.lt; have hB_f := hB.frozen; have hB_0 := hB.cell 0 _ rfl; have hB_1 := hB.cell 1 _ rfl; have hB_2 := hB.cell 2 _ rfl; have hB_3 := hB.cell 3 _ rfl
    go_wp2_with fail
    (try clear hB_l hB_f hB_0 hB_1 hB_2 hB_3)
    clear hB
    refine (cur_among_v _ g _ hC (by omega) #[.int .i64 (-1), .int .i64 20, .int .i64 21] 3 rfl 3 rfl (by decide) rfl).mono ?_
    rintro e w6 ⟨q, rfl, hq, hC6, hG6⟩
    have hqb := three_bd (W := 0) (by omega) hq
    clear hq hC; have hC := hC6; clear hC6
    replace hM := hM.cur hG6 hgb; replace hR := hR.grown hG6 (by intro e; injection e with e; omega); replace hG := Lib.grownBy_trans hG hG6
    clear hG6
    have hB := hM.blk
    have hB_l := hB.lt; have hB_f := hB.frozen; have hB_0 := hB.cell 0 _ rfl; have hB_1 := hB.cell 1 _ rfl; have hB_2 := hB.cell 2 _ rfl; have hB_3 := hB.cell 3 _ rfl
    have hR_l := hR.lt; have hR_f := hR.frozen; have hR_0 := hR.cell 0 _ rfl; have hR_1 := hR.cell 1 _ rfl; have hR_2 := hR.cell 2 _ rfl; have hR_3 := hR.cell 3 _ rfl
    have hMx := hM.set1 q
    have hCx := hC.farSet x 1 (.int .i64 q) (by omega)
    have hRx := hR.far (p := ⟨x, 1, none⟩) (by show w.heap.size ≠ x; omega) (.int .i64 q)
    have hGx := grown_far hG x 1 (.int .i64 q) (by omega)
    go_wp2_with fail
    clear hM hC hG
    have hM := hMx; have hC := hCx; have hG := hGx
    first | (refine bodyPost_ret (v := .agg #[.int .i64 (p1), .int .i64 (q), .slice A (n) c, .slice B (m) d]) (by simp only [results, Try.results66]; go_simp) rfl ⟨_, _, _, _, _, gl, _, _, _, ol, rfl, ⟨by omega, by omega⟩, ⟨by omega, by omega⟩, by omega, by omega, ?_, ?_, ?_⟩) | (refine bodyPost_ret (v := .agg #[.int .i64 (p1), .int .i64 (q), .slice A (n) c, .slice B (m) d]) (by simp only [results, Try.results66]; go_simp) rfl ⟨_, _, _, _, _, gl, _, _, _, rfl, ol, ⟨by omega, by omega⟩, ⟨by omega, by omega⟩, by omega, by omega, ?_, ?_, ?_⟩)
    · exact ⟨OwnG.mono ((((hM.gs.low hl _).low hl _).low hl _).low hl _) (by omega), OwnI.mono ((((hM.os.low hl _).low hl _).low hl _).low hl _) (by omega), fun a ha e => hM.ap a.block (by rw [ha]; rfl) e.symm⟩
    · exact ((((hC.farSet _ _ _ hgw).farSet _ _ _ hgw).farSet _ _ _ hgw).farSet _ _ _ hgw).mono (by omega)
    · exact grown_far (grown_far (grown_far (grown_far hG _ _ _ (Nat.le_refl _)) _ _ _ (Nat.le_refl _)) _ _ _ (Nat.le_refl _)) _ _ _ (Nat.le_refl _)
  · have hB := hM.blk
    have hB_l := hB.lt; have hB_f := hB.frozen; have hB_0 := hB.cell 0 _ rfl; have hB_1 := hB.cell 1 _ rfl; have hB_2 := hB.cell 2 _ rfl; have hB_3 := hB.cell 3 _ rfl
    go_wp2_with fail
    refine region_F (fun _ => True) (fun w' => w'.cell? ⟨x, 0, none⟩ = some (.int .i64 p1) ∧ w'.cell? ⟨x, 1, none⟩ = some (.int .i64 p2) ∧ w'.cell? ⟨x, 2, none⟩ = some (.slice A n c) ∧ w'.cell? ⟨x, 3, none⟩ = some (.slice B m d)) 10 (by kernel_rfl) ?_ (fun hHeld => ?_)
    · (try dsimp only); have q := hM.blk; exact ⟨trivial, q.cell 0 _ rfl, q.cell 1 _ rfl, q.cell 2 _ rfl, q.cell 3 _ rfl⟩
    refine f_takeC (i := 0) (d := 27) (v := ?_) [0] rfl rfl (by kernel_rfl) (by kernel_rfl) (by kernel_rfl) (by kernel_rfl) (by kernel_rfl) (by kernel_rfl) (fun _ _ _ h => h) (by decide) (Or.inl ⟨by rfl, ?_⟩) hHeld ?_
    rotate_left
    · (intro w hSw; (try dsimp only at hSw); go_simp; (try with_reducible rfl))
    simp only [List.set_cons_zero, List.set_cons_succ]
    refine f_takeC (i := 1) (d := 28) (v := ?_) [1] rfl rfl (by kernel_rfl) (by kernel_rfl) (by kernel_rfl) (by kernel_rfl) (by kernel_rfl) (by kernel_rfl) (fun _ _ _ h => h) (by decide) (Or.inl ⟨by rfl, ?_⟩) hHeld ?_
    rotate_left
    · (intro w hSw; (try dsimp only at hSw); go_simp; (try with_reducible rfl))
    simp only [List.set_cons_zero, List.set_cons_succ]
    refine f_takeC (i := 2) (d := 29) (v := ?_) [2] rfl rfl (by kernel_rfl) (by kernel_rfl) (by kernel_rfl) (by kernel_rfl) (by kernel_rfl) (by kernel_rfl) (fun _ _ _ h => h) (by decide) (Or.inl ⟨by rfl, ?_⟩) hHeld ?_
    rotate_left
    · (intro w hSw; (try dsimp only at hSw); go_simp; (try with_reducible rfl))
    simp only [List.set_cons_zero, List.set_cons_succ]
    refine f_takeC (i := 3) (d := 30) (v := ?_) [3] rfl rfl (by kernel_rfl) (by kernel_rfl) (by kernel_rfl) (by kernel_rfl) (by kernel_rfl) (by kernel_rfl) (fun _ _ _ h => h) (by decide) (Or.inl ⟨by rfl, ?_⟩) hHeld ?_
    rotate_left
    · (intro w hSw; (try dsimp only at hSw); go_simp; (try with_reducible rfl))
    simp only [List.set_cons_zero, List.set_cons_succ]
    refine f_step (i := 4) (by kernel_rfl) rfl (fun K hK => ?_)
    go_simp
    go_at_call 104; refine (spec_ciWires p1 p2 A B n c m d _ (by omega) (by omega) (by omega) (by omega) (by omega)).mono ?_; rintro e v1 ⟨rfl, hb1⟩; have hM1 := hM.keep ((Bl.refl _).drew.call hb1); have hC1 := hC.keep ((Bl.refl _).drew.call hb1); have hR1 := hR.keep ((Bl.refl _).drew.call hb1); have hG1 := Lib.grownBy_below hG ((Bl.refl _).drew.call hb1); clear hb1
    go_wp2_with fail
    refine hK.out _ _ ?_ (fun hHeld => ?_)
    · (try dsimp only); have q := hM1.blk; exact ⟨trivial, q.cell 0 _ rfl, q.cell 1 _ rfl, q.cell 2 _ rfl, q.cell 3 _ rfl⟩
    clear hK K
    (try simp only [Act.put]); (try simp only [List.setIfInBounds_toArray]); (try simp only [List.set_cons_succ]); (try simp only [List.set_cons_zero])
    refine f_step (i := 5) (by kernel_rfl) rfl (fun K hK => ?_)
    go_simp
    refine hK.out _ _ ?_ (fun hHeld => ?_)
    · (try dsimp only); have q := hM1.blk.alloc (.cells #[.int .i64 (-1), .int .i64 (p1 + p2 + n)] 3); exact ⟨trivial, q.cell 0 _ rfl, q.cell 1 _ rfl, q.cell 2 _ rfl, q.cell 3 _ rfl⟩
    clear hK K
    (try simp only [Act.put]); (try simp only [List.setIfInBounds_toArray]); (try simp only [List.set_cons_succ]); (try simp only [List.set_cons_zero])
    refine f_step (i := 6) (by kernel_rfl) rfl (fun K hK => ?_)
    go_simp
    go_at_call 77; refine (cur_among_v v1 g _ hC1 (by omega) #[.int .i64 (-1), .int .i64 (p1 + p2 + n)] 3 rfl 2 rfl (by simp) rfl).mono ?_; rintro e v2 ⟨q, rfl, hq, hC2, hG2⟩; have hM2 := hM1.cur hG2 hgb; have hR2 := hR1.grown hG2 (by intro e; injection e with e; omega); have hG3 := Lib.grownBy_trans hG1 hG2; clear hq
    go_wp2_with fail
    refine hK.out _ _ ?_ (fun hHeld => ?_)
    · (try dsimp only); have q := hM2.blk; exact ⟨trivial, q.cell 0 _ rfl, q.cell 1 _ rfl, q.cell 2 _ rfl, q.cell 3 _ rfl⟩
    clear hK K
    (try simp only [Act.put]); (try simp only [List.setIfInBounds_toArray]); (try simp only [List.set_cons_succ]); (try simp only [List.set_cons_zero])
    refine f_step (i := 7) (by kernel_rfl) rfl (fun K hK => ?_)
    go_simp
    refine hK.out _ _ ?_ (fun hHeld => ?_)
    · (try dsimp only); have q := hM2.blk.alloc (.cells #[.int .i64 q] 3); exact ⟨trivial, q.cell 0 _ rfl, q.cell 1 _ rfl, q.cell 2 _ rfl, q.cell 3 _ rfl⟩
    clear hK K
    (try simp only [Act.put]); (try simp only [List.setIfInBounds_toArray]); (try simp only [List.set_cons_succ]); (try simp only [List.set_cons_zero])
    refine f_step (i := 8) (by kernel_rfl) rfl (fun K hK => ?_)
    refine ap_int_step rfl rfl rfl (hM2.os.alloc _) rfl (rd_new1 _ _ _) (by omega) (by have := hM2.blk.lt; simp; omega) ?_; intro B7 d7 v7 ho7 hg7 hat7
    have hB7 := (hM2.blk.alloc (.cells #[.int .i64 q] 3)).grown hg7 (by intro e; exact hM2.nb x e.symm rfl)
    have hB7_l := hB7.lt; have hB7_f := hB7.frozen; have hB7_0 := hB7.cell 0 _ rfl; have hB7_1 := hB7.cell 1 _ rfl; have hB7_2 := hB7.cell 2 _ rfl; have hB7_3 := hB7.cell 3 _ rfl
    refine hK.out _ _ ?_ (fun hHeld => ?_)
    · (try dsimp only); have q := hB7; exact ⟨trivial, q.cell 0 _ rfl, q.cell 1 _ rfl, q.cell 2 _ rfl, q.cell 3 _ rfl⟩
    clear hK K
    (try simp only [Act.put]); (try simp only [List.setIfInBounds_toArray]); (try simp only [List.set_cons_succ]); (try simp only [List.set_cons_zero])
    refine f_takeC (i := 9) (d := 36) (v := ?_) [9] rfl rfl (by kernel_rfl) (by kernel_rfl) (by kernel_rfl) (by kernel_rfl) (by kernel_rfl) (by kernel_rfl) (fun _ _ _ h => h) (by decide) (Or.inl ⟨by rfl, ?_⟩) hHeld ?_
    rotate_left
    · (intro w hSw; (try dsimp only at hSw); go_simp; (try with_reducible rfl))
    simp only [List.set_cons_zero, List.set_cons_succ]
    refine f_last (i := 10) (by kernel_rfl) rfl (by simp) (fun K hK => ?_)
    go_simp
    refine hK.out _ _ ?_ (fun hHeld => ?_)
    · exact trivial
    clear hK K
    (try simp only [Act.put]); (try simp only [List.setIfInBounds_toArray]); (try simp only [List.set_cons_succ]); (try simp only [List.set_cons_zero])
    refine f_done (by kernel_rfl) ?_ _
    (try clear hB7_l hB7_f hB7_0 hB7_1 hB7_2 hB7_3)
    (try clear hB_l hB_f hB_0 hB_1 hB_2 hB_3)
    have hMx := hM2.out (o := .cells #[.int .i64 q] 3) ho7 hg7 hat7
    have hCx := ((hC2.keep ((Bl.refl v2).alloc (.cells #[.int .i64 q] 3))).grownV hg7 (by intro q hq; have := (hM2.os.blk q hq).1; omega)).farSet x 3 (.slice B7 (m + 1) d7) (by omega)
    have hRx := ((hR2.alloc (.cells #[.int .i64 q] 3)).grown hg7 (by intro e; have := (hM2.os.blk _ e.symm).1; omega)).far (p := ⟨x, 3, none⟩) (by show w.heap.size ≠ x; omega) (.slice B7 (m + 1) d7)
    have hGx := grown_far (grown_overV (Lib.grownBy_below hG3 ((Bl.refl v2).alloc (.cells #[.int .i64 q] 3))) hg7 (by intro q hq; have := (hM2.os.blk q hq).1; omega)) x 3 (.slice B7 (m + 1) d7) (by omega)
    clear hM hC hR hG
    have hM := hMx; have hC := hCx; have hR := hRx; have hG := hGx
    clear hMx hCx hRx hGx
    have hB := hM.blk
    have hB_l := hB.lt; have hB_f := hB.frozen; have hB_0 := hB.cell 0 _ rfl; have hB_1 := hB.cell 1 _ rfl; have hB_2 := hB.cell 2 _ rfl; have hB_3 := hB.cell 3 _ rfl
    have hR_l := hR.lt; have hR_f := hR.frozen; have hR_0 := hR.cell 0 _ rfl; have hR_1 := hR.cell 1 _ rfl; have hR_2 := hR.cell 2 _ rfl; have hR_3 := hR.cell 3 _ rfl
    go_wp2_with fail
    first | (refine bodyPost_ret (v := .agg #[.int .i64 (p1), .int .i64 (p2), .slice A (n) c, .slice B7 (m + 1) d7]) (by simp only [results, Try.results66]; go_simp) rfl ⟨_, _, _, _, _, gl, _, _, _, (ol ++ [q]), rfl, ⟨by omega, by omega⟩, ⟨by omega, by omega⟩, by omega, by omega, ?_, ?_, ?_⟩) | (refine bodyPost_ret (v := .agg #[.int .i64 (p1), .int .i64 (p2), .slice A (n) c, .slice B7 (m + 1) d7]) (by simp only [results, Try.results66]; go_simp) rfl ⟨_, _, _, _, _, gl, _, _, _, rfl, (ol ++ [q]), ⟨by omega, by omega⟩, ⟨by omega, by omega⟩, by omega, by omega, ?_, ?_, ?_⟩)
    · exact ⟨OwnG.mono ((((hM.gs.low hl _).low hl _).low hl _).low hl _) (by omega), OwnI.mono ((((hM.os.low hl _).low hl _).low hl _).low hl _) (by omega), fun a ha e => hM.ap a.block (by rw [ha]; rfl) e.symm⟩
    · exact ((((hC.farSet _ _ _ hgw).farSet _ _ _ hgw).farSet _ _ _ hgw).farSet _ _ _ hgw).mono (by omega)
    · exact grown_far (grown_far (grown_far (grown_far hG _ _ _ (Nat.le_refl _)) _ _ _ (Nat.le_refl _)) _ _ _ (Nat.le_refl _)) _ _ _ (Nat.le_refl _)
  · rcases Nat.eq_zero_or_pos n with hz | hz
    · subst hz
      have hB := hM.blk
      have hB_l := hB.lt; have hB_f := hB.frozen; have hB_0 := hB.cell 0 _ rfl; have hB_1 := hB.cell 1 _ rfl; have hB_2 := hB.cell 2 _ rfl; have hB_3 := hB.cell 3 _ rfl
      have hR_l := hR.lt; have hR_f := hR.frozen; have hR_0 := hR.cell 0 _ rfl; have hR_1 := hR.cell 1 _ rfl; have hR_2 := hR.cell 2 _ rfl; have hR_3 := hR.cell 3 _ rfl
      go_wp2_with fail
      first | (refine bodyPost_ret (v := .agg #[.int .i64 (p1), .int .i64 (p2), .slice A (0) c, .slice B (m) d]) (by simp only [results, Try.results66]; go_simp) rfl ⟨_, _, _, _, _, gl, _, _, _, ol, rfl, ⟨by omega, by omega⟩, ⟨by omega, by omega⟩, by omega, by omega, ?_, ?_, ?_⟩) | (refine bodyPost_ret (v := .agg #[.int .i64 (p1), .int .i64 (p2), .slice A (0) c, .slice B (m) d]) (by simp only [results, Try.results66]; go_simp) rfl ⟨_, _, _, _, _, gl, _, _, _, rfl, ol, ⟨by omega, by omega⟩, ⟨by omega, by omega⟩, by omega, by omega, ?_, ?_, ?_⟩)
      · exact ⟨OwnG.mono ((((hM.gs.low hl _).low hl _).low hl _).low hl _) (by omega), OwnI.mono ((((hM.os.low hl _).low hl _).low hl _).low hl _) (by omega), fun a ha e => hM.ap a.block (by rw [ha]; rfl) e.symm⟩
      · exact ((((hC.farSet _ _ _ hgw).farSet _ _ _ hgw).farSet _ _ _ hgw).farSet _ _ _ hgw).mono (by omega)
      · exact grown_far (grown_far (grown_far (grown_far hG _ _ _ (Nat.le_refl _)) _ _ _ (Nat.le_refl _)) _ _ _ (Nat.le_refl _)) _ _ _ (Nat.le_refl _)
    · have hnp : (0 : Int) < n := by omega
      obtain ⟨ga, hga, hga1, _, _, _⟩ := hM.gs.1.form hz
      subst hga
      have hB := hM.blk
      have hB_l := hB.lt; have hB_f := hB.frozen; have hB_0 := hB.cell 0 _ rfl; have hB_1 := hB.cell 1 _ rfl; have hB_2 := hB.cell 2 _ rfl; have hB_3 := hB.cell 3 _ rfl
      go_wp2_with fail
      refine region_F (fun _ => True) (fun w' => w'.cell? ⟨x, 0, none⟩ = some (.int .i64 p1) ∧ w'.cell? ⟨x, 1, none⟩ = some (.int .i64 p2) ∧ w'.cell? ⟨x, 2, none⟩ = some (.slice (some ⟨ga, 0, none⟩) n c) ∧ w'.cell? ⟨x, 3, none⟩ = some (.slice B m d)) 12 (by kernel_rfl) ?_ (fun hHeld => ?_)
      · (try dsimp only); have q := hM.blk; exact ⟨trivial, q.cell 0 _ rfl, q.cell 1 _ rfl, q.cell 2 _ rfl, q.cell 3 _ rfl⟩
      refine f_takeC (i := 0) (d := 41) (v := ?_) [0] rfl rfl (by kernel_rfl) (by kernel_rfl) (by kernel_rfl) (by kernel_rfl) (by kernel_rfl) (by kernel_rfl) (fun _ _ _ h => h) (by decide) (Or.inl ⟨by rfl, ?_⟩) hHeld ?_
      rotate_left
      · (intro w hSw; (try dsimp only at hSw); go_simp; (try with_reducible rfl))
      simp only [List.set_cons_zero, List.set_cons_succ]
      refine f_takeC (i := 1) (d := 42) (v := ?_) [1] rfl rfl (by kernel_rfl) (by kernel_rfl) (by kernel_rfl) (by kernel_rfl) (by kernel_rfl) (by kernel_rfl) (fun _ _ _ h => h) (by decide) (Or.inl ⟨by rfl, ?_⟩) hHeld ?_
      rotate_left
      · (intro w hSw; (try dsimp only at hSw); go_simp; (try with_reducible rfl))
      simp only [List.set_cons_zero, List.set_cons_succ]
      refine f_takeC (i := 2) (d := 43) (v := ?_) [2] rfl rfl (by kernel_rfl) (by kernel_rfl) (by kernel_rfl) (by kernel_rfl) (by kernel_rfl) (by kernel_rfl) (fun _ _ _ h => h) (by decide) (Or.inl ⟨by rfl, ?_⟩) hHeld ?_
      rotate_left
      · (intro w hSw; (try dsimp only at hSw); go_simp; (try with_reducible rfl))
      simp only [List.set_cons_zero, List.set_cons_succ]
      refine f_takeC (i := 3) (d := 44) (v := ?_) [3] rfl rfl (by kernel_rfl) (by kernel_rfl) (by kernel_rfl) (by kernel_rfl) (by kernel_rfl) (by kernel_rfl) (fun _ _ _ h => h) (by decide) (Or.inl ⟨by rfl, ?_⟩) hHeld ?_
      rotate_left
      · (intro w hSw; (try dsimp only at hSw); go_simp; (try with_reducible rfl))
      simp only [List.set_cons_zero, List.set_cons_succ]
      refine f_takeC (i := 5) (d := 46) (v := ?_) [5] rfl rfl (by kernel_rfl) (by kernel_rfl) (by kernel_rfl) (by kernel_rfl) (by kernel_rfl) (by kernel_rfl) (fun _ _ _ h => h) (by decide) (Or.inl ⟨by rfl, ?_⟩) hHeld ?_
      rotate_left
      · (intro w hSw; (try dsimp only at hSw); go_simp; (try with_reducible rfl))
      simp only [List.set_cons_zero, List.set_cons_succ]
      refine f_takeC (i := 6) (d := 47) (v := ?_) [6] rfl rfl (by kernel_rfl) (by kernel_rfl) (by kernel_rfl) (by kernel_rfl) (by kernel_rfl) (by kernel_rfl) (fun _ _ _ h => h) (by decide) (Or.inl ⟨by rfl, ?_⟩) hHeld ?_
      rotate_left
      · (intro w hSw; (try dsimp only at hSw); go_simp; (try with_reducible rfl))
      simp only [List.set_cons_zero, List.set_cons_succ]
      refine f_step (i := 4) (by kernel_rfl) rfl (fun K hK => ?_)
      go_simp
      go_at_call 76; refine (cur_pick _ g _ (hC.keep (Bl.refl _).drew) (by omega) (n : Int) (by omega)).mono ?_; rintro e v1 ⟨r, rfl, r0, r1, hC1, hG1⟩; obtain ⟨r, rfl⟩ : ∃ q : Nat, r = (q : Int) := ⟨r.toNat, by omega⟩; have hrn : r < n := (by omega); have hM1 := (hM.keep (Bl.refl _).drew).cur hG1 hgb; have hR1 := (hR.keep (Bl.refl _).drew).grown hG1 (by intro e; injection e with e; omega); replace hG1 := Lib.grownBy_trans (Lib.grownBy_below hG (Bl.refl _).drew) hG1
      go_wp2_with fail
      refine hK.out _ _ ?_ (fun hHeld => ?_)
      · (try dsimp only); have q := hM1.blk; exact ⟨trivial, q.cell 0 _ rfl, q.cell 1 _ rfl, q.cell 2 _ rfl, q.cell 3 _ rfl⟩
      clear hK K
      (try simp only [Act.put]); (try simp only [List.setIfInBounds_toArray]); (try simp only [List.set_cons_succ]); (try simp only [List.set_cons_zero])
      refine f_step (i := 7) (by kernel_rfl) rfl (fun K hK => ?_)
      go_simp
      go_at_call 104; refine (spec_ciWires p1 p2 (some ⟨ga, 0, none⟩) B n c m d _ (by omega) (by omega) (by omega) (by omega) (by omega)).mono ?_; rintro e v2 ⟨rfl, hb1⟩; have hM2 := hM1.keep hb1; have hC2 := hC1.keep hb1; have hR2 := hR1.keep hb1; have hG2 := Lib.grownBy_below hG1 hb1; clear hb1
      go_wp2_with fail
      refine hK.out _ _ ?_ (fun hHeld => ?_)
      · (try dsimp only); have q := hM2.blk; exact ⟨trivial, q.cell 0 _ rfl, q.cell 1 _ rfl, q.cell 2 _ rfl, q.cell 3 _ rfl⟩
      clear hK K
      (try simp only [Act.put]); (try simp only [List.setIfInBounds_toArray]); (try simp only [List.set_cons_succ]); (try simp only [List.set_cons_zero])
      refine f_step (i := 8) (by kernel_rfl) rfl (fun K hK => ?_)
      go_simp
      refine hK.out _ _ ?_ (fun hHeld => ?_)
      · (try dsimp only); have q := hM2.blk.alloc (.cells #[.int .i64 (-1), .int .i64 (p1 + p2 + n), .int .i64 1] 3); exact ⟨trivial, q.cell 0 _ rfl, q.cell 1 _ rfl, q.cell 2 _ rfl, q.cell 3 _ rfl⟩
      clear hK K
      (try simp only [Act.put]); (try simp only [List.setIfInBounds_toArray]); (try simp only [List.set_cons_succ]); (try simp only [List.set_cons_zero])
      refine f_step (i := 9) (by kernel_rfl) rfl (fun K hK => ?_)
      go_simp
      go_at_call 77; refine (cur_among_v v2 g _ hC2 (by omega) #[.int .i64 (-1), .int .i64 (p1 + p2 + n), .int .i64 1] 3 rfl 3 rfl (by simp) rfl).mono ?_; rintro e v3 ⟨q, rfl, hq, hC3, hG3⟩; have hM3 := hM2.cur hG3 hgb; have hR3 := hR2.grown hG3 (by intro e; injection e with e; omega); replace hG3 := Lib.grownBy_trans hG2 hG3; clear hq; obtain ⟨K0, pa, pb, hK0, hfr, hc0, hc1, hc2⟩ := hM3.gs.at_ hrn; clear hK0
      go_wp2_with fail
      refine hK.out _ _ ?_ (fun hHeld => ?_)
      · (try dsimp only); have q := hM3.blk; exact ⟨trivial, q.cell 0 _ rfl, q.cell 1 _ rfl, q.cell 2 _ rfl, q.cell 3 _ rfl⟩
      clear hK K
      (try simp only [Act.put]); (try simp only [List.setIfInBounds_toArray]); (try simp only [List.set_cons_succ]); (try simp only [List.set_cons_zero])
      refine f_takeC (i := 10) (d := 51) (v := ?_) [11, 10] rfl rfl (by kernel_rfl) (by kernel_rfl) (by kernel_rfl) (by kernel_rfl) (by kernel_rfl) (by kernel_rfl) (fun _ _ _ h => h) (by decide) (Or.inl ⟨by rfl, ?_⟩) hHeld ?_
      rotate_left
      · (intro w hSw; (try dsimp only at hSw); go_simp; (try with_reducible rfl))
      simp only [List.set_cons_zero, List.set_cons_succ]
      refine f_takeC (i := 11) (d := 52) (v := ?_) [11] rfl rfl (by kernel_rfl) (by kernel_rfl) (by kernel_rfl) (by kernel_rfl) (by kernel_rfl) (by kernel_rfl) (fun _ _ _ h => h) (by decide) (Or.inl ⟨by rfl, ?_⟩) hHeld ?_
      rotate_left
      · (intro w hSw; (try dsimp only at hSw); go_simp; (try with_reducible rfl))
      simp only [List.set_cons_zero, List.set_cons_succ]
      refine f_last (i := 12) (by kernel_rfl) rfl (by simp) (fun K hK => ?_)
      go_simp
      refine hK.out _ _ ?_ (fun hHeld => ?_)
      · exact trivial
      clear hK K
      (try simp only [Act.put]); (try simp only [List.setIfInBounds_toArray]); (try simp only [List.set_cons_succ]); (try simp only [List.set_cons_zero])
      refine f_done (by kernel_rfl) ?_ _
      (try clear hB_l hB_f hB_0 hB_1 hB_2 hB_3)
      (try clear hfr hc0 hc1 hc2)
      obtain ⟨gl9, hMx⟩ := hM3.cell hrn 1 (by omega) (q)
      replace hMx : Cx (v3.setCell ⟨ga, r * 3 + 1, none⟩ (.int .i64 (q))) x (w.heap.size + 1) p1 p2 (some ⟨ga, 0, none⟩) n c gl9 B m d ol := hMx
      have hCx := hC3.farSet ga (r * 3 + 1) (.int .i64 (q)) (by omega)
      have hRx := hR3.far (p := ⟨ga, r * 3 + 1, none⟩) (by show w.heap.size ≠ ga; omega) (.int .i64 (q))
      have hGx := grown_far hG3 ga (r * 3 + 1) (.int .i64 (q)) (by omega)
      clear hM hC hR hG
      have hM := hMx; have hC := hCx; have hR := hRx; have hG := hGx
      clear hMx hCx hRx hGx
      have hg9 : ga ≠ x := hM.na ga rfl
      have hg8 : x ≠ ga := fun e => hg9 e.symm
      have hB := hM.blk
      have hB_l := hB.lt; have hB_f := hB.frozen; have hB_0 := hB.cell 0 _ rfl; have hB_1 := hB.cell 1 _ rfl; have hB_2 := hB.cell 2 _ rfl; have hB_3 := hB.cell 3 _ rfl
      have hR_l := hR.lt; have hR_f := hR.frozen; have hR_0 := hR.cell 0 _ rfl; have hR_1 := hR.cell 1 _ rfl; have hR_2 := hR.cell 2 _ rfl; have hR_3 := hR.cell 3 _ rfl
      go_wp2_with fail
      first | (refine bodyPost_ret (v := .agg #[.int .i64 (p1), .int .i64 (p2), .slice (some ⟨ga, 0, none⟩) (n) c, .slice B (m) d]) (by simp only [results, Try.results66]; go_simp) rfl ⟨_, _, _, _, _, gl9, _, _, _, ol, rfl, ⟨by omega, by omega⟩, ⟨by omega, by omega⟩, by omega, by omega, ?_, ?_, ?_⟩) | (refine bodyPost_ret (v := .agg #[.int .i64 (p1), .int .i64 (p2), .slice (some ⟨ga, 0, none⟩) (n) c, .slice B (m) d]) (by simp only [results, Try.results66]; go_simp) rfl ⟨_, _, _, _, _, gl9, _, _, _, rfl, ol, ⟨by omega, by omega⟩, ⟨by omega, by omega⟩, by omega, by omega, ?_, ?_, ?_⟩)
      · exact ⟨OwnG.mono ((((hM.gs.low hl _).low hl _).low hl _).low hl _) (by omega), OwnI.mono ((((hM.os.low hl _).low hl _).low hl _).low hl _) (by omega), fun a ha e => hM.ap a.block (by rw [ha]; rfl) e.symm⟩
      · exact ((((hC.farSet _ _ _ hgw).farSet _ _ _ hgw).farSet _ _ _ hgw).farSet _ _ _ hgw).mono (by omega)
      · exact grown_far (grown_far (grown_far (grown_far hG _ _ _ (Nat.le_refl _)) _ _ _ (Nat.le_refl _)) _ _ _ (Nat.le_refl _)) _ _ _ (Nat.le_refl _)
  · rcases Nat.eq_zero_or_pos n with hz | hz
    · subst hz
      have hB := hM.blk
      have hB_l := hB.lt; have hB_f := hB.frozen; have hB_0 := hB.cell 0 _ rfl; have hB_1 := hB.cell 1 _ rfl; have hB_2 := hB.cell 2 _ rfl; have hB_3 := hB.cell 3 _ rfl
      have hR_l := hR.lt; have hR_f := hR.frozen; have hR_0 := hR.cell 0 _ rfl; have hR_1 := hR.cell 1 _ rfl; have hR_2 := hR.cell 2 _ rfl; have hR_3 := hR.cell 3 _ rfl
      go_wp2_with fail
      first | (refine bodyPost_ret (v := .agg #[.int .i64 (p1), .int .i64 (p2), .slice A (0) c, .slice B (m) d]) (by simp only [results, Try.results66]; go_simp) rfl ⟨_, _, _, _, _, gl, _, _, _, ol, rfl, ⟨by omega, by omega⟩, ⟨by omega, by omega⟩, by omega, by omega, ?_, ?_, ?_⟩) | (refine bodyPost_ret (v := .agg #[.int .i64 (p1), .int .i64 (p2), .slice A (0) c, .slice B (m) d]) (by simp only [results, Try.results66]; go_simp) rfl ⟨_, _, _, _, _, gl, _, _, _, rfl, ol, ⟨by omega, by omega⟩, ⟨by omega, by omega⟩, by omega, by omega, ?_, ?_, ?_⟩)
      · exact ⟨OwnG.mono ((((hM.gs.low hl _).low hl _).low hl _).low hl _) (by omega), OwnI.mono ((((hM.os.low hl _).low hl _).low hl _).low hl _) (by omega), fun a ha e => hM.ap a.block (by rw [ha]; rfl) e.symm⟩
      · exact ((((hC.farSet _ _ _ hgw).farSet _ _ _ hgw).farSet _ _ _ hgw).farSet _ _ _ hgw).mono (by omega)
      · exact grown_far (grown_far (grown_far (grown_far hG _ _ _ (Nat.le_refl _)) _ _ _ (Nat.le_refl _)) _ _ _ (Nat.le_refl _)) _ _ _ (Nat.le_refl _)
    · have hnp : (0 : Int) < n := by omega
      obtain ⟨ga, hga, hga1, _, _, _⟩ := hM.gs.1.form hz
      subst hga
      have hB := hM.blk
      have hB_l := hB.lt; have hB_f := hB.frozen; have hB_0 := hB.cell 0 _ rfl; have hB_1 := hB.cell 1 _ rfl; have hB_2 := hB.cell 2 _ rfl; have hB_3 := hB.cell 3 _ rfl
      go_wp2_with fail
      refine region_F (fun _ => True) (fun w' => w'.cell? ⟨x, 0, none⟩ = some (.int .i64 p1) ∧ w'.cell? ⟨x, 1, none⟩ = some (.int .i64 p2) ∧ w'.cell? ⟨x, 2, none⟩ = some (.slice (some ⟨ga, 0, none⟩) n c) ∧ w'.cell? ⟨x, 3, none⟩ = some (.slice B m d)) 10 (by kernel_rfl) ?_ (fun hHeld => ?_)
      · (try dsimp only); have q := hM.blk; exact ⟨trivial, q.cell 0 _ rfl, q.cell 1 _ rfl, q.cell 2 _ rfl, q.cell 3 _ rfl⟩
      refine f_takeC (i := 0) (d := 57) (v := ?_) [0] rfl rfl (by kernel_rfl) (by kernel_rfl) (by kernel_rfl) (by kernel_rfl) (by kernel_rfl) (by kernel_rfl) (fun _ _ _ h => h) (by decide) (Or.inl ⟨by rfl, ?_⟩) hHeld ?_
      rotate_left
      · (intro w hSw; (try dsimp only at hSw); go_simp; (try with_reducible rfl))
      simp only [List.set_cons_zero, List.set_cons_succ]
      refine f_takeC (i := 1) (d := 58) (v := ?_) [1] rfl rfl (by kernel_rfl) (by kernel_rfl) (by kernel_rfl) (by kernel_rfl) (by kernel_rfl) (by kernel_rfl) (fun _ _ _ h => h) (by decide) (Or.inl ⟨by rfl, ?_⟩) hHeld ?_
      rotate_left
      · (intro w hSw; (try dsimp only at hSw); go_simp; (try with_reducible rfl))
      simp only [List.set_cons_zero, List.set_cons_succ]
      refine f_takeC (i := 2) (d := 59) (v := ?_) [2] rfl rfl (by kernel_rfl) (by kernel_rfl) (by kernel_rfl) (by kernel_rfl) (by kernel_rfl) (by kernel_rfl) (fun _ _ _ h => h) (by decide) (Or.inl ⟨by rfl, ?_⟩) hHeld ?_
      rotate_left
      · (intro w hSw; (try dsimp only at hSw); go_simp; (try with_reducible rfl))
      simp only [List.set_cons_zero, List.set_cons_succ]
      refine f_takeC (i := 3) (d := 60) (v := ?_) [3] rfl rfl (by kernel_rfl) (by kernel_rfl) (by kernel_rfl) (by kernel_rfl) (by kernel_rfl) (by kernel_rfl) (fun _ _ _ h => h) (by decide) (Or.inl ⟨by rfl, ?_⟩) hHeld ?_
      rotate_left
      · (intro w hSw; (try dsimp only at hSw); go_simp; (try with_reducible rfl))
      simp only [List.set_cons_zero, List.set_cons_succ]
      refine f_takeC (i := 5) (d := 62) (v := ?_) [5] rfl rfl (by kernel_rfl) (by kernel_rfl) (by kernel_rfl) (by kernel_rfl) (by kernel_rfl) (by kernel_rfl) (fun _ _ _ h => h) (by decide) (Or.inl ⟨by rfl, ?_⟩) hHeld ?_
      rotate_left
      · (intro w hSw; (try dsimp only at hSw); go_simp; (try with_reducible rfl))
      simp only [List.set_cons_zero, List.set_cons_succ]
      refine f_step (i := 4) (by kernel_rfl) rfl (fun K hK => ?_)
      go_simp
      go_at_call 76; refine (cur_pick _ g _ (hC.keep (Bl.refl _).drew) (by omega) (n : Int) (by omega)).mono ?_; rintro e v1 ⟨r, rfl, r0, r1, hC1, hG1⟩; obtain ⟨r, rfl⟩ : ∃ q : Nat, r = (q : Int) := ⟨r.toNat, by omega⟩; have hrn : r < n := (by omega); have hM1 := (hM.keep (Bl.refl _).drew).cur hG1 hgb; have hR1 := (hR.keep (Bl.refl _).drew).grown hG1 (by intro e; injection e with e; omega); replace hG1 := Lib.grownBy_trans (Lib.grownBy_below hG (Bl.refl _).drew) hG1
      go_wp2_with fail
      refine hK.out _ _ ?_ (fun hHeld => ?_)
      · (try dsimp only); have q := hM1.blk; exact ⟨trivial, q.cell 0 _ rfl, q.cell 1 _ rfl, q.cell 2 _ rfl, q.cell 3 _ rfl⟩
      clear hK K
      (try simp only [Act.put]); (try simp only [List.setIfInBounds_toArray]); (try simp only [List.set_cons_succ]); (try simp only [List.set_cons_zero])
      refine f_step (i := 6) (by kernel_rfl) rfl (fun K hK => ?_)
      go_simp
      go_at_call 76; refine (cur_pick _ g _ hC1 (by omega) 6 (by omega)).mono ?_; rintro e v3 ⟨q, rfl, hq0, hq1, hC3, hG3⟩; have hM3 := hM1.cur hG3 hgb; have hR3 := hR1.grown hG3 (by intro e; injection e with e; omega); replace hG3 := Lib.grownBy_trans hG1 hG3; obtain ⟨K0, pa, pb, hK0, hfr, hc0, hc1, hc2⟩ := hM3.gs.at_ hrn; clear hK0
      go_wp2_with fail
      refine hK.out _ _ ?_ (fun hHeld => ?_)
      · (try dsimp only); have q := hM3.blk; exact ⟨trivial, q.cell 0 _ rfl, q.cell 1 _ rfl, q.cell 2 _ rfl, q.cell 3 _ rfl⟩
      clear hK K
      (try simp only [Act.put]); (try simp only [List.setIfInBounds_toArray]); (try simp only [List.set_cons_succ]); (try simp only [List.set_cons_zero])
      refine f_takeC (i := 7) (d := 64) (v := ?_) [7] rfl rfl (by kernel_rfl) (by kernel_rfl) (by kernel_rfl) (by kernel_rfl) (by kernel_rfl) (by kernel_rfl) (fun _ _ _ h => h) (by decide) (Or.inl ⟨by rfl, ?_⟩) hHeld ?_
      rotate_left
      · (intro w hSw; (try dsimp only at hSw); go_simp; (try with_reducible rfl))
      simp only [List.set_cons_zero, List.set_cons_succ]
      refine f_takeC (i := 8) (d := 65) (v := ?_) [9, 8] rfl rfl (by kernel_rfl) (by kernel_rfl) (by kernel_rfl) (by kernel_rfl) (by kernel_rfl) (by kernel_rfl) (fun _ _ _ h => h) (by decide) (Or.inl ⟨by rfl, ?_⟩) hHeld ?_
      rotate_left
      · (intro w hSw; (try dsimp only at hSw); go_simp; (try with_reducible rfl))
      simp only [List.set_cons_zero, List.set_cons_succ]
      refine f_takeC (i := 9) (d := 66) (v := ?_) [9] rfl rfl (by kernel_rfl) (by kernel_rfl) (by kernel_rfl) (by kernel_rfl) (by kernel_rfl) (by kernel_rfl) (fun _ _ _ h => h) (by decide) (Or.inl ⟨by rfl, ?_⟩) hHeld ?_
      rotate_left
      · (intro w hSw; (try dsimp only at hSw); go_simp; (try with_reducible rfl))
      simp only [List.set_cons_zero, List.set_cons_succ]
      refine f_last (i := 10) (by kernel_rfl) rfl (by simp) (fun K hK => ?_)
      go_simp
      refine hK.out _ _ ?_ (fun hHeld => ?_)
      · exact trivial
      clear hK K
      (try simp only [Act.put]); (try simp only [List.setIfInBounds_toArray]); (try simp only [List.set_cons_succ]); (try simp only [List.set_cons_zero])
      refine f_done (by kernel_rfl) ?_ _
      (try clear hB_l hB_f hB_0 hB_1 hB_2 hB_3)
      (try clear hfr hc0 hc1 hc2)
      obtain ⟨gl9, hMx⟩ := hM3.cell hrn 0 (by omega) (q - 1)
      replace hMx : Cx (v3.setCell ⟨ga, r * 3, none⟩ (.int .i64 (q - 1))) x (w.heap.size + 1) p1 p2 (some ⟨ga, 0, none⟩) n c gl9 B m d ol := hMx
      have hCx := hC3.farSet ga (r * 3) (.int .i64 (q - 1)) (by omega)
      have hRx := hR3.far (p := ⟨ga, r * 3, none⟩) (by show w.heap.size ≠ ga; omega) (.int .i64 (q - 1))
      have hGx := grown_far hG3 ga (r * 3) (.int .i64 (q - 1)) (by omega)
      clear hM hC hR hG
      have hM := hMx; have hC := hCx; have hR := hRx; have hG := hGx
      clear hMx hCx hRx hGx
      have hg9 : ga ≠ x := hM.na ga rfl
      have hg8 : x ≠ ga := fun e => hg9 e.symm
      have hB := hM.blk
      have hB_l := hB.lt; have hB_f := hB.frozen; have hB_0 := hB.cell 0 _ rfl; have hB_1 := hB.cell 1 _ rfl; have hB_2 := hB.cell 2 _ rfl; have hB_3 := hB.cell 3 _ rfl
      have hR_l := hR.lt; have hR_f := hR.frozen; have hR_0 := hR.cell 0 _ rfl; have hR_1 := hR.cell 1 _ rfl; have hR_2 := hR.cell 2 _ rfl; have hR_3 := hR.cell 3 _ rfl
      go_wp2_with fail
      first | (refine bodyPost_ret (v := .agg #[.int .i64 (p1), .int .i64 (p2), .slice (some ⟨ga, 0, none⟩) (n) c, .slice B (m) d]) (by simp only [results, Try.results66]; go_simp) rfl ⟨_, _, _, _, _, gl9, _, _, _, ol, rfl, ⟨by omega, by omega⟩, ⟨by omega, by omega⟩, by omega, by omega, ?_, ?_, ?_⟩) | (refine bodyPost_ret (v := .agg #[.int .i64 (p1), .int .i64 (p2), .slice (some ⟨ga, 0, none⟩) (n) c, .slice B (m) d]) (by simp only [results, Try.results66]; go_simp) rfl ⟨_, _, _, _, _, gl9, _, _, _, rfl, ol, ⟨by omega, by omega⟩, ⟨by omega, by omega⟩, by omega, by omega, ?_, ?_, ?_⟩)
      · exact ⟨OwnG.mono ((((hM.gs.low hl _).low hl _).low hl _).low hl _) (by omega), OwnI.mono ((((hM.os.low hl _).low hl _).low hl _).low hl _) (by omega), fun a ha e => hM.ap a.block (by rw [ha]; rfl) e.symm⟩
      · exact ((((hC.farSet _ _ _ hgw).farSet _ _ _ hgw).farSet _ _ _ hgw).farSet _ _ _ hgw).mono (by omega)
      · exact grown_far (grown_far (grown_far (grown_far hG _ _ _ (Nat.le_refl _)) _ _ _ (Nat.le_refl _)) _ _ _ (Nat.le_refl _)) _ _ _ (Nat.le_refl _)
  · go_wp2_with fail
    refine (cur_pick _ g _ hC (by omega) 2 (by omega)).mono ?_
    rintro e w5 ⟨pv, rfl, pv0, pv1, hC5, hG5⟩
    clear hC; have hC := hC5; clear hC5
    replace hM := hM.cur hG5 hgb; replace hR := hR.grown hG5 (by intro e; injection e with e; omega); replace hG := Lib.grownBy_trans hG hG5
    clear hG5
    obtain ⟨M, hMe⟩ : ∃ M : Nat, 40 + pv = (M : Int) := ⟨(40 + pv).toNat, by omega⟩
    have hMb : 40 ≤ M ∧ M ≤ 41 := by omega
    have hmk := make_ints M (by omega)
    have hB := hM.blk
    have hB_l := hB.lt; have hB_f := hB.frozen; have hB_0 := hB.cell 0 _ rfl; have hB_1 := hB.cell 1 _ rfl; have hB_2 := hB.cell 2 _ rfl; have hB_3 := hB.cell 3 _ rfl
    have hR_l := hR.lt; have hR_f := hR.frozen; have hR_0 := hR.cell 0 _ rfl; have hR_1 := hR.cell 1 _ rfl; have hR_2 := hR.cell 2 _ rfl; have hR_3 := hR.cell 3 _ rfl
    go_wp2_with fail
    first | (refine bodyPost_ret (v := .agg #[.int .i64 (p1), .int .i64 (p2), .slice A (n) c, .slice (some ⟨w5.heap.size, 0, none⟩) (M) M]) (by simp only [results, Try.results66]; go_simp) rfl ⟨_, _, _, _, _, gl, _, _, _, (List.replicate M 0), rfl, ⟨by omega, by omega⟩, ⟨by omega, by omega⟩, by omega, by omega, ?_, ?_, ?_⟩) | (refine bodyPost_ret (v := .agg #[.int .i64 (p1), .int .i64 (p2), .slice A (n) c, .slice (some ⟨w5.heap.size, 0, none⟩) (M) M]) (by simp only [results, Try.results66]; go_simp) rfl ⟨_, _, _, _, _, gl, _, _, _, rfl, (List.replicate M 0), ⟨by omega, by omega⟩, ⟨by omega, by omega⟩, by omega, by omega, ?_, ?_, ?_⟩)
    have hO := own_zeros (((((w5.setCell ⟨x, 3, none⟩ (.slice (some ⟨w5.heap.size, 0, none⟩) M M)).setCell ⟨w.heap.size, 0, none⟩ (.int .i64 p1)).setCell ⟨w.heap.size, 1, none⟩ (.int .i64 p2)).setCell ⟨w.heap.size, 2, none⟩ (.slice A n c)).setCell ⟨w.heap.size, 3, none⟩ (.slice (some ⟨w5.heap.size, 0, none⟩) M M)) M (by omega) (g := w5.heap.size) (by simp [World.setCell])
    have hs5 : w.heap.size ≤ w5.heap.size := by have := hG.size; exact this
    · exact ⟨OwnG.mono (((((hM.setG 3 _).1.low hl _).low hl _).low hl _).low hl _ |>.keep ((Bl.refl _).alloc _)) (by omega), hO.mono (by simp [World.setCell]; omega), fun a ha e => by injection e with e; have := (hM.gs.blk a.block (by rw [ha]; rfl)).2; dsimp only at e; omega⟩
    · exact ((((((hC.farSet x 3 _ (by omega)).farSet _ _ _ hgw).farSet _ _ _ hgw).farSet _ _ _ hgw).farSet _ _ _ hgw).keep ((Bl.refl _).alloc _)).mono (by omega)
    · exact Lib.grownBy_below (grown_far (grown_far (grown_far (grown_far (grown_far hG x 3 _ (by omega)) _ _ _ (Nat.le_refl _)) _ _ _ (Nat.le_refl _)) _ _ _ (Nat.le_refl _)) _ _ _ (Nat.le_refl _)) ((Bl.refl _).alloc _)
  · go_wp2_with fail
    refine (cur_pick _ g _ hC (by omega) 2 (by omega)).mono ?_
    rintro e w5 ⟨pv, rfl, pv0, pv1, hC5, hG5⟩
    clear hC; have hC := hC5; clear hC5
    replace hM := hM.cur hG5 hgb; replace hR := hR.grown hG5 (by intro e; injection e with e; omega); replace hG := Lib.grownBy_trans hG hG5
    clear hG5
    obtain ⟨T, hTe⟩ : ∃ T : Nat, 300 + pv = (T : Int) := ⟨(300 + pv).toNat, by omega⟩
    have hTb : 300 ≤ T ∧ T ≤ 301 := by omega
    go_wp2_with fail
    go_loopw [81] (fun i wr => ∃ (n c : Nat) (A : Option Addr) (gl : List Gt), n ≤ T ∧ Cx wr x (w.heap.size + 1) p1 p2 A n c gl B m d ol ∧ Cur wr g (k + 200 + 2 + 2) ∧ Blk wr w.heap.size 26 #[.int .i64 0, .int .i64 0, .slice none 0 0, .slice none 0 0] ∧ w.grownBy wr (some g)) (fun _ wr => T - lenOf (wr.cell? ⟨x, 2, none⟩))
    case atStart => exact ⟨n, c, A, gl, by omega, hM, hC, hR, hG⟩
    case round =>
      clear hM hC hR hG hn
      obtain ⟨n, c, A, gl, hnT, hM, hC, hR, hG⟩ := hrel
      by_cases hlt : n < T
      · have i1 : (n : Int) < T := by omega
        have hB := hM.blk
        have hB_l := hB.lt; have hB_f := hB.frozen; have hB_0 := hB.cell 0 _ rfl; have hB_1 := hB.cell 1 _ rfl; have hB_2 := hB.cell 2 _ rfl; have hB_3 := hB.cell 3 _ rfl
        have hBc := Lib.hid hB_2
        go_wp2_with (at_builtin; refine ap_gate rfl rfl rfl (hM.gs.keep ((Bl.refl _).alloc _)) rfl (rd_gate _ _ _ _) (by omega) (by have := hM.blk.lt; simp; omega) ?_; intro A7 c7 v7 ho7 hg7 hat7; clear hB_l hB_f hB_0 hB_1 hB_2 hB_3; have hB7 := (hM.blk.alloc (.cells #[.int .i64 3, .int .i64 0, .int .i64 0] 57)).grown hg7 (by intro e; exact hM.na x e.symm rfl); have hB7_l := hB7.lt; have hB7_f := hB7.frozen; have hB7_0 := hB7.cell 0 _ rfl; have hB7_1 := hB7.cell 1 _ rfl; have hB7_2 := hB7.cell 2 _ rfl; have hB7_3 := hB7.cell 3 _ rfl)
        have hMx := hM.gate ho7 hg7 hat7
        have hm1 := Lib.hid (hMx.blk.cell 2 _ rfl)
        go_roundw
        case rel => exact ⟨n + 1, c7, A7, _, by omega, hMx, ((hC.keep ((Bl.refl wr).alloc _)).grownV hg7 (by intro q hq; have := (hM.gs.blk q hq).1; omega)).farSet x 2 _ (by omega), ((hR.alloc _).grown hg7 (by intro e; have := (hM.gs.blk _ e.symm).1; omega)).far (by show w.heap.size ≠ x; omega) _, grown_far (grown_overV (Lib.grownBy_below hG ((Bl.refl wr).alloc _)) hg7 (by intro q hq; have := (hM.gs.blk q hq).1; omega)) x 2 _ (by omega)⟩
        case measure => have e1 := hm1.out; have e2 := hBc.out; simp only [e1, e2, lenOf]; (try simp only [lenOf]); simp; omega
      · have he : n = T := by omega
        subst he
        have hB := hM.blk
        have hB_l := hB.lt; have hB_f := hB.frozen; have hB_0 := hB.cell 0 _ rfl; have hB_1 := hB.cell 1 _ rfl; have hB_2 := hB.cell 2 _ rfl; have hB_3 := hB.cell 3 _ rfl
        have hR_l := hR.lt; have hR_f := hR.frozen; have hR_0 := hR.cell 0 _ rfl; have hR_1 := hR.cell 1 _ rfl; have hR_2 := hR.cell 2 _ rfl; have hR_3 := hR.cell 3 _ rfl
        go_wp2_with fail
        first | (refine bodyPost_ret (v := .agg #[.int .i64 (p1), .int .i64 (p2), .slice A (n) c, .slice B (m) d]) (by simp only [results, Try.results66]; go_simp) rfl ⟨_, _, _, _, _, gl, _, _, _, ol, rfl, ⟨by omega, by omega⟩, ⟨by omega, by omega⟩, by omega, by omega, ?_, ?_, ?_⟩) | (refine bodyPost_ret (v := .agg #[.int .i64 (p1), .int .i64 (p2), .slice A (n) c, .slice B (m) d]) (by simp only [results, Try.results66]; go_simp) rfl ⟨_, _, _, _, _, gl, _, _, _, rfl, ol, ⟨by omega, by omega⟩, ⟨by omega, by omega⟩, by omega, by omega, ?_, ?_, ?_⟩)
        · exact ⟨OwnG.mono ((((hM.gs.low hl _).low hl _).low hl _).low hl _) (by omega), OwnI.mono ((((hM.os.low hl _).low hl _).low hl _).low hl _) (by omega), fun a ha e => hM.ap a.block (by rw [ha]; rfl) e.symm⟩
        · exact ((((hC.farSet _ _ _ hgw).farSet _ _ _ hgw).farSet _ _ _ hgw).farSet _ _ _ hgw).mono (by omega)
        · exact grown_far (grown_far (grown_far (grown_far hG _ _ _ (Nat.le_refl _)) _ _ _ (Nat.le_refl _)) _ _ _ (Nat.le_refl _)) _ _ _ (Nat.le_refl _)
  · have e0 : (s == 0) = false := by simp; omega
    have e1 : (s == 1) = false := by simp; omega
    have e2 : (s == 2) = false := by simp; omega
    have e3 : (s == 3) = false := by simp; omega
    have e4 : (s == 4) = false := by simp; omega
    have e5 : (s == 5) = false := by simp; omega
    have e6 : (s == 6) = false := by simp; omega
    have hB := hM.blk
    have hB_l := hB.lt; have hB_f := hB.frozen; have hB_0 := hB.cell 0 _ rfl; have hB_1 := hB.cell 1 _ rfl; have hB_2 := hB.cell 2 _ rfl; have hB_3 := hB.cell 3 _ rfl
    have hR_l := hR.lt; have hR_f := hR.frozen; have hR_0 := hR.cell 0 _ rfl; have hR_1 := hR.cell 1 _ rfl; have hR_2 := hR.cell 2 _ rfl; have hR_3 := hR.cell 3 _ rfl
    go_wp2_with fail
    first | (refine bodyPost_ret (v := .agg #[.int .i64 (p1), .int .i64 (p2), .slice A (n) c, .slice B (m) d]) (by simp only [results, Try.results66]; go_simp) rfl ⟨_, _, _, _, _, gl, _, _, _, ol, rfl, ⟨by omega, by omega⟩, ⟨by omega, by omega⟩, by omega, by omega, ?_, ?_, ?_⟩) | (refine bodyPost_ret (v := .agg #[.int .i64 (p1), .int .i64 (p2), .slice A (n) c, .slice B (m) d]) (by simp only [results, Try.results66]; go_simp) rfl ⟨_, _, _, _, _, gl, _, _, _, rfl, ol, ⟨by omega, by omega⟩, ⟨by omega, by omega⟩, by omega, by omega, ?_, ?_, ?_⟩)
    · exact ⟨OwnG.mono ((((hM.gs.low hl _).low hl _).low hl _).low hl _) (by omega), OwnI.mono ((((hM.os.low hl _).low hl _).low hl _).low hl _) (by omega), fun a ha e => hM.ap a.block (by rw [ha]; rfl) e.symm⟩
    · exact ((((hC.farSet _ _ _ hgw).farSet _ _ _ hgw).farSet _ _ _ hgw).farSet _ _ _ hgw).mono (by omega)
    · exact grown_far (grown_far (grown_far (grown_far hG _ _ _ (Nat.le_refl _)) _ _ _ (Nat.le_refl _)) _ _ _ (Nat.le_refl _)) _ _ _ (Nat.le_refl _)
end Go.Proofs.Ytlmlffiajgofeaa
