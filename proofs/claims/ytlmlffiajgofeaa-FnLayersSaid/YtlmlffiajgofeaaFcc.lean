/- Contracts of a drawn circuit with a plan of cells, and of the draws of the law on cells.
   Conditions: the cursor's; the text is one of bytes. -/
import Derived.Test.YtlmlffiajgofeaaFre
import Derived.Test.YtlmlffiajgofeaaClp
import Derived.Test.YtlmlffiajgofeaaQui
namespace Go.Proofs.Ytlmlffiajgofeaa
open Go.RowKit
set_option linter.unusedVariables false
/-- A drawn circuit in block x with a plan in a row of its own behind it. -/
structure Pn (w0 w : World) (g kk x : Nat) (a b : Int) (A : Option Addr) (n c : Nat) (gl : List Gt) (B : Option Addr) (m d : Nat) (ol : List Int) (P : Option Addr) (q pc : Nat) (pl : List Int) : Prop where
  blk : Blk w x 26 #[.int .i64 a, .int .i64 b, .slice A n c, .slice B m d]
  own : OwnC (w0.heap.size + 1) w A n c gl B m d ol
  row : OwnI (x + 1) w P q pc pl
  cur : Cur w g kk
  res : Blk w w0.heap.size 26 #[.int .i64 0, .int .i64 0, .slice none 0 0, .slice none 0 0]
  gr : w0.grownBy w (some g)
  la : ∀ k, A.map (·.block) = some k → k < x
  lb : ∀ k, B.map (·.block) = some k → k < x
  lo : w0.heap.size + 1 ≤ x
  hg : g < w0.heap.size
section
variable {w0 w w' : World} {g kk x : Nat} {a b : Int} {A : Option Addr} {n c : Nat} {gl : List Gt} {B : Option Addr} {m d : Nat} {ol : List Int} {P : Option Addr} {q pc : Nat} {pl : List Int}
theorem Pn.keep (h : Pn w0 w g kk x a b A n c gl B m d ol P q pc pl) (hb : Bl w w') : Pn w0 w' g kk x a b A n c gl B m d ol P q pc pl :=
  ⟨h.blk.keep hb, h.own.keep hb, h.row.keep hb, h.cur.keep hb, h.res.keep hb, Lib.grownBy_below h.gr hb, h.la, h.lb, h.lo, h.hg⟩
theorem Pn.moved {k2 : Nat} (h : Pn w0 w g kk x a b A n c gl B m d ol P q pc pl) (hG : w.grownBy w' (some g)) (hC : Cur w' g k2) : Pn w0 w' g k2 x a b A n c gl B m d ol P q pc pl := by
  have h1 := h.hg; have h2 := h.lo
  exact ⟨h.blk.grown hG (by intro e; injection e with e; omega), h.own.cur hG (by omega), h.row.grownC hG (by omega), hC, h.res.grown hG (by intro e; injection e with e; omega), Lib.grownBy_trans h.gr hG, h.la, h.lb, h.lo, h.hg⟩
/-- Something behind the circuit is written. -/
theorem Pn.over {row : Option Nat} {P' : Option Addr} {q' pc' : Nat} {pl' : List Int} (h : Pn w0 w g kk x a b A n c gl B m d ol P q pc pl) (hG : w.grownBy w' row) (hr : ∀ k, row = some k → x < k) (hp : OwnI (x + 1) w' P' q' pc' pl') : Pn w0 w' g kk x a b A n c gl B m d ol P' q' pc' pl' := by
  have h1 := h.hg; have h2 := h.lo; have h3 := h.gr.size
  exact ⟨h.blk.grown hG (fun e => by have := hr x e.symm; omega), h.own.grown hG (by rintro q hq e; have := hr _ e.symm; have := h.la q.block (by rw [hq]; rfl); omega) (by rintro q hq e; have := hr _ e.symm; have := h.lb q.block (by rw [hq]; rfl); omega), hp,
    h.cur.grownV hG (fun k hk => by have := hr k hk; omega), h.res.grown hG (fun e => by have := hr _ e.symm; omega), grown_overV h.gr hG (fun k hk => by have := hr k hk; omega), h.la, h.lb, h.lo, h.hg⟩
theorem Pn.set_ {gp : Nat} (h : Pn w0 w g kk x a b A n c gl B m d ol (some ⟨gp, 0, none⟩) q pc pl) (i : Nat) (v : Int) (hi : i < q) : Pn w0 (w.setCell ⟨gp, i, none⟩ (.int .i64 v)) g kk x a b A n c gl B m d ol (some ⟨gp, 0, none⟩) q pc (pl.set i v) :=
  h.over (grownBy_setCell w gp i _) (by intro k hk; injection hk with hk; have := (h.row.blk gp rfl).1; omega) (OwnI.set_ h.row i v hi)
end
/-- What planned returns. -/
def PlP (w : World) (g k : Nat) (e : Ending) (w' : World) : Prop := ∃ a b A n c gl B m d ol P q pc pl, e = .returned (.tuple #[.agg #[.int .i64 a, .int .i64 b, .slice A n c, .slice B m d], .slice P q pc]) ∧ ((-1 ≤ a ∧ a ≤ 30) ∧ (-1 ≤ b ∧ b ≤ 30) ∧ n ≤ 301 ∧ m ≤ 41) ∧ OwnC w.heap.size w' A n c gl B m d ol ∧ OwnI w.heap.size w' P q pc pl ∧ Cur w' g (k + 400) ∧ w.grownBy w' (some g)
theorem Pn.fin {w0 w : World} {g k kk x : Nat} {a b : Int} {A : Option Addr} {n c : Nat} {gl : List Gt} {B : Option Addr} {m d : Nat} {ol : List Int} {P : Option Addr} {q pc : Nat} {pl : List Int} (h : Pn w0 w g kk x a b A n c gl B m d ol P q pc pl) (hbd : (-1 ≤ a ∧ a ≤ 30) ∧ (-1 ≤ b ∧ b ≤ 30) ∧ n ≤ 301 ∧ m ≤ 41) (hk : kk ≤ k + 400) (u0 u1 u2 u3 : Value) :
    PlP w0 g k (.returned (.tuple #[.agg #[.int .i64 a, .int .i64 b, .slice A n c, .slice B m d], .slice P q pc])) ((((w.setCell ⟨w0.heap.size, 0, none⟩ u0).setCell ⟨w0.heap.size, 1, none⟩ u1).setCell ⟨w0.heap.size, 2, none⟩ u2).setCell ⟨w0.heap.size, 3, none⟩ u3) := by
  have hl : w0.heap.size < w0.heap.size + 1 := by omega
  have hl1 : w0.heap.size < x + 1 := by have := h.lo; omega
  have hgw := h.hg
  exact ⟨a, b, A, n, c, gl, B, m, d, ol, P, q, pc, pl, rfl, hbd, OwnC.mono ((((h.own.low hl _).low hl _).low hl _).low hl _) (by omega), OwnI.mono ((((h.row.low hl1 _).low hl1 _).low hl1 _).low hl1 _) (by omega),
    ((((h.cur.farSet _ _ _ hgw).farSet _ _ _ hgw).farSet _ _ _ hgw).farSet _ _ _ hgw).mono hk, grown_far (grown_far (grown_far (grown_far h.gr _ _ _ (Nat.le_refl _)) _ _ _ (Nat.le_refl _)) _ _ _ (Nat.le_refl _)) _ _ _ (Nat.le_refl _)⟩
theorem lt_of_own {base : Nat} {w : World} {n c : Nat} {A : Option Addr} {l : List Int} (h : OwnI base w A n c l) {x : Nat} (hx : w.heap.size = x) : ∀ k, A.map (·.block) = some k → k < x := fun k hk => hx ▸ (h.blk k hk).2
theorem cpL_len (a b : Int) (gl : List Gt) (ol : List Int) : (cpL a b gl ol).length = (a + b).toNat + gl.length := cpG_len _ _ _
set_option maxRecDepth 20000 in
set_option maxHeartbeats 4000000 in
theorem cur_planned (w : World) (g k : Nat) (h : Cur w g k) (hk : k < 700000000) :
    Calls Try.prog 84 #[.pointer (some ⟨g, 0, none⟩)] w (PlP w g k) := by
  have hgw := h.lt
  have hC := h.keep ((Bl.refl w).alloc (.cells #[.int .i64 0, .int .i64 0, .slice none 0 0, .slice none 0 0] 26))
  have hR := Blk.new w 26 #[.int .i64 0, .int .i64 0, .slice none 0 0, .slice none 0 0] (g := w.heap.size)
  have hG := World.grownBy_alloc w (.cells #[.int .i64 0, .int .i64 0, .slice none 0 0, .slice none 0 0] 26) (some g)
  clear h
  go_enter Try.func84, Try.ntmps84
  go_wp2_with fail
  refine (cur_anyCircuit _ g _ hC (by omega)).mono ?_
  rintro e w1 ⟨a, b, A, n, c, gl, B, m, d, ol, rfl, ha, hb, hn, hm, hO, hC1, hG1⟩
  clear hC
  replace hR := hR.grown hG1 (by intro e; injection e with e; omega); replace hG := Lib.grownBy_trans hG hG1
  have hsz : (w.alloc (.cells #[.int .i64 0, .int .i64 0, .slice none 0 0, .slice none 0 0] 26)).heap.size = w.heap.size + 1 := by simp
  rw [hsz] at hO
  have hxs : w.heap.size + 1 ≤ w1.heap.size := by have := hG1.size; omega
  have hbd := And.intro ha (And.intro hb (And.intro hn hm))
  have hN : Pn w (w1.alloc (.cells #[.int .i64 a, .int .i64 b, .slice A n c, .slice B m d] 26)) g (k + 300) w1.heap.size a b A n c gl B m d ol none 0 0 [] :=
    ⟨Blk.new w1 _ _, hO.keep ((Bl.refl w1).alloc _), OwnI.nil _ _, hC1.keep ((Bl.refl w1).alloc _), hR.alloc _, Lib.grownBy_below hG ((Bl.refl w1).alloc _), fun k hk => (hO.1.blk k hk).2, fun k hk => (hO.2.1.blk k hk).2, hxs, hgw⟩
  have hxl : w1.heap.size < (w1.alloc (.cells #[.int .i64 a, .int .i64 b, .slice A n c, .slice B m d] 26)).heap.size := by simp
  clear hC1 hO hG1 hsz hR hG
  have hX := hN.blk
  have hX_l := hX.lt; have hX_f := hX.frozen; have hX_0 := hX.cell 0 _ rfl; have hX_1 := hX.cell 1 _ rfl; have hX_2 := hX.cell 2 _ rfl; have hX_3 := hX.cell 3 _ rfl
  go_wp2_with fail
  (try clear hX_l hX_f hX_0 hX_1 hX_2 hX_3)
  clear hX
  generalize w1.alloc (.cells #[.int .i64 a, .int .i64 b, .slice A n c, .slice B m d] 26) = w3 at hN hxl ⊢
  generalize w1.heap.size = x at hN hxs hxl ⊢
  refine (spec_ciGood a b A B n c m d gl ol _ hN.own.rd.g hN.own.rd.o).mono ?_
  rintro e w4 ⟨rfl, hb4⟩
  replace hN := hN.keep hb4
  replace hxl : x < w4.heap.size := Nat.lt_of_lt_of_le hxl hb4.sz
  clear hb4
  rcases hq : goodC a b gl ol
  · clear hq
    have hM := (hN.keep ((Bl.refl _).alloc (.cells #[.int .i64 0] 3))).over (World.grownBy.refl _ none) (by simp) (own_lit1 w4 0 (by omega) rfl)
    have hX := hN.blk; have hR := hM.res
    have hX_l := hX.lt; have hX_f := hX.frozen; have hX_0 := hX.cell 0 _ rfl; have hX_1 := hX.cell 1 _ rfl; have hX_2 := hX.cell 2 _ rfl; have hX_3 := hX.cell 3 _ rfl
    have hR_l := hR.lt; have hR_f := hR.frozen; have hR_0 := hR.cell 0 _ rfl; have hR_1 := hR.cell 1 _ rfl; have hR_2 := hR.cell 2 _ rfl; have hR_3 := hR.cell 3 _ rfl
    go_wp2_with fail
    refine bodyPost_ret (v := .tuple #[.agg #[.int .i64 a, .int .i64 b, .slice A n c, .slice B m d], .slice (some ⟨w4.heap.size, 0, none⟩) 1 1]) (by simp only [results, Try.results84]; go_simp) rfl (hM.fin hbd (by omega) _ _ _ _)
  · have HQ := Lib.hid hq
    have hnn := hN.own.1.2
    clear hq
    have hX := hN.blk
    have hX_l := hX.lt; have hX_f := hX.frozen; have hX_0 := hX.cell 0 _ rfl; have hX_1 := hX.cell 1 _ rfl; have hX_2 := hX.cell 2 _ rfl; have hX_3 := hX.cell 3 _ rfl
    go_wp2_with fail
    (try clear hX_l hX_f hX_0 hX_1 hX_2 hX_3)
    clear hX
    refine (spec_svPlan a b A B n c m d gl ol _ hN.own.rd.g hN.own.rd.o HQ.out).mono ?_
    rintro e w5 ⟨P, q, pc, rfl, hP, hb5⟩
    have hq4 : q ≤ 400 := by have := hP.length; rw [cpL_len] at this; have := ha.2; have := hb.2; omega
    replace hN := (hN.keep hb5).over (World.grownBy.refl _ none) (by simp) (OwnI.mono hP (show x + 1 ≤ w4.heap.size by omega))
    clear hb5 hP HQ hxl hnn
    generalize cpL a b gl ol = pl at hN
    go_wp2_with fail
    obtain ⟨kk, hkk⟩ : ∃ kk, k + 300 = kk := ⟨_, rfl⟩
    rw [hkk] at hN
    have hkb : kk ≤ k + 300 := by omega
    clear hkk
    go_wp2_with fail
    refine (cur_pick _ g _ hN.cur (by omega) 8 (by omega)).mono ?_
    rintro e w6 ⟨s, rfl, s0, s1, hC6, hG6⟩
    replace hN := hN.moved hG6 hC6
    clear hC6 hG6
    obtain ⟨kk2, hkk⟩ : ∃ kk2, kk + 2 = kk2 := ⟨_, rfl⟩
    rw [hkk] at hN
    have hkb2 : kk2 ≤ k + 302 := by omega
    clear hkk hkb
    rcases (by omega : s = 0 ∨ s = 1 ∨ s = 2 ∨ 3 ≤ s) with rfl | rfl | rfl | hs
    · rcases Nat.eq_zero_or_pos q with hz | hz
      · subst hz
        have hX := hN.blk; have hR := hN.res
        have hX_l := hX.lt; have hX_f := hX.frozen; have hX_0 := hX.cell 0 _ rfl; have hX_1 := hX.cell 1 _ rfl; have hX_2 := hX.cell 2 _ rfl; have hX_3 := hX.cell 3 _ rfl
        have hR_l := hR.lt; have hR_f := hR.frozen; have hR_0 := hR.cell 0 _ rfl; have hR_1 := hR.cell 1 _ rfl; have hR_2 := hR.cell 2 _ rfl; have hR_3 := hR.cell 3 _ rfl
        go_wp2_with fail
        refine bodyPost_ret (v := .tuple #[.agg #[.int .i64 a, .int .i64 b, .slice A n c, .slice B m d], .slice P 0 pc]) (by simp only [results, Try.results84]; go_simp) rfl (hN.fin hbd (by omega) _ _ _ _)
      · have hqp : (0 : Int) < q := by omega
        obtain ⟨gp, hgp, hgp1, hgp2, _, _⟩ := hN.row.form hz
        subst hgp
        go_wp2_with fail
        refine (cur_pick _ g _ hN.cur (by omega) (q : Int) (by omega)).mono ?_
        rintro e w6 ⟨r, rfl, r0, r1, hC6, hG6⟩
        replace hN := hN.moved hG6 hC6
        clear hC6 hG6
        obtain ⟨r, rfl⟩ : ∃ q : Nat, r = (q : Int) := ⟨r.toNat, by omega⟩
        have hrq : r < q := by omega
        go_wp2_with fail
        refine (cur_among_v _ g _ hN.cur (by omega) #[.int .i64 0, .int .i64 1, .int .i64 2, .int .i64 999, .int .i64 1000, .int .i64 (-1)] 3 rfl 6 rfl (by simp) rfl).mono ?_
        rintro e w7 ⟨v, rfl, hv, hC7, hG7⟩
        clear hv
        replace hN := hN.moved hG7 hC7
        clear hC7 hG7
        have hgl := (hN.row.blk gp rfl).2
        obtain ⟨_, e9, _, _, hcs, hfr⟩ := hN.row.form hz
        injection e9 with e9; injection e9 with e9; subst e9
        obtain ⟨u, hu⟩ : ∃ u, pl[r]? = some u := ⟨_, List.getElem?_eq_getElem (by rw [hN.row.length]; exact hrq)⟩
        have hcr := hcs r u hu
        have hf0 := hfr r
        clear hcs hfr hu
        have hM := hN.set_ r v hrq
        have hg9 : gp ≠ x := by omega
        have hg8 : x ≠ gp := by omega
        have hlo := hN.lo
        have hg7 : gp ≠ w.heap.size := by omega
        have hg6 : w.heap.size ≠ gp := by omega
        have hX := hN.blk; have hR := hN.res
        have hX_l := hX.lt; have hX_f := hX.frozen; have hX_0 := hX.cell 0 _ rfl; have hX_1 := hX.cell 1 _ rfl; have hX_2 := hX.cell 2 _ rfl; have hX_3 := hX.cell 3 _ rfl
        have hR_l := hR.lt; have hR_f := hR.frozen; have hR_0 := hR.cell 0 _ rfl; have hR_1 := hR.cell 1 _ rfl; have hR_2 := hR.cell 2 _ rfl; have hR_3 := hR.cell 3 _ rfl
        go_wp2_with fail
        refine bodyPost_ret (v := .tuple #[.agg #[.int .i64 a, .int .i64 b, .slice A n c, .slice B m d], .slice (some ⟨gp, 0, none⟩) q pc]) (by simp only [results, Try.results84]; go_simp) rfl (hM.fin hbd (by omega) _ _ _ _)
    · rcases Nat.eq_zero_or_pos q with hz | hz
      · subst hz
        go_wp2_with fail
        go_loopw [37] (fun i wr => i = .int .i64 0 ∧ Pn w wr g kk2 x a b A n c gl B m d ol P 0 pc pl) (fun _ _ => 0)
        case atStart => exact ⟨rfl, hN⟩
        case round =>
          clear hN
          obtain ⟨rfl, hN⟩ := hrel
          have hX := hN.blk; have hR := hN.res
          have hX_l := hX.lt; have hX_f := hX.frozen; have hX_0 := hX.cell 0 _ rfl; have hX_1 := hX.cell 1 _ rfl; have hX_2 := hX.cell 2 _ rfl; have hX_3 := hX.cell 3 _ rfl
          have hR_l := hR.lt; have hR_f := hR.frozen; have hR_0 := hR.cell 0 _ rfl; have hR_1 := hR.cell 1 _ rfl; have hR_2 := hR.cell 2 _ rfl; have hR_3 := hR.cell 3 _ rfl
          go_wp2_with fail
          refine bodyPost_ret (v := .tuple #[.agg #[.int .i64 a, .int .i64 b, .slice A n c, .slice B m d], .slice P 0 pc]) (by simp only [results, Try.results84]; go_simp) rfl (hN.fin hbd (by omega) _ _ _ _)
      · obtain ⟨gp, hgp, hgp1, hgp2, _, _⟩ := hN.row.form hz
        subst hgp
        go_wp2_with fail
        go_loopw [37] (fun i wr => ∃ (j : Nat) (pl : List Int), j ≤ q ∧ i = .int .i64 (j : Nat) ∧ Pn w wr g kk2 x a b A n c gl B m d ol (some ⟨gp, 0, none⟩) q pc pl) (fun i _ => q - (intOf i).toNat)
        case atStart => exact ⟨0, _, by omega, rfl, hN⟩
        case round =>
          clear hN
          obtain ⟨j, pl, hj, rfl, hN⟩ := hrel
          by_cases hlt : j < q
          · have i1 : (j : Int) < q := by omega
            have hgl := (hN.row.blk gp rfl).2
            obtain ⟨_, e9, _, _, hcs, hfr⟩ := hN.row.form hz
            injection e9 with e9; injection e9 with e9; subst e9
            obtain ⟨u, hu⟩ : ∃ u, pl[j]? = some u := ⟨_, List.getElem?_eq_getElem (by rw [hN.row.length]; exact hlt)⟩
            have hcr := hcs j u hu
            have hf0 := hfr j
            clear hcs hfr hu
            have hM := Lib.hid (fun v => hN.set_ j v hlt)
            go_wp2_with fail
            go_roundw
            case rel => exact ⟨j + 1, _, by omega, by go_num, hM.out _⟩
            case measure => simp [intOf]; omega
          · have he : j = q := by omega
            subst he
            have hX := hN.blk; have hR := hN.res
            have hX_l := hX.lt; have hX_f := hX.frozen; have hX_0 := hX.cell 0 _ rfl; have hX_1 := hX.cell 1 _ rfl; have hX_2 := hX.cell 2 _ rfl; have hX_3 := hX.cell 3 _ rfl
            have hR_l := hR.lt; have hR_f := hR.frozen; have hR_0 := hR.cell 0 _ rfl; have hR_1 := hR.cell 1 _ rfl; have hR_2 := hR.cell 2 _ rfl; have hR_3 := hR.cell 3 _ rfl
            go_wp2_with fail
            refine bodyPost_ret (v := .tuple #[.agg #[.int .i64 a, .int .i64 b, .slice A n c, .slice B m d], .slice (some ⟨gp, 0, none⟩) j pc]) (by simp only [results, Try.results84]; go_simp) rfl (hN.fin hbd (by omega) _ _ _ _)
    · go_wp2_with (at_builtin; refine ap_int rfl rfl rfl (hN.row.alloc _) rfl (rd_new1 _ _ _) (by omega) (by have := hN.blk.lt; simp; omega) ?_; intro A7 c7 w7 ho7 hg7 hat7; have hM := (hN.keep ((Bl.refl _).alloc _)).over hg7 (fun k hk => by have := (hN.row.blk k hk).1; omega) ho7; clear hN; have hN := hM; clear hM hg7 hat7 ho7; have hX := hN.blk; have hR := hN.res; have hX_l := hX.lt; have hX_f := hX.frozen; have hX_0 := hX.cell 0 _ rfl; have hX_1 := hX.cell 1 _ rfl; have hX_2 := hX.cell 2 _ rfl; have hX_3 := hX.cell 3 _ rfl; have hR_l := hR.lt; have hR_f := hR.frozen; have hR_0 := hR.cell 0 _ rfl; have hR_1 := hR.cell 1 _ rfl; have hR_2 := hR.cell 2 _ rfl; have hR_3 := hR.cell 3 _ rfl)
      refine bodyPost_ret (v := .tuple #[.agg #[.int .i64 a, .int .i64 b, .slice A n c, .slice B m d], .slice A7 (q + 1) c7]) (by simp only [results, Try.results84]; go_simp) rfl (hN.fin hbd (by omega) _ _ _ _)
    · have e0 : (s == 0) = false := by simp; omega
      have e1 : (s == 1) = false := by simp; omega
      have e2 : (s == 2) = false := by simp; omega
      have hX := hN.blk; have hR := hN.res
      have hX_l := hX.lt; have hX_f := hX.frozen; have hX_0 := hX.cell 0 _ rfl; have hX_1 := hX.cell 1 _ rfl; have hX_2 := hX.cell 2 _ rfl; have hX_3 := hX.cell 3 _ rfl
      have hR_l := hR.lt; have hR_f := hR.frozen; have hR_0 := hR.cell 0 _ rfl; have hR_1 := hR.cell 1 _ rfl; have hR_2 := hR.cell 2 _ rfl; have hR_3 := hR.cell 3 _ rfl
      go_wp2_with fail
      refine bodyPost_ret (v := .tuple #[.agg #[.int .i64 a, .int .i64 b, .slice A n c, .slice B m d], .slice P q pc]) (by simp only [results, Try.results84]; go_simp) rfl (hN.fin hbd (by omega) _ _ _ _)
set_option maxHeartbeats 2000000 in
theorem spec_DrawLastUses (w : World) (Ac : Option Addr) (nc cc : Nat) (lc : List Int) (h : RdB w Ac nc cc lc) : Calls Try.prog 18 #[.slice Ac nc cc] w (DrcP w) := by
  have hR := Blk.new w 26 #[.int .i64 0, .int .i64 0, .slice none 0 0, .slice none 0 0] (g := w.heap.size)
  have hs0 : (w.alloc (.cells #[.int .i64 0, .int .i64 0, .slice none 0 0, .slice none 0 0] 26)).heap.size = w.heap.size + 1 := by simp
  have hC := Cur.new (w.alloc (.cells #[.int .i64 0, .int .i64 0, .slice none 0 0, .slice none 0 0] 26)) (h.keep ((Bl.refl w).alloc _)) (g := w.heap.size + 1)
  replace hR := hR.alloc (.cells #[.slice Ac nc cc, .int .i64 0, .int .u64 0] 71)
  have hW := ((Bl.refl w).alloc (.cells #[.int .i64 0, .int .i64 0, .slice none 0 0, .slice none 0 0] 26)).alloc (.cells #[.slice Ac nc cc, .int .i64 0, .int .u64 0] 71)
  have hs1 : ((w.alloc (.cells #[.int .i64 0, .int .i64 0, .slice none 0 0, .slice none 0 0] 26)).alloc (.cells #[.slice Ac nc cc, .int .i64 0, .int .u64 0] 71)).heap.size = w.heap.size + 2 := by simp
  clear h
  go_enter Try.func18, Try.ntmps18
  go_wp2_with fail
  refine (cur_anyCircuit _ _ _ hC (by omega)).mono ?_
  rintro e w2 ⟨a, b, A, n, c, gl, B, m, d, ol, rfl, ha, hb, hn, hm, hO, hC2, hG⟩
  rw [hs1] at hO
  replace hR := hR.grown hG (by intro e; injection e with e; omega)
  replace hW := hW.grown hG (by intro k hk; injection hk with hk; omega)
  have hl : w.heap.size < w.heap.size + 2 := by omega
  clear hC hC2 hG hs0 hs1
  have hR_l := hR.lt; have hR_f := hR.frozen; have hR_0 := hR.cell 0 _ rfl; have hR_1 := hR.cell 1 _ rfl; have hR_2 := hR.cell 2 _ rfl; have hR_3 := hR.cell 3 _ rfl
  go_wp2_with fail
  refine bodyPost_ret (v := .agg #[.int .i64 a, .int .i64 b, .slice A n c, .slice B m d]) (by simp only [results, Try.results18]; go_simp) rfl (drcP ⟨ha, hb, hn, hm⟩ (OwnC.mono ((((hO.low hl _).low hl _).low hl _).low hl _) (by omega)) ((((hW.setCell (p := ⟨w.heap.size, 0, none⟩) (Nat.le_refl _) _).setCell (p := ⟨w.heap.size, 1, none⟩) (Nat.le_refl _) _).setCell (p := ⟨w.heap.size, 2, none⟩) (Nat.le_refl _) _).setCell (p := ⟨w.heap.size, 3, none⟩) (Nat.le_refl _) _))
set_option maxHeartbeats 2000000 in
theorem spec_DrawCellPlan (w : World) (Ac : Option Addr) (nc cc : Nat) (lc : List Int) (h : RdB w Ac nc cc lc) : Calls Try.prog 39 #[.slice Ac nc cc] w (DrcP w) := by
  have hR := Blk.new w 26 #[.int .i64 0, .int .i64 0, .slice none 0 0, .slice none 0 0] (g := w.heap.size)
  have hs0 : (w.alloc (.cells #[.int .i64 0, .int .i64 0, .slice none 0 0, .slice none 0 0] 26)).heap.size = w.heap.size + 1 := by simp
  have hW := ((Bl.refl w).alloc (.cells #[.int .i64 0, .int .i64 0, .slice none 0 0, .slice none 0 0] 26))
  have h0 := h.keep hW
  clear h
  go_enter Try.func39, Try.ntmps39
  go_wp2_with fail
  refine (spec_DrawLastUses _ Ac nc cc lc h0).mono ?_
  rintro e w2 ⟨a, b, A, n, c, gl, B, m, d, ol, rfl, hbd, hO, hb2⟩
  rw [hs0] at hO
  replace hR := hR.keep hb2
  replace hW := hW.call hb2
  have hl : w.heap.size < w.heap.size + 1 := by omega
  clear h0 hb2 hs0
  have hR_l := hR.lt; have hR_f := hR.frozen; have hR_0 := hR.cell 0 _ rfl; have hR_1 := hR.cell 1 _ rfl; have hR_2 := hR.cell 2 _ rfl; have hR_3 := hR.cell 3 _ rfl
  go_wp2_with fail
  refine bodyPost_ret (v := .agg #[.int .i64 a, .int .i64 b, .slice A n c, .slice B m d]) (by simp only [results, Try.results39]; go_simp) rfl (drcP hbd (OwnC.mono ((((hO.low hl _).low hl _).low hl _).low hl _) (by omega)) ((((hW.setCell (p := ⟨w.heap.size, 0, none⟩) (Nat.le_refl _) _).setCell (p := ⟨w.heap.size, 1, none⟩) (Nat.le_refl _) _).setCell (p := ⟨w.heap.size, 2, none⟩) (Nat.le_refl _) _).setCell (p := ⟨w.heap.size, 3, none⟩) (Nat.le_refl _) _))
/-- A drawn circuit with a plan. -/
def DpP (w : World) (e : Ending) (w' : World) : Prop := ∃ a b A n c gl B m d ol P q pc pl, e = .returned (.tuple #[.agg #[.int .i64 a, .int .i64 b, .slice A n c, .slice B m d], .slice P q pc]) ∧ OwnC w.heap.size w' A n c gl B m d ol ∧ OwnI w.heap.size w' P q pc pl ∧ Bl w w'
/-- A drawn circuit with a plan and inputs. -/
def DeP (w : World) (e : Ending) (w' : World) : Prop := ∃ a b A n c gl B m d ol P q pc pl A1 n1 c1 l1 A2 n2 c2 l2, e = .returned (.tuple #[.agg #[.int .i64 a, .int .i64 b, .slice A n c, .slice B m d], .slice P q pc, .slice A1 n1 c1, .slice A2 n2 c2]) ∧ OwnC w.heap.size w' A n c gl B m d ol ∧ OwnI w.heap.size w' P q pc pl ∧ OwnI w.heap.size w' A1 n1 c1 l1 ∧ OwnI w.heap.size w' A2 n2 c2 l2 ∧ Bl w w'
set_option maxHeartbeats 2000000 in
theorem spec_DrawIsCellPlan (w : World) (Ac : Option Addr) (nc cc : Nat) (lc : List Int) (h : RdB w Ac nc cc lc) : Calls Try.prog 47 #[.slice Ac nc cc] w (DpP w) := by
  have hR := Blk.new w 26 #[.int .i64 0, .int .i64 0, .slice none 0 0, .slice none 0 0] (g := w.heap.size)
  have hs0 : (w.alloc (.cells #[.int .i64 0, .int .i64 0, .slice none 0 0, .slice none 0 0] 26)).heap.size = w.heap.size + 1 := by simp
  have hC := Cur.new (w.alloc (.cells #[.int .i64 0, .int .i64 0, .slice none 0 0, .slice none 0 0] 26)) (h.keep ((Bl.refl w).alloc _)) (g := w.heap.size + 1)
  replace hR := hR.alloc (.cells #[.slice Ac nc cc, .int .i64 0, .int .u64 0] 71)
  have hW := ((Bl.refl w).alloc (.cells #[.int .i64 0, .int .i64 0, .slice none 0 0, .slice none 0 0] 26)).alloc (.cells #[.slice Ac nc cc, .int .i64 0, .int .u64 0] 71)
  have hs1 : ((w.alloc (.cells #[.int .i64 0, .int .i64 0, .slice none 0 0, .slice none 0 0] 26)).alloc (.cells #[.slice Ac nc cc, .int .i64 0, .int .u64 0] 71)).heap.size = w.heap.size + 2 := by simp
  clear h
  go_enter Try.func47, Try.ntmps47
  go_wp2_with fail
  refine (cur_planned _ _ _ hC (by omega)).mono ?_
  rintro e w2 ⟨a, b, A, n, c, gl, B, m, d, ol, P, q, pc, pl, rfl, hbd, hO, hP, hC2, hG⟩
  rw [hs1] at hO hP
  replace hR := hR.grown hG (by intro e; injection e with e; omega)
  replace hW := hW.grown hG (by intro k hk; injection hk with hk; omega)
  have hl : w.heap.size < w.heap.size + 2 := by omega
  clear hC hC2 hG hs0 hs1
  have hR_l := hR.lt; have hR_f := hR.frozen; have hR_0 := hR.cell 0 _ rfl; have hR_1 := hR.cell 1 _ rfl; have hR_2 := hR.cell 2 _ rfl; have hR_3 := hR.cell 3 _ rfl
  go_wp2_with fail
  refine bodyPost_ret (v := .tuple #[.agg #[.int .i64 a, .int .i64 b, .slice A n c, .slice B m d], .slice P q pc]) (by simp only [results, Try.results47]; go_simp) rfl ⟨a, b, A, n, c, gl, B, m, d, ol, P, q, pc, pl, rfl, OwnC.mono ((((hO.low hl _).low hl _).low hl _).low hl _) (by omega), OwnI.mono ((((hP.low hl _).low hl _).low hl _).low hl _) (by omega), (((hW.setCell (p := ⟨w.heap.size, 0, none⟩) (Nat.le_refl _) _).setCell (p := ⟨w.heap.size, 1, none⟩) (Nat.le_refl _) _).setCell (p := ⟨w.heap.size, 2, none⟩) (Nat.le_refl _) _).setCell (p := ⟨w.heap.size, 3, none⟩) (Nat.le_refl _) _⟩
set_option maxRecDepth 20000 in
set_option maxHeartbeats 4000000 in
theorem spec_DrawEvalInCells (w : World) (Ac : Option Addr) (nc cc : Nat) (lc : List Int) (h : RdB w Ac nc cc lc) : Calls Try.prog 35 #[.slice Ac nc cc] w (DeP w) := by
  have hR := Blk.new w 26 #[.int .i64 0, .int .i64 0, .slice none 0 0, .slice none 0 0] (g := w.heap.size)
  have hs0 : (w.alloc (.cells #[.int .i64 0, .int .i64 0, .slice none 0 0, .slice none 0 0] 26)).heap.size = w.heap.size + 1 := by simp
  have hC := Cur.new (w.alloc (.cells #[.int .i64 0, .int .i64 0, .slice none 0 0, .slice none 0 0] 26)) (h.keep ((Bl.refl w).alloc _)) (g := w.heap.size + 1)
  replace hR := hR.alloc (.cells #[.slice Ac nc cc, .int .i64 0, .int .u64 0] 71)
  have hW := ((Bl.refl w).alloc (.cells #[.int .i64 0, .int .i64 0, .slice none 0 0, .slice none 0 0] 26)).alloc (.cells #[.slice Ac nc cc, .int .i64 0, .int .u64 0] 71)
  have hs1 : ((w.alloc (.cells #[.int .i64 0, .int .i64 0, .slice none 0 0, .slice none 0 0] 26)).alloc (.cells #[.slice Ac nc cc, .int .i64 0, .int .u64 0] 71)).heap.size = w.heap.size + 2 := by simp
  clear h
  go_enter Try.func35, Try.ntmps35
  go_wp2_with fail
  refine (cur_planned _ _ _ hC (by omega)).mono ?_
  rintro e w2 ⟨a, b, A, n, c, gl, B, m, d, ol, P, q, pc, pl, rfl, ⟨ha, hb, hn, hm⟩, hO, hP, hC2, hG⟩
  rw [hs1] at hO hP
  replace hR := (hR.grown hG (by intro e; injection e with e; omega)).alloc (.cells #[.int .i64 a, .int .i64 b, .slice A n c, .slice B m d] 26)
  have hs2 : w.heap.size + 2 ≤ w2.heap.size := by have := hG.size; omega
  replace hW := (hW.grown hG (by intro k hk; injection hk with hk; omega)).alloc (.cells #[.int .i64 a, .int .i64 b, .slice A n c, .slice B m d] 26)
  have hX := Blk.new w2 26 #[.int .i64 a, .int .i64 b, .slice A n c, .slice B m d] (g := w2.heap.size)
  replace hO := hO.keep ((Bl.refl w2).alloc (.cells #[.int .i64 a, .int .i64 b, .slice A n c, .slice B m d] 26))
  replace hP := hP.alloc (.cells #[.int .i64 a, .int .i64 b, .slice A n c, .slice B m d] 26)
  clear hC hG hs0 hs1
  have hC := hC2.keep ((Bl.refl w2).alloc (.cells #[.int .i64 a, .int .i64 b, .slice A n c, .slice B m d] 26))
  clear hC2
  have hsz : (w2.alloc (.cells #[.int .i64 a, .int .i64 b, .slice A n c, .slice B m d] 26)).heap.size = w2.heap.size + 1 := by simp
  have hX_l := hX.lt; have hX_f := hX.frozen; have hX_0 := hX.cell 0 _ rfl; have hX_1 := hX.cell 1 _ rfl; have hX_2 := hX.cell 2 _ rfl; have hX_3 := hX.cell 3 _ rfl
  go_wp2_with fail
  (try clear hX_l hX_f hX_0 hX_1 hX_2 hX_3)
  refine (cur_inputs _ (w.heap.size + 1) _ hC (by omega) a b A B n c m d).mono ?_
  rintro e w4 ⟨A1, n1, c1, l1, A2, n2, c2, l2, rfl, hn1, hn2, o1, o2, hC4, hG4⟩
  rw [hsz] at o1 o2
  replace hR := hR.grown hG4 (by intro e; injection e with e; omega)
  replace hX := hX.grown hG4 (by intro e; injection e with e; omega)
  replace hO := hO.cur hG4 (by omega)
  replace hP := hP.grownC hG4 (by omega)
  replace hW := hW.grown hG4 (by intro k hk; injection hk with hk; omega)
  clear hC hG4 hsz hC4
  have hl : w.heap.size < w.heap.size + 2 := by omega
  have hl1 : w.heap.size < w2.heap.size + 1 := by omega
  generalize w2.heap.size = x at hX hs2 o1 o2 hl1 ⊢
  have hX_l := hX.lt; have hX_f := hX.frozen; have hX_0 := hX.cell 0 _ rfl; have hX_1 := hX.cell 1 _ rfl; have hX_2 := hX.cell 2 _ rfl; have hX_3 := hX.cell 3 _ rfl
  have hR_l := hR.lt; have hR_f := hR.frozen; have hR_0 := hR.cell 0 _ rfl; have hR_1 := hR.cell 1 _ rfl; have hR_2 := hR.cell 2 _ rfl; have hR_3 := hR.cell 3 _ rfl
  go_wp2_with fail
  refine bodyPost_ret (v := .tuple #[.agg #[.int .i64 a, .int .i64 b, .slice A n c, .slice B m d], .slice P q pc, .slice A1 n1 c1, .slice A2 n2 c2]) (by simp only [results, Try.results35]; go_simp) rfl ⟨a, b, A, n, c, gl, B, m, d, ol, P, q, pc, pl, A1, n1, c1, l1, A2, n2, c2, l2, rfl, OwnC.mono ((((hO.low hl _).low hl _).low hl _).low hl _) (by omega), OwnI.mono ((((hP.low hl _).low hl _).low hl _).low hl _) (by omega), OwnI.mono ((((o1.low hl1 _).low hl1 _).low hl1 _).low hl1 _) (by omega), OwnI.mono ((((o2.low hl1 _).low hl1 _).low hl1 _).low hl1 _) (by omega), (((hW.setCell (p := ⟨w.heap.size, 0, none⟩) (Nat.le_refl _) _).setCell (p := ⟨w.heap.size, 1, none⟩) (Nat.le_refl _) _).setCell (p := ⟨w.heap.size, 2, none⟩) (Nat.le_refl _) _).setCell (p := ⟨w.heap.size, 3, none⟩) (Nat.le_refl _) _⟩
end Go.Proofs.Ytlmlffiajgofeaa
