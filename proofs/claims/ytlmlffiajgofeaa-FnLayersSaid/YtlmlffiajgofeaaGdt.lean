/- The contract of the gadget of products.
   Conditions: one to five wires a number. -/
import Derived.Test.YtlmlffiajgofeaaGda
import Derived.Test.YtlmlffiajgofeaaEvd
import Derived.Deep.AppendSrc
namespace Go.Proofs.Ytlmlffiajgofeaa
open Go.RowKit
set_option linter.unusedVariables false
section
variable {ops : Array Oper} {rest : List Oper} {o : Oper} {a : Act} {Q : Exit → Act → World → Prop} {w : World}
theorem addr_add (g i j : Nat) : (⟨g, i, none⟩ : Addr).add j = ⟨g, i + j, none⟩ := Addr.add_lit g i j
/-- append of one number onto all but the first of a row of the call's own, as a step of the walk. -/
theorem ap_tail (hgd : o.guard = none) {s x : Operand} (ho : o.op = .call { callee := .builtin .append, args := #[s, x], argTypes := #[24, 24] })
    {B g N c d : Nat} {row : List Int} {v : Int} {gx : Nat} (hs : a.eval s = .slice (some ⟨g, 1, none⟩) (N - 1) (c - 1)) (hown : OwnI B w (some ⟨g, 0, none⟩) N c row) (hN : 2 ≤ N) (hN5 : N ≤ 5)
    (hx : a.eval x = .slice (some ⟨gx, 0, none⟩) 1 d) (hr : w.cell? ⟨gx, 0, none⟩ = some (.int .i64 v))
    (h : ∀ S' c' w', RdI w' S' N c' (row.drop 1 ++ [v]) → (∀ k, S'.map (·.block) = some k → (k = g ∨ k = w.heap.size) ∧ k < w'.heap.size) → w.grownBy w' (some g) → w'.cell? ⟨g, 0, none⟩ = w.cell? ⟨g, 0, none⟩ →
      wpList Try.prog ops Q rest (a.put o.dst (.slice S' N c')) w') : wpList Try.prog ops Q (o :: rest) a w := by
  obtain ⟨i0, hi, hz0, hz1, hz2⟩ := info_parts int_info
  have hlen := hown.length
  have hle := hown.rd.le
  rcases hown.2 with ⟨hv, h0⟩ | ⟨g', cap, cur, hv, hBg, hh, hc, hm, hcs, hct⟩
  · omega
  injection hv with e1 e2 e3
  injection e1 with e1
  have e1 : g = g' := by injection e1
  subst e1; subst e3
  have hgl := (Array.getElem?_eq_some_iff.1 hh).1
  have hcell : ∀ j u, row[j]? = some u → w.cell? ⟨g, j, none⟩ = some (.int .i64 u) := by
    obtain ⟨g2, e, _, _, hc2, _⟩ := hown.form (by omega)
    injection e with e
    have e : g = g2 := by injection e
    subst e
    exact hc2
  have hfz : ∀ k, w.frozen? ⟨g, k, none⟩ = false := fun k => by simp [World.frozen?, hh]
  have hsrc : Src Try.prog i0.size 24 (.slice (some ⟨gx, 0, none⟩) 1 d) 1 [.int .i64 v] w := by
    refine Src.ofSlice w Try.underlying24 ⟨gx, 0, none⟩ 1 d [.int .i64 v] (by rw [hz1]; rfl) (fun j u hu => ?_) (by intro u hu; simp at hu; subst hu; rfl)
    match j, hu with
    | 0, hu => simp at hu; subst hu; rw [addr_add]; exact hr
    | j + 1, hu => simp at hu
  refine wpList_plain hgd fun K hK => ?_
  unfold Oper.wp execOp
  by_cases hroom : N < c
  · have hcur : cur.size = c := by simpa using hcs
    have hrun := run_append_room_src (P := Try.prog) w 24 24 o.type 3 i0 Try.underlying24 hi g 1 (N - 1) (c - 1) _ 1 _ hsrc (by omega)
      (by intro j hj; simp at hj; subst hj; rw [hz1, cell_of_row w g _ _ _ (0, 0) hh, Array.getElem?_eq_getElem (by omega)]; simp) (fun j hj => hfz _)
    rw [hz1] at hrun
    have e2 : N - 1 + 1 = N := by omega
    have e3 : 1 + (N - 1) * 1 = N := by omega
    rw [e2, e3] at hrun
    simp only [ho, resolve, invoke, builtin, Sem.run_bind, Sem.run_pure, Result.andThen_ok, List.map_toArray, List.map_cons, List.map_nil, hs, hx, hrun]
    refine hK _ _ (h (some ⟨g, 1, none⟩) (c - 1) (w.setCell ⟨g, N, none⟩ (.int .i64 v)) ⟨by simp [hlen]; try omega, by omega, by simp only [maxLen]; omega, fun hn => ⟨_, rfl, by simpa [World.setCell] using hgl, fun j u hu => ?_⟩⟩ (fun k hk => ?_) (grownBy_setCell _ _ _ _) ?_)
    · rw [addr_add, ints_get] at *
      by_cases hj : j < N - 1
      · rw [World.cell?_setCell_other _ _ _ _ (by intro e; injection e; omega)]
        rw [List.getElem?_append_left (by simp [hlen]; omega), List.getElem?_drop] at hu
        cases hx1 : row[1 + j]? with
        | none => rw [hx1] at hu; simp at hu
        | some u0 => rw [hx1] at hu; simp at hu; subst hu; exact hcell _ _ hx1
      · have hj2 : j = N - 1 := by
          rcases Nat.lt_or_ge j (row.drop 1 ++ [v]).length with h1 | h1
          · simp [hlen] at h1
            omega
          · rw [List.getElem?_eq_none h1] at hu
            simp at hu
        subst hj2
        rw [List.getElem?_append_right (by simp [hlen])] at hu
        simp [hlen] at hu
        subst hu
        rw [show 1 + (N - 1) = N by omega]
        exact World.cell?_setCell_same _ _ _ (by rw [cell_of_row w g _ _ _ (0, 0) hh, Array.getElem?_eq_getElem (by omega)]; first | done | rfl | simp)
    · simp at hk
      subst hk
      exact ⟨.inl rfl, by simpa [World.setCell] using hgl⟩
    · exact World.cell?_setCell_other _ _ _ _ (by intro e; injection e; omega)
  · have hcN : c = N := by omega
    subst hcN
    have hold : (Builtin.firstCells i0.size (c - 1) (.slice (some ⟨g, 1, none⟩) (c - 1) (c - 1))).run Try.prog w.drew = .ok (ints (row.drop 1)).toArray w.drew := by
      rw [hz1]
      refine run_firstCells_some w.drew 1 (c - 1) ⟨g, 1, none⟩ (c - 1) (c - 1) (ints (row.drop 1)) (by simp [hlen]) (fun j u hu => ?_)
      rw [addr_add]
      rw [ints_get, List.getElem?_drop] at hu
      cases hx1 : row[1 + j]? with
      | none => rw [hx1] at hu; simp at hu
      | some u0 => rw [hx1] at hu; simp at hu; subst hu; exact hcell _ _ hx1
    have hrun := run_append_grow_src (P := Try.prog) w 24 24 o.type 3 i0 _ Try.underlying24 hi hz0 (some ⟨g, 1, none⟩) (c - 1) (c - 1) (ints (row.drop 1)) hold _ 1 _ hsrc (by omega) (by omega)
      (by rw [hz2]; unfold Builtin.nextslicecap; split <;> (try split) <;> omega)
    have e2 : c - 1 + 1 = c := by omega
    rw [e2] at hrun
    have hge := grownCap_ge w c (c - 1) 3
    have hcm : grownCap w c (c - 1) 3 ≤ maxLen := grownCap_le_maxLen w c (c - 1) 3 (by simp only [maxLen]; omega)
    simp only [ho, resolve, invoke, builtin, Sem.run_bind, Sem.run_pure, Result.andThen_ok, List.map_toArray, List.map_cons, List.map_nil, hs, hx, hrun]
    refine hK _ _ (h (some ⟨w.heap.size, 0, none⟩) (grownCap w c (c - 1) 3) _ ⟨by simp [hlen]; omega, hge, hcm, fun hn => ⟨_, rfl, by simp, fun j u hu => ?_⟩⟩ (fun k hk => ?_) ⟨rfl, rfl, rfl, by simp, fun k hk _ => Below.heap_alloc w.drew _ k hk⟩ ?_)
    · rw [addr_add, Nat.zero_add, cell_of_row _ w.heap.size j _ _ (0, 0) (heap_alloc_new w.drew _)]
      have hj := (List.getElem?_eq_some_iff.1 hu).1
      rw [ints_append] at hu
      have e5 : [Value.int .i64 v] = ints [v] := rfl
      rw [e5, Array.getElem?_append_left (by simpa using hj)]
      simpa using hu
    · simp at hk
      subst hk
      exact ⟨.inr rfl, by simp⟩
    · exact World.cell?_of_block (a := ⟨g, 0, none⟩) (Below.heap_alloc w.drew _ g hgl)
end
theorem LI.app1 {w w' w0 : World} {x base : Nat} {a b : Int} {n : Nat} {A A0 S : Option Addr} {m c : Nat} {l : List Int} {o : Obj} (h : LI w0 w x base a b A0 A n S m c l) (hx : x < w0.heap.size) (hg : (w.alloc o).grownBy w' (S.map (·.block))) :
    MS w' x base a b n A ∧ Fm w0 w' x A0 A := by
  have hB : Bl w (w.alloc o) := (Bl.refl w).alloc o
  have hs := h.fm.size
  have hl := h.ms.lt
  refine ⟨(h.ms.keep hB).grown hg (fun k e => h.ap k e), ⟨Nat.le_trans h.fm.size (Nat.le_trans hB.size hg.size), fun k hk h1 h2 => ?_, h.fm.row, (h.fm.low.trans (Below.mono hB (by omega))).grown hg (by have := hB.size; omega) (fun k e => by have := (h.own.blk k e).1; omega)⟩⟩
  rw [hg.block k (by have := hB.size; omega) (fun e => by have := (h.own.blk k e.symm).1; omega), hB.block k (by omega)]
  exact h.fm.kept k hk h1 h2
/-- What the product's call leaves. -/
def TimP (w : World) (x base : Nat) (a b : Int) (n : Nat) (A : Option Addr) (e : Ending) (w' : World) : Prop := ∃ A' n' S m c l, e = .returned (.slice S m c) ∧ m ≤ 10 ∧ n' ≤ n + 210 ∧ LI w w' x base a b A A' n' S m c l
theorem timP {w w' : World} {x base : Nat} {a b : Int} {n n' : Nat} {A A' S : Option Addr} {m c : Nat} {l : List Int} (h0 : m ≤ 10) (h1 : n' ≤ n + 210) (h2 : LI w w' x base a b A A' n' S m c l) : TimP w x base a b n A (.returned (.slice S m c)) w' := ⟨A', n', S, m, c, l, rfl, h0, h1, h2⟩
/-- At the head of a round: the first digits and the rest. -/
def TmI (w wr : World) (x base : Nat) (a b : Int) (A A1 : Option Addr) (n1 N k : Nat) (So : Option Addr) (mo co : Nat) (Ss : Option Addr) (ms cs : Nat) : Prop :=
  (k = 0 ∧ So = none ∧ mo = 0 ∧ co = 0 ∧ Ss = none ∧ ms = 0 ∧ cs = 0 ∧ MS wr x base a b n1 A1 ∧ Fm w wr x A A1) ∨
  (k = 1 ∧ ∃ g c row, LI w wr x base a b A A1 n1 (some ⟨g, 0, none⟩) N c row ∧ So = some ⟨g, 0, none⟩ ∧ mo = 1 ∧ co = c ∧ Ss = (if c = 1 then some ⟨g, 0, none⟩ else some ⟨g, 1, none⟩) ∧ ms = N - 1 ∧ cs = c - 1) ∨
  (2 ≤ k ∧ k = mo ∧ N = ms ∧ MS wr x base a b n1 A1 ∧ Fm w wr x A A1 ∧ ∃ lo ls, Lx wr x A1 So mo co lo ∧ Lx wr x A1 Ss N cs ls)
theorem own_head {B : Nat} {w : World} {g N c : Nat} {row : List Int} (h : OwnI B w (some ⟨g, 0, none⟩) N c row) (hN : 0 < N) : ∃ v, row = v :: row.drop 1 ∧ w.cell? ⟨g, 0, none⟩ = some (.int .i64 v) := by
  have hlen := h.length
  cases row with
  | nil => simp at hlen; omega
  | cons v r =>
    obtain ⟨g2, e, _, _, hc2, _⟩ := h.form hN
    injection e with e
    have e : g = g2 := by injection e
    subst e
    exact ⟨v, rfl, hc2 0 v rfl⟩
theorem rd_one {w : World} {g c : Nat} {v : Int} (hg : g < w.heap.size) (hc : 1 ≤ c ∧ c ≤ 9223372036854775807) (h : w.cell? ⟨g, 0, none⟩ = some (.int .i64 v)) : RdI w (some ⟨g, 0, none⟩) 1 c [v] := by
  refine ⟨rfl, hc.1, by simp only [maxLen]; omega, fun _ => ⟨_, rfl, hg, fun j u hu => ?_⟩⟩
  match j, hu with
  | 0, hu => simp [ints] at hu; subst hu; rw [addr_add]; exact h
  | j + 1, hu => simp [ints] at hu
theorem RdI.tl {w : World} {g n c : Nat} {l : List Int} (h : RdI w (some ⟨g, 0, none⟩) (n + 1) c l) (hc : ¬ c = 1) : RdI w (some ⟨g, 1, none⟩) n (c - 1) (l.drop 1) := by
  have := Rd.cut h (k := 1) (by omega)
  rw [if_neg hc] at this
  unfold RdI
  rw [show ints (l.drop 1) = (ints l).drop (1 * 1) by simp [ints]]
  simpa [addr_add] using this
/-- A list of the call's own is a list apart. -/
theorem LI.lx0 {w w0 : World} {x base : Nat} {a b : Int} {n : Nat} {A A0 S : Option Addr} {m c : Nat} {l : List Int} {S' : Option Addr} {m' c' : Nat} {l' : List Int} (h : LI w0 w x base a b A0 A n S m c l) (hr : RdI w S' m' c' l') (hS : S'.map (·.block) = S.map (·.block)) : Lx w x A S' m' c' l' :=
  ⟨hr, fun k hk => by rw [hS] at hk; exact ⟨(h.own.blk k hk).2, h.ap k hk⟩⟩
set_option maxRecDepth 20000 in
set_option maxHeartbeats 8000000 in
theorem spec_gdTimes {w : World} {x base : Nat} {a b : Int} {n : Nat} {A : Option Addr} (h : MS w x base a b n A) (ha : 0 ≤ a ∧ a ≤ 100) (hb : 0 ≤ b ∧ b ≤ 100) (Sa Sb : Option Addr) (N ca cb : Nat) (la lb : List Int) (hLa : Lx w x A Sa N ca la) (hLb : Lx w x A Sb N cb lb) (hN : N ≤ 5) (hN0 : 0 < N) (hn : n ≤ 100) :
    Calls Try.prog 143 #[.pointer (some ⟨x, 0, none⟩), .slice Sa N ca, .slice Sb N cb] w (TimP w x base a b n A) := by
  have hxl := h.lt
  go_enter Try.func143, Try.ntmps143
  go_wp2_with fail
  go_loopw [7, 8, 17] (fun o s i wr => ∃ (k n1 : Nat) (A1 So : Option Addr) (mo co : Nat) (Ss : Option Addr) (ms cs : Nat), k ≤ N ∧ o = .slice So mo co ∧ s = .slice Ss ms cs ∧ i = .int .i64 k ∧ n1 ≤ n + 42 * k ∧ TmI w wr x base a b A A1 n1 N k So mo co Ss ms cs) (fun _ _ i _ => N - (intOf i).toNat)
  case atStart => exact ⟨0, n, A, none, 0, 0, none, 0, 0, by omega, rfl, rfl, rfl, by omega, .inl ⟨rfl, rfl, rfl, rfl, rfl, rfl, rfl, h, Fm.refl _ _ _⟩⟩
  case round =>
    clear h
    obtain ⟨k, nq, Aq, So, mo, co, Ss, ms, cs, hk, rfl, rfl, hi, hnq, hT⟩ := hrel
    by_cases hlt : k < N
    · have ik : (k : Int) < N := by omega
      obtain ⟨adb, vb, rfl, hvb⟩ := hLb.at_ hlt
      rcases hT with ⟨hk0, rfl, rfl, rfl, rfl, rfl, rfl, hmq, hfq⟩ | ⟨hk0, g, c0, row, hR, rfl, rfl, rfl, rfl, rfl, rfl⟩ | ⟨hk2, rfl, rfl, hmq, hfq, lo, ls, hOq, hSq⟩
      · have hvb1 := hvb _ _ hfq
        subst hk0
        rw [show adb.add 0 = adb by simp [Addr.add]] at hvb1
        replace hi : _ = Value.int .i64 0 := hi
        subst hi
        replace ik : (0 : Int) < N := ik
        have hxq := hmq.lt
        clear hvb hLb
        go_wp2_with fail
        have hLaq := hLa.fm hfq
        have hL0 := LI.start hmq
        go_loopw [12, 34] (fun o i wy => ∃ (j n2 c : Nat) (A2 S : Option Addr) (l : List Int), j ≤ N ∧ o = .slice S j c ∧ i = .int .i64 j ∧ n2 ≤ nq + j ∧ LI wr wy x base a b Aq A2 n2 S j c l) (fun _ i _ => N - (intOf i).toNat)
        case atStart => exact ⟨0, nq, 0, Aq, none, [], by omega, rfl, rfl, by omega, hL0⟩
        case round =>
          clear hL0
          obtain ⟨j, n2, c, A2, S, l, hj, rfl, rfl, hn2, hL⟩ := hrel
          by_cases hjlt : j < N
          · have ij : (j : Int) < N := by omega
            obtain ⟨ada, va, rfl, hva⟩ := hLaq.at_ hjlt
            have hva1 := hva _ _ hL.fm
            have HN := Lib.hid hn2
            clear hva hLaq
            go_wp2_with (first | (go_at_call 136; refine (mk_and hL.ms ha hb (by omega) _ _).mono ?_; rintro e wz ⟨A9, v9, rfl, hm9, hf9⟩; replace hL := hL.step hm9 hf9; clear hm9 hf9) | (at_builtin; refine ap_int rfl rfl rfl (hL.own.alloc _) rfl (rd_new1 _ _ _) (by omega) (by have := hL.fm.size; simp; omega) ?_; intro S9 c9 wz ho9 hg9 hat9; replace hL := hL.app hxq ho9 hg9 hat9; clear ho9 hg9 hat9))
            go_roundw
            case rel => exact ⟨j + 1, _, _, _, _, _, by omega, rfl, by go_num, by have := HN.out; omega, hL⟩
            case measure => simp [intOf]; omega
          · have ij : ¬ ((j : Int) < N) := by omega
            have hjn : j = N := by omega
            subst hjn
            obtain ⟨g, rfl, hg1, hg2, hgc, hgf⟩ := hL.own.form hN0
            have hle := hL.own.rd.le
            have i1 : (1 : Int) ≤ j := by omega
            have i2 : (1 : Int) ≤ c := by omega
            have i3 : (j : Int) ≤ c := by omega
            have hT : LI w _ x base a b A A2 n2 (some ⟨g, 0, none⟩) j c l := ⟨hL.ms, hfq.trans hL.fm, hL.own.mono hfq.size, hL.ap⟩
            have HN := Lib.hid hn2
            clear hgc hgf hg1 hg2 hL
            by_cases hc1 : c = 1
            · subst hc1
              go_wp2_with fail
              go_roundw
              case rel => exact ⟨1, n2, A2, _, 1, 1, _, j - 1, 0, by omega, rfl, by rw [if_pos rfl, show j - 1 = 0 by omega], by go_num, by have := HN.out; omega, .inr (.inl ⟨rfl, g, 1, l, hT, rfl, rfl, rfl, rfl, rfl, rfl⟩)⟩
              case measure => simp [intOf]; omega
            · go_wp2_with fail
              go_roundw
              case rel => exact ⟨1, n2, A2, _, 1, c, _, j - 1, c - 1, by omega, rfl, rfl, by go_num, by have := HN.out; omega, .inr (.inl ⟨rfl, g, c, l, hT, rfl, rfl, rfl, by rw [if_neg hc1], rfl, rfl⟩)⟩
              case measure => simp [intOf]; omega
      · have hvb1 := hvb _ _ hR.fm
        subst hk0
        rw [show adb.add 1 = ⟨adb.block, adb.off + 1, none⟩ by unfold Addr.add; rw [if_neg (by omega)]] at hvb1
        replace hi : _ = Value.int .i64 1 := hi
        subst hi
        replace ik : (1 : Int) < N := ik
        have hle := hR.own.rd.le
        have hc1 : ¬ co = 1 := by omega
        rw [if_neg hc1]
        clear hvb hLb
        go_wp2_with (first
          | (go_at_call 133; refine (mk_one hR.ms ha hb (by omega)).mono ?_; rintro e wz ⟨A9, v9, rfl, hm9, hf9⟩; replace hR := hR.step hm9 hf9; clear hm9 hf9)
          | (go_at_call 134; refine (mk_not hR.ms ha hb (by omega) _).mono ?_; rintro e wz ⟨A9, v9, rfl, hm9, hf9⟩; replace hR := hR.step hm9 hf9; clear hm9 hf9)
          | (at_builtin; refine ap_tail rfl rfl rfl (hR.own.alloc _) (by omega) hN rfl (Blk.cell (Blk.new _ _ _) 0 _ rfl) ?_; intro Ss cs wq hSr hSb hSg hSc))
        obtain ⟨v1, hvc, hv0⟩ := own_head hR.own hN0
        have hxa := hR.app1 hxl hSg
        have hgz := (hR.own.blk g rfl).2
        have hqz := Nat.le_trans ((Bl.refl _).alloc (.cells #[.int .i64 v9] 3)).size hSg.size
        have hmq := hxa.1
        have hfq := hxa.2
        have hxq := hmq.lt
        have hOq := Lx.mk (x := x) (A := A9) (rd_one (w := wq) (c := co) (Nat.lt_of_lt_of_le hgz hqz) (by omega) (hSc.trans (Bl.cells ((Bl.refl _).alloc _) hv0))) (fun q hq => by
          simp at hq
          subst hq
          exact ⟨Nat.lt_of_lt_of_le hgz hqz, hR.ap _ rfl⟩)
        have hSq := Lx.mk (x := x) (A := A9) hSr (fun q hq => by
          obtain ⟨h1 | h1, h2⟩ := hSb q hq
          · subst h1
            exact ⟨h2, hR.ap _ rfl⟩
          · simp at h1
            refine ⟨h2, by have := hR.ms.lt; omega, fun e => ?_⟩
            have := (hR.ms.at_ q e).2
            omega)
        have HQ := Lib.hid hnq
        clear hxa hR hSr hSb hSg hSc hv0 hvc
        have hLaq := hLa.fm hfq
        have hL0 := LI.start hmq
        go_loopw [12, 34] (fun o i wy => ∃ (j n2 c : Nat) (A2 S : Option Addr) (l : List Int), j ≤ N ∧ o = .slice S j c ∧ i = .int .i64 j ∧ n2 ≤ nq + 1 + 1 + j ∧ LI wq wy x base a b A9 A2 n2 S j c l) (fun _ i _ => N - (intOf i).toNat)
        case atStart => exact ⟨0, nq + 1 + 1, 0, A9, none, [], by omega, rfl, rfl, by omega, hL0⟩
        case round =>
          clear hL0
          obtain ⟨j, n2, c, A2, S, l, hj, rfl, rfl, hn2, hL⟩ := hrel
          by_cases hjlt : j < N
          · have ij : (j : Int) < N := by omega
            obtain ⟨ada, va, rfl, hva⟩ := hLaq.at_ hjlt
            have hva1 := hva _ _ hL.fm
            have HN := Lib.hid hn2; have HQ2 := HQ.out
            clear hva hLaq
            go_wp2_with (first | (go_at_call 136; refine (mk_and hL.ms ha hb (by omega) _ _).mono ?_; rintro e wz ⟨A9, v9, rfl, hm9, hf9⟩; replace hL := hL.step hm9 hf9; clear hm9 hf9) | (at_builtin; refine ap_int rfl rfl rfl (hL.own.alloc _) rfl (rd_new1 _ _ _) (by omega) (by have := hL.fm.size; simp; omega) ?_; intro S9 c9 wz ho9 hg9 hat9; replace hL := hL.app hxq ho9 hg9 hat9; clear ho9 hg9 hat9))
            go_roundw
            case rel => exact ⟨j + 1, _, _, _, _, _, by omega, rfl, by go_num, by have := HN.out; omega, hL⟩
            case measure => simp [intOf]; omega
          · have ij : ¬ ((j : Int) < N) := by omega
            have hjn : j = N := by omega
            subst hjn
            have HN := Lib.hid hn2; have HQ2 := HQ.out
            clear hn2
            have hSl := hSq.fm hL.fm
            have hOl := hOq.fm hL.fm
            have hfl := hfq.trans hL.fm
            have hRl := hL.lx
            have hml := hL.ms
            have hn2b : n2 ≤ 600 := by have := HN.out; omega
            clear hL
            go_wp2_with (go_at_call 139; refine (spec_gdAdd hml ha hb Ss S j cs c (row.drop 1 ++ [v9]) l hSl hRl (by omega) hn2b).mono ?_; rintro e w3 ⟨A3, n3, S3, c3, l3, rfl, hn3, hL3⟩)
            have HN3 := Lib.hid hn3
            clear hn3
            obtain ⟨g3, rfl, hg1, hg2, hgc, hgf⟩ := hL3.own.form (by omega)
            have hle := hL3.own.rd.le
            have hc1 : ¬ c3 = 1 := by omega
            have i2 : (1 : Int) ≤ c3 := by omega
            have i1 : (1 : Int) ≤ ((j + 1 : Nat) : Int) := by omega
            have i3 : ((j + 1 : Nat) : Int) ≤ c3 := by omega
            obtain ⟨v0, hvc, hv0⟩ := own_head hL3.own (by omega)
            have hO3 := hOl.fm hL3.fm
            have hS3 := hL3.lx0 (hL3.own.rd.tl hc1) rfl
            have hM3 := hL3.ms
            have hF3 := hfl.trans hL3.fm
            clear hL3 hgc hgf hg1 hg2 hSl hOl hRl hml hfl hSq hOq
            refine wp_region_held_drew (S := (fun w' => w'.cell? ⟨g3, 0, none⟩ = some (.int .i64 v0))) (by kernel_rfl) ?_ (fun hHeld => ?_)
            · (try dsimp only); exact Bl.cells (by (repeat (first | assumption | with_reducible exact Bl.refl _ | with_reducible refine Bl.drewN ?_ _ | with_reducible refine Bl.drew ?_ | with_reducible refine Bl.alloc ?_ _ | (with_reducible refine Bl.call ?_ (by assumption))))) hv0
            refine held_take (i := 0) (d := 56) (v := ?_) rfl rfl (by kernel_rfl) (by kernel_rfl) (by kernel_rfl) (fun _ _ _ h => h) (Or.inl ⟨by rfl, ?_⟩) (by assumption) ?_
            rotate_left
            · (intro w hSw; (try dsimp only at hSw); go_simp; (try with_reducible rfl))
            (try simp only [List.set_cons_zero, List.set_cons_succ])
            refine held_take (i := 2) (d := 58) (v := ?_) rfl rfl (by kernel_rfl) (by kernel_rfl) (by kernel_rfl) (fun _ _ _ h => h) (Or.inl ⟨by rfl, ?_⟩) (by assumption) ?_
            rotate_left
            · (intro w hSw; (try dsimp only at hSw); go_simp; (try with_reducible rfl))
            (try simp only [List.set_cons_zero, List.set_cons_succ])
            refine held_take (i := 3) (d := 59) (v := ?_) rfl rfl (by kernel_rfl) (by kernel_rfl) (by kernel_rfl) (fun _ _ _ h => h) (Or.inl ⟨by rfl, ?_⟩) (by assumption) ?_
            rotate_left
            · (intro w hSw; (try dsimp only at hSw); go_simp; (try with_reducible rfl))
            (try simp only [List.set_cons_zero, List.set_cons_succ])
            refine held_take (i := 4) (d := 60) (v := ?_) rfl rfl (by kernel_rfl) (by kernel_rfl) (by kernel_rfl) (fun _ _ _ h => h) (Or.inl ⟨by rfl, ?_⟩) (by assumption) ?_
            rotate_left
            · (intro w hSw; (try dsimp only at hSw); go_simp; (try with_reducible rfl))
            (try simp only [List.set_cons_zero, List.set_cons_succ])
            refine wpAnyH_ready (rs := [1, 5]) (by kernel_rfl) (by simp) ?_
            refine AllReadyH.cons rfl (fun K hK => ?_) (AllReadyH.cons rfl (fun K hK => ?_) AllReadyH.nil)
            · go_simp
              (refine (spec_l1Own (some ⟨g, 0, none⟩) 1 co [v1] _ (hO3.rd.keep (by (repeat (first | assumption | with_reducible exact Bl.refl _ | with_reducible refine Bl.drewN ?_ _ | with_reducible refine Bl.drew ?_ | with_reducible refine Bl.alloc ?_ _ | (with_reducible refine Bl.call ?_ (by assumption)))))) (by omega)).mono ?_; rintro e w4 ⟨A4, c4, rfl, ho4, hb4⟩)
              go_wp2_with fail
              refine hK.out _ _ ?_ (fun hHeld => ?_)
              · (try dsimp only); exact Bl.cells (by (repeat (first | assumption | with_reducible exact Bl.refl _ | with_reducible refine Bl.drewN ?_ _ | with_reducible refine Bl.drew ?_ | with_reducible refine Bl.alloc ?_ _ | (with_reducible refine Bl.call ?_ (by assumption))))) hv0
              clear hK K
              (try simp only [Act.put]); (try simp only [List.setIfInBounds_toArray]); (try simp only [List.set_cons_succ]); (try simp only [List.set_cons_zero])
              refine wpAnyH_ready (rs := [5]) (by kernel_rfl) (by simp) ?_
              refine AllReadyH.cons rfl (fun K hK => ?_) AllReadyH.nil
              go_simp
              refine hK.out _ _ ?_ (fun hHeld => ?_)
              · (try dsimp only); exact Bl.cells (by (repeat (first | assumption | with_reducible exact Bl.refl _ | with_reducible refine Bl.drewN ?_ _ | with_reducible refine Bl.drew ?_ | with_reducible refine Bl.alloc ?_ _ | (with_reducible refine Bl.call ?_ (by assumption))))) hv0
              clear hK K
              (try simp only [Act.put]); (try simp only [List.setIfInBounds_toArray]); (try simp only [List.set_cons_succ]); (try simp only [List.set_cons_zero])
              refine wpAnyH_ready (rs := [6]) (by kernel_rfl) (by simp) ?_
              refine AllReadyH.cons rfl (fun K hK => ?_) AllReadyH.nil
              (refine ap_int_step (l' := [v0]) rfl rfl rfl (ho4.alloc _) rfl (rd_new1 _ _ _) (by omega) (Bl.sz (hb4.alloc _)) ?_; intro A9 c9 w9 ho9 hg9 hat9; have hb9 : Bl w3 w9 := Bl.grown (((Bl.refl w3).drew.call hb4).alloc _) hg9 (fun k hk => (ho4.blk k hk).1); replace ho9 := ho9.mono (base' := w3.heap.size) (Nat.le_refl _))
              refine hK.out _ _ ?_ (fun hHeld => ?_)
              · (try dsimp only); exact Bl.cells (by (repeat (first | assumption | with_reducible exact Bl.refl _ | with_reducible refine Bl.drewN ?_ _ | with_reducible refine Bl.drew ?_ | with_reducible refine Bl.alloc ?_ _ | (with_reducible refine Bl.call ?_ (by assumption))))) hv0
              clear hK K
              (try simp only [Act.put]); (try simp only [List.setIfInBounds_toArray]); (try simp only [List.set_cons_succ]); (try simp only [List.set_cons_zero])
              refine held_take (i := 7) (d := 7) (v := ?_) rfl rfl (by kernel_rfl) (by kernel_rfl) (by kernel_rfl) (fun _ _ _ h => h) (Or.inl ⟨by rfl, ?_⟩) (by assumption) ?_
              rotate_left
              · (intro w hSw; (try dsimp only at hSw); go_simp; (try with_reducible rfl))
              (try simp only [List.set_cons_zero, List.set_cons_succ])
              refine wpAnyH_done (by kernel_rfl) ?_ _
              clear hv0 hvc
              have hX9 : Lx w9 x A3 A9 (1 + 1) c9 _ := ⟨ho9.rd, fun q hq => ⟨(ho9.blk q hq).2, by have := (ho9.blk q hq).1; have := hM3.lt; omega, fun e => by have := (ho9.blk q hq).1; have := (hM3.at_ q e).2; omega⟩⟩
              have hS9 := (hS3.keep hb9)
              have hM9 := hM3.keep hb9
              have hF9 := hF3.grew hb9 (Nat.le_of_lt hM3.lt)
              clear hO3 hS3 hM3 hF3
              go_wp2_with fail
              go_roundw
              case rel => exact ⟨2, n3, A3, A9, 1 + 1, c9, _, j, c3 - 1, by omega, rfl, rfl, by go_num, by have := HN.out; have := HN3.out; omega, .inr (.inr ⟨by omega, by omega, rfl, hM9, hF9, _, _, hX9, hS9⟩)⟩
              case measure => simp [intOf]; omega
            · go_simp
              refine hK.out _ _ ?_ (fun hHeld => ?_)
              · (try dsimp only); exact Bl.cells (by (repeat (first | assumption | with_reducible exact Bl.refl _ | with_reducible refine Bl.drewN ?_ _ | with_reducible refine Bl.drew ?_ | with_reducible refine Bl.alloc ?_ _ | (with_reducible refine Bl.call ?_ (by assumption))))) hv0
              clear hK K
              (try simp only [Act.put]); (try simp only [List.setIfInBounds_toArray]); (try simp only [List.set_cons_succ]); (try simp only [List.set_cons_zero])
              refine wpAnyH_ready (rs := [1]) (by kernel_rfl) (by simp) ?_
              refine AllReadyH.cons rfl (fun K hK => ?_) AllReadyH.nil
              go_simp
              (refine (spec_l1Own (some ⟨g, 0, none⟩) 1 co [v1] _ (hO3.rd.keep (by (repeat (first | assumption | with_reducible exact Bl.refl _ | with_reducible refine Bl.drewN ?_ _ | with_reducible refine Bl.drew ?_ | with_reducible refine Bl.alloc ?_ _ | (with_reducible refine Bl.call ?_ (by assumption)))))) (by omega)).mono ?_; rintro e w4 ⟨A4, c4, rfl, ho4, hb4⟩)
              go_wp2_with fail
              refine hK.out _ _ ?_ (fun hHeld => ?_)
              · (try dsimp only); exact Bl.cells (by (repeat (first | assumption | with_reducible exact Bl.refl _ | with_reducible refine Bl.drewN ?_ _ | with_reducible refine Bl.drew ?_ | with_reducible refine Bl.alloc ?_ _ | (with_reducible refine Bl.call ?_ (by assumption))))) hv0
              clear hK K
              (try simp only [Act.put]); (try simp only [List.setIfInBounds_toArray]); (try simp only [List.set_cons_succ]); (try simp only [List.set_cons_zero])
              refine wpAnyH_ready (rs := [6]) (by kernel_rfl) (by simp) ?_
              refine AllReadyH.cons rfl (fun K hK => ?_) AllReadyH.nil
              (refine ap_int_step (l' := [v0]) rfl rfl rfl ho4 rfl ((rd_new1 _ _ _).drew.keep hb4) (by omega) hb4.size ?_; intro A9 c9 w9 ho9 hg9 hat9; have hsz4 := Bl.sz (((Bl.refl w3).alloc (.cells #[.int .i64 v0] 3)).drew); have hb9 : Bl w3 w9 := Bl.grown (((Bl.refl w3).alloc _).drew.call hb4) hg9 (fun k hk => Nat.le_trans hsz4 (ho4.blk k hk).1); replace ho9 := ho9.mono (base' := w3.heap.size) hsz4)
              refine hK.out _ _ ?_ (fun hHeld => ?_)
              · (try dsimp only); exact Bl.cells (by (repeat (first | assumption | with_reducible exact Bl.refl _ | with_reducible refine Bl.drewN ?_ _ | with_reducible refine Bl.drew ?_ | with_reducible refine Bl.alloc ?_ _ | (with_reducible refine Bl.call ?_ (by assumption))))) hv0
              clear hK K
              (try simp only [Act.put]); (try simp only [List.setIfInBounds_toArray]); (try simp only [List.set_cons_succ]); (try simp only [List.set_cons_zero])
              refine held_take (i := 7) (d := 7) (v := ?_) rfl rfl (by kernel_rfl) (by kernel_rfl) (by kernel_rfl) (fun _ _ _ h => h) (Or.inl ⟨by rfl, ?_⟩) (by assumption) ?_
              rotate_left
              · (intro w hSw; (try dsimp only at hSw); go_simp; (try with_reducible rfl))
              (try simp only [List.set_cons_zero, List.set_cons_succ])
              refine wpAnyH_done (by kernel_rfl) ?_ _
              clear hv0 hvc
              have hX9 : Lx w9 x A3 A9 (1 + 1) c9 _ := ⟨ho9.rd, fun q hq => ⟨(ho9.blk q hq).2, by have := (ho9.blk q hq).1; have := hM3.lt; omega, fun e => by have := (ho9.blk q hq).1; have := (hM3.at_ q e).2; omega⟩⟩
              have hS9 := (hS3.keep hb9)
              have hM9 := hM3.keep hb9
              have hF9 := hF3.grew hb9 (Nat.le_of_lt hM3.lt)
              clear hO3 hS3 hM3 hF3
              go_wp2_with fail
              go_roundw
              case rel => exact ⟨2, n3, A3, A9, 1 + 1, c9, _, j, c3 - 1, by omega, rfl, rfl, by go_num, by have := HN.out; have := HN3.out; omega, .inr (.inr ⟨by omega, by omega, rfl, hM9, hF9, _, _, hX9, hS9⟩)⟩
              case measure => simp [intOf]; omega
      · subst hi
        have hvb1 := hvb _ _ hfq
        have e1 : ((k : Int) == 1) = false := by simp; omega
        have e0 : ((k : Int) == 0) = false := by simp; omega
        have hxq := hmq.lt
        clear hvb hLb
        go_wp2_with fail
        have hLaq := hLa.fm hfq
        have hL0 := LI.start hmq
        go_loopw [12, 34] (fun o i wy => ∃ (j n2 c : Nat) (A2 S : Option Addr) (l : List Int), j ≤ N ∧ o = .slice S j c ∧ i = .int .i64 j ∧ n2 ≤ nq + j ∧ LI wr wy x base a b Aq A2 n2 S j c l) (fun _ i _ => N - (intOf i).toNat)
        case atStart => exact ⟨0, nq, 0, Aq, none, [], by omega, rfl, rfl, by omega, hL0⟩
        case round =>
          clear hL0
          obtain ⟨j, n2, c, A2, S, l, hj, rfl, rfl, hn2, hL⟩ := hrel
          by_cases hjlt : j < N
          · have ij : (j : Int) < N := by omega
            obtain ⟨ada, va, rfl, hva⟩ := hLaq.at_ hjlt
            have hva1 := hva _ _ hL.fm
            have HN := Lib.hid hn2
            clear hva hLaq
            go_wp2_with (first | (go_at_call 136; refine (mk_and hL.ms ha hb (by omega) _ _).mono ?_; rintro e wz ⟨A9, v9, rfl, hm9, hf9⟩; replace hL := hL.step hm9 hf9; clear hm9 hf9) | (at_builtin; refine ap_int rfl rfl rfl (hL.own.alloc _) rfl (rd_new1 _ _ _) (by omega) (by have := hL.fm.size; simp; omega) ?_; intro S9 c9 wz ho9 hg9 hat9; replace hL := hL.app hxq ho9 hg9 hat9; clear ho9 hg9 hat9))
            go_roundw
            case rel => exact ⟨j + 1, _, _, _, _, _, by omega, rfl, by go_num, by have := HN.out; omega, hL⟩
            case measure => simp [intOf]; omega
          · have ij : ¬ ((j : Int) < N) := by omega
            have hjn : j = N := by omega
            subst hjn
            have HN := Lib.hid hn2
            clear hn2
            have hSl := hSq.fm hL.fm
            have hOl := hOq.fm hL.fm
            have hfl := hfq.trans hL.fm
            have hRl := hL.lx
            have hml := hL.ms
            have hn2b : n2 ≤ 600 := by have := HN.out; omega
            clear hL
            go_wp2_with (go_at_call 139; refine (spec_gdAdd hml ha hb Ss S j cs c ls l hSl hRl (by omega) hn2b).mono ?_; rintro e w3 ⟨A3, n3, S3, c3, l3, rfl, hn3, hL3⟩)
            have HN3 := Lib.hid hn3
            clear hn3
            obtain ⟨g3, rfl, hg1, hg2, hgc, hgf⟩ := hL3.own.form (by omega)
            have hle := hL3.own.rd.le
            have hc1 : ¬ c3 = 1 := by omega
            have i2 : (1 : Int) ≤ c3 := by omega
            have i1 : (1 : Int) ≤ ((j + 1 : Nat) : Int) := by omega
            have i3 : ((j + 1 : Nat) : Int) ≤ c3 := by omega
            obtain ⟨v0, hvc, hv0⟩ := own_head hL3.own (by omega)
            have hO3 := hOl.fm hL3.fm
            have hS3 := hL3.lx0 (hL3.own.rd.tl hc1) rfl
            have hM3 := hL3.ms
            have hF3 := hfl.trans hL3.fm
            clear hL3 hgc hgf hg1 hg2 hSl hOl hRl hml hfl hSq hOq
            refine wp_region_held_drew (S := (fun w' => w'.cell? ⟨g3, 0, none⟩ = some (.int .i64 v0))) (by kernel_rfl) ?_ (fun hHeld => ?_)
            · (try dsimp only); exact Bl.cells (by (repeat (first | assumption | with_reducible exact Bl.refl _ | with_reducible refine Bl.drewN ?_ _ | with_reducible refine Bl.drew ?_ | with_reducible refine Bl.alloc ?_ _ | (with_reducible refine Bl.call ?_ (by assumption))))) hv0
            refine held_take (i := 0) (d := 56) (v := ?_) rfl rfl (by kernel_rfl) (by kernel_rfl) (by kernel_rfl) (fun _ _ _ h => h) (Or.inl ⟨by rfl, ?_⟩) (by assumption) ?_
            rotate_left
            · (intro w hSw; (try dsimp only at hSw); go_simp; (try with_reducible rfl))
            (try simp only [List.set_cons_zero, List.set_cons_succ])
            refine held_take (i := 2) (d := 58) (v := ?_) rfl rfl (by kernel_rfl) (by kernel_rfl) (by kernel_rfl) (fun _ _ _ h => h) (Or.inl ⟨by rfl, ?_⟩) (by assumption) ?_
            rotate_left
            · (intro w hSw; (try dsimp only at hSw); go_simp; (try with_reducible rfl))
            (try simp only [List.set_cons_zero, List.set_cons_succ])
            refine held_take (i := 3) (d := 59) (v := ?_) rfl rfl (by kernel_rfl) (by kernel_rfl) (by kernel_rfl) (fun _ _ _ h => h) (Or.inl ⟨by rfl, ?_⟩) (by assumption) ?_
            rotate_left
            · (intro w hSw; (try dsimp only at hSw); go_simp; (try with_reducible rfl))
            (try simp only [List.set_cons_zero, List.set_cons_succ])
            refine held_take (i := 4) (d := 60) (v := ?_) rfl rfl (by kernel_rfl) (by kernel_rfl) (by kernel_rfl) (fun _ _ _ h => h) (Or.inl ⟨by rfl, ?_⟩) (by assumption) ?_
            rotate_left
            · (intro w hSw; (try dsimp only at hSw); go_simp; (try with_reducible rfl))
            (try simp only [List.set_cons_zero, List.set_cons_succ])
            refine wpAnyH_ready (rs := [1, 5]) (by kernel_rfl) (by simp) ?_
            refine AllReadyH.cons rfl (fun K hK => ?_) (AllReadyH.cons rfl (fun K hK => ?_) AllReadyH.nil)
            · go_simp
              (refine (spec_l1Own So k co lo _ (hO3.rd.keep (by (repeat (first | assumption | with_reducible exact Bl.refl _ | with_reducible refine Bl.drewN ?_ _ | with_reducible refine Bl.drew ?_ | with_reducible refine Bl.alloc ?_ _ | (with_reducible refine Bl.call ?_ (by assumption)))))) (by omega)).mono ?_; rintro e w4 ⟨A4, c4, rfl, ho4, hb4⟩)
              go_wp2_with fail
              refine hK.out _ _ ?_ (fun hHeld => ?_)
              · (try dsimp only); exact Bl.cells (by (repeat (first | assumption | with_reducible exact Bl.refl _ | with_reducible refine Bl.drewN ?_ _ | with_reducible refine Bl.drew ?_ | with_reducible refine Bl.alloc ?_ _ | (with_reducible refine Bl.call ?_ (by assumption))))) hv0
              clear hK K
              (try simp only [Act.put]); (try simp only [List.setIfInBounds_toArray]); (try simp only [List.set_cons_succ]); (try simp only [List.set_cons_zero])
              refine wpAnyH_ready (rs := [5]) (by kernel_rfl) (by simp) ?_
              refine AllReadyH.cons rfl (fun K hK => ?_) AllReadyH.nil
              go_simp
              refine hK.out _ _ ?_ (fun hHeld => ?_)
              · (try dsimp only); exact Bl.cells (by (repeat (first | assumption | with_reducible exact Bl.refl _ | with_reducible refine Bl.drewN ?_ _ | with_reducible refine Bl.drew ?_ | with_reducible refine Bl.alloc ?_ _ | (with_reducible refine Bl.call ?_ (by assumption))))) hv0
              clear hK K
              (try simp only [Act.put]); (try simp only [List.setIfInBounds_toArray]); (try simp only [List.set_cons_succ]); (try simp only [List.set_cons_zero])
              refine wpAnyH_ready (rs := [6]) (by kernel_rfl) (by simp) ?_
              refine AllReadyH.cons rfl (fun K hK => ?_) AllReadyH.nil
              (refine ap_int_step (l' := [v0]) rfl rfl rfl (ho4.alloc _) rfl (rd_new1 _ _ _) (by omega) (Bl.sz (hb4.alloc _)) ?_; intro A9 c9 w9 ho9 hg9 hat9; have hb9 : Bl w3 w9 := Bl.grown (((Bl.refl w3).drew.call hb4).alloc _) hg9 (fun k hk => (ho4.blk k hk).1); replace ho9 := ho9.mono (base' := w3.heap.size) (Nat.le_refl _))
              refine hK.out _ _ ?_ (fun hHeld => ?_)
              · (try dsimp only); exact Bl.cells (by (repeat (first | assumption | with_reducible exact Bl.refl _ | with_reducible refine Bl.drewN ?_ _ | with_reducible refine Bl.drew ?_ | with_reducible refine Bl.alloc ?_ _ | (with_reducible refine Bl.call ?_ (by assumption))))) hv0
              clear hK K
              (try simp only [Act.put]); (try simp only [List.setIfInBounds_toArray]); (try simp only [List.set_cons_succ]); (try simp only [List.set_cons_zero])
              refine held_take (i := 7) (d := 7) (v := ?_) rfl rfl (by kernel_rfl) (by kernel_rfl) (by kernel_rfl) (fun _ _ _ h => h) (Or.inl ⟨by rfl, ?_⟩) (by assumption) ?_
              rotate_left
              · (intro w hSw; (try dsimp only at hSw); go_simp; (try with_reducible rfl))
              (try simp only [List.set_cons_zero, List.set_cons_succ])
              refine wpAnyH_done (by kernel_rfl) ?_ _
              clear hv0 hvc
              have hX9 : Lx w9 x A3 A9 (k + 1) c9 _ := ⟨ho9.rd, fun q hq => ⟨(ho9.blk q hq).2, by have := (ho9.blk q hq).1; have := hM3.lt; omega, fun e => by have := (ho9.blk q hq).1; have := (hM3.at_ q e).2; omega⟩⟩
              have hS9 := (hS3.keep hb9)
              have hM9 := hM3.keep hb9
              have hF9 := hF3.grew hb9 (Nat.le_of_lt hM3.lt)
              clear hO3 hS3 hM3 hF3
              go_wp2_with fail
              go_roundw
              case rel => exact ⟨k + 1, n3, A3, A9, k + 1, c9, _, j, c3 - 1, by omega, rfl, rfl, by go_num, by have := HN.out; have := HN3.out; omega, .inr (.inr ⟨by omega, by omega, rfl, hM9, hF9, _, _, hX9, hS9⟩)⟩
              case measure => simp [intOf]; omega
            · go_simp
              refine hK.out _ _ ?_ (fun hHeld => ?_)
              · (try dsimp only); exact Bl.cells (by (repeat (first | assumption | with_reducible exact Bl.refl _ | with_reducible refine Bl.drewN ?_ _ | with_reducible refine Bl.drew ?_ | with_reducible refine Bl.alloc ?_ _ | (with_reducible refine Bl.call ?_ (by assumption))))) hv0
              clear hK K
              (try simp only [Act.put]); (try simp only [List.setIfInBounds_toArray]); (try simp only [List.set_cons_succ]); (try simp only [List.set_cons_zero])
              refine wpAnyH_ready (rs := [1]) (by kernel_rfl) (by simp) ?_
              refine AllReadyH.cons rfl (fun K hK => ?_) AllReadyH.nil
              go_simp
              (refine (spec_l1Own So k co lo _ (hO3.rd.keep (by (repeat (first | assumption | with_reducible exact Bl.refl _ | with_reducible refine Bl.drewN ?_ _ | with_reducible refine Bl.drew ?_ | with_reducible refine Bl.alloc ?_ _ | (with_reducible refine Bl.call ?_ (by assumption)))))) (by omega)).mono ?_; rintro e w4 ⟨A4, c4, rfl, ho4, hb4⟩)
              go_wp2_with fail
              refine hK.out _ _ ?_ (fun hHeld => ?_)
              · (try dsimp only); exact Bl.cells (by (repeat (first | assumption | with_reducible exact Bl.refl _ | with_reducible refine Bl.drewN ?_ _ | with_reducible refine Bl.drew ?_ | with_reducible refine Bl.alloc ?_ _ | (with_reducible refine Bl.call ?_ (by assumption))))) hv0
              clear hK K
              (try simp only [Act.put]); (try simp only [List.setIfInBounds_toArray]); (try simp only [List.set_cons_succ]); (try simp only [List.set_cons_zero])
              refine wpAnyH_ready (rs := [6]) (by kernel_rfl) (by simp) ?_
              refine AllReadyH.cons rfl (fun K hK => ?_) AllReadyH.nil
              (refine ap_int_step (l' := [v0]) rfl rfl rfl ho4 rfl ((rd_new1 _ _ _).drew.keep hb4) (by omega) hb4.size ?_; intro A9 c9 w9 ho9 hg9 hat9; have hsz4 := Bl.sz (((Bl.refl w3).alloc (.cells #[.int .i64 v0] 3)).drew); have hb9 : Bl w3 w9 := Bl.grown (((Bl.refl w3).alloc _).drew.call hb4) hg9 (fun k hk => Nat.le_trans hsz4 (ho4.blk k hk).1); replace ho9 := ho9.mono (base' := w3.heap.size) hsz4)
              refine hK.out _ _ ?_ (fun hHeld => ?_)
              · (try dsimp only); exact Bl.cells (by (repeat (first | assumption | with_reducible exact Bl.refl _ | with_reducible refine Bl.drewN ?_ _ | with_reducible refine Bl.drew ?_ | with_reducible refine Bl.alloc ?_ _ | (with_reducible refine Bl.call ?_ (by assumption))))) hv0
              clear hK K
              (try simp only [Act.put]); (try simp only [List.setIfInBounds_toArray]); (try simp only [List.set_cons_succ]); (try simp only [List.set_cons_zero])
              refine held_take (i := 7) (d := 7) (v := ?_) rfl rfl (by kernel_rfl) (by kernel_rfl) (by kernel_rfl) (fun _ _ _ h => h) (Or.inl ⟨by rfl, ?_⟩) (by assumption) ?_
              rotate_left
              · (intro w hSw; (try dsimp only at hSw); go_simp; (try with_reducible rfl))
              (try simp only [List.set_cons_zero, List.set_cons_succ])
              refine wpAnyH_done (by kernel_rfl) ?_ _
              clear hv0 hvc
              have hX9 : Lx w9 x A3 A9 (k + 1) c9 _ := ⟨ho9.rd, fun q hq => ⟨(ho9.blk q hq).2, by have := (ho9.blk q hq).1; have := hM3.lt; omega, fun e => by have := (ho9.blk q hq).1; have := (hM3.at_ q e).2; omega⟩⟩
              have hS9 := (hS3.keep hb9)
              have hM9 := hM3.keep hb9
              have hF9 := hF3.grew hb9 (Nat.le_of_lt hM3.lt)
              clear hO3 hS3 hM3 hF3
              go_wp2_with fail
              go_roundw
              case rel => exact ⟨k + 1, n3, A3, A9, k + 1, c9, _, j, c3 - 1, by omega, rfl, rfl, by go_num, by have := HN.out; have := HN3.out; omega, .inr (.inr ⟨by omega, by omega, rfl, hM9, hF9, _, _, hX9, hS9⟩)⟩
              case measure => simp [intOf]; omega
    · have hkn : k = N := by omega
      subst hkn
      have ik : ¬ ((k : Int) < k) := by omega
      rcases hT with ⟨hk0, rfl, rfl, rfl, rfl, rfl, rfl, hmq, hfq⟩ | ⟨hk0, g, c0, row, hR, rfl, rfl, rfl, rfl, rfl, rfl⟩ | ⟨hk2, rfl, rfl, hmq, hfq, lo, ls, hOq, hSq⟩
      · omega
      · subst hk0
        obtain ⟨v0, hvc, hv0⟩ := own_head hR.own hN0
        have hle := hR.own.rd.le
        have hOr := rd_one (hR.own.blk g rfl).2 (by omega) hv0
        have hSr : RdI wr (if co = 1 then some ⟨g, 0, none⟩ else some ⟨g, 1, none⟩) (1 - 1) (co - 1) [] := ⟨rfl, by omega, by simp only [maxLen]; omega, fun hn => by omega⟩
        obtain ⟨Ss, hSs⟩ : ∃ Ss, Ss = (if co = 1 then some (⟨g, 0, none⟩ : Addr) else some ⟨g, 1, none⟩) := ⟨_, rfl⟩
        rw [← hSs] at hSr ⊢
        clear hSs hv0 hvc
        subst hi
        go_wp2_with (go_at_call 90; refine (spec_ciJoin (some ⟨g, 0, none⟩) Ss 1 co (1 - 1) (co - 1) [v0] [] _ hOr hSr (by omega) (by omega)).mono ?_; rintro e w5 ⟨A5, c5, rfl, ho5, hb5⟩)
        go_ret
        exact timP (by omega) (by omega) ⟨hR.ms.keep hb5, hR.fm.grew hb5 (Nat.le_of_lt hR.ms.lt), ho5.mono hR.fm.size, fun q hq => ⟨by have := (ho5.blk q hq).1; have := hR.ms.lt; omega, fun e => by have := (ho5.blk q hq).1; have := (hR.ms.at_ q e).2; omega⟩⟩
      · subst hi
        go_wp2_with (go_at_call 90; refine (spec_ciJoin So Ss k co k cs lo ls _ hOq.rd hSq.rd (by omega) (by omega)).mono ?_; rintro e w5 ⟨A5, c5, rfl, ho5, hb5⟩)
        go_ret
        exact timP (by omega) (by omega) ⟨hmq.keep hb5, hfq.grew hb5 (Nat.le_of_lt hmq.lt), ho5.mono hfq.size, fun q hq => ⟨by have := (ho5.blk q hq).1; have := hmq.lt; omega, fun e => by have := (ho5.blk q hq).1; have := (hmq.at_ q e).2; omega⟩⟩
end Go.Proofs.Ytlmlffiajgofeaa
