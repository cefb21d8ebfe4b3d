/- The reference's gadgets: the gates they append, exactly.
   Conditions: at most twenty wires a number; products of at most five. -/
import Derived.Test.YtjggecbaladiiaaGreatDoorCmb
import Derived.Deep.AppendSrc
namespace Go.Proofs.YtjggecbaladiiaaGreatDoor
open Go.RowKit
set_option linter.unusedVariables false
section
variable {ops : Array Oper} {rest : List Oper} {o : Oper} {a : Act} {Q : Exit → Act → World → Prop} {w : World}
theorem addr_add (g i j : Nat) : (⟨g, i, none⟩ : Addr).add j = ⟨g, i + j, none⟩ := Addr.add_lit g i j
/-- append of one number onto all but the first of a row of the call's own, as a step of the walk. -/
theorem ap_tail (hgd : o.guard = none) {s x : Operand} (ho : o.op = .call { callee := .builtin .append, args := #[s, x], argTypes := #[27, 27] })
    {B g N c d : Nat} {row : List Int} {v : Int} {gx : Nat} (hs : a.eval s = .slice (some ⟨g, 1, none⟩) (N - 1) (c - 1)) (hown : OwnI B w (some ⟨g, 0, none⟩) N c row) (hN : 2 ≤ N) (hN5 : N ≤ 5)
    (hx : a.eval x = .slice (some ⟨gx, 0, none⟩) 1 d) (hr : w.cell? ⟨gx, 0, none⟩ = some (.int .i64 v))
    (h : ∀ S' c' w', RdI w' S' N c' (row.drop 1 ++ [v]) → (∀ k, S'.map (·.block) = some k → (k = g ∨ k = w.heap.size) ∧ k < w'.heap.size) → w.grownBy w' (some g) → w'.cell? ⟨g, 0, none⟩ = w.cell? ⟨g, 0, none⟩ →
      wpList Tryz.prog ops Q rest (a.put o.dst (.slice S' N c')) w') : wpList Tryz.prog ops Q (o :: rest) a w := by
  obtain ⟨i0, hi, hz0, hz1, hz2⟩ := info_parts int_info
  have hlen := hown.length
  have hle := hown.rd.le
  rcases hown.2 with ⟨hv, h0⟩ | ⟨g', cap, cur, hv, hBg, hh, hc, hm, hcs, hct⟩
  · omega
  injection hv with e1 e2 e3
  injection e1 with e1
  have e1 : g = g' := by injection e1
  subst e1; subst e3
  have hgl := (Array.getElem?_eq_some_iff.1 hh).1
  have hcell : ∀ j u, row[j]? = some u → w.cell? ⟨g, j, none⟩ = some (.int .i64 u) := by
    obtain ⟨g2, e, _, _, hc2, _⟩ := hown.form (by omega)
    injection e with e
    have e : g = g2 := by injection e
    subst e
    exact hc2
  have hfz : ∀ k, w.frozen? ⟨g, k, none⟩ = false := fun k => by simp [World.frozen?, hh]
  have hsrc : Src Tryz.prog i0.size 27 (.slice (some ⟨gx, 0, none⟩) 1 d) 1 [.int .i64 v] w := by
    refine Src.ofSlice w Tryz.underlying27 ⟨gx, 0, none⟩ 1 d [.int .i64 v] (by rw [hz1]; rfl) (fun j u hu => ?_) (by intro u hu; simp at hu; subst hu; rfl)
    match j, hu with
    | 0, hu => simp at hu; subst hu; rw [addr_add]; exact hr
    | j + 1, hu => simp at hu
  refine wpList_plain hgd fun K hK => ?_
  unfold Oper.wp execOp
  by_cases hroom : N < c
  · have hcur : cur.size = c := by simpa using hcs
    have hrun := run_append_room_src (P := Tryz.prog) w 27 27 o.type 3 i0 Tryz.underlying27 hi g 1 (N - 1) (c - 1) _ 1 _ hsrc (by omega)
      (by intro j hj; simp at hj; subst hj; rw [hz1, cell_of_row w g _ _ _ (0, 0) hh, Array.getElem?_eq_getElem (by omega)]; simp) (fun j hj => hfz _)
    rw [hz1] at hrun
    have e2 : N - 1 + 1 = N := by omega
    have e3 : 1 + (N - 1) * 1 = N := by omega
    rw [e2, e3] at hrun
    simp only [ho, resolve, invoke, builtin, Sem.run_bind, Sem.run_pure, Result.andThen_ok, List.map_toArray, List.map_cons, List.map_nil, hs, hx, hrun]
    refine hK _ _ (h (some ⟨g, 1, none⟩) (c - 1) (w.setCell ⟨g, N, none⟩ (.int .i64 v)) ⟨by simp [hlen]; try omega, by omega, by simp only [maxLen]; omega, fun hn => ⟨_, rfl, by simpa [World.setCell] using hgl, fun j u hu => ?_⟩⟩ (fun k hk => ?_) (grownBy_setCell _ _ _ _) ?_)
    · rw [addr_add, ints_get] at *
      by_cases hj : j < N - 1
      · rw [World.cell?_setCell_other _ _ _ _ (by intro e; injection e; omega)]
        rw [List.getElem?_append_left (by simp [hlen]; omega), List.getElem?_drop] at hu
        cases hx1 : row[1 + j]? with
        | none => rw [hx1] at hu; simp at hu
        | some u0 => rw [hx1] at hu; simp at hu; subst hu; exact hcell _ _ hx1
      · have hj2 : j = N - 1 := by
          rcases Nat.lt_or_ge j (row.drop 1 ++ [v]).length with h1 | h1
          · simp [hlen] at h1
            omega
          · rw [List.getElem?_eq_none h1] at hu
            simp at hu
        subst hj2
        rw [List.getElem?_append_right (by simp [hlen])] at hu
        simp [hlen] at hu
        subst hu
        rw [show 1 + (N - 1) = N by omega]
        exact World.cell?_setCell_same _ _ _ (by rw [cell_of_row w g _ _ _ (0, 0) hh, Array.getElem?_eq_getElem (by omega)]; first | done | rfl | simp)
    · simp at hk
      subst hk
      exact ⟨.inl rfl, by simpa [World.setCell] using hgl⟩
    · exact World.cell?_setCell_other _ _ _ _ (by intro e; injection e; omega)
  · have hcN : c = N := by omega
    subst hcN
    have hold : (Builtin.firstCells i0.size (c - 1) (.slice (some ⟨g, 1, none⟩) (c - 1) (c - 1))).run Tryz.prog w.drew = .ok (ints (row.drop 1)).toArray w.drew := by
      rw [hz1]
      refine run_firstCells_some w.drew 1 (c - 1) ⟨g, 1, none⟩ (c - 1) (c - 1) (ints (row.drop 1)) (by simp [hlen]) (fun j u hu => ?_)
      rw [addr_add]
      rw [ints_get, List.getElem?_drop] at hu
      cases hx1 : row[1 + j]? with
      | none => rw [hx1] at hu; simp at hu
      | some u0 => rw [hx1] at hu; simp at hu; subst hu; exact hcell _ _ hx1
    have hrun := run_append_grow_src (P := Tryz.prog) w 27 27 o.type 3 i0 _ Tryz.underlying27 hi hz0 (some ⟨g, 1, none⟩) (c - 1) (c - 1) (ints (row.drop 1)) hold _ 1 _ hsrc (by omega) (by omega)
      (by rw [hz2]; unfold Builtin.nextslicecap; split <;> (try split) <;> omega)
    have e2 : c - 1 + 1 = c := by omega
    rw [e2] at hrun
    have hge := grownCap_ge w c (c - 1) 3
    have hcm : grownCap w c (c - 1) 3 ≤ maxLen := grownCap_le_maxLen w c (c - 1) 3 (by simp only [maxLen]; omega)
    simp only [ho, resolve, invoke, builtin, Sem.run_bind, Sem.run_pure, Result.andThen_ok, List.map_toArray, List.map_cons, List.map_nil, hs, hx, hrun]
    refine hK _ _ (h (some ⟨w.heap.size, 0, none⟩) (grownCap w c (c - 1) 3) _ ⟨by simp [hlen]; omega, hge, hcm, fun hn => ⟨_, rfl, by simp, fun j u hu => ?_⟩⟩ (fun k hk => ?_) ⟨rfl, rfl, rfl, by simp, fun k hk _ => Below.heap_alloc w.drew _ k hk⟩ ?_)
    · rw [addr_add, Nat.zero_add, cell_of_row _ w.heap.size j _ _ (0, 0) (heap_alloc_new w.drew _)]
      have hj := (List.getElem?_eq_some_iff.1 hu).1
      rw [ints_append] at hu
      have e5 : [Value.int .i64 v] = ints [v] := rfl
      rw [e5, Array.getElem?_append_left (by simpa using hj)]
      simpa using hu
    · simp at hk
      subst hk
      exact ⟨.inr rfl, by simp⟩
    · exact World.cell?_of_block (a := ⟨g, 0, none⟩) (Below.heap_alloc w.drew _ g hgl)
end
theorem LE.app1 {T : TypeId} {X : Mx} {w w' w0 : World} {n : Nat} {g : List Gt} {A A0 S : Option Addr} {m c : Nat} {l : List Int} {o : Obj} (h : LE T X w0 w A0 A n g S m c l) (hx : X.x < w0.heap.size) (hg : (w.alloc o).grownBy w' (S.map (·.block))) :
    ME T X w' n g A ∧ Fm w0 w' X.x A0 A := by
  have hB : Bl w (w.alloc o) := (Bl.refl w).alloc o
  have hs := h.fm.size
  have hl := h.ms.lt
  refine ⟨(h.ms.keep hB).grown hg (fun k e => ⟨(h.ap k e).1, (h.ap k e).2, fun e2 => by have := h.bl k e2; have := (h.own.blk k e).1; omega⟩), ⟨Nat.le_trans h.fm.size (Nat.le_trans hB.size hg.size), fun k hk h1 h2 => ?_, h.fm.row, (h.fm.low.trans (Below.mono hB (by omega))).grown hg (by have := hB.size; omega) (fun k e => by have := (h.own.blk k e).1; omega)⟩⟩
  rw [hg.block k (by have := hB.size; omega) (fun e => by have := (h.own.blk k e.symm).1; omega), hB.block k (by omega)]
  exact h.fm.kept k hk h1 h2
/-- At the head of a round: the first digits and the rest. -/
def TmE (w wr : World) (X : Mx) (A A1 : Option Addr) (n1 : Nat) (g1 : List Gt) (N k : Nat) (So : Option Addr) (mo co : Nat) (lo : List Int) (Ss : Option Addr) (ms cs : Nat) (ls : List Int) : Prop :=
  (k = 0 ∧ So = none ∧ mo = 0 ∧ co = 0 ∧ Ss = none ∧ ms = 0 ∧ cs = 0 ∧ ME 102 X wr n1 g1 A1 ∧ Fm w wr X.x A A1) ∨
  (k = 1 ∧ ∃ ga c row, LE 102 X w wr A A1 n1 g1 (some ⟨ga, 0, none⟩) N c row ∧ So = some ⟨ga, 0, none⟩ ∧ mo = 1 ∧ co = c ∧ Ss = (if c = 1 then some ⟨ga, 0, none⟩ else some ⟨ga, 1, none⟩) ∧ ms = N - 1 ∧ cs = c - 1 ∧ lo = row.take 1 ∧ ls = row.drop 1) ∨
  (2 ≤ k ∧ k = mo ∧ N = ms ∧ ME 102 X wr n1 g1 A1 ∧ Fm w wr X.x A A1 ∧ Lx wr X.x A1 So mo co lo ∧ Lx wr X.x A1 Ss N cs ls)
theorem own_head {B : Nat} {w : World} {g N c : Nat} {row : List Int} (h : OwnI B w (some ⟨g, 0, none⟩) N c row) (hN : 0 < N) : ∃ v, row = v :: row.drop 1 ∧ w.cell? ⟨g, 0, none⟩ = some (.int .i64 v) := by
  have hlen := h.length
  cases row with
  | nil => simp at hlen; omega
  | cons v r =>
    obtain ⟨g2, e, _, _, hc2, _⟩ := h.form hN
    injection e with e
    have e : g = g2 := by injection e
    subst e
    exact ⟨v, rfl, hc2 0 v rfl⟩
theorem rd_one {w : World} {g c : Nat} {v : Int} (hg : g < w.heap.size) (hc : 1 ≤ c ∧ c ≤ 9223372036854775807) (h : w.cell? ⟨g, 0, none⟩ = some (.int .i64 v)) : RdI w (some ⟨g, 0, none⟩) 1 c [v] := by
  refine ⟨rfl, hc.1, by simp only [maxLen]; omega, fun _ => ⟨_, rfl, hg, fun j u hu => ?_⟩⟩
  match j, hu with
  | 0, hu => simp [ints] at hu; subst hu; rw [addr_add]; exact h
  | j + 1, hu => simp [ints] at hu
theorem RdI.tl {w : World} {g n c : Nat} {l : List Int} (h : RdI w (some ⟨g, 0, none⟩) (n + 1) c l) (hc : ¬ c = 1) : RdI w (some ⟨g, 1, none⟩) n (c - 1) (l.drop 1) := by
  have := Rd.cut h (k := 1) (by omega)
  rw [if_neg hc] at this
  unfold RdI
  rw [show ints (l.drop 1) = (ints l).drop (1 * 1) by simp [ints]]
  simpa [addr_add] using this
/-- A list of the call's own is a list apart. -/
theorem LE.lx0 {T : TypeId} {X : Mx} {w w0 : World} {n : Nat} {g : List Gt} {A A0 S : Option Addr} {m c : Nat} {l : List Int} {S' : Option Addr} {m' c' : Nat} {l' : List Int} (h : LE T X w0 w A0 A n g S m c l) (hr : RdI w S' m' c' l') (hS : S'.map (·.block) = S.map (·.block)) : Lx w X.x A S' m' c' l' :=
  ⟨hr, fun k hk => by rw [hS] at hk; exact ⟨(h.own.blk k hk).2, h.ap k hk⟩⟩
theorem mulT_0 {t : Int} {la lb ls lr : List Int} {N : Nat} {g g1 g2 : List Gt} {lo : List Int} {k : Nat} {vb : Int} (h : mulT t la lb N g k = (g1, lo, ls)) (hb : lb[k]? = some vb) (hk : k = 0) (hr : andS t la vb g1 N = (g2, lr)) :
    mulT t la lb N g (k + 1) = (g2, lr.take 1, lr.drop 1) := by
  simp only [mulT, h, List.getD_eq_getElem?_getD, hb, Option.getD_some, if_neg (show ¬ k = 1 by omega), if_pos hk, hr]
theorem mulT_1 {t : Int} {la lb ls lr ld : List Int} {N n1 : Nat} {g g1 g2 g3 : List Gt} {lo : List Int} {k : Nat} {vb cv v0 : Int} (h : mulT t la lb N g k = (g1, lo, ls)) (hn : g1.length = n1) (hb : lb[k]? = some vb) (hk : k = 1) (hr : andS t la vb (g1 ++ [⟨3, 0, 0⟩] ++ [⟨2, wn t n1, 0⟩]) N = (g2, lr)) (hd : addS t (ls ++ [wn t (n1 + 1)]) lr g2 N = (g3, ld, cv)) (h0 : ld ++ [cv] = v0 :: (ld ++ [cv]).drop 1) :
    mulT t la lb N g (k + 1) = (g3, lo ++ [v0], (ld ++ [cv]).drop 1) := by
  have e : (ld ++ [cv]).getD 0 0 = v0 := by rw [h0]; rfl
  simp only [mulT, h, hn, List.getD_eq_getElem?_getD, hb, Option.getD_some, if_pos hk, if_neg (show ¬ k = 0 by omega), hr, hd]
  rw [List.getD_eq_getElem?_getD] at e
  rw [e]
theorem mulT_s {t : Int} {la lb ls lr ld : List Int} {N : Nat} {g g1 g2 g3 : List Gt} {lo : List Int} {k : Nat} {vb cv v0 : Int} (h : mulT t la lb N g k = (g1, lo, ls)) (hb : lb[k]? = some vb) (hk : 2 ≤ k) (hr : andS t la vb g1 N = (g2, lr)) (hd : addS t ls lr g2 N = (g3, ld, cv)) (h0 : ld ++ [cv] = v0 :: (ld ++ [cv]).drop 1) :
    mulT t la lb N g (k + 1) = (g3, lo ++ [v0], (ld ++ [cv]).drop 1) := by
  have e : (ld ++ [cv]).getD 0 0 = v0 := by rw [h0]; rfl
  simp only [mulT, h, List.getD_eq_getElem?_getD, hb, Option.getD_some, if_neg (show ¬ k = 1 by omega), if_neg (show ¬ k = 0 by omega), hr, hd]
  rw [List.getD_eq_getElem?_getD] at e
  rw [e]
set_option maxRecDepth 20000 in
set_option maxHeartbeats 4000000 in
theorem spec_gdAdd {w : World} {X : Mx} {n : Nat} {g : List Gt} {A : Option Addr} (h : ME 102 X w n g A) (Sa Sb : Option Addr) (N ca cb : Nat) (la lb : List Int) (hLa : Lx w X.x A Sa N ca la) (hLb : Lx w X.x A Sb N cb lb) (hN : N ≤ 20) (hn : n ≤ 600) :
    Calls Tryz.prog 172 #[.pointer (some ⟨X.x, 0, none⟩), .slice Sa N ca, .slice Sb N cb] w (GadE 102 X w A (addS X.t la lb g N).1 (N + 1) ((addS X.t la lb g N).2.1 ++ [(addS X.t la lb g N).2.2])) := by
  have hL0 := LE.start h
  have hxl := h.lt
  go_enter Tryz.func172, Tryz.ntmps172
  go_wp2_with fail
  go_loopw [7, 8, 17] (fun o cc i wr => ∃ (k n1 c : Nat) (cv : Int) (A1 S : Option Addr) (g1 : List Gt) (l : List Int), k ≤ N ∧ o = .slice S k c ∧ cc = .int .i64 cv ∧ i = .int .i64 (k : Nat) ∧ n1 ≤ n + 7 * k ∧ ((k = 0 ∧ cv < 0) ∨ (¬ k = 0 ∧ ¬ cv < 0)) ∧ Hid (addS X.t la lb g k = (g1, l, cv)) ∧ LE 102 X w wr A A1 n1 g1 S k c l) (fun _ _ i _ => N - (intOf i).toNat)
  case atStart => exact ⟨0, n, 0, -1, A, none, g, [], by omega, rfl, rfl, rfl, by omega, .inl ⟨rfl, by omega⟩, Lib.hid rfl, hL0⟩
  case round =>
    clear hL0
    obtain ⟨k, n1, c, cv, A1, S, g1, l, hk, rfl, rfl, rfl, hn1, hcv, hSt, hL⟩ := hrel
    by_cases hlt : k < N
    · have ik : (k : Int) < N := by omega
      obtain ⟨ada, va, rfl, hea, hva⟩ := hLa.at_ hlt
      obtain ⟨adb, vb, rfl, heb, hvb⟩ := hLb.at_ hlt
      have hva1 := hva _ _ hL.fm
      have hvb1 := hvb _ _ hL.fm
      have HN := Lib.hid hn1
      have HB := Lib.hid hvb
      have HA := Lib.hid hva
      rcases hcv with ⟨hk0, hc⟩ | ⟨hk0, hc⟩
      · have HS := Lib.hid (addS_0 hSt.out hL.ms.len hea heb hk0)
        have hnn := Lib.hid hL.ms.nn
        have hki : ((k : Int) == 0) = true := by simp; omega
        clear hva hvb hLa hLb hSt hea heb hk0 hki
        go_wp2_with   (first
            | (go_at_call 177; refine (ms_xor hL.ms (by omega) _ _).mono ?_; rintro e wz ⟨A9, rfl, hm9, hf9⟩; replace hL := hL.step hm9 hf9; clear hm9 hf9; have hva2 := HA.out _ _ hL.fm; have hvb2 := HB.out _ _ hL.fm)
            | (go_at_call 176; refine (ms_and hL.ms (by omega) _ _).mono ?_; rintro e wz ⟨A9, rfl, hm9, hf9⟩; replace hL := hL.step hm9 hf9; clear hm9 hf9; have hva2 := HA.out _ _ hL.fm; have hvb2 := HB.out _ _ hL.fm)
            | (go_at_call 131; refine (ms_not hL.ms (by omega) _).mono ?_; rintro e wz ⟨A9, rfl, hm9, hf9⟩; replace hL := hL.step hm9 hf9; clear hm9 hf9; have hva2 := HA.out _ _ hL.fm; have hvb2 := HB.out _ _ hL.fm)
            | (at_builtin; refine ap_int rfl rfl rfl (hL.own.alloc _) rfl (rd_new1 _ _ _) (by omega) (by have := hL.fm.size; simp; omega) ?_; intro S9 c9 wz ho9 hg9 hat9; replace hL := hL.app hxl ho9 hg9 hat9; clear ho9 hg9 hat9; have hva2 := HA.out _ _ hL.fm; have hvb2 := HB.out _ _ hL.fm))
        go_roundw
        case rel => exact ⟨k + 1, _, _, _, _, _, _, _, by omega, rfl, rfl, by go_num, by have := HN.out; omega, .inr ⟨by omega, by have := hnn.out; exact Int.not_lt.2 (this _)⟩, HS, hL⟩
        case measure => simp [intOf]; omega
      · have HS := Lib.hid (addS_s hSt.out hL.ms.len hea heb hk0)
        have hnn := Lib.hid hL.ms.nn
        have hki : ((k : Int) == 0) = false := by simp; omega
        clear hva hvb hLa hLb hSt hea heb hk0 hki
        go_wp2_with   (first
            | (go_at_call 177; refine (ms_xor hL.ms (by omega) _ _).mono ?_; rintro e wz ⟨A9, rfl, hm9, hf9⟩; replace hL := hL.step hm9 hf9; clear hm9 hf9; have hva2 := HA.out _ _ hL.fm; have hvb2 := HB.out _ _ hL.fm)
            | (go_at_call 176; refine (ms_and hL.ms (by omega) _ _).mono ?_; rintro e wz ⟨A9, rfl, hm9, hf9⟩; replace hL := hL.step hm9 hf9; clear hm9 hf9; have hva2 := HA.out _ _ hL.fm; have hvb2 := HB.out _ _ hL.fm)
            | (go_at_call 131; refine (ms_not hL.ms (by omega) _).mono ?_; rintro e wz ⟨A9, rfl, hm9, hf9⟩; replace hL := hL.step hm9 hf9; clear hm9 hf9; have hva2 := HA.out _ _ hL.fm; have hvb2 := HB.out _ _ hL.fm)
            | (at_builtin; refine ap_int rfl rfl rfl (hL.own.alloc _) rfl (rd_new1 _ _ _) (by omega) (by have := hL.fm.size; simp; omega) ?_; intro S9 c9 wz ho9 hg9 hat9; replace hL := hL.app hxl ho9 hg9 hat9; clear ho9 hg9 hat9; have hva2 := HA.out _ _ hL.fm; have hvb2 := HB.out _ _ hL.fm))
        go_roundw
        case rel => exact ⟨k + 1, _, _, _, _, _, _, _, by omega, rfl, rfl, by go_num, by have := HN.out; omega, .inr ⟨by omega, by have := hnn.out; exact Int.not_lt.2 (this _)⟩, HS, hL⟩
        case measure => simp [intOf]; omega
    · have ik : ¬ ((k : Int) < N) := by omega
      have hkn : k = N := by omega
      subst hkn
      have HS := hSt
      clear hLa hLb hSt
      go_wp2_with   (first
          | (go_at_call 177; refine (ms_xor hL.ms (by omega) _ _).mono ?_; rintro e wz ⟨A9, rfl, hm9, hf9⟩; replace hL := hL.step hm9 hf9; clear hm9 hf9)
          | (go_at_call 176; refine (ms_and hL.ms (by omega) _ _).mono ?_; rintro e wz ⟨A9, rfl, hm9, hf9⟩; replace hL := hL.step hm9 hf9; clear hm9 hf9)
          | (go_at_call 131; refine (ms_not hL.ms (by omega) _).mono ?_; rintro e wz ⟨A9, rfl, hm9, hf9⟩; replace hL := hL.step hm9 hf9; clear hm9 hf9)
          | (at_builtin; refine ap_int rfl rfl rfl (hL.own.alloc _) rfl (rd_new1 _ _ _) (by omega) (by have := hL.fm.size; simp; omega) ?_; intro S9 c9 wz ho9 hg9 hat9; replace hL := hL.app hxl ho9 hg9 hat9; clear ho9 hg9 hat9))
      go_ret
      exact ⟨A1, _, _, _, rfl, by rw [HS.out]; exact hL⟩
set_option maxRecDepth 20000 in
set_option maxHeartbeats 4000000 in
theorem spec_gdSub {w : World} {X : Mx} {n : Nat} {g : List Gt} {A : Option Addr} (h : ME 102 X w n g A) (Sa Sb : Option Addr) (N ca cb : Nat) (la lb : List Int) (hLa : Lx w X.x A Sa N ca la) (hLb : Lx w X.x A Sb N cb lb) (hN : N ≤ 20) (hn : n ≤ 600) :
    Calls Tryz.prog 173 #[.pointer (some ⟨X.x, 0, none⟩), .slice Sa N ca, .slice Sb N cb] w (GadE 102 X w A (subS X.t la lb g N).1 (N + 1) ((subS X.t la lb g N).2.1 ++ [(subS X.t la lb g N).2.2])) := by
  have hL0 := LE.start h
  have hxl := h.lt
  go_enter Tryz.func173, Tryz.ntmps173
  go_wp2_with fail
  go_loopw [7, 8, 19] (fun o cc i wr => ∃ (k n1 c : Nat) (cv : Int) (A1 S : Option Addr) (g1 : List Gt) (l : List Int), k ≤ N ∧ o = .slice S k c ∧ cc = .int .i64 cv ∧ i = .int .i64 (k : Nat) ∧ n1 ≤ n + 7 * k ∧ ((k = 0 ∧ cv < 0) ∨ (¬ k = 0 ∧ ¬ cv < 0)) ∧ Hid (subS X.t la lb g k = (g1, l, cv)) ∧ LE 102 X w wr A A1 n1 g1 S k c l) (fun _ _ i _ => N - (intOf i).toNat)
  case atStart => exact ⟨0, n, 0, -1, A, none, g, [], by omega, rfl, rfl, rfl, by omega, .inl ⟨rfl, by omega⟩, Lib.hid rfl, hL0⟩
  case round =>
    clear hL0
    obtain ⟨k, n1, c, cv, A1, S, g1, l, hk, rfl, rfl, rfl, hn1, hcv, hSt, hL⟩ := hrel
    by_cases hlt : k < N
    · have ik : (k : Int) < N := by omega
      obtain ⟨ada, va, rfl, hea, hva⟩ := hLa.at_ hlt
      obtain ⟨adb, vb, rfl, heb, hvb⟩ := hLb.at_ hlt
      have hva1 := hva _ _ hL.fm
      have hvb1 := hvb _ _ hL.fm
      have HN := Lib.hid hn1
      have HB := Lib.hid hvb
      have HA := Lib.hid hva
      rcases hcv with ⟨hk0, hc⟩ | ⟨hk0, hc⟩
      · have HS := Lib.hid (subS_0 hSt.out hL.ms.len hea heb hk0)
        have hnn := Lib.hid hL.ms.nn
        have hki : ((k : Int) == 0) = true := by simp; omega
        clear hva hvb hLa hLb hSt hea heb hk0 hki
        go_wp2_with   (first
            | (go_at_call 177; refine (ms_xor hL.ms (by omega) _ _).mono ?_; rintro e wz ⟨A9, rfl, hm9, hf9⟩; replace hL := hL.step hm9 hf9; clear hm9 hf9; have hva2 := HA.out _ _ hL.fm; have hvb2 := HB.out _ _ hL.fm)
            | (go_at_call 176; refine (ms_and hL.ms (by omega) _ _).mono ?_; rintro e wz ⟨A9, rfl, hm9, hf9⟩; replace hL := hL.step hm9 hf9; clear hm9 hf9; have hva2 := HA.out _ _ hL.fm; have hvb2 := HB.out _ _ hL.fm)
            | (go_at_call 131; refine (ms_not hL.ms (by omega) _).mono ?_; rintro e wz ⟨A9, rfl, hm9, hf9⟩; replace hL := hL.step hm9 hf9; clear hm9 hf9; have hva2 := HA.out _ _ hL.fm; have hvb2 := HB.out _ _ hL.fm)
            | (at_builtin; refine ap_int rfl rfl rfl (hL.own.alloc _) rfl (rd_new1 _ _ _) (by omega) (by have := hL.fm.size; simp; omega) ?_; intro S9 c9 wz ho9 hg9 hat9; replace hL := hL.app hxl ho9 hg9 hat9; clear ho9 hg9 hat9; have hva2 := HA.out _ _ hL.fm; have hvb2 := HB.out _ _ hL.fm))
        go_roundw
        case rel => exact ⟨k + 1, _, _, _, _, _, _, _, by omega, rfl, rfl, by go_num, by have := HN.out; omega, .inr ⟨by omega, by have := hnn.out; exact Int.not_lt.2 (this _)⟩, HS, hL⟩
        case measure => simp [intOf]; omega
      · have HS := Lib.hid (subS_s hSt.out hL.ms.len hea heb hk0)
        have hnn := Lib.hid hL.ms.nn
        have hki : ((k : Int) == 0) = false := by simp; omega
        clear hva hvb hLa hLb hSt hea heb hk0 hki
        go_wp2_with   (first
            | (go_at_call 177; refine (ms_xor hL.ms (by omega) _ _).mono ?_; rintro e wz ⟨A9, rfl, hm9, hf9⟩; replace hL := hL.step hm9 hf9; clear hm9 hf9; have hva2 := HA.out _ _ hL.fm; have hvb2 := HB.out _ _ hL.fm)
            | (go_at_call 176; refine (ms_and hL.ms (by omega) _ _).mono ?_; rintro e wz ⟨A9, rfl, hm9, hf9⟩; replace hL := hL.step hm9 hf9; clear hm9 hf9; have hva2 := HA.out _ _ hL.fm; have hvb2 := HB.out _ _ hL.fm)
            | (go_at_call 131; refine (ms_not hL.ms (by omega) _).mono ?_; rintro e wz ⟨A9, rfl, hm9, hf9⟩; replace hL := hL.step hm9 hf9; clear hm9 hf9; have hva2 := HA.out _ _ hL.fm; have hvb2 := HB.out _ _ hL.fm)
            | (at_builtin; refine ap_int rfl rfl rfl (hL.own.alloc _) rfl (rd_new1 _ _ _) (by omega) (by have := hL.fm.size; simp; omega) ?_; intro S9 c9 wz ho9 hg9 hat9; replace hL := hL.app hxl ho9 hg9 hat9; clear ho9 hg9 hat9; have hva2 := HA.out _ _ hL.fm; have hvb2 := HB.out _ _ hL.fm))
        go_roundw
        case rel => exact ⟨k + 1, _, _, _, _, _, _, _, by omega, rfl, rfl, by go_num, by have := HN.out; omega, .inr ⟨by omega, by have := hnn.out; exact Int.not_lt.2 (this _)⟩, HS, hL⟩
        case measure => simp [intOf]; omega
    · have ik : ¬ ((k : Int) < N) := by omega
      have hkn : k = N := by omega
      subst hkn
      have HS := hSt
      clear hLa hLb hSt
      go_wp2_with   (first
          | (go_at_call 177; refine (ms_xor hL.ms (by omega) _ _).mono ?_; rintro e wz ⟨A9, rfl, hm9, hf9⟩; replace hL := hL.step hm9 hf9; clear hm9 hf9)
          | (go_at_call 176; refine (ms_and hL.ms (by omega) _ _).mono ?_; rintro e wz ⟨A9, rfl, hm9, hf9⟩; replace hL := hL.step hm9 hf9; clear hm9 hf9)
          | (go_at_call 131; refine (ms_not hL.ms (by omega) _).mono ?_; rintro e wz ⟨A9, rfl, hm9, hf9⟩; replace hL := hL.step hm9 hf9; clear hm9 hf9)
          | (at_builtin; refine ap_int rfl rfl rfl (hL.own.alloc _) rfl (rd_new1 _ _ _) (by omega) (by have := hL.fm.size; simp; omega) ?_; intro S9 c9 wz ho9 hg9 hat9; replace hL := hL.app hxl ho9 hg9 hat9; clear ho9 hg9 hat9))
      go_ret
      exact ⟨A1, _, _, _, rfl, by rw [HS.out]; exact hL⟩
set_option maxRecDepth 20000 in
set_option maxHeartbeats 4000000 in
theorem spec_gdPick {w : World} {X : Mx} {n : Nat} {g : List Gt} {A : Option Addr} (h : ME 102 X w n g A) (s : Int) (Sa Sb : Option Addr) (N ca cb : Nat) (la lb : List Int) (hLa : Lx w X.x A Sa N ca la) (hLb : Lx w X.x A Sb N cb lb) (hN : N ≤ 20) (hn : n ≤ 600) :
    Calls Tryz.prog 132 #[.pointer (some ⟨X.x, 0, none⟩), .int .i64 s, .slice Sa N ca, .slice Sb N cb] w (GadE 102 X w A (pickS X.t s la lb g N).1 N (pickS X.t s la lb g N).2) := by
  have hL0 := LE.start h
  have hxl := h.lt
  go_enter Tryz.func132, Tryz.ntmps132
  go_wp2_with fail
  go_loopw [9, 16] (fun o i wr => ∃ (k n1 c : Nat) (A1 S : Option Addr) (g1 : List Gt) (l : List Int), k ≤ N ∧ o = .slice S k c ∧ i = .int .i64 (k : Nat) ∧ n1 ≤ n + 7 * k ∧ Hid (pickS X.t s la lb g k = (g1, l)) ∧ LE 102 X w wr A A1 n1 g1 S k c l) (fun _ i _ => N - (intOf i).toNat)
  case atStart => exact ⟨0, n, 0, A, none, g, [], by omega, rfl, rfl, by omega, Lib.hid rfl, hL0⟩
  case round =>
    clear hL0
    obtain ⟨k, n1, c, A1, S, g1, l, hk, rfl, rfl, hn1, hSt, hL⟩ := hrel
    by_cases hlt : k < N
    · have ik : (k : Int) < N := by omega
      obtain ⟨ada, va, rfl, hea, hva⟩ := hLa.at_ hlt
      obtain ⟨adb, vb, rfl, heb, hvb⟩ := hLb.at_ hlt
      have hva1 := hva _ _ hL.fm
      have hvb1 := hvb _ _ hL.fm
      have HN := Lib.hid hn1
      have HB := Lib.hid hvb
      have HA := Lib.hid hva
      have HS := Lib.hid (pickS_s hSt.out hL.ms.len hea heb)
      clear hva hvb hLa hLb hSt hea heb
      go_wp2_with   (first
          | (go_at_call 177; refine (ms_xor hL.ms (by omega) _ _).mono ?_; rintro e wz ⟨A9, rfl, hm9, hf9⟩; replace hL := hL.step hm9 hf9; clear hm9 hf9; have hva2 := HA.out _ _ hL.fm; have hvb2 := HB.out _ _ hL.fm)
          | (go_at_call 176; refine (ms_and hL.ms (by omega) _ _).mono ?_; rintro e wz ⟨A9, rfl, hm9, hf9⟩; replace hL := hL.step hm9 hf9; clear hm9 hf9; have hva2 := HA.out _ _ hL.fm; have hvb2 := HB.out _ _ hL.fm)
          | (at_builtin; refine ap_int rfl rfl rfl (hL.own.alloc _) rfl (rd_new1 _ _ _) (by omega) (by have := hL.fm.size; simp; omega) ?_; intro S9 c9 wz ho9 hg9 hat9; replace hL := hL.app hxl ho9 hg9 hat9; clear ho9 hg9 hat9; have hva2 := HA.out _ _ hL.fm; have hvb2 := HB.out _ _ hL.fm))
      go_roundw
      case rel => exact ⟨k + 1, _, _, _, _, _, _, by omega, rfl, by go_num, by have := HN.out; omega, HS, hL⟩
      case measure => simp [intOf]; omega
    · have ik : ¬ ((k : Int) < N) := by omega
      have hkn : k = N := by omega
      subst hkn
      have HS := hSt
      clear hLa hLb hSt
      go_wp2_with fail
      go_ret
      exact ⟨A1, _, _, _, rfl, by rw [HS.out]; exact hL⟩
set_option maxRecDepth 20000 in
set_option maxHeartbeats 4000000 in
theorem spec_gdEqual {w : World} {X : Mx} {n : Nat} {g : List Gt} {A : Option Addr} (h : ME 102 X w n g A) (Sa Sb : Option Addr) (N ca cb : Nat) (la lb : List Int) (hLa : Lx w X.x A Sa N ca la) (hLb : Lx w X.x A Sb N cb lb) (hN : N ≤ 20) (hN0 : 0 < N) (hn : n ≤ 600) :
    Calls Tryz.prog 174 #[.pointer (some ⟨X.x, 0, none⟩), .slice Sa N ca, .slice Sb N cb] w (WirE 102 X w A (eqS X.t la lb g N).1 (eqS X.t la lb g N).2) := by
  have hL0 := LE.start h
  have hxl := h.lt
  go_enter Tryz.func174, Tryz.ntmps174
  go_wp2_with fail
  go_loopw [7, 16] (fun o i wr => ∃ (k n1 c : Nat) (A1 S : Option Addr) (g1 : List Gt) (l : List Int), k ≤ N ∧ o = .slice S k c ∧ i = .int .i64 (k : Nat) ∧ n1 ≤ n + 4 * k ∧ Hid (eqA X.t la lb g k = (g1, l)) ∧ LE 102 X w wr A A1 n1 g1 S k c l) (fun _ i _ => N - (intOf i).toNat)
  case atStart => exact ⟨0, n, 0, A, none, g, [], by omega, rfl, rfl, by omega, Lib.hid rfl, hL0⟩
  case round =>
    clear hL0
    obtain ⟨k, n1, c, A1, S, g1, l, hk, rfl, rfl, hn1, hSt, hL⟩ := hrel
    by_cases hlt : k < N
    · have ik : (k : Int) < N := by omega
      obtain ⟨ada, va, rfl, hea, hva⟩ := hLa.at_ hlt
      obtain ⟨adb, vb, rfl, heb, hvb⟩ := hLb.at_ hlt
      have hva1 := hva _ _ hL.fm
      have hvb1 := hvb _ _ hL.fm
      have HN := Lib.hid hn1
      have HB := Lib.hid hvb
      have HA := Lib.hid hva
      have HS := Lib.hid (eqA_s hSt.out hL.ms.len hea heb)
      clear hva hvb hLa hLb hSt hea heb
      go_wp2_with   (first
          | (go_at_call 177; refine (ms_xor hL.ms (by omega) _ _).mono ?_; rintro e wz ⟨A9, rfl, hm9, hf9⟩; replace hL := hL.step hm9 hf9; clear hm9 hf9; have hva2 := HA.out _ _ hL.fm; have hvb2 := HB.out _ _ hL.fm)
          | (go_at_call 131; refine (ms_not hL.ms (by omega) _).mono ?_; rintro e wz ⟨A9, rfl, hm9, hf9⟩; replace hL := hL.step hm9 hf9; clear hm9 hf9; have hva2 := HA.out _ _ hL.fm; have hvb2 := HB.out _ _ hL.fm)
          | (at_builtin; refine ap_int rfl rfl rfl (hL.own.alloc _) rfl (rd_new1 _ _ _) (by omega) (by have := hL.fm.size; simp; omega) ?_; intro S9 c9 wz ho9 hg9 hat9; replace hL := hL.app hxl ho9 hg9 hat9; clear ho9 hg9 hat9; have hva2 := HA.out _ _ hL.fm; have hvb2 := HB.out _ _ hL.fm))
      go_roundw
      case rel => exact ⟨k + 1, _, _, _, _, _, _, by omega, rfl, by go_num, by have := HN.out; omega, HS, hL⟩
      case measure => simp [intOf]; omega
    · have ik : ¬ ((k : Int) < N) := by omega
      have hkn : k = N := by omega
      subst hkn
      have HS := hSt
      clear hLa hLb hSt
      obtain ⟨ga, rfl, hg1, hg2, hgc, hgf⟩ := hL.own.form hN0
      have hlen := hL.own.length
      obtain ⟨v0, rest, rfl⟩ : ∃ v0 rest, l = v0 :: rest := by cases l with | nil => simp at hlen; omega | cons v0 rest => exact ⟨v0, rest, rfl⟩
      have hv0 := hgc 0 v0 rfl
      have hle := hL.own.rd.le
      have i1 : (1 : Int) ≤ k := by omega
      have i2 : (1 : Int) ≤ c := by omega
      have i3 : (k : Int) ≤ c := by omega
      have iT : (((k : Int) - 1).toNat : Int) = k - 1 := by omega
      have hLx := hL.lx
      have hcell := Lib.hid (fun j (hj : j < k) => hLx.at_ hj)
      have hfm := hL.fm
      have hms := hL.ms
      have HN := Lib.hid hn1
      obtain ⟨L, hLL⟩ : ∃ L, v0 :: rest = L := ⟨_, rfl⟩
      have HL0 := Lib.hid (show L.getD 0 0 = v0 by rw [← hLL]; rfl)
      rw [hLL] at HS hcell
      clear hLx hL hgc hgf hg1 hg2 hLL hlen
      by_cases hc1 : c = 1
      · subst hc1
        have hk1 : k = 1 := by omega
        subst hk1
        go_wp2_with fail
        go_loopw [11, 41] (fun o i wx => o = .int .i64 v0 ∧ i = .int .i64 0 ∧ wx = wr) (fun _ _ _ => 0)
        case atStart => exact ⟨rfl, rfl, rfl⟩
        case round =>
          obtain ⟨rfl, rfl, rfl⟩ := hrel
          go_wp2_with fail
          go_ret
          exact ⟨A1, _, ret_int (by unfold eqS; rw [HS.out]; exact HL0.out.symm), by unfold eqS; rw [HS.out]; exact hms, hfm⟩
      · go_wp2_with fail
        go_loopw [11, 41] (fun o i wx => ∃ (j n2 : Nat) (A2 : Option Addr) (v : Int) (g2 : List Gt), j ≤ k - 1 ∧ o = .int .i64 v ∧ i = .int .i64 (j : Nat) ∧ n2 ≤ n1 + j ∧ Hid (eqB X.t L g1 j = (g2, v)) ∧ ME 102 X wx n2 g2 A2 ∧ Fm wr wx X.x A1 A2) (fun _ i _ => k - 1 - (intOf i).toNat)
        case atStart => exact ⟨0, n1, A1, v0, g1, by omega, rfl, rfl, by omega, Lib.hid (by unfold eqB; rw [HL0.out]), hms, Fm.refl _ _ _⟩
        case round =>
          obtain ⟨j, n2, A2, v, g2, hj, rfl, rfl, hn2, hB2, hms2, hfm2⟩ := hrel
          by_cases hlt2 : j < k - 1
          · have ij : (j : Int) < ((k - 1 : Nat) : Int) := by omega
            obtain ⟨ad, vj, e, hej, hvj⟩ := hcell.out (1 + j) (by omega)
            injection e with e
            subst e
            have hvj1 := hvj _ _ hfm2
            rw [show (⟨ga, 0, none⟩ : Addr).add (1 + j) = ⟨ga, 1 + j, none⟩ by unfold Addr.add; rw [if_neg (by omega)]; simp] at hvj1
            have HS2 := Lib.hid (eqB_s hB2.out hms2.len hej)
            clear hvj hej
            have HN2 := Lib.hid hn2
            go_wp2_with (go_at_call 176; refine (ms_and hms2 (by have := HN.out; omega) _ _).mono ?_; rintro e wz ⟨A9, rfl, hm9, hf9⟩)
            go_roundw
            case rel => exact ⟨j + 1, _, _, _, _, by omega, rfl, by go_num, by have := HN2.out; omega, HS2, hm9, hfm2.trans hf9⟩
            case measure => simp [intOf]; omega
          · have ij : ¬ ((j : Int) < ((k - 1 : Nat) : Int)) := by omega
            have hjk : j = k - 1 := by omega
            go_wp2_with fail
            go_ret
            exact ⟨A2, _, ret_int (by unfold eqS; rw [HS.out, ← hjk, hB2.out]), by unfold eqS; rw [HS.out, ← hjk, hB2.out]; exact hms2, hfm.trans hfm2⟩
theorem spec_ciJoin (A B : Option Addr) (n c m d : Nat) (l l' : List Int) (w : World) (h : RdI w A n c l) (h' : RdI w B m d l') (hn : n ≤ 1000000000000) (hm : m ≤ 1000000000000) :
    Calls Tryz.prog 211 #[.slice A n c, .slice B m d] w fun e w' => ∃ A' c', e = .returned (.slice A' (n + m) c') ∧ OwnI w.heap.size w' A' (n + m) c' (l ++ l') ∧ Bl w w' := by
  go_enter Tryz.func211, Tryz.ntmps211
  go_wp2_with (first
    | (go_at_call 210; refine (spec_l1Own A n c l w h (by omega)).mono ?_; rintro e w1 ⟨A1, c1, rfl, hown1, hb1⟩)
    | (at_builtin; refine ap_int rfl rfl rfl hown1 rfl (h'.keep hb1) (by omega) hb1.size ?_; intro A2 c2 w2 hown2 hg2 hat2))
  go_ret
  exact ⟨A2, c2, rfl, hown2, hb1.grown hg2 (fun k hk => (hown1.blk k hk).1)⟩
set_option maxRecDepth 20000 in
set_option maxHeartbeats 8000000 in
theorem spec_gdTimes {w : World} {X : Mx} {n : Nat} {g : List Gt} {A : Option Addr} (h : ME 102 X w n g A) (Sa Sb : Option Addr) (N ca cb : Nat) (la lb : List Int) (hLa : Lx w X.x A Sa N ca la) (hLb : Lx w X.x A Sb N cb lb) (hN : N ≤ 5) (hN0 : 0 < N) (hn : n ≤ 300) :
    Calls Tryz.prog 175 #[.pointer (some ⟨X.x, 0, none⟩), .slice Sa N ca, .slice Sb N cb] w fun e w' => ∃ A' n1 S m c, e = .returned (.slice S m c) ∧ LE 102 X w w' A A' n1 (mulT X.t la lb N g N).1 S m c ((mulT X.t la lb N g N).2.1 ++ (mulT X.t la lb N g N).2.2) := by
  have hxl := h.lt
  have hBl : ∀ k, X.B.map (·.block) = some k → k < w.heap.size := fun k e => (h.os.blk k e).2
  go_enter Tryz.func175, Tryz.ntmps175
  go_wp2_with fail
  go_loopw [7, 8, 17] (fun o s i wr => ∃ (k n1 : Nat) (A1 So : Option Addr) (mo co : Nat) (Ss : Option Addr) (ms cs : Nat) (g1 : List Gt) (lo ls : List Int), k ≤ N ∧ o = .slice So mo co ∧ s = .slice Ss ms cs ∧ i = .int .i64 k ∧ n1 ≤ n + 42 * k ∧ Hid (mulT X.t la lb N g k = (g1, lo, ls)) ∧ TmE w wr X A A1 n1 g1 N k So mo co lo Ss ms cs ls) (fun _ _ i _ => N - (intOf i).toNat)
  case atStart => exact ⟨0, n, A, none, 0, 0, none, 0, 0, g, [], [], by omega, rfl, rfl, rfl, by omega, Lib.hid rfl, .inl ⟨rfl, rfl, rfl, rfl, rfl, rfl, rfl, h, Fm.refl _ _ _⟩⟩
  case round =>
    clear h
    obtain ⟨k, nq, Aq, So, mo, co, Ss, ms, cs, gq, lo, ls, hk, rfl, rfl, hi, hnq, HMq, hT⟩ := hrel
    by_cases hlt : k < N
    · have ik : (k : Int) < N := by omega
      obtain ⟨adb, vb, rfl, heb, hvb⟩ := hLb.at_ hlt
      have HEB := Lib.hid heb
      clear heb
      rcases hT with ⟨hk0, rfl, rfl, rfl, rfl, rfl, rfl, hmq, hfq⟩ | ⟨hk0, ga, c0, row, hR, rfl, rfl, rfl, rfl, rfl, rfl, rfl, rfl⟩ | ⟨hk2, rfl, rfl, hmq, hfq, hOq, hSq⟩
      · have hvb1 := hvb _ _ hfq
        subst hk0
        rw [show adb.add 0 = adb by simp [Addr.add]] at hvb1
        replace hi : _ = Value.int .i64 0 := hi
        subst hi
        replace ik : (0 : Int) < N := ik
        have hxq := hmq.lt
        clear hvb hLb
        go_wp2_with fail
        have hLaq := hLa.fm hfq
        have hL0 := LE.start hmq
        go_loopw [12, 34] (fun o i wy => ∃ (j n2 c : Nat) (A2 S : Option Addr) (g2 : List Gt) (l : List Int), j ≤ N ∧ o = .slice S j c ∧ i = .int .i64 j ∧ n2 ≤ nq + j ∧ Hid (andS X.t la vb gq j = (g2, l)) ∧ LE 102 X wr wy Aq A2 n2 g2 S j c l) (fun _ i _ => N - (intOf i).toNat)
        case atStart => exact ⟨0, nq, 0, Aq, none, _, [], by omega, rfl, rfl, by omega, Lib.hid rfl, hL0⟩
        case round =>
          clear hL0
          obtain ⟨j, n2, c, A2, S, g2, l, hj, rfl, rfl, hn2, hSj, hL⟩ := hrel
          by_cases hjlt : j < N
          · have ij : (j : Int) < N := by omega
            obtain ⟨ada, va, rfl, hea, hva⟩ := hLaq.at_ hjlt
            have hva1 := hva _ _ hL.fm
            have HN := Lib.hid hn2
            have HS2 := Lib.hid (andS_s hSj.out hL.ms.len hea)
            clear hva hLaq hea hSj
            go_wp2_with (first | (go_at_call 176; refine (ms_and hL.ms (by omega) _ _).mono ?_; rintro e wz ⟨A9, rfl, hm9, hf9⟩; replace hL := hL.step hm9 hf9; clear hm9 hf9) | (at_builtin; refine ap_int rfl rfl rfl (hL.own.alloc _) rfl (rd_new1 _ _ _) (by omega) (by have := hL.fm.size; simp; omega) ?_; intro S9 c9 wz ho9 hg9 hat9; replace hL := hL.app hxq ho9 hg9 hat9; clear ho9 hg9 hat9))
            go_roundw
            case rel => exact ⟨j + 1, _, _, _, _, _, _, by omega, rfl, by go_num, by have := HN.out; omega, HS2, hL⟩
            case measure => simp [intOf]; omega
          · have ij : ¬ ((j : Int) < N) := by omega
            have hjn : j = N := by omega
            subst hjn
            obtain ⟨ga, rfl, hg1, hg2, hgc, hgf⟩ := hL.own.form hN0
            have hle := hL.own.rd.le
            have i1 : (1 : Int) ≤ j := by omega
            have i2 : (1 : Int) ≤ c := by omega
            have i3 : (j : Int) ≤ c := by omega
            have hT : LE 102 X w _ A A2 n2 g2 (some ⟨ga, 0, none⟩) j c l := ⟨hL.ms, hfq.trans hL.fm, hL.own.mono hfq.size, hL.ap, hBl⟩
            have HN := Lib.hid hn2
            have HM := Lib.hid (mulT_0 HMq.out HEB.out rfl hSj.out)
            clear hgc hgf hg1 hg2 hL hSj
            by_cases hc1 : c = 1
            · subst hc1
              go_wp2_with fail
              go_roundw
              case rel => exact ⟨1, n2, A2, _, 1, 1, _, j - 1, 0, g2, _, _, by omega, rfl, by rw [if_pos rfl, show j - 1 = 0 by omega], by go_num, by have := HN.out; omega, HM, .inr (.inl ⟨rfl, ga, 1, l, hT, rfl, rfl, rfl, rfl, rfl, rfl, rfl, rfl⟩)⟩
              case measure => simp [intOf]; omega
            · go_wp2_with fail
              go_roundw
              case rel => exact ⟨1, n2, A2, _, 1, c, _, j - 1, c - 1, g2, _, _, by omega, rfl, rfl, by go_num, by have := HN.out; omega, HM, .inr (.inl ⟨rfl, ga, c, l, hT, rfl, rfl, rfl, by rw [if_neg hc1], rfl, rfl, rfl, rfl⟩)⟩
              case measure => simp [intOf]; omega
      · have hvb1 := hvb _ _ hR.fm
        subst hk0
        rw [show adb.add 1 = ⟨adb.block, adb.off + 1, none⟩ by unfold Addr.add; rw [if_neg (by omega)]] at hvb1
        replace hi : _ = Value.int .i64 1 := hi
        subst hi
        replace ik : (1 : Int) < N := ik
        have hle := hR.own.rd.le
        have hc1 : ¬ co = 1 := by omega
        have HLN := Lib.hid hR.ms.len
        rw [if_neg hc1]
        clear hvb hLb
        go_wp2_with (first
          | (go_at_call 171; refine (ms_one hR.ms (by omega)).mono ?_; rintro e wz ⟨A9, rfl, hm9, hf9⟩; replace hR := hR.step hm9 hf9; clear hm9 hf9)
          | (go_at_call 131; refine (ms_not hR.ms (by omega) _).mono ?_; rintro e wz ⟨A9, rfl, hm9, hf9⟩; replace hR := hR.step hm9 hf9; clear hm9 hf9)
          | (at_builtin; refine ap_tail rfl rfl rfl (hR.own.alloc _) (by omega) hN rfl (Blk.cell (Blk.new _ _ _) 0 _ rfl) ?_; intro Ss cs wq hSr hSb hSg hSc))
        obtain ⟨v1, hvc, hv0⟩ := own_head hR.own hN0
        have HV1 := Lib.hid (show row.take 1 = [v1] by rw [hvc]; rfl)
        have hxa := hR.app1 hxl hSg
        have hgz := (hR.own.blk ga rfl).2
        have hqz := Nat.le_trans ((Bl.refl _).alloc (.cells #[.int .i64 (wn X.t (nq + 1))] 3)).size hSg.size
        have hmq := hxa.1
        have hfq := hxa.2
        have hxq := hmq.lt
        have hOq := Lx.mk (x := X.x) (A := A9) (rd_one (w := wq) (c := co) (Nat.lt_of_lt_of_le hgz hqz) (by omega) (hSc.trans (Bl.cells ((Bl.refl _).alloc _) hv0))) (fun q hq => by
          simp at hq
          subst hq
          exact ⟨Nat.lt_of_lt_of_le hgz hqz, hR.ap _ rfl⟩)
        have hSq := Lx.mk (x := X.x) (A := A9) hSr (fun q hq => by
          obtain ⟨h1 | h1, h2⟩ := hSb q hq
          · subst h1
            exact ⟨h2, hR.ap _ rfl⟩
          · simp at h1
            refine ⟨h2, by have := hR.ms.lt; omega, fun e => ?_⟩
            have := (hR.ms.at_ q e).2
            omega)
        have HQ := Lib.hid hnq
        clear hxa hR hSr hSb hSg hSc hv0 hvc
        have hLaq := hLa.fm hfq
        have hL0 := LE.start hmq
        go_loopw [12, 34] (fun o i wy => ∃ (j n2 c : Nat) (A2 S : Option Addr) (g2 : List Gt) (l : List Int), j ≤ N ∧ o = .slice S j c ∧ i = .int .i64 j ∧ n2 ≤ nq + 1 + 1 + j ∧ Hid (andS X.t la vb (gq ++ [⟨3, 0, 0⟩] ++ [⟨2, wn X.t nq, 0⟩]) j = (g2, l)) ∧ LE 102 X wq wy A9 A2 n2 g2 S j c l) (fun _ i _ => N - (intOf i).toNat)
        case atStart => exact ⟨0, nq + 1 + 1, 0, A9, none, _, [], by omega, rfl, rfl, by omega, Lib.hid rfl, hL0⟩
        case round =>
          clear hL0
          obtain ⟨j, n2, c, A2, S, g2, l, hj, rfl, rfl, hn2, hSj, hL⟩ := hrel
          by_cases hjlt : j < N
          · have ij : (j : Int) < N := by omega
            obtain ⟨ada, va, rfl, hea, hva⟩ := hLaq.at_ hjlt
            have hva1 := hva _ _ hL.fm
            have HN := Lib.hid hn2
            have HS2 := Lib.hid (andS_s hSj.out hL.ms.len hea)
            clear hva hLaq hea hSj
            go_wp2_with (first | (go_at_call 176; refine (ms_and hL.ms (by omega) _ _).mono ?_; rintro e wz ⟨A9, rfl, hm9, hf9⟩; replace hL := hL.step hm9 hf9; clear hm9 hf9) | (at_builtin; refine ap_int rfl rfl rfl (hL.own.alloc _) rfl (rd_new1 _ _ _) (by omega) (by have := hL.fm.size; simp; omega) ?_; intro S9 c9 wz ho9 hg9 hat9; replace hL := hL.app hxq ho9 hg9 hat9; clear ho9 hg9 hat9))
            go_roundw
            case rel => exact ⟨j + 1, _, _, _, _, _, _, by omega, rfl, by go_num, by have := HN.out; omega, HS2, hL⟩
            case measure => simp [intOf]; omega
          · have ij : ¬ ((j : Int) < N) := by omega
            have hjn : j = N := by omega
            subst hjn
            have HN := Lib.hid hn2
            have HQ2 := HQ.out
            clear hn2
            have hSl := hSq.fm hL.fm
            have hOl := hOq.fm hL.fm
            have hfl := hfq.trans hL.fm
            have hRl := hL.lx
            have hml := hL.ms
            have hn2b : n2 ≤ 600 := by have := HN.out; omega
            clear hL
            go_wp2_with (go_at_call 172; refine (spec_gdAdd hml Ss S j cs c (row.drop 1 ++ [wn X.t (nq + 1)]) l hSl hRl (by omega) hn2b).mono ?_; rintro e w3 ⟨A3, n3, S3, c3, rfl, hL3⟩)
            obtain ⟨⟨g3', ld, cv⟩, HD⟩ : ∃ p, addS X.t (row.drop 1 ++ [wn X.t (nq + 1)]) l g2 j = p := ⟨_, rfl⟩
            rw [HD] at hL3
            dsimp only at hL3
            have HN3 := Lib.hid (show n3 ≤ n2 + 7 * j by have := addS_len HD; rw [hL3.ms.len, hml.len] at this; exact this)
            obtain ⟨g3, rfl, hg1, hg2, hgc, hgf⟩ := hL3.own.form (by omega)
            have hle := hL3.own.rd.le
            have hc1 : ¬ c3 = 1 := by omega
            have i2 : (1 : Int) ≤ c3 := by omega
            have i1 : (1 : Int) ≤ ((j + 1 : Nat) : Int) := by omega
            have i3 : ((j + 1 : Nat) : Int) ≤ c3 := by omega
            obtain ⟨v0, hvc, hv0⟩ := own_head hL3.own (by omega)
            have HM := Lib.hid (by have := mulT_1 HMq.out HLN.out HEB.out rfl hSj.out HD hvc; rw [HV1.out] at this; exact this)
            have hO3 := hOl.fm hL3.fm
            have hS3 := hL3.lx0 (hL3.own.rd.tl hc1) rfl
            have hM3 := hL3.ms
            have hF3 := hfl.trans hL3.fm
            clear hL3 hgc hgf hg1 hg2 hSl hOl hRl hml hfl hSq hOq hvc hSj HD
            refine wp_region_held_drew (S := (fun w' => w'.cell? ⟨g3, 0, none⟩ = some (.int .i64 v0))) (by kernel_rfl) ?_ (fun hHeld => ?_)
            · (try dsimp only); exact Bl.cells (by (repeat (first | assumption | with_reducible exact Bl.refl _ | with_reducible refine Bl.drewN ?_ _ | with_reducible refine Bl.drew ?_ | with_reducible refine Bl.alloc ?_ _ | (with_reducible refine Bl.call ?_ (by assumption))))) hv0
            refine held_take (i := 0) (d := 56) (v := ?_) rfl rfl (by kernel_rfl) (by kernel_rfl) (by kernel_rfl) (fun _ _ _ h => h) (Or.inl ⟨by rfl, ?_⟩) (by assumption) ?_
            rotate_left
            · (intro w hSw; (try dsimp only at hSw); go_simp; (try with_reducible rfl))
            (try simp only [List.set_cons_zero, List.set_cons_succ])
            refine held_take (i := 2) (d := 58) (v := ?_) rfl rfl (by kernel_rfl) (by kernel_rfl) (by kernel_rfl) (fun _ _ _ h => h) (Or.inl ⟨by rfl, ?_⟩) (by assumption) ?_
            rotate_left
            · (intro w hSw; (try dsimp only at hSw); go_simp; (try with_reducible rfl))
            (try simp only [List.set_cons_zero, List.set_cons_succ])
            refine held_take (i := 3) (d := 59) (v := ?_) rfl rfl (by kernel_rfl) (by kernel_rfl) (by kernel_rfl) (fun _ _ _ h => h) (Or.inl ⟨by rfl, ?_⟩) (by assumption) ?_
            rotate_left
            · (intro w hSw; (try dsimp only at hSw); go_simp; (try with_reducible rfl))
            (try simp only [List.set_cons_zero, List.set_cons_succ])
            refine held_take (i := 4) (d := 60) (v := ?_) rfl rfl (by kernel_rfl) (by kernel_rfl) (by kernel_rfl) (fun _ _ _ h => h) (Or.inl ⟨by rfl, ?_⟩) (by assumption) ?_
            rotate_left
            · (intro w hSw; (try dsimp only at hSw); go_simp; (try with_reducible rfl))
            (try simp only [List.set_cons_zero, List.set_cons_succ])
            refine wpAnyH_ready (rs := [1, 5]) (by kernel_rfl) (by simp) ?_
            refine AllReadyH.cons rfl (fun K hK => ?_) (AllReadyH.cons rfl (fun K hK => ?_) AllReadyH.nil)
            · go_simp
              (refine (spec_l1Own (some ⟨ga, 0, none⟩) 1 co [v1] _ (hO3.rd.keep (by (repeat (first | assumption | with_reducible exact Bl.refl _ | with_reducible refine Bl.drewN ?_ _ | with_reducible refine Bl.drew ?_ | with_reducible refine Bl.alloc ?_ _ | (with_reducible refine Bl.call ?_ (by assumption)))))) (by omega)).mono ?_; rintro e w4 ⟨A4, c4, rfl, ho4, hb4⟩)
              go_wp2_with fail
              refine hK.out _ _ ?_ (fun hHeld => ?_)
              · (try dsimp only); exact Bl.cells (by (repeat (first | assumption | with_reducible exact Bl.refl _ | with_reducible refine Bl.drewN ?_ _ | with_reducible refine Bl.drew ?_ | with_reducible refine Bl.alloc ?_ _ | (with_reducible refine Bl.call ?_ (by assumption))))) hv0
              clear hK K
              (try simp only [Act.put]); (try simp only [List.setIfInBounds_toArray]); (try simp only [List.set_cons_succ]); (try simp only [List.set_cons_zero])
              refine wpAnyH_ready (rs := [5]) (by kernel_rfl) (by simp) ?_
              refine AllReadyH.cons rfl (fun K hK => ?_) AllReadyH.nil
              go_simp
              refine hK.out _ _ ?_ (fun hHeld => ?_)
              · (try dsimp only); exact Bl.cells (by (repeat (first | assumption | with_reducible exact Bl.refl _ | with_reducible refine Bl.drewN ?_ _ | with_reducible refine Bl.drew ?_ | with_reducible refine Bl.alloc ?_ _ | (with_reducible refine Bl.call ?_ (by assumption))))) hv0
              clear hK K
              (try simp only [Act.put]); (try simp only [List.setIfInBounds_toArray]); (try simp only [List.set_cons_succ]); (try simp only [List.set_cons_zero])
              refine wpAnyH_ready (rs := [6]) (by kernel_rfl) (by simp) ?_
              refine AllReadyH.cons rfl (fun K hK => ?_) AllReadyH.nil
              (refine ap_int_step (l' := [v0]) rfl rfl rfl (ho4.alloc _) rfl (rd_new1 _ _ _) (by omega) (Bl.sz (hb4.alloc _)) ?_; intro A9 c9 w9 ho9 hg9 hat9; have hb9 : Bl w3 w9 := Bl.grown (((Bl.refl w3).drew.call hb4).alloc _) hg9 (fun k hk => (ho4.blk k hk).1); replace ho9 := ho9.mono (base' := w3.heap.size) (Nat.le_refl _))
              refine hK.out _ _ ?_ (fun hHeld => ?_)
              · (try dsimp only); exact Bl.cells (by (repeat (first | assumption | with_reducible exact Bl.refl _ | with_reducible refine Bl.drewN ?_ _ | with_reducible refine Bl.drew ?_ | with_reducible refine Bl.alloc ?_ _ | (with_reducible refine Bl.call ?_ (by assumption))))) hv0
              clear hK K
              (try simp only [Act.put]); (try simp only [List.setIfInBounds_toArray]); (try simp only [List.set_cons_succ]); (try simp only [List.set_cons_zero])
              refine held_take (i := 7) (d := 7) (v := ?_) rfl rfl (by kernel_rfl) (by kernel_rfl) (by kernel_rfl) (fun _ _ _ h => h) (Or.inl ⟨by rfl, ?_⟩) (by assumption) ?_
              rotate_left
              · (intro w hSw; (try dsimp only at hSw); go_simp; (try with_reducible rfl))
              (try simp only [List.set_cons_zero, List.set_cons_succ])
              refine wpAnyH_done (by kernel_rfl) ?_ _
              clear hv0
              have hX9 : Lx w9 X.x A3 A9 (1 + 1) c9 _ := ⟨ho9.rd, fun q hq => ⟨(ho9.blk q hq).2, by have := (ho9.blk q hq).1; have := hM3.lt; omega, fun e => by have := (ho9.blk q hq).1; have := (hM3.at_ q e).2; omega⟩⟩
              have hS9 := (hS3.keep hb9)
              have hM9 := hM3.keep hb9
              have hF9 := hF3.grew hb9 (Nat.le_of_lt hM3.lt)
              clear hO3 hS3 hM3 hF3
              go_wp2_with fail
              go_roundw
              case rel => exact ⟨2, n3, A3, A9, 1 + 1, c9, _, j, c3 - 1, g3', _, _, by omega, rfl, rfl, by go_num, by have := HN.out; have := HN3.out; omega, HM, .inr (.inr ⟨by omega, by omega, rfl, hM9, hF9, hX9, hS9⟩)⟩
              case measure => simp [intOf]; omega
            · go_simp
              refine hK.out _ _ ?_ (fun hHeld => ?_)
              · (try dsimp only); exact Bl.cells (by (repeat (first | assumption | with_reducible exact Bl.refl _ | with_reducible refine Bl.drewN ?_ _ | with_reducible refine Bl.drew ?_ | with_reducible refine Bl.alloc ?_ _ | (with_reducible refine Bl.call ?_ (by assumption))))) hv0
              clear hK K
              (try simp only [Act.put]); (try simp only [List.setIfInBounds_toArray]); (try simp only [List.set_cons_succ]); (try simp only [List.set_cons_zero])
              refine wpAnyH_ready (rs := [1]) (by kernel_rfl) (by simp) ?_
              refine AllReadyH.cons rfl (fun K hK => ?_) AllReadyH.nil
              go_simp
              (refine (spec_l1Own (some ⟨ga, 0, none⟩) 1 co [v1] _ (hO3.rd.keep (by (repeat (first | assumption | with_reducible exact Bl.refl _ | with_reducible refine Bl.drewN ?_ _ | with_reducible refine Bl.drew ?_ | with_reducible refine Bl.alloc ?_ _ | (with_reducible refine Bl.call ?_ (by assumption)))))) (by omega)).mono ?_; rintro e w4 ⟨A4, c4, rfl, ho4, hb4⟩)
              go_wp2_with fail
              refine hK.out _ _ ?_ (fun hHeld => ?_)
              · (try dsimp only); exact Bl.cells (by (repeat (first | assumption | with_reducible exact Bl.refl _ | with_reducible refine Bl.drewN ?_ _ | with_reducible refine Bl.drew ?_ | with_reducible refine Bl.alloc ?_ _ | (with_reducible refine Bl.call ?_ (by assumption))))) hv0
              clear hK K
              (try simp only [Act.put]); (try simp only [List.setIfInBounds_toArray]); (try simp only [List.set_cons_succ]); (try simp only [List.set_cons_zero])
              refine wpAnyH_ready (rs := [6]) (by kernel_rfl) (by simp) ?_
              refine AllReadyH.cons rfl (fun K hK => ?_) AllReadyH.nil
              (refine ap_int_step (l' := [v0]) rfl rfl rfl ho4 rfl ((rd_new1 _ _ _).drew.keep hb4) (by omega) hb4.size ?_; intro A9 c9 w9 ho9 hg9 hat9; have hsz4 := Bl.sz (((Bl.refl w3).alloc (.cells #[.int .i64 v0] 3)).drew); have hb9 : Bl w3 w9 := Bl.grown (((Bl.refl w3).alloc _).drew.call hb4) hg9 (fun k hk => Nat.le_trans hsz4 (ho4.blk k hk).1); replace ho9 := ho9.mono (base' := w3.heap.size) hsz4)
              refine hK.out _ _ ?_ (fun hHeld => ?_)
              · (try dsimp only); exact Bl.cells (by (repeat (first | assumption | with_reducible exact Bl.refl _ | with_reducible refine Bl.drewN ?_ _ | with_reducible refine Bl.drew ?_ | with_reducible refine Bl.alloc ?_ _ | (with_reducible refine Bl.call ?_ (by assumption))))) hv0
              clear hK K
              (try simp only [Act.put]); (try simp only [List.setIfInBounds_toArray]); (try simp only [List.set_cons_succ]); (try simp only [List.set_cons_zero])
              refine held_take (i := 7) (d := 7) (v := ?_) rfl rfl (by kernel_rfl) (by kernel_rfl) (by kernel_rfl) (fun _ _ _ h => h) (Or.inl ⟨by rfl, ?_⟩) (by assumption) ?_
              rotate_left
              · (intro w hSw; (try dsimp only at hSw); go_simp; (try with_reducible rfl))
              (try simp only [List.set_cons_zero, List.set_cons_succ])
              refine wpAnyH_done (by kernel_rfl) ?_ _
              clear hv0
              have hX9 : Lx w9 X.x A3 A9 (1 + 1) c9 _ := ⟨ho9.rd, fun q hq => ⟨(ho9.blk q hq).2, by have := (ho9.blk q hq).1; have := hM3.lt; omega, fun e => by have := (ho9.blk q hq).1; have := (hM3.at_ q e).2; omega⟩⟩
              have hS9 := (hS3.keep hb9)
              have hM9 := hM3.keep hb9
              have hF9 := hF3.grew hb9 (Nat.le_of_lt hM3.lt)
              clear hO3 hS3 hM3 hF3
              go_wp2_with fail
              go_roundw
              case rel => exact ⟨2, n3, A3, A9, 1 + 1, c9, _, j, c3 - 1, g3', _, _, by omega, rfl, rfl, by go_num, by have := HN.out; have := HN3.out; omega, HM, .inr (.inr ⟨by omega, by omega, rfl, hM9, hF9, hX9, hS9⟩)⟩
              case measure => simp [intOf]; omega
      · subst hi
        have hvb1 := hvb _ _ hfq
        have e1 : ((k : Int) == 1) = false := by simp; omega
        have e0 : ((k : Int) == 0) = false := by simp; omega
        have hxq := hmq.lt
        clear hvb hLb
        go_wp2_with fail
        have hLaq := hLa.fm hfq
        have hL0 := LE.start hmq
        go_loopw [12, 34] (fun o i wy => ∃ (j n2 c : Nat) (A2 S : Option Addr) (g2 : List Gt) (l : List Int), j ≤ N ∧ o = .slice S j c ∧ i = .int .i64 j ∧ n2 ≤ nq + j ∧ Hid (andS X.t la vb gq j = (g2, l)) ∧ LE 102 X wr wy Aq A2 n2 g2 S j c l) (fun _ i _ => N - (intOf i).toNat)
        case atStart => exact ⟨0, nq, 0, Aq, none, _, [], by omega, rfl, rfl, by omega, Lib.hid rfl, hL0⟩
        case round =>
          clear hL0
          obtain ⟨j, n2, c, A2, S, g2, l, hj, rfl, rfl, hn2, hSj, hL⟩ := hrel
          by_cases hjlt : j < N
          · have ij : (j : Int) < N := by omega
            obtain ⟨ada, va, rfl, hea, hva⟩ := hLaq.at_ hjlt
            have hva1 := hva _ _ hL.fm
            have HN := Lib.hid hn2
            have HS2 := Lib.hid (andS_s hSj.out hL.ms.len hea)
            clear hva hLaq hea hSj
            go_wp2_with (first | (go_at_call 176; refine (ms_and hL.ms (by omega) _ _).mono ?_; rintro e wz ⟨A9, rfl, hm9, hf9⟩; replace hL := hL.step hm9 hf9; clear hm9 hf9) | (at_builtin; refine ap_int rfl rfl rfl (hL.own.alloc _) rfl (rd_new1 _ _ _) (by omega) (by have := hL.fm.size; simp; omega) ?_; intro S9 c9 wz ho9 hg9 hat9; replace hL := hL.app hxq ho9 hg9 hat9; clear ho9 hg9 hat9))
            go_roundw
            case rel => exact ⟨j + 1, _, _, _, _, _, _, by omega, rfl, by go_num, by have := HN.out; omega, HS2, hL⟩
            case measure => simp [intOf]; omega
          · have ij : ¬ ((j : Int) < N) := by omega
            have hjn : j = N := by omega
            subst hjn
            have HN := Lib.hid hn2
            clear hn2
            have hSl := hSq.fm hL.fm
            have hOl := hOq.fm hL.fm
            have hfl := hfq.trans hL.fm
            have hRl := hL.lx
            have hml := hL.ms
            have hn2b : n2 ≤ 600 := by have := HN.out; omega
            clear hL
            go_wp2_with (go_at_call 172; refine (spec_gdAdd hml Ss S j cs c ls l hSl hRl (by omega) hn2b).mono ?_; rintro e w3 ⟨A3, n3, S3, c3, rfl, hL3⟩)
            obtain ⟨⟨g3', ld, cv⟩, HD⟩ : ∃ p, addS X.t ls l g2 j = p := ⟨_, rfl⟩
            rw [HD] at hL3
            dsimp only at hL3
            have HN3 := Lib.hid (show n3 ≤ n2 + 7 * j by have := addS_len HD; rw [hL3.ms.len, hml.len] at this; exact this)
            obtain ⟨g3, rfl, hg1, hg2, hgc, hgf⟩ := hL3.own.form (by omega)
            have hle := hL3.own.rd.le
            have hc1 : ¬ c3 = 1 := by omega
            have i2 : (1 : Int) ≤ c3 := by omega
            have i1 : (1 : Int) ≤ ((j + 1 : Nat) : Int) := by omega
            have i3 : ((j + 1 : Nat) : Int) ≤ c3 := by omega
            obtain ⟨v0, hvc, hv0⟩ := own_head hL3.own (by omega)
            have HM := Lib.hid (mulT_s HMq.out HEB.out hk2 hSj.out HD hvc)
            have hO3 := hOl.fm hL3.fm
            have hS3 := hL3.lx0 (hL3.own.rd.tl hc1) rfl
            have hM3 := hL3.ms
            have hF3 := hfl.trans hL3.fm
            clear hL3 hgc hgf hg1 hg2 hSl hOl hRl hml hfl hSq hOq hvc hSj HD
            refine wp_region_held_drew (S := (fun w' => w'.cell? ⟨g3, 0, none⟩ = some (.int .i64 v0))) (by kernel_rfl) ?_ (fun hHeld => ?_)
            · (try dsimp only); exact Bl.cells (by (repeat (first | assumption | with_reducible exact Bl.refl _ | with_reducible refine Bl.drewN ?_ _ | with_reducible refine Bl.drew ?_ | with_reducible refine Bl.alloc ?_ _ | (with_reducible refine Bl.call ?_ (by assumption))))) hv0
            refine held_take (i := 0) (d := 56) (v := ?_) rfl rfl (by kernel_rfl) (by kernel_rfl) (by kernel_rfl) (fun _ _ _ h => h) (Or.inl ⟨by rfl, ?_⟩) (by assumption) ?_
            rotate_left
            · (intro w hSw; (try dsimp only at hSw); go_simp; (try with_reducible rfl))
            (try simp only [List.set_cons_zero, List.set_cons_succ])
            refine held_take (i := 2) (d := 58) (v := ?_) rfl rfl (by kernel_rfl) (by kernel_rfl) (by kernel_rfl) (fun _ _ _ h => h) (Or.inl ⟨by rfl, ?_⟩) (by assumption) ?_
            rotate_left
            · (intro w hSw; (try dsimp only at hSw); go_simp; (try with_reducible rfl))
            (try simp only [List.set_cons_zero, List.set_cons_succ])
            refine held_take (i := 3) (d := 59) (v := ?_) rfl rfl (by kernel_rfl) (by kernel_rfl) (by kernel_rfl) (fun _ _ _ h => h) (Or.inl ⟨by rfl, ?_⟩) (by assumption) ?_
            rotate_left
            · (intro w hSw; (try dsimp only at hSw); go_simp; (try with_reducible rfl))
            (try simp only [List.set_cons_zero, List.set_cons_succ])
            refine held_take (i := 4) (d := 60) (v := ?_) rfl rfl (by kernel_rfl) (by kernel_rfl) (by kernel_rfl) (fun _ _ _ h => h) (Or.inl ⟨by rfl, ?_⟩) (by assumption) ?_
            rotate_left
            · (intro w hSw; (try dsimp only at hSw); go_simp; (try with_reducible rfl))
            (try simp only [List.set_cons_zero, List.set_cons_succ])
            refine wpAnyH_ready (rs := [1, 5]) (by kernel_rfl) (by simp) ?_
            refine AllReadyH.cons rfl (fun K hK => ?_) (AllReadyH.cons rfl (fun K hK => ?_) AllReadyH.nil)
            · go_simp
              (refine (spec_l1Own So k co lo _ (hO3.rd.keep (by (repeat (first | assumption | with_reducible exact Bl.refl _ | with_reducible refine Bl.drewN ?_ _ | with_reducible refine Bl.drew ?_ | with_reducible refine Bl.alloc ?_ _ | (with_reducible refine Bl.call ?_ (by assumption)))))) (by omega)).mono ?_; rintro e w4 ⟨A4, c4, rfl, ho4, hb4⟩)
              go_wp2_with fail
              refine hK.out _ _ ?_ (fun hHeld => ?_)
              · (try dsimp only); exact Bl.cells (by (repeat (first | assumption | with_reducible exact Bl.refl _ | with_reducible refine Bl.drewN ?_ _ | with_reducible refine Bl.drew ?_ | with_reducible refine Bl.alloc ?_ _ | (with_reducible refine Bl.call ?_ (by assumption))))) hv0
              clear hK K
              (try simp only [Act.put]); (try simp only [List.setIfInBounds_toArray]); (try simp only [List.set_cons_succ]); (try simp only [List.set_cons_zero])
              refine wpAnyH_ready (rs := [5]) (by kernel_rfl) (by simp) ?_
              refine AllReadyH.cons rfl (fun K hK => ?_) AllReadyH.nil
              go_simp
              refine hK.out _ _ ?_ (fun hHeld => ?_)
              · (try dsimp only); exact Bl.cells (by (repeat (first | assumption | with_reducible exact Bl.refl _ | with_reducible refine Bl.drewN ?_ _ | with_reducible refine Bl.drew ?_ | with_reducible refine Bl.alloc ?_ _ | (with_reducible refine Bl.call ?_ (by assumption))))) hv0
              clear hK K
              (try simp only [Act.put]); (try simp only [List.setIfInBounds_toArray]); (try simp only [List.set_cons_succ]); (try simp only [List.set_cons_zero])
              refine wpAnyH_ready (rs := [6]) (by kernel_rfl) (by simp) ?_
              refine AllReadyH.cons rfl (fun K hK => ?_) AllReadyH.nil
              (refine ap_int_step (l' := [v0]) rfl rfl rfl (ho4.alloc _) rfl (rd_new1 _ _ _) (by omega) (Bl.sz (hb4.alloc _)) ?_; intro A9 c9 w9 ho9 hg9 hat9; have hb9 : Bl w3 w9 := Bl.grown (((Bl.refl w3).drew.call hb4).alloc _) hg9 (fun k hk => (ho4.blk k hk).1); replace ho9 := ho9.mono (base' := w3.heap.size) (Nat.le_refl _))
              refine hK.out _ _ ?_ (fun hHeld => ?_)
              · (try dsimp only); exact Bl.cells (by (repeat (first | assumption | with_reducible exact Bl.refl _ | with_reducible refine Bl.drewN ?_ _ | with_reducible refine Bl.drew ?_ | with_reducible refine Bl.alloc ?_ _ | (with_reducible refine Bl.call ?_ (by assumption))))) hv0
              clear hK K
              (try simp only [Act.put]); (try simp only [List.setIfInBounds_toArray]); (try simp only [List.set_cons_succ]); (try simp only [List.set_cons_zero])
              refine held_take (i := 7) (d := 7) (v := ?_) rfl rfl (by kernel_rfl) (by kernel_rfl) (by kernel_rfl) (fun _ _ _ h => h) (Or.inl ⟨by rfl, ?_⟩) (by assumption) ?_
              rotate_left
              · (intro w hSw; (try dsimp only at hSw); go_simp; (try with_reducible rfl))
              (try simp only [List.set_cons_zero, List.set_cons_succ])
              refine wpAnyH_done (by kernel_rfl) ?_ _
              clear hv0
              have hX9 : Lx w9 X.x A3 A9 (k + 1) c9 _ := ⟨ho9.rd, fun q hq => ⟨(ho9.blk q hq).2, by have := (ho9.blk q hq).1; have := hM3.lt; omega, fun e => by have := (ho9.blk q hq).1; have := (hM3.at_ q e).2; omega⟩⟩
              have hS9 := (hS3.keep hb9)
              have hM9 := hM3.keep hb9
              have hF9 := hF3.grew hb9 (Nat.le_of_lt hM3.lt)
              clear hO3 hS3 hM3 hF3
              go_wp2_with fail
              go_roundw
              case rel => exact ⟨k + 1, n3, A3, A9, k + 1, c9, _, j, c3 - 1, g3', _, _, by omega, rfl, rfl, by go_num, by have := HN.out; have := HN3.out; omega, HM, .inr (.inr ⟨by omega, by omega, rfl, hM9, hF9, hX9, hS9⟩)⟩
              case measure => simp [intOf]; omega
            · go_simp
              refine hK.out _ _ ?_ (fun hHeld => ?_)
              · (try dsimp only); exact Bl.cells (by (repeat (first | assumption | with_reducible exact Bl.refl _ | with_reducible refine Bl.drewN ?_ _ | with_reducible refine Bl.drew ?_ | with_reducible refine Bl.alloc ?_ _ | (with_reducible refine Bl.call ?_ (by assumption))))) hv0
              clear hK K
              (try simp only [Act.put]); (try simp only [List.setIfInBounds_toArray]); (try simp only [List.set_cons_succ]); (try simp only [List.set_cons_zero])
              refine wpAnyH_ready (rs := [1]) (by kernel_rfl) (by simp) ?_
              refine AllReadyH.cons rfl (fun K hK => ?_) AllReadyH.nil
              go_simp
              (refine (spec_l1Own So k co lo _ (hO3.rd.keep (by (repeat (first | assumption | with_reducible exact Bl.refl _ | with_reducible refine Bl.drewN ?_ _ | with_reducible refine Bl.drew ?_ | with_reducible refine Bl.alloc ?_ _ | (with_reducible refine Bl.call ?_ (by assumption)))))) (by omega)).mono ?_; rintro e w4 ⟨A4, c4, rfl, ho4, hb4⟩)
              go_wp2_with fail
              refine hK.out _ _ ?_ (fun hHeld => ?_)
              · (try dsimp only); exact Bl.cells (by (repeat (first | assumption | with_reducible exact Bl.refl _ | with_reducible refine Bl.drewN ?_ _ | with_reducible refine Bl.drew ?_ | with_reducible refine Bl.alloc ?_ _ | (with_reducible refine Bl.call ?_ (by assumption))))) hv0
              clear hK K
              (try simp only [Act.put]); (try simp only [List.setIfInBounds_toArray]); (try simp only [List.set_cons_succ]); (try simp only [List.set_cons_zero])
              refine wpAnyH_ready (rs := [6]) (by kernel_rfl) (by simp) ?_
              refine AllReadyH.cons rfl (fun K hK => ?_) AllReadyH.nil
              (refine ap_int_step (l' := [v0]) rfl rfl rfl ho4 rfl ((rd_new1 _ _ _).drew.keep hb4) (by omega) hb4.size ?_; intro A9 c9 w9 ho9 hg9 hat9; have hsz4 := Bl.sz (((Bl.refl w3).alloc (.cells #[.int .i64 v0] 3)).drew); have hb9 : Bl w3 w9 := Bl.grown (((Bl.refl w3).alloc _).drew.call hb4) hg9 (fun k hk => Nat.le_trans hsz4 (ho4.blk k hk).1); replace ho9 := ho9.mono (base' := w3.heap.size) hsz4)
              refine hK.out _ _ ?_ (fun hHeld => ?_)
              · (try dsimp only); exact Bl.cells (by (repeat (first | assumption | with_reducible exact Bl.refl _ | with_reducible refine Bl.drewN ?_ _ | with_reducible refine Bl.drew ?_ | with_reducible refine Bl.alloc ?_ _ | (with_reducible refine Bl.call ?_ (by assumption))))) hv0
              clear hK K
              (try simp only [Act.put]); (try simp only [List.setIfInBounds_toArray]); (try simp only [List.set_cons_succ]); (try simp only [List.set_cons_zero])
              refine held_take (i := 7) (d := 7) (v := ?_) rfl rfl (by kernel_rfl) (by kernel_rfl) (by kernel_rfl) (fun _ _ _ h => h) (Or.inl ⟨by rfl, ?_⟩) (by assumption) ?_
              rotate_left
              · (intro w hSw; (try dsimp only at hSw); go_simp; (try with_reducible rfl))
              (try simp only [List.set_cons_zero, List.set_cons_succ])
              refine wpAnyH_done (by kernel_rfl) ?_ _
              clear hv0
              have hX9 : Lx w9 X.x A3 A9 (k + 1) c9 _ := ⟨ho9.rd, fun q hq => ⟨(ho9.blk q hq).2, by have := (ho9.blk q hq).1; have := hM3.lt; omega, fun e => by have := (ho9.blk q hq).1; have := (hM3.at_ q e).2; omega⟩⟩
              have hS9 := (hS3.keep hb9)
              have hM9 := hM3.keep hb9
              have hF9 := hF3.grew hb9 (Nat.le_of_lt hM3.lt)
              clear hO3 hS3 hM3 hF3
              go_wp2_with fail
              go_roundw
              case rel => exact ⟨k + 1, n3, A3, A9, k + 1, c9, _, j, c3 - 1, g3', _, _, by omega, rfl, rfl, by go_num, by have := HN.out; have := HN3.out; omega, HM, .inr (.inr ⟨by omega, by omega, rfl, hM9, hF9, hX9, hS9⟩)⟩
              case measure => simp [intOf]; omega
    · have hkn : k = N := by omega
      subst hkn
      have ik : ¬ ((k : Int) < k) := by omega
      rcases hT with ⟨hk0, rfl, rfl, rfl, rfl, rfl, rfl, hmq, hfq⟩ | ⟨hk0, ga, c0, row, hR, rfl, rfl, rfl, rfl, rfl, rfl, rfl, rfl⟩ | ⟨hk2, rfl, rfl, hmq, hfq, hOq, hSq⟩
      · omega
      · subst hk0
        obtain ⟨v0, hvc, hv0⟩ := own_head hR.own hN0
        have hle := hR.own.rd.le
        have hOr := rd_one (hR.own.blk ga rfl).2 (by omega) hv0
        have hlen := hR.own.length
        have hd0 : row.drop 1 = [] := List.drop_eq_nil_of_le (by omega)
        have ht0 : row.take 1 = [v0] := by rw [hvc]; rfl
        have hSr : RdI wr (if co = 1 then some ⟨ga, 0, none⟩ else some ⟨ga, 1, none⟩) (1 - 1) (co - 1) [] := ⟨rfl, by omega, by simp only [maxLen]; omega, fun hn => by omega⟩
        obtain ⟨Ss, hSs⟩ : ∃ Ss, Ss = (if co = 1 then some (⟨ga, 0, none⟩ : Addr) else some ⟨ga, 1, none⟩) := ⟨_, rfl⟩
        rw [← hSs] at hSr ⊢
        rw [hd0, ht0] at HMq
        clear hSs hv0 hvc hlen hd0 ht0
        subst hi
        go_wp2_with (go_at_call 211; refine (spec_ciJoin (some ⟨ga, 0, none⟩) Ss 1 co (1 - 1) (co - 1) [v0] [] _ hOr hSr (by omega) (by omega)).mono ?_; rintro e w5 ⟨A5, c5, rfl, ho5, hb5⟩)
        go_ret
        exact ⟨_, _, _, _, _, rfl, by rw [HMq.out]; exact ⟨hR.ms.keep hb5, hR.fm.grew hb5 (Nat.le_of_lt hR.ms.lt), ho5.mono hR.fm.size, fun q hq => ⟨by have := (ho5.blk q hq).1; have := hR.ms.lt; omega, fun e => by have := (ho5.blk q hq).1; have := (hR.ms.at_ q e).2; omega⟩, hBl⟩⟩
      · subst hi
        go_wp2_with (go_at_call 211; refine (spec_ciJoin So Ss k co k cs lo ls _ hOq.rd hSq.rd (by omega) (by omega)).mono ?_; rintro e w5 ⟨A5, c5, rfl, ho5, hb5⟩)
        go_ret
        exact ⟨_, _, _, _, _, rfl, by rw [HMq.out]; exact ⟨hmq.keep hb5, hfq.grew hb5 (Nat.le_of_lt hmq.lt), ho5.mono hfq.size, fun q hq => ⟨by have := (ho5.blk q hq).1; have := hmq.lt; omega, fun e => by have := (ho5.blk q hq).1; have := (hmq.at_ q e).2; omega⟩, hBl⟩⟩
end Go.Proofs.YtjggecbaladiiaaGreatDoor
