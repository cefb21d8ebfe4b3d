/- The reference's widths of all lines, its inputs and results; a valid program.
   Conditions: at most 1000 lines; all of them valid. -/
import Derived.Test.YtjggecbaladiiaaGreatDoorPrf
import Derived.Test.YtjggecbaladiiaaGreatDoorAps
namespace Go.Proofs.YtjggecbaladiiaaGreatDoor
open Go.RowKit
set_option linter.unusedVariables false
def opB (op : ByteArray) : Bool := opsL.any fun o => decide (o = op)
theorem opB_mem {op : ByteArray} (h : opB op = true) : op ∈ opsL := by
  unfold opB at h
  rw [List.any_eq_true] at h
  obtain ⟨o, h1, h2⟩ := h
  rw [decide_eq_true_eq] at h2
  exact h2 ▸ h1
/-- The width of a line behind others with widths. -/
def wdO (l : List Ln) (ws : List Int) (x : Ln) : Option Int :=
  match x with
  | ⟨k, nm, op, ps, pt, wd, vl⟩ =>
    match ps with
    | [] => if k = 1 ∧ op = ⟨#[]⟩ ∧ vl = 0 ∧ nmB nm = true ∧ fndL l nm < 0 ∧ inR pt 0 1 = true ∧ inR wd 1 10 = true then some wd
      else if k = 2 ∧ op = ⟨#[]⟩ ∧ pt = 0 ∧ nmB nm = true ∧ fndL l nm < 0 ∧ inR wd 1 10 = true ∧ inR vl 0 (2 ^ wd.toNat - 1) = true then some wd else none
    | [p] => if (k = 4 ∧ op = ⟨#[]⟩ ∧ pt = 0 ∧ wd = 0 ∧ vl = 0) ∧ nmB nm = true ∧ fndL l nm < 0 ∧ 0 ≤ fndL l p then some (ws.getD (fndL l p).toNat 0)
      else if (k = 6 ∧ op = ⟨#[]⟩ ∧ pt = 0 ∧ wd = 0 ∧ vl = 0) ∧ nm = ⟨#[]⟩ ∧ 0 ≤ fndL l p then some (ws.getD (fndL l p).toNat 0) else none
    | [p, q] => if (k = 3 ∧ pt = 0 ∧ wd = 0 ∧ vl = 0) ∧ nmB nm = true ∧ fndL l nm < 0 ∧ (0 ≤ fndL l p ∧ 0 ≤ fndL l q) ∧ pws l ws [p, q] = [ws.getD (fndL l p).toNat 0, ws.getD (fndL l p).toNat 0] ∧ 1 ≤ ws.getD (fndL l p).toNat 0 ∧ ws.getD (fndL l p).toNat 0 ≤ 10 ∧ opB op = true ∧ (¬ op = ⟨#[42]⟩ ∨ ws.getD (fndL l p).toNat 0 ≤ 5)
      then some (twoW op (ws.getD (fndL l p).toNat 0)) else none
    | [p, q, r] => if (k = 5 ∧ op = ⟨#[]⟩ ∧ pt = 0 ∧ wd = 0 ∧ vl = 0) ∧ nmB nm = true ∧ fndL l nm < 0 ∧ (0 ≤ fndL l p ∧ 0 ≤ fndL l q ∧ 0 ≤ fndL l r) ∧ pws l ws [p, q, r] = [1, ws.getD (fndL l q).toNat 0, ws.getD (fndL l q).toNat 0] then some (ws.getD (fndL l q).toNat 0) else none
    | _ => none
theorem spec_laWidth (A B : Option Addr) (n c d : Nat) (l : List (Hd × Ln)) (ws : List Int) (hd : Hd) (x : Ln) (v : Int) (w : World) (h : RdL w A n c l) (hw : RdI w B n d ws) (hp : RdS w hd.A hd.n hd.c x.ps) (hn : n ≤ 1000) (hv : wdO (l.map (·.2)) ws x = some v) :
    Calls Tryz.prog 200 #[.slice A n c, .slice B n d, .agg #[.int .i64 x.k, .string x.nm, .string x.op, .slice hd.A hd.n hd.c, .int .i64 x.pt, .int .i64 x.wd, .int .i64 x.vl]] w fun e w' => e = .returned (.int .i64 v) ∧ Bl w w' := by
  obtain ⟨C, m, cc⟩ := hd
  obtain ⟨k, nm, op, ps, pt, wd, vl⟩ := x
  obtain rfl : m = ps.length := hp.length.symm
  unfold wdO at hv
  dsimp only at hv hp ⊢
  split at hv
  · split at hv
    · rename_i h1; obtain ⟨rfl, rfl, rfl, a1, a2, a3, a4⟩ := h1; injection hv with hv; subst hv
      exact spec_laWidth_1 A B n c d l ws C cc nm pt wd w h hw hp hn (by simp) rfl a1 a2 a3 a4
    · split at hv
      · rename_i h1; obtain ⟨rfl, rfl, rfl, a1, a2, a3, a4⟩ := h1; injection hv with hv; subst hv
        exact spec_laWidth_2 A B n c d l ws C cc nm wd vl w h hw hp hn (by simp) rfl a1 a2 a3 a4
      · cases hv
  · split at hv
    · rename_i h1; obtain ⟨⟨rfl, rfl, rfl, rfl, rfl⟩, a1, a2, a3⟩ := h1; injection hv with hv; subst hv
      exact spec_laWidth_4 A B n c d l ws C cc nm _ _ w h hw hp hn (by intro s hs; obtain rfl := List.mem_singleton.1 hs; exact a3) rfl a1 a2
    · split at hv
      · rename_i h1; obtain ⟨⟨rfl, rfl, rfl, rfl, rfl⟩, rfl, a3⟩ := h1; injection hv with hv; subst hv
        exact spec_laWidth_6 A B n c d l ws C cc _ _ w h hw hp hn (by intro s hs; obtain rfl := List.mem_singleton.1 hs; exact a3) rfl
      · cases hv
  · split at hv
    · rename_i h1; obtain ⟨⟨rfl, rfl, rfl, rfl⟩, a1, a2, ⟨a3, a4⟩, a5, a6, a7, a8, a9⟩ := h1; injection hv with hv; subst hv
      exact spec_laWidth_3 A B n c d l ws C cc nm op _ _ _ w h hw hp hn (by intro s hs; simp only [List.mem_cons, List.not_mem_nil, or_false] at hs; rcases hs with rfl | rfl; exact a3; exact a4) a5 a1 a2 a6 a7 (opB_mem a8) (fun e => a9.resolve_left (fun h => h e))
    · cases hv
  · split at hv
    · rename_i h1; obtain ⟨⟨rfl, rfl, rfl, rfl, rfl⟩, a1, a2, ⟨a3, a4, a5⟩, a6⟩ := h1; injection hv with hv; subst hv
      exact spec_laWidth_5 A B n c d l ws C cc nm _ _ _ _ w h hw hp hn (by intro s hs; simp only [List.mem_cons, List.not_mem_nil, or_false] at hs; rcases hs with rfl | rfl | rfl; exact a3; exact a4; exact a5) a6 a1 a2
    · cases hv
  · cases hv
def wdsR : List Ln → List Int → List Ln → Option (List Int)
  | _, ws, [] => some ws
  | pre, ws, x :: t => match wdO pre ws x with
    | none => none
    | some v => wdsR (pre ++ [x]) (ws ++ [v]) t
/-- The widths of all lines of a valid program. -/
def wdsL (l : List Ln) : Option (List Int) := wdsR [] [] l
theorem wdsR_step {l : List (Hd × Ln)} {ws R : List Int} {k : Nat} {p : Hd × Ln} (hp : l[k]? = some p) (h : wdsR ((l.take k).map (·.2)) ws ((l.drop k).map (·.2)) = some R) : ∃ v, wdO ((l.take k).map (·.2)) ws p.2 = some v ∧ wdsR ((l.take (k + 1)).map (·.2)) (ws ++ [v]) ((l.drop (k + 1)).map (·.2)) = some R := by
  obtain ⟨hk, rfl⟩ := List.getElem?_eq_some_iff.1 hp
  rw [List.drop_eq_getElem_cons hk, List.map_cons, wdsR] at h
  split at h
  · cases h
  · rename_i v hv
    refine ⟨v, hv, ?_⟩
    rw [List.take_add_one, hp, List.map_append]
    exact h
theorem RdL.take {w : World} {A : Option Addr} {n c : Nat} {l : List (Hd × Ln)} (h : RdL w A n c l) {k : Nat} (hk : k ≤ n) : RdL w A k c (l.take k) := by
  refine ⟨?_, by rw [List.length_take, h.len]; omega, fun p hp => h.ps p (List.mem_of_mem_take hp)⟩
  have := h.rd.take hk
  rwa [show (encs encL l).take (k * 7) = encs encL (l.take k) from ?_] at this
  obtain ⟨hr, hl, hs⟩ := h
  clear this hr hs hk hl
  induction l generalizing k with
  | nil => simp [encs]
  | cons p t ih =>
    cases k with
    | zero => simp [encs]
    | succ k =>
      rw [List.take_succ_cons]
      show (encL p ++ encs encL t).take ((k + 1) * 7) = encL p ++ encs encL (t.take k)
      rw [List.take_append, encL_len, List.take_of_length_le (by rw [encL_len]; omega), show (k + 1) * 7 - 7 = k * 7 by omega, ih]
set_option maxRecDepth 20000 in
set_option maxHeartbeats 4000000 in
theorem spec_laWidths (A : Option Addr) (n c : Nat) (l : List (Hd × Ln)) (ws : List Int) (w : World) (h : RdL w A n c l) (hn : n ≤ 1000) (hv : wdsL (l.map (·.2)) = some ws) :
    Calls Tryz.prog 158 #[.slice A n c] w fun e w' => ∃ A' c', e = .returned (.slice A' n c') ∧ OwnI w.heap.size w' A' n c' ws ∧ Bl w w' := by
  obtain ⟨hle1, hle2⟩ := h.le
  have hlen := Lib.hid h.len
  have HV0 := Lib.hid hv
  clear hv
  have hown0 := OwnI.nil w.heap.size w
  have hW0 := Bl.refl w
  go_enter Tryz.func158, Tryz.ntmps158
  go_wp2
  go_loopw [3, 8] (fun o i wr => ∃ (k : Nat) (A2 : Option Addr) (c2 : Nat) (wk : List Int), k ≤ n ∧ i = .int .i64 (k : Nat) ∧ o = .slice A2 k c2 ∧ OwnI w.heap.size wr A2 k c2 wk ∧ Hid (wdsR ((l.take k).map (·.2)) wk ((l.drop k).map (·.2)) = some ws) ∧ Bl w wr) (fun _ i _ => n - (intOf i).toNat)
  case atStart => exact ⟨0, none, 0, [], by omega, rfl, rfl, hown0, HV0, hW0⟩
  case round =>
    clear hown0 hW0
    obtain ⟨k, A2, c2, wk, hk, rfl, rfl, hown, hq, hW⟩ := hrel
    have hl := h.keep hW
    by_cases hlt : k < n
    · obtain ⟨ad, p, rfl, hadb, hx, hps, c0, c1, c2_, c3_, c4, c5, c6⟩ := hl.at_ hlt
      obtain ⟨v, HV1, HN⟩ := wdsR_step hx hq.out
      have HV := Lib.hid HV1
      clear HV1 hx
      have hX := Blk.new wr 92 #[.int .i64 p.2.k, .string p.2.nm, .string p.2.op, .slice p.1.A p.1.n p.1.c, .int .i64 p.2.pt, .int .i64 p.2.wd, .int .i64 p.2.vl] (g := wr.heap.size)
      have hV := (Bl.refl wr).alloc (.cells #[.int .i64 p.2.k, .string p.2.nm, .string p.2.op, .slice p.1.A p.1.n p.1.c, .int .i64 p.2.pt, .int .i64 p.2.wd, .int .i64 p.2.vl] 92)
      have hneB : ∀ q, A2.map (·.block) = some q → q ≠ wr.heap.size := fun q hq e => by have := (hown.blk q hq).2; omega
      have hkc : k ≤ c := by omega
      go_wp2_with fail

      generalize wr.alloc (.cells #[.int .i64 p.2.k, .string p.2.nm, .string p.2.op, .slice p.1.A p.1.n p.1.c, .int .i64 p.2.pt, .int .i64 p.2.wd, .int .i64 p.2.vl] 92) = w0 at hX hV ⊢
      replace hX := hX.drew
      replace hV := hV.drew
      refine wp_region_held_drew (S := (fun w' => w'.cell? ⟨wr.heap.size, 0, none⟩ = some (.int .i64 p.2.k) ∧ w'.cell? ⟨wr.heap.size, 1, none⟩ = some (.string p.2.nm) ∧ w'.cell? ⟨wr.heap.size, 2, none⟩ = some (.string p.2.op) ∧ w'.cell? ⟨wr.heap.size, 3, none⟩ = some (.slice p.1.A p.1.n p.1.c) ∧ w'.cell? ⟨wr.heap.size, 4, none⟩ = some (.int .i64 p.2.pt) ∧ w'.cell? ⟨wr.heap.size, 5, none⟩ = some (.int .i64 p.2.wd) ∧ w'.cell? ⟨wr.heap.size, 6, none⟩ = some (.int .i64 p.2.vl))) (by kernel_rfl) ?_ (fun hHeld => ?_)
      · (try dsimp only); exact ⟨hX.cell 0 _ rfl, hX.cell 1 _ rfl, hX.cell 2 _ rfl, hX.cell 3 _ rfl, hX.cell 4 _ rfl, hX.cell 5 _ rfl, hX.cell 6 _ rfl⟩
      refine held_take (i := 0) (d := 13) (v := ?_) rfl rfl (by kernel_rfl) (by kernel_rfl) (by kernel_rfl) (fun _ _ _ h => h) (Or.inl ⟨by rfl, ?_⟩) (by assumption) ?_
      rotate_left
      · (intro w hSw; (try dsimp only at hSw); go_simp; (try with_reducible rfl))
      (try simp only [List.set_cons_zero, List.set_cons_succ])
      refine held_take (i := 1) (d := 14) (v := ?_) rfl rfl (by kernel_rfl) (by kernel_rfl) (by kernel_rfl) (fun _ _ _ h => h) (Or.inl ⟨by rfl, ?_⟩) (by assumption) ?_
      rotate_left
      · (intro w hSw; (try dsimp only at hSw); go_simp; (try with_reducible rfl))
      (try simp only [List.set_cons_zero, List.set_cons_succ])
      refine held_take (i := 2) (d := 15) (v := ?_) rfl rfl (by kernel_rfl) (by kernel_rfl) (by kernel_rfl) (fun _ _ _ h => h) (Or.inl ⟨by rfl, ?_⟩) (by assumption) ?_
      rotate_left
      · (intro w hSw; (try dsimp only at hSw); go_simp; (try with_reducible rfl))
      (try simp only [List.set_cons_zero, List.set_cons_succ])
      refine held_take (i := 3) (d := 16) (v := ?_) rfl rfl (by kernel_rfl) (by kernel_rfl) (by kernel_rfl) (fun _ _ _ h => h) (Or.inl ⟨by rfl, ?_⟩) (by assumption) ?_
      rotate_left
      · (intro w hSw; (try dsimp only at hSw); go_simp; (try with_reducible rfl))
      (try simp only [List.set_cons_zero, List.set_cons_succ])
      refine held_take (i := 4) (d := 17) (v := ?_) rfl rfl (by kernel_rfl) (by kernel_rfl) (by kernel_rfl) (fun _ _ _ h => h) (Or.inl ⟨by rfl, ?_⟩) (by assumption) ?_
      rotate_left
      · (intro w hSw; (try dsimp only at hSw); go_simp; (try with_reducible rfl))
      (try simp only [List.set_cons_zero, List.set_cons_succ])
      refine held_take (i := 5) (d := 18) (v := ?_) rfl rfl (by kernel_rfl) (by kernel_rfl) (by kernel_rfl) (fun _ _ _ h => h) (Or.inl ⟨by rfl, ?_⟩) (by assumption) ?_
      rotate_left
      · (intro w hSw; (try dsimp only at hSw); go_simp; (try with_reducible rfl))
      (try simp only [List.set_cons_zero, List.set_cons_succ])
      refine wpAnyH_ready (rs := [6]) (by kernel_rfl) (by simp) ?_
      refine AllReadyH.cons rfl (fun K hK => ?_) AllReadyH.nil
      go_simp
      refine (spec_laWidth _ _ _ _ _ _ _ p.1 p.2 v _ ((hl.keep hV).take hk) (hown.rd.keep hV) (hps.keep hV) (by omega) HV.out).mono ?_; rintro e v5 ⟨rfl, hb5⟩; have hX5 := hX.keep hb5; have hV5 := hV.call hb5
      go_wp2_with fail
      refine hK.out _ _ ?_ (fun hHeld => ?_)
      · (try dsimp only); have q := hX5; have q2 := q.alloc (.cells #[.int .i64 v] 3); exact ⟨q.cell 0 _ rfl, q.cell 1 _ rfl, q.cell 2 _ rfl, q.cell 3 _ rfl, q.cell 4 _ rfl, q.cell 5 _ rfl, q.cell 6 _ rfl⟩
      clear hK K
      (try simp only [Act.put]); (try simp only [List.setIfInBounds_toArray]); (try simp only [List.set_cons_succ]); (try simp only [List.set_cons_zero])
      refine wpAnyH_ready (rs := [7]) (by kernel_rfl) (by simp) ?_
      refine AllReadyH.cons rfl (fun K hK => ?_) AllReadyH.nil
      go_simp
      refine hK.out _ _ ?_ (fun hHeld => ?_)
      · (try dsimp only); have q := hX5; have q2 := q.alloc (.cells #[.int .i64 v] 3); exact ⟨q2.cell 0 _ rfl, q2.cell 1 _ rfl, q2.cell 2 _ rfl, q2.cell 3 _ rfl, q2.cell 4 _ rfl, q2.cell 5 _ rfl, q2.cell 6 _ rfl⟩
      clear hK K
      (try simp only [Act.put]); (try simp only [List.setIfInBounds_toArray]); (try simp only [List.set_cons_succ]); (try simp only [List.set_cons_zero])
      refine wpAnyH_ready (rs := [8]) (by kernel_rfl) (by simp) ?_
      refine AllReadyH.cons rfl (fun K hK => ?_) AllReadyH.nil
      refine ap_int_step rfl rfl rfl ((hown.keep hV5).alloc _) rfl (rd_new1 _ _ _) (by omega) (by have := hV5.sz; have := hW.sz; simp; omega) ?_; intro A3 c3 w8 hown3 hg3 hat3
      refine hK.out _ _ ?_ (fun hHeld => ?_)
      · (try dsimp only); have q := (hX5.alloc (.cells #[.int .i64 v] 3)).grown hg3 (fun e => hneB _ e.symm rfl); exact ⟨q.cell 0 _ rfl, q.cell 1 _ rfl, q.cell 2 _ rfl, q.cell 3 _ rfl, q.cell 4 _ rfl, q.cell 5 _ rfl, q.cell 6 _ rfl⟩
      clear hK K
      (try simp only [Act.put]); (try simp only [List.setIfInBounds_toArray]); (try simp only [List.set_cons_succ]); (try simp only [List.set_cons_zero])
      refine held_take (i := 9) (d := 3) (v := ?_) rfl rfl (by kernel_rfl) (by kernel_rfl) (by kernel_rfl) (fun _ _ _ h => h) (Or.inl ⟨by rfl, ?_⟩) (by assumption) ?_
      rotate_left
      · (intro w hSw; (try dsimp only at hSw); go_simp; (try with_reducible rfl))
      (try simp only [List.set_cons_zero, List.set_cons_succ])
      refine wpAnyH_done (by kernel_rfl) ?_ _
      go_wp2_with fail
      go_roundw
      case rel => exact ⟨k + 1, A3, c3, _, by omega, by go_num, rfl, hown3, Lib.hid HN, Bl.grown ((hW.call hV5).alloc _) hg3 (fun q hq => (hown.blk q hq).1)⟩
      case measure => simp [intOf]; omega
    · obtain rfl : k = n := by omega
      have hst := Lib.hid (show wk = ws by
        have e := hq.out
        rw [List.drop_eq_nil_of_le (by rw [hlen.out]; omega)] at e
        injection e)
      go_wp2_with fail
      go_ret
      exact ⟨A2, c2, rfl, by rw [← hst.out]; exact hown, hW⟩
theorem sum_step {l : List Int} {k : Nat} {x : Int} (h : l[k]? = some x) : (l.take (k + 1)).sum = (l.take k).sum + x := by rw [List.take_add_one, h]; simp
theorem sum_bd {l : List Int} (h : allR l 0 1000 = true) (k : Nat) : 0 ≤ (l.take k).sum ∧ (l.take k).sum ≤ 1000 * k := by
  induction k with
  | zero => simp
  | succ k ih =>
    rcases hx : l[k]? with _ | x
    · rw [List.take_add_one, hx]; simp only [Option.toList, List.append_nil]; omega
    · rw [sum_step hx]
      have := inR_iff.1 (List.all_eq_true.1 h x (List.mem_of_getElem? hx))
      omega
set_option maxHeartbeats 1000000 in
theorem spec_laSum (A : Option Addr) (n c : Nat) (l : List Int) (w : World) (h : RdI w A n c l) (hn : n ≤ 1000) (hb : allR l 0 1000 = true) :
    Calls Tryz.prog 48 #[.slice A n c] w fun e w' => e = .returned (.int .i64 l.sum) ∧ w = w' := by
  obtain ⟨hle1, hle2⟩ := h.le
  have hl := Lib.hid h.length
  have HB := Lib.hid (sum_bd hb)
  clear hb
  go_enter Tryz.func48, Tryz.ntmps48
  go_wp2
  go_loop [3, 8] (fun o i => ∃ k : Nat, k ≤ n ∧ i = .int .i64 k ∧ o = .int .i64 (l.take k).sum) (fun _ i => n - (intOf i).toNat)
  case atStart => exact ⟨0, by omega, rfl, by simp⟩
  case round =>
    obtain ⟨k, hk, rfl, rfl⟩ := hrel
    by_cases hlt : k < n
    · obtain ⟨ad, x, rfl, hadb, hx, hcell⟩ := h.at_ hlt
      have HS := Lib.hid (sum_step hx)
      have h1 := HB.out k
      have h2 := HB.out (k + 1)
      rw [HS.out] at h2
      clear hx
      generalize (l.take k).sum = S at h1 h2 HS
      go_wp2_with fail
      go_round
      case rel => exact ⟨k + 1, by omega, by go_num, by rw [HS.out]⟩
      case measure => simp [intOf]; omega
    · obtain rfl : k = n := by omega
      have HT := Lib.hid (show l.take k = l from List.take_of_length_le (by rw [hl.out]; omega))
      go_wp2_with fail
      go_ret
      exact ⟨by rw [HT.out]; rfl, rfl⟩
/-- The widths of the inputs of a party. -/
def insL (l : List Ln) (p : Int) : List Int := l.filterMap fun x => if x.k = 1 ∧ x.pt = p then some x.wd else none
theorem ins_yes {l : List (Hd × Ln)} {k : Nat} {p : Int} {x : Hd × Ln} (h : l[k]? = some x) (e : x.2.k = 1 ∧ x.2.pt = p) : insL ((l.take (k + 1)).map (·.2)) p = insL ((l.take k).map (·.2)) p ++ [x.2.wd] := by
  rw [List.take_add_one, h]; unfold insL; simp [List.filterMap_append, e]
theorem ins_no {l : List (Hd × Ln)} {k : Nat} {p : Int} {x : Hd × Ln} (h : l[k]? = some x) (e : ¬ (x.2.k = 1 ∧ x.2.pt = p)) : insL ((l.take (k + 1)).map (·.2)) p = insL ((l.take k).map (·.2)) p := by
  rw [List.take_add_one, h]; unfold insL; simp only [Option.toList, List.map_append, List.map_cons, List.map_nil, List.filterMap_append, List.filterMap_cons, List.filterMap_nil, if_neg e, List.append_nil]
set_option maxRecDepth 20000 in
set_option maxHeartbeats 4000000 in
theorem spec_laInputs (A : Option Addr) (n c : Nat) (l : List (Hd × Ln)) (p : Int) (w : World) (h : RdL w A n c l) (hn : n ≤ 1000) :
    Calls Tryz.prog 47 #[.slice A n c, .int .i64 p] w fun e w' => ∃ A' m c', e = .returned (.slice A' m c') ∧ m ≤ n ∧ OwnI w.heap.size w' A' m c' (insL (l.map (·.2)) p) ∧ Bl w w' := by
  obtain ⟨hle1, hle2⟩ := h.le
  have hlen := Lib.hid h.len
  have hown0 := OwnI.nil w.heap.size w
  have hW0 := Bl.refl w
  go_enter Tryz.func47, Tryz.ntmps47
  go_wp2
  go_loopw [5, 10] (fun o i wr => ∃ (k m : Nat) (A2 : Option Addr) (c2 : Nat) (wk : List Int), k ≤ n ∧ m ≤ k ∧ i = .int .i64 (k : Nat) ∧ o = .slice A2 m c2 ∧ OwnI w.heap.size wr A2 m c2 wk ∧ Hid (insL ((l.take k).map (·.2)) p = wk) ∧ Bl w wr) (fun _ i _ => n - (intOf i).toNat)
  case atStart => exact ⟨0, 0, none, 0, [], by omega, by omega, rfl, rfl, hown0, Lib.hid rfl, hW0⟩
  case round =>
    clear hown0 hW0
    obtain ⟨k, m, A2, c2, wk, hk, hmk, rfl, rfl, hown, hq, hW⟩ := hrel
    by_cases hlt : k < n
    · obtain ⟨ad, x, rfl, hadb, hx, _, c0, c1, c2_, c3_, c4, c5, c6⟩ := (h.keep hW).at_ hlt
      by_cases h1 : x.2.k = 1
      · by_cases h2 : x.2.pt = p
        · have HS := Lib.hid (ins_yes hx ⟨h1, h2⟩)
          rw [h1] at c0
          rw [h2] at c4
          clear hx h1 h2
          go_wp2_with (at_builtin; refine ap_int rfl rfl rfl ((hown.alloc _).alloc _) rfl (rd_new1 _ _ _) (by omega) (by have := hW.sz; simp; omega) ?_; intro A3 c3 w8 hown3 hg3 hat3)
          go_roundw
          case rel => exact ⟨k + 1, m + 1, A3, c3, _, by omega, by omega, by go_num, rfl, hown3, Lib.hid (by rw [HS.out, hq.out]), Bl.grown ((hW.alloc _).alloc _) hg3 (fun q hq => (hown.blk q hq).1)⟩
          case measure => simp [intOf]; omega
        · have HS := Lib.hid (ins_no hx (fun e => h2 e.2))
          rw [h1] at c0
          clear hx h1
          go_wp2_with fail
          go_roundw
          case rel => exact ⟨k + 1, m, A2, c2, wk, by omega, by omega, by go_num, rfl, hown.alloc _, Lib.hid (by rw [HS.out, hq.out]), hW.alloc _⟩
          case measure => simp [intOf]; omega
      · have HS := Lib.hid (ins_no (p := p) hx (fun e => h1 e.1))
        clear hx
        go_wp2_with fail
        go_roundw
        case rel => exact ⟨k + 1, m, A2, c2, wk, by omega, by omega, by go_num, rfl, hown.alloc _, Lib.hid (by rw [HS.out, hq.out]), hW.alloc _⟩
        case measure => simp [intOf]; omega
    · obtain rfl : k = n := by omega
      have HT := Lib.hid (show l.take k = l from List.take_of_length_le (by rw [hlen.out]; omega))
      go_wp2_with fail
      go_ret
      refine ⟨A2, m, c2, rfl, hmk, ?_, hW⟩
      have e := hq.out
      rw [HT.out] at e
      rw [e]; exact hown
/-- The widths of the results. -/
def outL : List Ln → List Int → List Int
  | x :: l, v :: ws => if x.k = 6 then v :: outL l ws else outL l ws
  | _, _ => []
theorem outL_snoc {l : List Ln} {ws : List Int} {x : Ln} {v : Int} (h : l.length = ws.length) : outL (l ++ [x]) (ws ++ [v]) = outL l ws ++ (if x.k = 6 then [v] else []) := by
  induction l generalizing ws with
  | nil => cases ws with
    | nil => simp only [List.nil_append, outL]
    | cons _ _ => simp at h
  | cons y l ih => cases ws with
    | nil => simp at h
    | cons u ws =>
      simp only [List.cons_append, outL]
      rw [ih (by simpa using h)]
      split <;> simp
theorem out_step {l : List (Hd × Ln)} {ws : List Int} {k : Nat} {x : Hd × Ln} {v : Int} (h : l[k]? = some x) (hv : ws[k]? = some v) : outL ((l.take (k + 1)).map (·.2)) (ws.take (k + 1)) = outL ((l.take k).map (·.2)) (ws.take k) ++ (if x.2.k = 6 then [v] else []) := by
  have h1 := (List.getElem?_eq_some_iff.1 h).1
  have h2 := (List.getElem?_eq_some_iff.1 hv).1
  rw [List.take_add_one, h, List.take_add_one, hv, List.map_append]
  exact outL_snoc (by simp; omega)
set_option maxRecDepth 20000 in
set_option maxHeartbeats 4000000 in
theorem spec_laOuts (A : Option Addr) (n c : Nat) (l : List (Hd × Ln)) (ws : List Int) (w : World) (h : RdL w A n c l) (hn : n ≤ 1000) (hv : wdsL (l.map (·.2)) = some ws) :
    Calls Tryz.prog 181 #[.slice A n c] w fun e w' => ∃ A' m c', e = .returned (.slice A' m c') ∧ m ≤ n ∧ OwnI w.heap.size w' A' m c' (outL (l.map (·.2)) ws) ∧ Bl w w' := by
  obtain ⟨hle1, hle2⟩ := h.le
  have hlen := Lib.hid h.len
  have HV := Lib.hid hv
  clear hv
  go_enter Tryz.func181, Tryz.ntmps181
  go_wp2_with (go_at_call 158; refine (spec_laWidths _ _ _ _ _ _ h hn HV.out).mono ?_; rintro e w1 ⟨B, d, rfl, hs, hb1⟩)
  have hs0 := hs.rd
  obtain ⟨hle3, hle4⟩ := hs0.le
  have hown0 := OwnI.nil w.heap.size w1
  have hW0 := hb1
  have hls := hs0.length
  go_loopw [3, 9] (fun o i wr => ∃ (k m : Nat) (A2 : Option Addr) (c2 : Nat) (wk : List Int), k ≤ n ∧ m ≤ k ∧ i = .int .i64 (k : Nat) ∧ o = .slice A2 m c2 ∧ OwnI w.heap.size wr A2 m c2 wk ∧ RdI wr B n d ws ∧ (∀ q, A2.map (·.block) = some q → w1.heap.size ≤ q) ∧ Hid (outL ((l.take k).map (·.2)) (ws.take k) = wk) ∧ Bl w wr ∧ Bl w1 wr) (fun _ i _ => n - (intOf i).toNat)
  case atStart => exact ⟨0, 0, none, 0, [], by omega, by omega, rfl, rfl, hown0, hs0, (fun q hq => by cases hq), Lib.hid rfl, hW0, Bl.refl _⟩
  case round =>
    clear hown0 hW0 hs
    obtain ⟨k, m, A2, c2, wk, hk, hmk, rfl, rfl, hown, hr, hne, hq, hW, hW1⟩ := hrel
    by_cases hlt : k < n
    · obtain ⟨ad, x, rfl, hadb, hx, _, c0, c1, c2_, c3_, c4, c5, c6⟩ := (h.keep hW).at_ hlt
      obtain ⟨bd, v, rfl, hbdb, hxv, hcv⟩ := hr.at_ hlt
      have HS := Lib.hid (out_step hx hxv)
      have hbd1 : bd.block < w1.heap.size := by obtain ⟨q, e, h1, _⟩ := hs0.at0 (by omega); injection e with e; subst e; exact h1
      by_cases h1 : x.2.k = 6
      · have HT : Hid (outL ((l.take (k + 1)).map (·.2)) (ws.take (k + 1)) = wk ++ [v]) := Lib.hid (by rw [HS.out, hq.out, if_pos h1])
        rw [h1] at c0
        clear hx h1 hxv
        go_wp2_with (at_builtin; refine ap_int rfl rfl rfl (hown.alloc _) rfl (rd_new1 _ _ _) (by omega) (by have := hW.sz; simp; omega) ?_; intro A3 c3 w8 hown3 hg3 hat3)
        go_roundw
        case rel =>
          exact ⟨k + 1, m + 1, A3, c3, _, by omega, by omega, by go_num, rfl, hown3, (hr.keep ((Bl.refl wr).alloc _)).grown hg3 (fun a ha e => by injection ha with ha; subst ha; have := hne _ e.symm; omega), (fun q hq2 => by rcases hat3 with h3 | h3; exact hne q (h3.symm.trans hq2); have h4 := h3.symm.trans hq2; injection h4 with h4; have := hW1.sz; simp at h4; omega), HT, Bl.grown (hW.alloc _) hg3 (fun q hq => (hown.blk q hq).1), Bl.grown (hW1.alloc _) hg3 (fun q hq => hne q hq)⟩
        case measure => simp [intOf]; omega
      · have HT : Hid (outL ((l.take (k + 1)).map (·.2)) (ws.take (k + 1)) = wk) := Lib.hid (by rw [HS.out, hq.out, if_neg h1, List.append_nil])
        clear hx hxv
        go_wp2_with fail
        go_roundw
        case rel => exact ⟨k + 1, m, A2, c2, wk, by omega, by omega, by go_num, rfl, hown, hr, hne, HT, hW, hW1⟩
        case measure => simp [intOf]; omega
    · obtain rfl : k = n := by omega
      have HT := Lib.hid (show l.take k = l from List.take_of_length_le (by rw [hlen.out]; omega))
      have HU := Lib.hid (show ws.take k = ws from List.take_of_length_le (by rw [hls]; omega))
      go_wp2_with fail
      go_ret
      refine ⟨A2, m, c2, rfl, hmk, ?_, hW⟩
      have e := hq.out
      rw [HT.out, HU.out] at e
      rw [e]; exact hown
/-- A valid program. -/
def goodB (l : List Ln) : Bool := decide (l.length ≤ 30) && (match wdsL l with
  | none => false
  | some ws => allR ws 1 10 && decide ((outL l ws).length ≤ 10)) && (allR (insL l 0) 0 1000 && decide ((insL l 0).sum ≤ 20)) && (allR (insL l 1) 0 1000 && decide ((insL l 1).sum ≤ 20))
set_option maxRecDepth 20000 in
set_option maxHeartbeats 4000000 in
theorem spec_laGood (A : Option Addr) (n c : Nat) (l : List (Hd × Ln)) (w : World) (h : RdL w A n c l) (hg : goodB (l.map (·.2)) = true) :
    Calls Tryz.prog 134 #[.slice A n c] w fun e w' => e = .returned (.bool true) ∧ Bl w w' := by
  obtain ⟨hle1, hle2⟩ := h.le
  unfold goodB at hg
  simp only [Bool.and_eq_true, decide_eq_true_eq] at hg
  obtain ⟨⟨⟨hg1, hg2⟩, hg3, hg4⟩, hg5, hg6⟩ := hg
  rw [List.length_map, h.len] at hg1
  rcases hws : wdsL (l.map (·.2)) with _ | ws
  · rw [hws] at hg2; cases hg2
  · rw [hws] at hg2
    simp only [Bool.and_eq_true, decide_eq_true_eq] at hg2
    obtain ⟨ha, ho⟩ := hg2
    have HO := Lib.hid ho
    have HWS := Lib.hid hws
    have HA := Lib.hid ha
    obtain ⟨L0, hL0⟩ : ∃ L0, insL (l.map (·.2)) 0 = L0 := ⟨_, rfl⟩
    obtain ⟨L1, hL1⟩ : ∃ L1, insL (l.map (·.2)) 1 = L1 := ⟨_, rfl⟩
    rw [hL0] at hg3 hg4
    rw [hL1] at hg5 hg6
    obtain ⟨S0, hS0⟩ : ∃ S0, L0.sum = S0 := ⟨_, rfl⟩
    obtain ⟨S1, hS1⟩ : ∃ S1, L1.sum = S1 := ⟨_, rfl⟩
    rw [hS0] at hg4
    rw [hS1] at hg6
    have HL0 := Lib.hid hL0; have HL1 := Lib.hid hL1; have HS0 := Lib.hid hS0; have HS1 := Lib.hid hS1; have HG3 := Lib.hid hg3; have HG5 := Lib.hid hg5
    clear ho hws ha hL0 hL1 hS0 hS1 hg3 hg5
    have hn9 : n ≤ 1000 := by omega
    have i1 : (n : Int) ≤ 30 := by omega
    go_enter Tryz.func134, Tryz.ntmps134
    go_wp2_with fail
    refine (spec_laWidths _ _ _ _ _ _ h hn9 HWS.out).mono ?_
    rintro e w1 ⟨A1, c1, rfl, h1, hb1⟩
    go_wp2_with fail
    refine (spec_l1All _ _ _ _ _ _ _ h1.rd).mono ?_
    rintro e w2 ⟨rfl, rfl⟩
    rw [HA.out]
    go_wp2_with fail
    refine (spec_laInputs _ _ _ _ 0 _ (h.keep hb1) hn9).mono ?_
    rintro e w3 ⟨A3, m3, c3, rfl, hm3, h3, hb3⟩
    rw [HL0.out] at h3
    go_wp2_with fail
    refine (spec_laSum _ _ _ _ _ h3.rd (by omega) HG3.out).mono ?_
    rintro e w4 ⟨rfl, rfl⟩
    rw [HS0.out]
    have hb4 := hb1.call hb3
    go_wp2_with fail
    refine (spec_laInputs _ _ _ _ 1 _ (h.keep hb4) hn9).mono ?_
    rintro e w5 ⟨A5, m5, c5, rfl, hm5, h5, hb5⟩
    rw [HL1.out] at h5
    go_wp2_with fail
    refine (spec_laSum _ _ _ _ _ h5.rd (by omega) HG5.out).mono ?_
    rintro e w6 ⟨rfl, rfl⟩
    rw [HS1.out]
    have hb6 := hb4.call hb5
    go_wp2_with fail
    refine (spec_laOuts _ _ _ _ _ _ (h.keep hb6) hn9 HWS.out).mono ?_
    rintro e w7 ⟨A7, m7, c7, rfl, hm7, h7, hb7⟩
    have hm8 : m7 ≤ 10 := (by rw [← h7.length]; exact HO.out)
    have i7 : (m7 : Int) ≤ 10 := by omega
    go_wp2_with fail
    go_ret
    exact ⟨rfl, hb6.call hb7⟩
end Go.Proofs.YtjggecbaladiiaaGreatDoor
