/- The reference's text of a program, and its reading of a line.
   Conditions: lines of the six kinds, whose numbers are digits. -/
import Derived.Test.YtjggecbaladiiaaGreatDoorPre
namespace Go.Proofs.YtjggecbaladiiaaGreatDoor
open Go.RowKit
set_option linter.unusedVariables false
/-- The text of a line without its end. -/
def txO (x : Ln) : Option ByteArray :=
  match x with
  | ⟨k, nm, op, ps, pt, wd, vl⟩ => if nm.size ≤ 1000 ∧ op.size ≤ 1000 ∧ (ps.all fun p => decide (p.size ≤ 1000)) = true then
    match ps with
    | [] => if k = 1 ∧ 0 ≤ pt ∧ pt ≤ 9 ∧ 0 ≤ wd ∧ wd ≤ 9 then some (((((⟨#[105, 110, 112, 117, 116, 32]⟩ ++ dg pt) ++ ⟨#[32]⟩) ++ nm) ++ ⟨#[32]⟩) ++ dg wd) else if k = 2 ∧ 0 ≤ wd ∧ wd ≤ 9 ∧ 0 ≤ vl ∧ vl ≤ 9 then some (((((⟨#[99, 111, 110, 115, 116, 32]⟩ ++ nm) ++ ⟨#[32]⟩) ++ dg wd) ++ ⟨#[32]⟩) ++ dg vl) else none
    | [p] => if k = 4 then some (((⟨#[110, 111, 116, 32]⟩ ++ nm) ++ ⟨#[32]⟩) ++ p) else if k = 6 then some (⟨#[111, 117, 116, 32]⟩ ++ p) else none
    | [p, q] => if k = 3 then some (((((((⟨#[108, 101, 116, 32]⟩ ++ nm) ++ ⟨#[32]⟩) ++ p) ++ ⟨#[32]⟩) ++ op) ++ ⟨#[32]⟩) ++ q) else none
    | [p, q, r] => if k = 5 then some (((((((⟨#[112, 105, 99, 107, 32]⟩ ++ nm) ++ ⟨#[32]⟩) ++ p) ++ ⟨#[32]⟩) ++ q) ++ ⟨#[32]⟩) ++ r) else none
    | _ => none
    else none
def NL : ByteArray := ⟨#[10]⟩
def txR : ByteArray → List Ln → Option ByteArray
  | s, [] => some s
  | s, x :: t => match txO x with
    | none => none
    | some u => txR (s ++ u ++ NL) t
theorem txR_step {l : List (Hd × Ln)} {s R : ByteArray} {k : Nat} {p : Hd × Ln} (hp : l[k]? = some p) (h : txR s ((l.drop k).map (·.2)) = some R) : ∃ u, txO p.2 = some u ∧ txR (s ++ u ++ NL) ((l.drop (k + 1)).map (·.2)) = some R := by
  obtain ⟨hk, rfl⟩ := List.getElem?_eq_some_iff.1 hp
  rw [List.drop_eq_getElem_cons hk, List.map_cons, txR] at h
  split at h
  · cases h
  · rename_i u hu
    exact ⟨u, hu, h⟩
/-- A line with a text is of one of six kinds. -/
theorem txO_kinds {x : Ln} {u : ByteArray} (h : txO x = some u) : (x.nm.size ≤ 1000 ∧ x.op.size ≤ 1000 ∧ ∀ p ∈ x.ps, p.size ≤ 1000) ∧
    ((∃ nm op pt wd vl, x = ⟨1, nm, op, [], pt, wd, vl⟩ ∧ 0 ≤ pt ∧ pt ≤ 9 ∧ 0 ≤ wd ∧ wd ≤ 9 ∧ u = (((((⟨#[105, 110, 112, 117, 116, 32]⟩ ++ dg pt) ++ ⟨#[32]⟩) ++ nm) ++ ⟨#[32]⟩) ++ dg wd)) ∨ (∃ nm op pt wd vl, x = ⟨2, nm, op, [], pt, wd, vl⟩ ∧ 0 ≤ wd ∧ wd ≤ 9 ∧ 0 ≤ vl ∧ vl ≤ 9 ∧ u = (((((⟨#[99, 111, 110, 115, 116, 32]⟩ ++ nm) ++ ⟨#[32]⟩) ++ dg wd) ++ ⟨#[32]⟩) ++ dg vl)) ∨
    (∃ nm op p q pt wd vl, x = ⟨3, nm, op, [p, q], pt, wd, vl⟩ ∧ u = (((((((⟨#[108, 101, 116, 32]⟩ ++ nm) ++ ⟨#[32]⟩) ++ p) ++ ⟨#[32]⟩) ++ op) ++ ⟨#[32]⟩) ++ q)) ∨ (∃ nm op p pt wd vl, x = ⟨4, nm, op, [p], pt, wd, vl⟩ ∧ u = (((⟨#[110, 111, 116, 32]⟩ ++ nm) ++ ⟨#[32]⟩) ++ p)) ∨ (∃ nm op p q r pt wd vl, x = ⟨5, nm, op, [p, q, r], pt, wd, vl⟩ ∧ u = (((((((⟨#[112, 105, 99, 107, 32]⟩ ++ nm) ++ ⟨#[32]⟩) ++ p) ++ ⟨#[32]⟩) ++ q) ++ ⟨#[32]⟩) ++ r)) ∨ (∃ nm op p pt wd vl, x = ⟨6, nm, op, [p], pt, wd, vl⟩ ∧ u = (⟨#[111, 117, 116, 32]⟩ ++ p))) := by
  obtain ⟨k, nm, op, ps, pt, wd, vl⟩ := x
  unfold txO at h
  dsimp only at h
  split at h
  case isFalse => cases h
  rename_i hz
  refine ⟨⟨hz.1, hz.2.1, fun p hp => of_decide_eq_true (List.all_eq_true.1 hz.2.2 p hp)⟩, ?_⟩
  clear hz
  split at h
  · split at h
    · rename_i h1; obtain ⟨rfl, a1, a2, a3, a4⟩ := h1; injection h with h; exact .inl ⟨_, _, _, _, _, rfl, a1, a2, a3, a4, h.symm⟩
    · split at h
      · rename_i h1; obtain ⟨rfl, a1, a2, a3, a4⟩ := h1; injection h with h; exact .inr (.inl ⟨_, _, _, _, _, rfl, a1, a2, a3, a4, h.symm⟩)
      · cases h
  · split at h
    · rename_i h1; subst h1; injection h with h; exact .inr (.inr (.inr (.inl ⟨_, _, _, _, _, _, rfl, h.symm⟩)))
    · split at h
      · rename_i h1; subst h1; injection h with h; exact .inr (.inr (.inr (.inr (.inr ⟨_, _, _, _, _, _, rfl, h.symm⟩))))
      · cases h
  · split at h
    · rename_i h1; subst h1; injection h with h; exact .inr (.inr (.inl ⟨_, _, _, _, _, _, _, rfl, h.symm⟩))
    · cases h
  · split at h
    · rename_i h1; subst h1; injection h with h; exact .inr (.inr (.inr (.inr (.inl ⟨_, _, _, _, _, _, _, _, rfl, h.symm⟩))))
    · cases h
  · cases h
theorem sz_step {sk u : ByteArray} {k : Nat} (h1 : sk.size ≤ 10000 * k) (h2 : u.size ≤ 9000) : (sk ++ u ++ NL).size ≤ 10000 * (k + 1) := by
  rw [ByteArray.size_append, ByteArray.size_append, show NL.size = 1 from rfl]; omega
theorem txO_size {x : Ln} {u : ByteArray} (h : txO x = some u) : u.size ≤ 9000 := by
  obtain ⟨⟨hz1, hz2, hz3⟩, hk⟩ := txO_kinds h
  have HD : ∀ d : Int, (dg d).size = 1 := fun _ => rfl
  have c1 : (⟨#[32]⟩ : ByteArray).size = 1 := rfl
  have d1 : (⟨#[105, 110, 112, 117, 116, 32]⟩ : ByteArray).size = 6 := rfl
  have d2 : (⟨#[99, 111, 110, 115, 116, 32]⟩ : ByteArray).size = 6 := rfl
  have d3 : (⟨#[108, 101, 116, 32]⟩ : ByteArray).size = 4 := rfl
  have d4 : (⟨#[110, 111, 116, 32]⟩ : ByteArray).size = 4 := rfl
  have d5 : (⟨#[112, 105, 99, 107, 32]⟩ : ByteArray).size = 5 := rfl
  have d6 : (⟨#[111, 117, 116, 32]⟩ : ByteArray).size = 4 := rfl
  rcases hk with ⟨nm, op, pt, wd, vl, rfl, _, _, _, _, rfl⟩ | ⟨nm, op, pt, wd, vl, rfl, _, _, _, _, rfl⟩ | ⟨nm, op, p, q, pt, wd, vl, rfl, rfl⟩ | ⟨nm, op, p, pt, wd, vl, rfl, rfl⟩ | ⟨nm, op, p, q, r, pt, wd, vl, rfl, rfl⟩ | ⟨nm, op, p, pt, wd, vl, rfl, rfl⟩
  all_goals
    dsimp only at hz1 hz2 hz3
    simp only [List.mem_cons, List.not_mem_nil, or_false, forall_eq_or_imp, forall_eq] at hz3
    simp only [ByteArray.size_append, HD, c1, d1, d2, d3, d4, d5, d6]
    omega
set_option maxRecDepth 20000 in
set_option maxHeartbeats 4000000 in
theorem spec_laText (A : Option Addr) (n c : Nat) (l : List (Hd × Ln)) (s : ByteArray) (w : World) (h : RdL w A n c l) (hn : n ≤ 1000) (hs : txR ⟨#[]⟩ (l.map (·.2)) = some s) :
    Calls Tryz.prog 135 #[.slice A n c] w fun e w' => e = .returned (.string s) ∧ Bl w w' := by
  obtain ⟨hle1, hle2⟩ := h.le
  have hlen := Lib.hid h.len
  have HV0 := Lib.hid hs
  clear hs
  have hW0 := Bl.refl w
  go_enter Tryz.func135, Tryz.ntmps135
  go_wp2
  go_loopw [3, 8] (fun o i wr => ∃ (k : Nat) (sk : ByteArray), k ≤ n ∧ i = .int .i64 (k : Nat) ∧ o = .string sk ∧ sk.size ≤ 10000 * k ∧ Hid (txR sk ((l.drop k).map (·.2)) = some s) ∧ Bl w wr) (fun _ i _ => n - (intOf i).toNat)
  case atStart => exact ⟨0, ⟨#[]⟩, by omega, rfl, rfl, by decide, HV0, hW0⟩
  case round =>
    clear hW0
    obtain ⟨k, sk, hk, rfl, rfl, hsk, hq, hW⟩ := hrel
    by_cases hlt : k < n
    · obtain ⟨ad, x, rfl, hadb, hx, hps, c0, c1, c2_, c3_, c4, c5, c6⟩ := (h.keep hW).at_ hlt
      obtain ⟨u, hu, HN⟩ := txR_step hx hq.out
      have HD : ∀ d : Int, (dg d).size = 1 := fun _ => rfl
      obtain ⟨⟨hz1, hz2, hz3⟩, hkd⟩ := txO_kinds hu
      have HSZ := Lib.hid (sz_step hsk (txO_size hu))
      rcases hkd with hkd | hkd | hkd | hkd | hkd | hkd
      · -- kind 1
        obtain ⟨nm, op, pt, wd, vl, hx2, a1, a2, a3, a4, rfl⟩ := hkd
        obtain ⟨⟨C, m, cc⟩, x2⟩ := x
        dsimp only at hx2 hps c0 c1 c2_ c3_ c4 c5 c6
        subst hx2
        dsimp only at hps c0 c1 c2_ c3_ c4 c5 c6 hz1 hz2 hz3
        clear hz3
        obtain rfl : m = 0 := hps.length.symm
        clear hx
        have hX := Blk.new wr 92 #[.int .i64 1, .string nm, .string op, .slice C 0 cc, .int .i64 pt, .int .i64 wd, .int .i64 vl] (g := wr.heap.size)
        have hV := (Bl.refl wr).alloc (.cells #[.int .i64 1, .string nm, .string op, .slice C 0 cc, .int .i64 pt, .int .i64 wd, .int .i64 vl] 92)
        go_wp2_with fail
        generalize wr.alloc (.cells #[.int .i64 1, .string nm, .string op, .slice C 0 cc, .int .i64 pt, .int .i64 wd, .int .i64 vl] 92) = w0 at hX hV ⊢
        replace hX := hX.drew
        replace hV := hV.drew
        have hd1 := HD pt
        have hd2 := HD wd
        refine wp_region_held_drew (S := (fun w' => w'.cell? ⟨wr.heap.size, 1, none⟩ = some (.string nm) ∧ w'.cell? ⟨wr.heap.size, 4, none⟩ = some (.int .i64 pt) ∧ w'.cell? ⟨wr.heap.size, 5, none⟩ = some (.int .i64 wd))) (by kernel_rfl) ?_ (fun hHeld => ?_)
        · (try dsimp only); exact ⟨hX.cell 1 _ rfl, hX.cell 4 _ rfl, hX.cell 5 _ rfl⟩
        refine held_take (i := 0) (d := 23) (v := ?_) rfl rfl (by kernel_rfl) (by kernel_rfl) (by kernel_rfl) (fun _ _ _ h => h) (Or.inl ⟨by rfl, ?_⟩) (by assumption) ?_
        rotate_left
        · (intro w hSw; (try dsimp only at hSw); go_simp; (try (rw [if_neg]; rotate_left 1; · omega)); (try with_reducible rfl))
        (try simp only [List.set_cons_zero, List.set_cons_succ])
        refine held_take (i := 1) (d := 24) (v := ?_) rfl rfl (by kernel_rfl) (by kernel_rfl) (by kernel_rfl) (fun _ _ _ h => h) (Or.inl ⟨by rfl, ?_⟩) (by assumption) ?_
        rotate_left
        · (intro w hSw; (try dsimp only at hSw); go_simp; (try (rw [if_neg]; rotate_left 1; · omega)); (try with_reducible rfl))
        (try simp only [List.set_cons_zero, List.set_cons_succ])
        refine held_take (i := 2) (d := 25) (v := ?_) rfl rfl (by kernel_rfl) (by kernel_rfl) (by kernel_rfl) (fun _ _ _ h => h) (Or.inl ⟨by rfl, ?_⟩) (by assumption) ?_
        rotate_left
        · (intro w hSw; (try dsimp only at hSw); go_simp; (try (rw [if_neg]; rotate_left 1; · omega)); (try with_reducible rfl))
        (try simp only [List.set_cons_zero, List.set_cons_succ])
        refine held_take (i := 6) (d := 29) (v := ?_) rfl rfl (by kernel_rfl) (by kernel_rfl) (by kernel_rfl) (fun _ _ _ h => h) (Or.inl ⟨by rfl, ?_⟩) (by assumption) ?_
        rotate_left
        · (intro w hSw; (try dsimp only at hSw); go_simp; (try (rw [if_neg]; rotate_left 1; · omega)); (try with_reducible rfl))
        (try simp only [List.set_cons_zero, List.set_cons_succ])
        refine held_take (i := 7) (d := 30) (v := ?_) rfl rfl (by kernel_rfl) (by kernel_rfl) (by kernel_rfl) (fun _ _ _ h => h) (Or.inl ⟨by rfl, ?_⟩) (by assumption) ?_
        rotate_left
        · (intro w hSw; (try dsimp only at hSw); go_simp; (try (rw [if_neg]; rotate_left 1; · omega)); (try with_reducible rfl))
        (try simp only [List.set_cons_zero, List.set_cons_succ])
        refine held_take (i := 10) (d := 33) (v := ?_) rfl rfl (by kernel_rfl) (by kernel_rfl) (by kernel_rfl) (fun _ _ _ h => h) (Or.inl ⟨by rfl, ?_⟩) (by assumption) ?_
        rotate_left
        · (intro w hSw; (try dsimp only at hSw); go_simp; (try (rw [if_neg]; rotate_left 1; · omega)); (try with_reducible rfl))
        (try simp only [List.set_cons_zero, List.set_cons_succ])
        refine held_take (i := 11) (d := 34) (v := ?_) rfl rfl (by kernel_rfl) (by kernel_rfl) (by kernel_rfl) (fun _ _ _ h => h) (Or.inl ⟨by rfl, ?_⟩) (by assumption) ?_
        rotate_left
        · (intro w hSw; (try dsimp only at hSw); go_simp; (try (rw [if_neg]; rotate_left 1; · omega)); (try with_reducible rfl))
        (try simp only [List.set_cons_zero, List.set_cons_succ])
        refine wpAnyH_ready (rs := [3]) (by kernel_rfl) (by simp) ?_
        refine AllReadyH.cons rfl (fun K hK => ?_) AllReadyH.nil
        go_simp
        refine (spec_l1Num pt a1 a2 _).mono ?_; rintro e v3 ⟨rfl, hb3⟩
        go_wp2_with fail
        refine hK.out _ _ ?_ (fun hHeld => ?_)
        · (try dsimp only); exact ⟨(hX.keep hb3).cell 1 _ rfl, (hX.keep hb3).cell 4 _ rfl, (hX.keep hb3).cell 5 _ rfl⟩
        clear hK K
        (try simp only [Act.put]); (try simp only [List.setIfInBounds_toArray]); (try simp only [List.set_cons_succ]); (try simp only [List.set_cons_zero])
        refine held_take (i := 4) (d := 27) (v := ?_) rfl rfl (by kernel_rfl) (by kernel_rfl) (by kernel_rfl) (fun _ _ _ h => h) (Or.inl ⟨by rfl, ?_⟩) (by assumption) ?_
        rotate_left
        · (intro w hSw; (try dsimp only at hSw); go_simp; (try (rw [if_neg]; rotate_left 1; · omega)); (try with_reducible rfl))
        (try simp only [List.set_cons_zero, List.set_cons_succ])
        refine held_take (i := 5) (d := 28) (v := ?_) rfl rfl (by kernel_rfl) (by kernel_rfl) (by kernel_rfl) (fun _ _ _ h => h) (Or.inl ⟨by rfl, ?_⟩) (by assumption) ?_
        rotate_left
        · (intro w hSw; (try dsimp only at hSw); go_simp; (try (rw [if_neg]; rotate_left 1; · omega)); (try with_reducible rfl))
        (try simp only [List.set_cons_zero, List.set_cons_succ])
        refine held_take (i := 8) (d := 31) (v := ?_) rfl rfl (by kernel_rfl) (by kernel_rfl) (by kernel_rfl) (fun _ _ _ h => h) (Or.inl ⟨by rfl, ?_⟩) (by assumption) ?_
        rotate_left
        · (intro w hSw; (try dsimp only at hSw); go_simp; (try (rw [if_neg]; rotate_left 1; · omega)); (try with_reducible rfl))
        (try simp only [List.set_cons_zero, List.set_cons_succ])
        refine held_take (i := 9) (d := 32) (v := ?_) rfl rfl (by kernel_rfl) (by kernel_rfl) (by kernel_rfl) (fun _ _ _ h => h) (Or.inl ⟨by rfl, ?_⟩) (by assumption) ?_
        rotate_left
        · (intro w hSw; (try dsimp only at hSw); go_simp; (try (rw [if_neg]; rotate_left 1; · omega)); (try with_reducible rfl))
        (try simp only [List.set_cons_zero, List.set_cons_succ])
        refine wpAnyH_ready (rs := [12]) (by kernel_rfl) (by simp) ?_
        refine AllReadyH.cons rfl (fun K hK => ?_) AllReadyH.nil
        go_simp
        refine (spec_l1Num wd a3 a4 _).mono ?_; rintro e v12 ⟨rfl, hb12⟩
        go_wp2_with fail
        refine hK.out _ _ ?_ (fun hHeld => ?_)
        · (try dsimp only); exact ⟨((hX.keep hb3).keep hb12).cell 1 _ rfl, ((hX.keep hb3).keep hb12).cell 4 _ rfl, ((hX.keep hb3).keep hb12).cell 5 _ rfl⟩
        clear hK K
        (try simp only [Act.put]); (try simp only [List.setIfInBounds_toArray]); (try simp only [List.set_cons_succ]); (try simp only [List.set_cons_zero])
        refine held_take (i := 13) (d := 36) (v := ?_) rfl rfl (by kernel_rfl) (by kernel_rfl) (by kernel_rfl) (fun _ _ _ h => h) (Or.inl ⟨by rfl, ?_⟩) (by assumption) ?_
        rotate_left
        · (intro w hSw; (try dsimp only at hSw); go_simp; (try (rw [if_neg]; rotate_left 1; · omega)); (try with_reducible rfl))
        (try simp only [List.set_cons_zero, List.set_cons_succ])
        refine held_take (i := 14) (d := 37) (v := ?_) rfl rfl (by kernel_rfl) (by kernel_rfl) (by kernel_rfl) (fun _ _ _ h => h) (Or.inl ⟨by rfl, ?_⟩) (by assumption) ?_
        rotate_left
        · (intro w hSw; (try dsimp only at hSw); go_simp; (try (rw [if_neg]; rotate_left 1; · omega)); (try with_reducible rfl))
        (try simp only [List.set_cons_zero, List.set_cons_succ])
        refine held_take (i := 15) (d := 3) (v := ?_) rfl rfl (by kernel_rfl) (by kernel_rfl) (by kernel_rfl) (fun _ _ _ h => h) (Or.inl ⟨by rfl, ?_⟩) (by assumption) ?_
        rotate_left
        · (intro w hSw; (try dsimp only at hSw); go_simp; (try (rw [if_neg]; rotate_left 1; · omega)); (try with_reducible rfl))
        (try simp only [List.set_cons_zero, List.set_cons_succ])
        refine wpAnyH_done (by kernel_rfl) ?_ _
        go_wp2_with fail
        go_roundw
        case rel => exact ⟨k + 1, _, by omega, by go_num, rfl, HSZ.out, Lib.hid HN, (hW.call ((hV.call hb3).call hb12))⟩
        case measure => simp [intOf]; omega
      · -- kind 2
        obtain ⟨nm, op, pt, wd, vl, hx2, a1, a2, a3, a4, rfl⟩ := hkd
        obtain ⟨⟨C, m, cc⟩, x2⟩ := x
        dsimp only at hx2 hps c0 c1 c2_ c3_ c4 c5 c6
        subst hx2
        dsimp only at hps c0 c1 c2_ c3_ c4 c5 c6 hz1 hz2 hz3
        clear hz3
        obtain rfl : m = 0 := hps.length.symm
        clear hx
        have hX := Blk.new wr 92 #[.int .i64 2, .string nm, .string op, .slice C 0 cc, .int .i64 pt, .int .i64 wd, .int .i64 vl] (g := wr.heap.size)
        have hV := (Bl.refl wr).alloc (.cells #[.int .i64 2, .string nm, .string op, .slice C 0 cc, .int .i64 pt, .int .i64 wd, .int .i64 vl] 92)
        go_wp2_with fail
        generalize wr.alloc (.cells #[.int .i64 2, .string nm, .string op, .slice C 0 cc, .int .i64 pt, .int .i64 wd, .int .i64 vl] 92) = w0 at hX hV ⊢
        replace hX := hX.drew
        replace hV := hV.drew
        have hd1 := HD wd
        have hd2 := HD vl
        refine wp_region_held_drew (S := (fun w' => w'.cell? ⟨wr.heap.size, 1, none⟩ = some (.string nm) ∧ w'.cell? ⟨wr.heap.size, 5, none⟩ = some (.int .i64 wd) ∧ w'.cell? ⟨wr.heap.size, 6, none⟩ = some (.int .i64 vl))) (by kernel_rfl) ?_ (fun hHeld => ?_)
        · (try dsimp only); exact ⟨hX.cell 1 _ rfl, hX.cell 5 _ rfl, hX.cell 6 _ rfl⟩
        refine held_take (i := 0) (d := 40) (v := ?_) rfl rfl (by kernel_rfl) (by kernel_rfl) (by kernel_rfl) (fun _ _ _ h => h) (Or.inl ⟨by rfl, ?_⟩) (by assumption) ?_
        rotate_left
        · (intro w hSw; (try dsimp only at hSw); go_simp; (try (rw [if_neg]; rotate_left 1; · omega)); (try with_reducible rfl))
        (try simp only [List.set_cons_zero, List.set_cons_succ])
        refine held_take (i := 1) (d := 41) (v := ?_) rfl rfl (by kernel_rfl) (by kernel_rfl) (by kernel_rfl) (fun _ _ _ h => h) (Or.inl ⟨by rfl, ?_⟩) (by assumption) ?_
        rotate_left
        · (intro w hSw; (try dsimp only at hSw); go_simp; (try (rw [if_neg]; rotate_left 1; · omega)); (try with_reducible rfl))
        (try simp only [List.set_cons_zero, List.set_cons_succ])
        refine held_take (i := 2) (d := 42) (v := ?_) rfl rfl (by kernel_rfl) (by kernel_rfl) (by kernel_rfl) (fun _ _ _ h => h) (Or.inl ⟨by rfl, ?_⟩) (by assumption) ?_
        rotate_left
        · (intro w hSw; (try dsimp only at hSw); go_simp; (try (rw [if_neg]; rotate_left 1; · omega)); (try with_reducible rfl))
        (try simp only [List.set_cons_zero, List.set_cons_succ])
        refine held_take (i := 3) (d := 43) (v := ?_) rfl rfl (by kernel_rfl) (by kernel_rfl) (by kernel_rfl) (fun _ _ _ h => h) (Or.inl ⟨by rfl, ?_⟩) (by assumption) ?_
        rotate_left
        · (intro w hSw; (try dsimp only at hSw); go_simp; (try (rw [if_neg]; rotate_left 1; · omega)); (try with_reducible rfl))
        (try simp only [List.set_cons_zero, List.set_cons_succ])
        refine held_take (i := 4) (d := 44) (v := ?_) rfl rfl (by kernel_rfl) (by kernel_rfl) (by kernel_rfl) (fun _ _ _ h => h) (Or.inl ⟨by rfl, ?_⟩) (by assumption) ?_
        rotate_left
        · (intro w hSw; (try dsimp only at hSw); go_simp; (try (rw [if_neg]; rotate_left 1; · omega)); (try with_reducible rfl))
        (try simp only [List.set_cons_zero, List.set_cons_succ])
        refine held_take (i := 5) (d := 45) (v := ?_) rfl rfl (by kernel_rfl) (by kernel_rfl) (by kernel_rfl) (fun _ _ _ h => h) (Or.inl ⟨by rfl, ?_⟩) (by assumption) ?_
        rotate_left
        · (intro w hSw; (try dsimp only at hSw); go_simp; (try (rw [if_neg]; rotate_left 1; · omega)); (try with_reducible rfl))
        (try simp only [List.set_cons_zero, List.set_cons_succ])
        refine held_take (i := 6) (d := 46) (v := ?_) rfl rfl (by kernel_rfl) (by kernel_rfl) (by kernel_rfl) (fun _ _ _ h => h) (Or.inl ⟨by rfl, ?_⟩) (by assumption) ?_
        rotate_left
        · (intro w hSw; (try dsimp only at hSw); go_simp; (try (rw [if_neg]; rotate_left 1; · omega)); (try with_reducible rfl))
        (try simp only [List.set_cons_zero, List.set_cons_succ])
        refine held_take (i := 10) (d := 50) (v := ?_) rfl rfl (by kernel_rfl) (by kernel_rfl) (by kernel_rfl) (fun _ _ _ h => h) (Or.inl ⟨by rfl, ?_⟩) (by assumption) ?_
        rotate_left
        · (intro w hSw; (try dsimp only at hSw); go_simp; (try (rw [if_neg]; rotate_left 1; · omega)); (try with_reducible rfl))
        (try simp only [List.set_cons_zero, List.set_cons_succ])
        refine held_take (i := 11) (d := 51) (v := ?_) rfl rfl (by kernel_rfl) (by kernel_rfl) (by kernel_rfl) (fun _ _ _ h => h) (Or.inl ⟨by rfl, ?_⟩) (by assumption) ?_
        rotate_left
        · (intro w hSw; (try dsimp only at hSw); go_simp; (try (rw [if_neg]; rotate_left 1; · omega)); (try with_reducible rfl))
        (try simp only [List.set_cons_zero, List.set_cons_succ])
        refine wpAnyH_ready (rs := [7]) (by kernel_rfl) (by simp) ?_
        refine AllReadyH.cons rfl (fun K hK => ?_) AllReadyH.nil
        go_simp
        refine (spec_l1Num wd a1 a2 _).mono ?_; rintro e v7 ⟨rfl, hb7⟩
        go_wp2_with fail
        refine hK.out _ _ ?_ (fun hHeld => ?_)
        · (try dsimp only); exact ⟨(hX.keep hb7).cell 1 _ rfl, (hX.keep hb7).cell 5 _ rfl, (hX.keep hb7).cell 6 _ rfl⟩
        clear hK K
        (try simp only [Act.put]); (try simp only [List.setIfInBounds_toArray]); (try simp only [List.set_cons_succ]); (try simp only [List.set_cons_zero])
        refine held_take (i := 8) (d := 48) (v := ?_) rfl rfl (by kernel_rfl) (by kernel_rfl) (by kernel_rfl) (fun _ _ _ h => h) (Or.inl ⟨by rfl, ?_⟩) (by assumption) ?_
        rotate_left
        · (intro w hSw; (try dsimp only at hSw); go_simp; (try (rw [if_neg]; rotate_left 1; · omega)); (try with_reducible rfl))
        (try simp only [List.set_cons_zero, List.set_cons_succ])
        refine held_take (i := 9) (d := 49) (v := ?_) rfl rfl (by kernel_rfl) (by kernel_rfl) (by kernel_rfl) (fun _ _ _ h => h) (Or.inl ⟨by rfl, ?_⟩) (by assumption) ?_
        rotate_left
        · (intro w hSw; (try dsimp only at hSw); go_simp; (try (rw [if_neg]; rotate_left 1; · omega)); (try with_reducible rfl))
        (try simp only [List.set_cons_zero, List.set_cons_succ])
        refine wpAnyH_ready (rs := [12]) (by kernel_rfl) (by simp) ?_
        refine AllReadyH.cons rfl (fun K hK => ?_) AllReadyH.nil
        go_simp
        refine (spec_l1Num vl a3 a4 _).mono ?_; rintro e v12 ⟨rfl, hb12⟩
        go_wp2_with fail
        refine hK.out _ _ ?_ (fun hHeld => ?_)
        · (try dsimp only); exact ⟨((hX.keep hb7).keep hb12).cell 1 _ rfl, ((hX.keep hb7).keep hb12).cell 5 _ rfl, ((hX.keep hb7).keep hb12).cell 6 _ rfl⟩
        clear hK K
        (try simp only [Act.put]); (try simp only [List.setIfInBounds_toArray]); (try simp only [List.set_cons_succ]); (try simp only [List.set_cons_zero])
        refine held_take (i := 13) (d := 53) (v := ?_) rfl rfl (by kernel_rfl) (by kernel_rfl) (by kernel_rfl) (fun _ _ _ h => h) (Or.inl ⟨by rfl, ?_⟩) (by assumption) ?_
        rotate_left
        · (intro w hSw; (try dsimp only at hSw); go_simp; (try (rw [if_neg]; rotate_left 1; · omega)); (try with_reducible rfl))
        (try simp only [List.set_cons_zero, List.set_cons_succ])
        refine held_take (i := 14) (d := 54) (v := ?_) rfl rfl (by kernel_rfl) (by kernel_rfl) (by kernel_rfl) (fun _ _ _ h => h) (Or.inl ⟨by rfl, ?_⟩) (by assumption) ?_
        rotate_left
        · (intro w hSw; (try dsimp only at hSw); go_simp; (try (rw [if_neg]; rotate_left 1; · omega)); (try with_reducible rfl))
        (try simp only [List.set_cons_zero, List.set_cons_succ])
        refine held_take (i := 15) (d := 3) (v := ?_) rfl rfl (by kernel_rfl) (by kernel_rfl) (by kernel_rfl) (fun _ _ _ h => h) (Or.inl ⟨by rfl, ?_⟩) (by assumption) ?_
        rotate_left
        · (intro w hSw; (try dsimp only at hSw); go_simp; (try (rw [if_neg]; rotate_left 1; · omega)); (try with_reducible rfl))
        (try simp only [List.set_cons_zero, List.set_cons_succ])
        refine wpAnyH_done (by kernel_rfl) ?_ _
        go_wp2_with fail
        go_roundw
        case rel => exact ⟨k + 1, _, by omega, by go_num, rfl, HSZ.out, Lib.hid HN, (hW.call ((hV.call hb7).call hb12))⟩
        case measure => simp [intOf]; omega
      · -- kind 3
        obtain ⟨nm, op, p, q, pt, wd, vl, hx2, rfl⟩ := hkd
        obtain ⟨⟨C, m, cc⟩, x2⟩ := x
        dsimp only at hx2 hps c0 c1 c2_ c3_ c4 c5 c6
        subst hx2
        dsimp only at hps c0 c1 c2_ c3_ c4 c5 c6 hz1 hz2 hz3
        have hs0 := hz3 p (by simp)
        have hs1 := hz3 q (by simp)
        clear hz3
        obtain rfl : m = 2 := hps.length.symm
        clear hx
        have hX := Blk.new wr 92 #[.int .i64 3, .string nm, .string op, .slice C 2 cc, .int .i64 pt, .int .i64 wd, .int .i64 vl] (g := wr.heap.size)
        have hV := (Bl.refl wr).alloc (.cells #[.int .i64 3, .string nm, .string op, .slice C 2 cc, .int .i64 pt, .int .i64 wd, .int .i64 vl] 92)
        obtain ⟨ad0, x0, rfl, hb0_, hx0, hc0⟩ := hps.at_ (k := 0) (by omega)
        obtain rfl := Option.some.inj hx0
        obtain ⟨ad1, x1, e1, hb1_, hx1, hc1⟩ := hps.at_ (k := 1) (by omega)
        injection e1 with e1; subst e1
        obtain rfl := Option.some.inj hx1
        have hle9 := hps.le.1
        have hc0' : wr.cell? ad0 = some (.string p) := hc0
        go_wp2_with fail
        generalize wr.alloc (.cells #[.int .i64 3, .string nm, .string op, .slice (some ad0) 2 cc, .int .i64 pt, .int .i64 wd, .int .i64 vl] 92) = w0 at hX hV ⊢
        replace hX := hX.drew
        replace hV := hV.drew
        refine wp_region_held_drew (S := (fun w' => w'.cell? ⟨wr.heap.size, 1, none⟩ = some (.string nm) ∧ w'.cell? ⟨wr.heap.size, 2, none⟩ = some (.string op) ∧ w'.cell? ⟨wr.heap.size, 3, none⟩ = some (.slice (some ad0) 2 cc) ∧ w'.cell? ad0 = some (.string p) ∧ w'.cell? ⟨ad0.block, ad0.off + 1, none⟩ = some (.string q))) (by kernel_rfl) ?_ (fun hHeld => ?_)
        · (try dsimp only); exact ⟨hX.cell 1 _ rfl, hX.cell 2 _ rfl, hX.cell 3 _ rfl, Bl.cells hV hc0, Bl.cells hV hc1⟩
        refine held_take (i := 0) (d := 57) (v := ?_) rfl rfl (by kernel_rfl) (by kernel_rfl) (by kernel_rfl) (fun _ _ _ h => h) (Or.inl ⟨by rfl, ?_⟩) (by assumption) ?_
        rotate_left
        · (intro w hSw; (try dsimp only at hSw); go_simp; (try (rw [if_neg]; rotate_left 1; · omega)); (try with_reducible rfl))
        (try simp only [List.set_cons_zero, List.set_cons_succ])
        refine held_take (i := 1) (d := 58) (v := ?_) rfl rfl (by kernel_rfl) (by kernel_rfl) (by kernel_rfl) (fun _ _ _ h => h) (Or.inl ⟨by rfl, ?_⟩) (by assumption) ?_
        rotate_left
        · (intro w hSw; (try dsimp only at hSw); go_simp; (try (rw [if_neg]; rotate_left 1; · omega)); (try with_reducible rfl))
        (try simp only [List.set_cons_zero, List.set_cons_succ])
        refine held_take (i := 2) (d := 59) (v := ?_) rfl rfl (by kernel_rfl) (by kernel_rfl) (by kernel_rfl) (fun _ _ _ h => h) (Or.inl ⟨by rfl, ?_⟩) (by assumption) ?_
        rotate_left
        · (intro w hSw; (try dsimp only at hSw); go_simp; (try (rw [if_neg]; rotate_left 1; · omega)); (try with_reducible rfl))
        (try simp only [List.set_cons_zero, List.set_cons_succ])
        refine held_take (i := 3) (d := 60) (v := ?_) rfl rfl (by kernel_rfl) (by kernel_rfl) (by kernel_rfl) (fun _ _ _ h => h) (Or.inl ⟨by rfl, ?_⟩) (by assumption) ?_
        rotate_left
        · (intro w hSw; (try dsimp only at hSw); go_simp; (try (rw [if_neg]; rotate_left 1; · omega)); (try with_reducible rfl))
        (try simp only [List.set_cons_zero, List.set_cons_succ])
        refine held_take (i := 4) (d := 61) (v := ?_) rfl rfl (by kernel_rfl) (by kernel_rfl) (by kernel_rfl) (fun _ _ _ h => h) (Or.inl ⟨by rfl, ?_⟩) (by assumption) ?_
        rotate_left
        · (intro w hSw; (try dsimp only at hSw); go_simp; (try (rw [if_neg]; rotate_left 1; · omega)); (try with_reducible rfl))
        (try simp only [List.set_cons_zero, List.set_cons_succ])
        refine held_take (i := 5) (d := 62) (v := ?_) rfl rfl (by kernel_rfl) (by kernel_rfl) (by kernel_rfl) (fun _ _ _ h => h) (Or.inl ⟨by rfl, ?_⟩) (by assumption) ?_
        rotate_left
        · (intro w hSw; (try dsimp only at hSw); go_simp; (try (rw [if_neg]; rotate_left 1; · omega)); (try with_reducible rfl))
        (try simp only [List.set_cons_zero, List.set_cons_succ])
        refine held_take (i := 6) (d := 63) (v := ?_) rfl rfl (by kernel_rfl) (by kernel_rfl) (by kernel_rfl) (fun _ _ _ h => h) (Or.inl ⟨by rfl, ?_⟩) (by assumption) ?_
        rotate_left
        · (intro w hSw; (try dsimp only at hSw); go_simp; (try (rw [if_neg]; rotate_left 1; · omega)); (try with_reducible rfl))
        (try simp only [List.set_cons_zero, List.set_cons_succ])
        refine held_take (i := 7) (d := 64) (v := ?_) rfl rfl (by kernel_rfl) (by kernel_rfl) (by kernel_rfl) (fun _ _ _ h => h) (Or.inl ⟨by rfl, ?_⟩) (by assumption) ?_
        rotate_left
        · (intro w hSw; (try dsimp only at hSw); go_simp; (try (rw [if_neg]; rotate_left 1; · omega)); (try with_reducible rfl))
        (try simp only [List.set_cons_zero, List.set_cons_succ])
        refine held_take (i := 8) (d := 65) (v := ?_) rfl rfl (by kernel_rfl) (by kernel_rfl) (by kernel_rfl) (fun _ _ _ h => h) (Or.inl ⟨by rfl, ?_⟩) (by assumption) ?_
        rotate_left
        · (intro w hSw; (try dsimp only at hSw); go_simp; (try (rw [if_neg]; rotate_left 1; · omega)); (try with_reducible rfl))
        (try simp only [List.set_cons_zero, List.set_cons_succ])
        refine held_take (i := 9) (d := 66) (v := ?_) rfl rfl (by kernel_rfl) (by kernel_rfl) (by kernel_rfl) (fun _ _ _ h => h) (Or.inl ⟨by rfl, ?_⟩) (by assumption) ?_
        rotate_left
        · (intro w hSw; (try dsimp only at hSw); go_simp; (try (rw [if_neg]; rotate_left 1; · omega)); (try with_reducible rfl))
        (try simp only [List.set_cons_zero, List.set_cons_succ])
        refine held_take (i := 10) (d := 67) (v := ?_) rfl rfl (by kernel_rfl) (by kernel_rfl) (by kernel_rfl) (fun _ _ _ h => h) (Or.inl ⟨by rfl, ?_⟩) (by assumption) ?_
        rotate_left
        · (intro w hSw; (try dsimp only at hSw); go_simp; (try (rw [if_neg]; rotate_left 1; · omega)); (try with_reducible rfl))
        (try simp only [List.set_cons_zero, List.set_cons_succ])
        refine held_take (i := 11) (d := 68) (v := ?_) rfl rfl (by kernel_rfl) (by kernel_rfl) (by kernel_rfl) (fun _ _ _ h => h) (Or.inl ⟨by rfl, ?_⟩) (by assumption) ?_
        rotate_left
        · (intro w hSw; (try dsimp only at hSw); go_simp; (try (rw [if_neg]; rotate_left 1; · omega)); (try with_reducible rfl))
        (try simp only [List.set_cons_zero, List.set_cons_succ])
        refine held_take (i := 12) (d := 69) (v := ?_) rfl rfl (by kernel_rfl) (by kernel_rfl) (by kernel_rfl) (fun _ _ _ h => h) (Or.inl ⟨by rfl, ?_⟩) (by assumption) ?_
        rotate_left
        · (intro w hSw; (try dsimp only at hSw); go_simp; (try (rw [if_neg]; rotate_left 1; · omega)); (try with_reducible rfl))
        (try simp only [List.set_cons_zero, List.set_cons_succ])
        refine held_take (i := 13) (d := 70) (v := ?_) rfl rfl (by kernel_rfl) (by kernel_rfl) (by kernel_rfl) (fun _ _ _ h => h) (Or.inl ⟨by rfl, ?_⟩) (by assumption) ?_
        rotate_left
        · (intro w hSw; (try dsimp only at hSw); go_simp; (try (rw [if_neg]; rotate_left 1; · omega)); (try with_reducible rfl))
        (try simp only [List.set_cons_zero, List.set_cons_succ])
        refine held_take (i := 14) (d := 71) (v := ?_) rfl rfl (by kernel_rfl) (by kernel_rfl) (by kernel_rfl) (fun _ _ _ h => h) (Or.inl ⟨by rfl, ?_⟩) (by assumption) ?_
        rotate_left
        · (intro w hSw; (try dsimp only at hSw); go_simp; (try (rw [if_neg]; rotate_left 1; · omega)); (try with_reducible rfl))
        (try simp only [List.set_cons_zero, List.set_cons_succ])
        refine held_take (i := 15) (d := 72) (v := ?_) rfl rfl (by kernel_rfl) (by kernel_rfl) (by kernel_rfl) (fun _ _ _ h => h) (Or.inl ⟨by rfl, ?_⟩) (by assumption) ?_
        rotate_left
        · (intro w hSw; (try dsimp only at hSw); go_simp; (try (rw [if_neg]; rotate_left 1; · omega)); (try with_reducible rfl))
        (try simp only [List.set_cons_zero, List.set_cons_succ])
        refine held_take (i := 16) (d := 73) (v := ?_) rfl rfl (by kernel_rfl) (by kernel_rfl) (by kernel_rfl) (fun _ _ _ h => h) (Or.inl ⟨by rfl, ?_⟩) (by assumption) ?_
        rotate_left
        · (intro w hSw; (try dsimp only at hSw); go_simp; (try (rw [if_neg]; rotate_left 1; · omega)); (try with_reducible rfl))
        (try simp only [List.set_cons_zero, List.set_cons_succ])
        refine held_take (i := 17) (d := 74) (v := ?_) rfl rfl (by kernel_rfl) (by kernel_rfl) (by kernel_rfl) (fun _ _ _ h => h) (Or.inl ⟨by rfl, ?_⟩) (by assumption) ?_
        rotate_left
        · (intro w hSw; (try dsimp only at hSw); go_simp; (try (rw [if_neg]; rotate_left 1; · omega)); (try with_reducible rfl))
        (try simp only [List.set_cons_zero, List.set_cons_succ])
        refine held_take (i := 18) (d := 75) (v := ?_) rfl rfl (by kernel_rfl) (by kernel_rfl) (by kernel_rfl) (fun _ _ _ h => h) (Or.inl ⟨by rfl, ?_⟩) (by assumption) ?_
        rotate_left
        · (intro w hSw; (try dsimp only at hSw); go_simp; (try (rw [if_neg]; rotate_left 1; · omega)); (try with_reducible rfl))
        (try simp only [List.set_cons_zero, List.set_cons_succ])
        refine held_take (i := 19) (d := 76) (v := ?_) rfl rfl (by kernel_rfl) (by kernel_rfl) (by kernel_rfl) (fun _ _ _ h => h) (Or.inl ⟨by rfl, ?_⟩) (by assumption) ?_
        rotate_left
        · (intro w hSw; (try dsimp only at hSw); go_simp; (try (rw [if_neg]; rotate_left 1; · omega)); (try with_reducible rfl))
        (try simp only [List.set_cons_zero, List.set_cons_succ])
        refine held_take (i := 20) (d := 77) (v := ?_) rfl rfl (by kernel_rfl) (by kernel_rfl) (by kernel_rfl) (fun _ _ _ h => h) (Or.inl ⟨by rfl, ?_⟩) (by assumption) ?_
        rotate_left
        · (intro w hSw; (try dsimp only at hSw); go_simp; (try (rw [if_neg]; rotate_left 1; · omega)); (try with_reducible rfl))
        (try simp only [List.set_cons_zero, List.set_cons_succ])
        refine held_take (i := 21) (d := 3) (v := ?_) rfl rfl (by kernel_rfl) (by kernel_rfl) (by kernel_rfl) (fun _ _ _ h => h) (Or.inl ⟨by rfl, ?_⟩) (by assumption) ?_
        rotate_left
        · (intro w hSw; (try dsimp only at hSw); go_simp; (try (rw [if_neg]; rotate_left 1; · omega)); (try with_reducible rfl))
        (try simp only [List.set_cons_zero, List.set_cons_succ])
        refine wpAnyH_done (by kernel_rfl) ?_ _
        go_wp2_with fail
        go_roundw
        case rel => exact ⟨k + 1, _, by omega, by go_num, rfl, HSZ.out, Lib.hid HN, (hW.call hV)⟩
        case measure => simp [intOf]; omega
      · -- kind 4
        obtain ⟨nm, op, p, pt, wd, vl, hx2, rfl⟩ := hkd
        obtain ⟨⟨C, m, cc⟩, x2⟩ := x
        dsimp only at hx2 hps c0 c1 c2_ c3_ c4 c5 c6
        subst hx2
        dsimp only at hps c0 c1 c2_ c3_ c4 c5 c6 hz1 hz2 hz3
        have hs0 := hz3 p (by simp)
        clear hz3
        obtain rfl : m = 1 := hps.length.symm
        clear hx
        have hX := Blk.new wr 92 #[.int .i64 4, .string nm, .string op, .slice C 1 cc, .int .i64 pt, .int .i64 wd, .int .i64 vl] (g := wr.heap.size)
        have hV := (Bl.refl wr).alloc (.cells #[.int .i64 4, .string nm, .string op, .slice C 1 cc, .int .i64 pt, .int .i64 wd, .int .i64 vl] 92)
        obtain ⟨ad0, x0, rfl, hb0_, hx0, hc0⟩ := hps.at_ (k := 0) (by omega)
        obtain rfl := Option.some.inj hx0
        have hle9 := hps.le.1
        have hc0' : wr.cell? ad0 = some (.string p) := hc0
        go_wp2_with fail
        generalize wr.alloc (.cells #[.int .i64 4, .string nm, .string op, .slice (some ad0) 1 cc, .int .i64 pt, .int .i64 wd, .int .i64 vl] 92) = w0 at hX hV ⊢
        replace hX := hX.drew
        replace hV := hV.drew
        refine wp_region_held_drew (S := (fun w' => w'.cell? ⟨wr.heap.size, 1, none⟩ = some (.string nm) ∧ w'.cell? ⟨wr.heap.size, 3, none⟩ = some (.slice (some ad0) 1 cc) ∧ w'.cell? ad0 = some (.string p))) (by kernel_rfl) ?_ (fun hHeld => ?_)
        · (try dsimp only); exact ⟨hX.cell 1 _ rfl, hX.cell 3 _ rfl, Bl.cells hV hc0⟩
        refine held_take (i := 0) (d := 80) (v := ?_) rfl rfl (by kernel_rfl) (by kernel_rfl) (by kernel_rfl) (fun _ _ _ h => h) (Or.inl ⟨by rfl, ?_⟩) (by assumption) ?_
        rotate_left
        · (intro w hSw; (try dsimp only at hSw); go_simp; (try (rw [if_neg]; rotate_left 1; · omega)); (try with_reducible rfl))
        (try simp only [List.set_cons_zero, List.set_cons_succ])
        refine held_take (i := 1) (d := 81) (v := ?_) rfl rfl (by kernel_rfl) (by kernel_rfl) (by kernel_rfl) (fun _ _ _ h => h) (Or.inl ⟨by rfl, ?_⟩) (by assumption) ?_
        rotate_left
        · (intro w hSw; (try dsimp only at hSw); go_simp; (try (rw [if_neg]; rotate_left 1; · omega)); (try with_reducible rfl))
        (try simp only [List.set_cons_zero, List.set_cons_succ])
        refine held_take (i := 2) (d := 82) (v := ?_) rfl rfl (by kernel_rfl) (by kernel_rfl) (by kernel_rfl) (fun _ _ _ h => h) (Or.inl ⟨by rfl, ?_⟩) (by assumption) ?_
        rotate_left
        · (intro w hSw; (try dsimp only at hSw); go_simp; (try (rw [if_neg]; rotate_left 1; · omega)); (try with_reducible rfl))
        (try simp only [List.set_cons_zero, List.set_cons_succ])
        refine held_take (i := 3) (d := 83) (v := ?_) rfl rfl (by kernel_rfl) (by kernel_rfl) (by kernel_rfl) (fun _ _ _ h => h) (Or.inl ⟨by rfl, ?_⟩) (by assumption) ?_
        rotate_left
        · (intro w hSw; (try dsimp only at hSw); go_simp; (try (rw [if_neg]; rotate_left 1; · omega)); (try with_reducible rfl))
        (try simp only [List.set_cons_zero, List.set_cons_succ])
        refine held_take (i := 4) (d := 84) (v := ?_) rfl rfl (by kernel_rfl) (by kernel_rfl) (by kernel_rfl) (fun _ _ _ h => h) (Or.inl ⟨by rfl, ?_⟩) (by assumption) ?_
        rotate_left
        · (intro w hSw; (try dsimp only at hSw); go_simp; (try (rw [if_neg]; rotate_left 1; · omega)); (try with_reducible rfl))
        (try simp only [List.set_cons_zero, List.set_cons_succ])
        refine held_take (i := 5) (d := 85) (v := ?_) rfl rfl (by kernel_rfl) (by kernel_rfl) (by kernel_rfl) (fun _ _ _ h => h) (Or.inl ⟨by rfl, ?_⟩) (by assumption) ?_
        rotate_left
        · (intro w hSw; (try dsimp only at hSw); go_simp; (try (rw [if_neg]; rotate_left 1; · omega)); (try with_reducible rfl))
        (try simp only [List.set_cons_zero, List.set_cons_succ])
        refine held_take (i := 6) (d := 86) (v := ?_) rfl rfl (by kernel_rfl) (by kernel_rfl) (by kernel_rfl) (fun _ _ _ h => h) (Or.inl ⟨by rfl, ?_⟩) (by assumption) ?_
        rotate_left
        · (intro w hSw; (try dsimp only at hSw); go_simp; (try (rw [if_neg]; rotate_left 1; · omega)); (try with_reducible rfl))
        (try simp only [List.set_cons_zero, List.set_cons_succ])
        refine held_take (i := 7) (d := 87) (v := ?_) rfl rfl (by kernel_rfl) (by kernel_rfl) (by kernel_rfl) (fun _ _ _ h => h) (Or.inl ⟨by rfl, ?_⟩) (by assumption) ?_
        rotate_left
        · (intro w hSw; (try dsimp only at hSw); go_simp; (try (rw [if_neg]; rotate_left 1; · omega)); (try with_reducible rfl))
        (try simp only [List.set_cons_zero, List.set_cons_succ])
        refine held_take (i := 8) (d := 88) (v := ?_) rfl rfl (by kernel_rfl) (by kernel_rfl) (by kernel_rfl) (fun _ _ _ h => h) (Or.inl ⟨by rfl, ?_⟩) (by assumption) ?_
        rotate_left
        · (intro w hSw; (try dsimp only at hSw); go_simp; (try (rw [if_neg]; rotate_left 1; · omega)); (try with_reducible rfl))
        (try simp only [List.set_cons_zero, List.set_cons_succ])
        refine held_take (i := 9) (d := 89) (v := ?_) rfl rfl (by kernel_rfl) (by kernel_rfl) (by kernel_rfl) (fun _ _ _ h => h) (Or.inl ⟨by rfl, ?_⟩) (by assumption) ?_
        rotate_left
        · (intro w hSw; (try dsimp only at hSw); go_simp; (try (rw [if_neg]; rotate_left 1; · omega)); (try with_reducible rfl))
        (try simp only [List.set_cons_zero, List.set_cons_succ])
        refine held_take (i := 10) (d := 90) (v := ?_) rfl rfl (by kernel_rfl) (by kernel_rfl) (by kernel_rfl) (fun _ _ _ h => h) (Or.inl ⟨by rfl, ?_⟩) (by assumption) ?_
        rotate_left
        · (intro w hSw; (try dsimp only at hSw); go_simp; (try (rw [if_neg]; rotate_left 1; · omega)); (try with_reducible rfl))
        (try simp only [List.set_cons_zero, List.set_cons_succ])
        refine held_take (i := 11) (d := 3) (v := ?_) rfl rfl (by kernel_rfl) (by kernel_rfl) (by kernel_rfl) (fun _ _ _ h => h) (Or.inl ⟨by rfl, ?_⟩) (by assumption) ?_
        rotate_left
        · (intro w hSw; (try dsimp only at hSw); go_simp; (try (rw [if_neg]; rotate_left 1; · omega)); (try with_reducible rfl))
        (try simp only [List.set_cons_zero, List.set_cons_succ])
        refine wpAnyH_done (by kernel_rfl) ?_ _
        go_wp2_with fail
        go_roundw
        case rel => exact ⟨k + 1, _, by omega, by go_num, rfl, HSZ.out, Lib.hid HN, (hW.call hV)⟩
        case measure => simp [intOf]; omega
      · -- kind 5
        obtain ⟨nm, op, p, q, r, pt, wd, vl, hx2, rfl⟩ := hkd
        obtain ⟨⟨C, m, cc⟩, x2⟩ := x
        dsimp only at hx2 hps c0 c1 c2_ c3_ c4 c5 c6
        subst hx2
        dsimp only at hps c0 c1 c2_ c3_ c4 c5 c6 hz1 hz2 hz3
        have hs0 := hz3 p (by simp)
        have hs1 := hz3 q (by simp)
        have hs2 := hz3 r (by simp)
        clear hz3
        obtain rfl : m = 3 := hps.length.symm
        clear hx
        have hX := Blk.new wr 92 #[.int .i64 5, .string nm, .string op, .slice C 3 cc, .int .i64 pt, .int .i64 wd, .int .i64 vl] (g := wr.heap.size)
        have hV := (Bl.refl wr).alloc (.cells #[.int .i64 5, .string nm, .string op, .slice C 3 cc, .int .i64 pt, .int .i64 wd, .int .i64 vl] 92)
        obtain ⟨ad0, x0, rfl, hb0_, hx0, hc0⟩ := hps.at_ (k := 0) (by omega)
        obtain rfl := Option.some.inj hx0
        obtain ⟨ad1, x1, e1, hb1_, hx1, hc1⟩ := hps.at_ (k := 1) (by omega)
        injection e1 with e1; subst e1
        obtain rfl := Option.some.inj hx1
        obtain ⟨ad2, x2, e2, hb2_, hx2, hc2⟩ := hps.at_ (k := 2) (by omega)
        injection e2 with e2; subst e2
        obtain rfl := Option.some.inj hx2
        have hle9 := hps.le.1
        have hc0' : wr.cell? ad0 = some (.string p) := hc0
        go_wp2_with fail
        generalize wr.alloc (.cells #[.int .i64 5, .string nm, .string op, .slice (some ad0) 3 cc, .int .i64 pt, .int .i64 wd, .int .i64 vl] 92) = w0 at hX hV ⊢
        replace hX := hX.drew
        replace hV := hV.drew
        refine wp_region_held_drew (S := (fun w' => w'.cell? ⟨wr.heap.size, 1, none⟩ = some (.string nm) ∧ w'.cell? ⟨wr.heap.size, 3, none⟩ = some (.slice (some ad0) 3 cc) ∧ w'.cell? ad0 = some (.string p) ∧ w'.cell? ⟨ad0.block, ad0.off + 1, none⟩ = some (.string q) ∧ w'.cell? ⟨ad0.block, ad0.off + 2, none⟩ = some (.string r))) (by kernel_rfl) ?_ (fun hHeld => ?_)
        · (try dsimp only); exact ⟨hX.cell 1 _ rfl, hX.cell 3 _ rfl, Bl.cells hV hc0, Bl.cells hV hc1, Bl.cells hV hc2⟩
        refine held_take (i := 0) (d := 93) (v := ?_) rfl rfl (by kernel_rfl) (by kernel_rfl) (by kernel_rfl) (fun _ _ _ h => h) (Or.inl ⟨by rfl, ?_⟩) (by assumption) ?_
        rotate_left
        · (intro w hSw; (try dsimp only at hSw); go_simp; (try (rw [if_neg]; rotate_left 1; · omega)); (try with_reducible rfl))
        (try simp only [List.set_cons_zero, List.set_cons_succ])
        refine held_take (i := 1) (d := 94) (v := ?_) rfl rfl (by kernel_rfl) (by kernel_rfl) (by kernel_rfl) (fun _ _ _ h => h) (Or.inl ⟨by rfl, ?_⟩) (by assumption) ?_
        rotate_left
        · (intro w hSw; (try dsimp only at hSw); go_simp; (try (rw [if_neg]; rotate_left 1; · omega)); (try with_reducible rfl))
        (try simp only [List.set_cons_zero, List.set_cons_succ])
        refine held_take (i := 2) (d := 95) (v := ?_) rfl rfl (by kernel_rfl) (by kernel_rfl) (by kernel_rfl) (fun _ _ _ h => h) (Or.inl ⟨by rfl, ?_⟩) (by assumption) ?_
        rotate_left
        · (intro w hSw; (try dsimp only at hSw); go_simp; (try (rw [if_neg]; rotate_left 1; · omega)); (try with_reducible rfl))
        (try simp only [List.set_cons_zero, List.set_cons_succ])
        refine held_take (i := 3) (d := 96) (v := ?_) rfl rfl (by kernel_rfl) (by kernel_rfl) (by kernel_rfl) (fun _ _ _ h => h) (Or.inl ⟨by rfl, ?_⟩) (by assumption) ?_
        rotate_left
        · (intro w hSw; (try dsimp only at hSw); go_simp; (try (rw [if_neg]; rotate_left 1; · omega)); (try with_reducible rfl))
        (try simp only [List.set_cons_zero, List.set_cons_succ])
        refine held_take (i := 4) (d := 97) (v := ?_) rfl rfl (by kernel_rfl) (by kernel_rfl) (by kernel_rfl) (fun _ _ _ h => h) (Or.inl ⟨by rfl, ?_⟩) (by assumption) ?_
        rotate_left
        · (intro w hSw; (try dsimp only at hSw); go_simp; (try (rw [if_neg]; rotate_left 1; · omega)); (try with_reducible rfl))
        (try simp only [List.set_cons_zero, List.set_cons_succ])
        refine held_take (i := 5) (d := 98) (v := ?_) rfl rfl (by kernel_rfl) (by kernel_rfl) (by kernel_rfl) (fun _ _ _ h => h) (Or.inl ⟨by rfl, ?_⟩) (by assumption) ?_
        rotate_left
        · (intro w hSw; (try dsimp only at hSw); go_simp; (try (rw [if_neg]; rotate_left 1; · omega)); (try with_reducible rfl))
        (try simp only [List.set_cons_zero, List.set_cons_succ])
        refine held_take (i := 6) (d := 99) (v := ?_) rfl rfl (by kernel_rfl) (by kernel_rfl) (by kernel_rfl) (fun _ _ _ h => h) (Or.inl ⟨by rfl, ?_⟩) (by assumption) ?_
        rotate_left
        · (intro w hSw; (try dsimp only at hSw); go_simp; (try (rw [if_neg]; rotate_left 1; · omega)); (try with_reducible rfl))
        (try simp only [List.set_cons_zero, List.set_cons_succ])
        refine held_take (i := 7) (d := 100) (v := ?_) rfl rfl (by kernel_rfl) (by kernel_rfl) (by kernel_rfl) (fun _ _ _ h => h) (Or.inl ⟨by rfl, ?_⟩) (by assumption) ?_
        rotate_left
        · (intro w hSw; (try dsimp only at hSw); go_simp; (try (rw [if_neg]; rotate_left 1; · omega)); (try with_reducible rfl))
        (try simp only [List.set_cons_zero, List.set_cons_succ])
        refine held_take (i := 8) (d := 101) (v := ?_) rfl rfl (by kernel_rfl) (by kernel_rfl) (by kernel_rfl) (fun _ _ _ h => h) (Or.inl ⟨by rfl, ?_⟩) (by assumption) ?_
        rotate_left
        · (intro w hSw; (try dsimp only at hSw); go_simp; (try (rw [if_neg]; rotate_left 1; · omega)); (try with_reducible rfl))
        (try simp only [List.set_cons_zero, List.set_cons_succ])
        refine held_take (i := 9) (d := 102) (v := ?_) rfl rfl (by kernel_rfl) (by kernel_rfl) (by kernel_rfl) (fun _ _ _ h => h) (Or.inl ⟨by rfl, ?_⟩) (by assumption) ?_
        rotate_left
        · (intro w hSw; (try dsimp only at hSw); go_simp; (try (rw [if_neg]; rotate_left 1; · omega)); (try with_reducible rfl))
        (try simp only [List.set_cons_zero, List.set_cons_succ])
        refine held_take (i := 10) (d := 103) (v := ?_) rfl rfl (by kernel_rfl) (by kernel_rfl) (by kernel_rfl) (fun _ _ _ h => h) (Or.inl ⟨by rfl, ?_⟩) (by assumption) ?_
        rotate_left
        · (intro w hSw; (try dsimp only at hSw); go_simp; (try (rw [if_neg]; rotate_left 1; · omega)); (try with_reducible rfl))
        (try simp only [List.set_cons_zero, List.set_cons_succ])
        refine held_take (i := 11) (d := 104) (v := ?_) rfl rfl (by kernel_rfl) (by kernel_rfl) (by kernel_rfl) (fun _ _ _ h => h) (Or.inl ⟨by rfl, ?_⟩) (by assumption) ?_
        rotate_left
        · (intro w hSw; (try dsimp only at hSw); go_simp; (try (rw [if_neg]; rotate_left 1; · omega)); (try with_reducible rfl))
        (try simp only [List.set_cons_zero, List.set_cons_succ])
        refine held_take (i := 12) (d := 105) (v := ?_) rfl rfl (by kernel_rfl) (by kernel_rfl) (by kernel_rfl) (fun _ _ _ h => h) (Or.inl ⟨by rfl, ?_⟩) (by assumption) ?_
        rotate_left
        · (intro w hSw; (try dsimp only at hSw); go_simp; (try (rw [if_neg]; rotate_left 1; · omega)); (try with_reducible rfl))
        (try simp only [List.set_cons_zero, List.set_cons_succ])
        refine held_take (i := 13) (d := 106) (v := ?_) rfl rfl (by kernel_rfl) (by kernel_rfl) (by kernel_rfl) (fun _ _ _ h => h) (Or.inl ⟨by rfl, ?_⟩) (by assumption) ?_
        rotate_left
        · (intro w hSw; (try dsimp only at hSw); go_simp; (try (rw [if_neg]; rotate_left 1; · omega)); (try with_reducible rfl))
        (try simp only [List.set_cons_zero, List.set_cons_succ])
        refine held_take (i := 14) (d := 107) (v := ?_) rfl rfl (by kernel_rfl) (by kernel_rfl) (by kernel_rfl) (fun _ _ _ h => h) (Or.inl ⟨by rfl, ?_⟩) (by assumption) ?_
        rotate_left
        · (intro w hSw; (try dsimp only at hSw); go_simp; (try (rw [if_neg]; rotate_left 1; · omega)); (try with_reducible rfl))
        (try simp only [List.set_cons_zero, List.set_cons_succ])
        refine held_take (i := 15) (d := 108) (v := ?_) rfl rfl (by kernel_rfl) (by kernel_rfl) (by kernel_rfl) (fun _ _ _ h => h) (Or.inl ⟨by rfl, ?_⟩) (by assumption) ?_
        rotate_left
        · (intro w hSw; (try dsimp only at hSw); go_simp; (try (rw [if_neg]; rotate_left 1; · omega)); (try with_reducible rfl))
        (try simp only [List.set_cons_zero, List.set_cons_succ])
        refine held_take (i := 16) (d := 109) (v := ?_) rfl rfl (by kernel_rfl) (by kernel_rfl) (by kernel_rfl) (fun _ _ _ h => h) (Or.inl ⟨by rfl, ?_⟩) (by assumption) ?_
        rotate_left
        · (intro w hSw; (try dsimp only at hSw); go_simp; (try (rw [if_neg]; rotate_left 1; · omega)); (try with_reducible rfl))
        (try simp only [List.set_cons_zero, List.set_cons_succ])
        refine held_take (i := 17) (d := 110) (v := ?_) rfl rfl (by kernel_rfl) (by kernel_rfl) (by kernel_rfl) (fun _ _ _ h => h) (Or.inl ⟨by rfl, ?_⟩) (by assumption) ?_
        rotate_left
        · (intro w hSw; (try dsimp only at hSw); go_simp; (try (rw [if_neg]; rotate_left 1; · omega)); (try with_reducible rfl))
        (try simp only [List.set_cons_zero, List.set_cons_succ])
        refine held_take (i := 18) (d := 111) (v := ?_) rfl rfl (by kernel_rfl) (by kernel_rfl) (by kernel_rfl) (fun _ _ _ h => h) (Or.inl ⟨by rfl, ?_⟩) (by assumption) ?_
        rotate_left
        · (intro w hSw; (try dsimp only at hSw); go_simp; (try (rw [if_neg]; rotate_left 1; · omega)); (try with_reducible rfl))
        (try simp only [List.set_cons_zero, List.set_cons_succ])
        refine held_take (i := 19) (d := 112) (v := ?_) rfl rfl (by kernel_rfl) (by kernel_rfl) (by kernel_rfl) (fun _ _ _ h => h) (Or.inl ⟨by rfl, ?_⟩) (by assumption) ?_
        rotate_left
        · (intro w hSw; (try dsimp only at hSw); go_simp; (try (rw [if_neg]; rotate_left 1; · omega)); (try with_reducible rfl))
        (try simp only [List.set_cons_zero, List.set_cons_succ])
        refine held_take (i := 20) (d := 113) (v := ?_) rfl rfl (by kernel_rfl) (by kernel_rfl) (by kernel_rfl) (fun _ _ _ h => h) (Or.inl ⟨by rfl, ?_⟩) (by assumption) ?_
        rotate_left
        · (intro w hSw; (try dsimp only at hSw); go_simp; (try (rw [if_neg]; rotate_left 1; · omega)); (try with_reducible rfl))
        (try simp only [List.set_cons_zero, List.set_cons_succ])
        refine held_take (i := 21) (d := 114) (v := ?_) rfl rfl (by kernel_rfl) (by kernel_rfl) (by kernel_rfl) (fun _ _ _ h => h) (Or.inl ⟨by rfl, ?_⟩) (by assumption) ?_
        rotate_left
        · (intro w hSw; (try dsimp only at hSw); go_simp; (try (rw [if_neg]; rotate_left 1; · omega)); (try with_reducible rfl))
        (try simp only [List.set_cons_zero, List.set_cons_succ])
        refine held_take (i := 22) (d := 115) (v := ?_) rfl rfl (by kernel_rfl) (by kernel_rfl) (by kernel_rfl) (fun _ _ _ h => h) (Or.inl ⟨by rfl, ?_⟩) (by assumption) ?_
        rotate_left
        · (intro w hSw; (try dsimp only at hSw); go_simp; (try (rw [if_neg]; rotate_left 1; · omega)); (try with_reducible rfl))
        (try simp only [List.set_cons_zero, List.set_cons_succ])
        refine held_take (i := 23) (d := 3) (v := ?_) rfl rfl (by kernel_rfl) (by kernel_rfl) (by kernel_rfl) (fun _ _ _ h => h) (Or.inl ⟨by rfl, ?_⟩) (by assumption) ?_
        rotate_left
        · (intro w hSw; (try dsimp only at hSw); go_simp; (try (rw [if_neg]; rotate_left 1; · omega)); (try with_reducible rfl))
        (try simp only [List.set_cons_zero, List.set_cons_succ])
        refine wpAnyH_done (by kernel_rfl) ?_ _
        go_wp2_with fail
        go_roundw
        case rel => exact ⟨k + 1, _, by omega, by go_num, rfl, HSZ.out, Lib.hid HN, (hW.call hV)⟩
        case measure => simp [intOf]; omega
      · -- kind 6
        obtain ⟨nm, op, p, pt, wd, vl, hx2, rfl⟩ := hkd
        obtain ⟨⟨C, m, cc⟩, x2⟩ := x
        dsimp only at hx2 hps c0 c1 c2_ c3_ c4 c5 c6
        subst hx2
        dsimp only at hps c0 c1 c2_ c3_ c4 c5 c6 hz1 hz2 hz3
        have hs0 := hz3 p (by simp)
        clear hz3
        obtain rfl : m = 1 := hps.length.symm
        clear hx
        have hX := Blk.new wr 92 #[.int .i64 6, .string nm, .string op, .slice C 1 cc, .int .i64 pt, .int .i64 wd, .int .i64 vl] (g := wr.heap.size)
        have hV := (Bl.refl wr).alloc (.cells #[.int .i64 6, .string nm, .string op, .slice C 1 cc, .int .i64 pt, .int .i64 wd, .int .i64 vl] 92)
        obtain ⟨ad0, x0, rfl, hb0_, hx0, hc0⟩ := hps.at_ (k := 0) (by omega)
        obtain rfl := Option.some.inj hx0
        have hle9 := hps.le.1
        have hc0' : wr.cell? ad0 = some (.string p) := hc0
        go_wp2_with fail
        go_wp2_with fail
        go_roundw
        case rel => exact ⟨k + 1, _, by omega, by go_num, rfl, HSZ.out, Lib.hid HN, (hW.call hV)⟩
        case measure => simp [intOf]; omega
    · obtain rfl : k = n := by omega
      have hst := Lib.hid (show sk = s by
        have e := hq.out
        rw [List.drop_eq_nil_of_le (by rw [hlen.out]; omega)] at e
        injection e)
      go_wp2_with fail
      go_ret
      exact ⟨by rw [hst.out]; rfl, hW⟩
end Go.Proofs.YtjggecbaladiiaaGreatDoor
