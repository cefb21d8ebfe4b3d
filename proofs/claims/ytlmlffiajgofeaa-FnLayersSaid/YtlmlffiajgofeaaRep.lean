/- The contract of slices.Repeat of the list [-1].
   Conditions: at most 1000 times. -/
import Derived.Test.YtlmlffiajgofeaaLai
import Derived.Laws.CopyOwn
import Derived.Laws.Bits64b
namespace Go.Proofs.Ytlmlffiajgofeaa
open Go.RowKit
set_option linter.unusedVariables false
theorem maskN (a : Nat) (ha : a ≤ 1000) : bits .and .u64 (a : Int) 4294967295 = (a : Int) := by
  have h := bits_and_u64_nat a 4294967295 (by omega) (by omega)
  have e : a &&& 4294967295 = a % 4294967296 := Nat.and_two_pow_sub_one_eq_mod a 32
  rw [e, Nat.mod_eq_of_lt (by omega)] at h
  exact h
theorem bits_Mul64 (y : Nat) (hy : y ≤ 1000) (w : World) :
    Calls Try.prog 148 #[.int .u64 1, .int .u64 (y : Int)] w fun e w' => e = .returned (.tuple #[.int .u64 0, .int .u64 (y : Int)]) ∧ w = w' := by
  have hm := maskN y hy
  have h1m : bits .and .u64 1 4294967295 = 1 := by kernel_rfl
  have hz : IntKind.u64.wrap 0 = 0 := by kernel_rfl
  have hd : (y : Int) / 4294967296 = 0 := by omega
  have hw : IntKind.u64.wrap (y : Int) = (y : Int) := by rw [IntKind.wrap_u64]; omega
  go_enter Try.func148, Try.ntmps148
  go_wp2
  go_ret2
  exact ⟨rfl, rfl⟩
theorem bits_Mul (y : Nat) (hy : y ≤ 1000) (w : World) :
    Calls Try.prog 137 #[.int .u64 1, .int .u64 (y : Int)] w fun e w' => e = .returned (.tuple #[.int .u64 0, .int .u64 (y : Int)]) ∧ w = w' := by
  go_enter Try.func137, Try.ntmps137
  go_wp2_with (go_at_call 148; refine (bits_Mul64 y hy _).mono ?_; rintro e w' ⟨rfl, rfl⟩)
  go_ret2
  exact ⟨rfl, rfl⟩
theorem int_size1 : (Try.prog.info? 3).map (·.size) = some 1 := by kernel_rfl
theorem cp_step {ops : Array Oper} {o : Oper} {a : Act} {w : World} {K : Act → World → Prop} {Q : Exit → Act → World → Prop} {E : Prop} (hgd : o.guard = none) {d s : Operand} (ho : o.op = .call { callee := .builtin .copy, args := #[d, s], argTypes := #[24, 24] })
    (g off dLen dCap : Nat) (ad : Addr) (sLen sCap : Nat) (hd : a.eval d = .slice (some ⟨g, off, none⟩) dLen dCap) (hs : a.eval s = .slice (some ad) sLen sCap)
    (cur : Array Value) (t : TypeId) (hg : w.heap[g]? = some (.cells cur t (0, 0))) (cs : List Value) (hn : cs.length = Nat.min sLen dLen)
    (hsrc : ∀ j v, cs[j]? = some v → w.cell? (ad.add j) = some v) (hfit : off + cs.length ≤ cur.size) (h1 : ∀ v ∈ cs, v.oneCell' = true)
    (h : K (a.put o.dst (goInt cs.length)) (w.setRow g (cur.toList.take off ++ cs ++ cur.toList.drop (off + cs.length)).toArray)) :
    if Region.wanted o (yielded ops a.tmps) = true then Oper.wp Try.prog o a w K Q else E := by
  have hrun := run_copy_row (P := Try.prog) w 24 24 o.type 3 g off dLen dCap ad sLen sCap cur t cs Try.underlying24 int_size1 hg hn hsrc hfit h1
  have hw : Region.wanted o (yielded ops a.tmps) = true := by simp [Region.wanted, hgd]
  rw [if_pos hw]
  unfold Oper.wp execOp
  simp only [ho, resolve, invoke, builtin, Sem.run_bind, Sem.run_pure, Result.andThen_ok, List.map_toArray, List.map_cons, List.map_nil, hd, hs, hrun]
  exact h
/-- The row while k cells of N are -1. -/
def rowN (N k : Nat) : List Value := ints (repL (-1) (List.replicate N 0) k)
theorem rowN_len (N k : Nat) (h : k ≤ N) : (rowN N k).length = N := by simp [rowN, repL]; omega
theorem rowN_made (N : Nat) : (madeCells #[.int .i64 0] N) = (rowN N 0).toArray := by
  apply Array.toList_inj.1
  rw [toList_madeCells_one]
  simp [rowN, repL_zero, ints]
theorem rowN_step (N n k : Nat) (h : n + k ≤ N) : (rowN N n).take n ++ List.replicate k (Value.int .i64 (-1)) ++ (rowN N n).drop (n + k) = rowN N (n + k) := by
  unfold rowN repL ints
  simp only [List.map_append, List.map_replicate, List.drop_replicate]
  rw [List.take_left' (by simp), List.drop_append, List.length_replicate, show n + k - n = k by omega, List.drop_of_length_le (by simp), List.drop_replicate, List.nil_append, List.replicate_append_replicate]
  congr 2
  omega
theorem rowN_get (N n j : Nat) (h : j < n) (hn : n ≤ N) : (rowN N n).toArray[j]? = some (Value.int .i64 (-1)) := by
  simp [rowN, ints_get, repL, List.getElem?_append_left, h]
theorem rowN_all (N : Nat) : rowN N N = ints (List.replicate N (-1)) := by
  have := repL_all (-1) (List.replicate N 0)
  rw [List.length_replicate] at this
  unfold rowN
  rw [this]
theorem own_row {w : World} {g N base : Nat} {l : List Int} (h : Blk w g 3 (ints l).toArray) (hl : l.length = N) (hN : N ≤ 1000) (hb : base ≤ g) : OwnI base w (some ⟨g, 0, none⟩) N N l := by
  refine ⟨by simp [hl], .inr ⟨g, N, _, rfl, hb, h, Nat.le_refl _, by unfold maxLen; omega, by simp [hl], ?_⟩⟩
  simp [List.take_of_length_le, hl]
theorem Blk.row {w : World} {g : Nat} {t : TypeId} {cs cs' : Array Value} (h : Blk w g t cs) : Blk (w.setRow g cs') g t cs' := setRow_heap w g _ _ t _ h
theorem Bl.row {W w : World} {g : Nat} {cs : Array Value} (h : Bl W w) (hg : W.heap.size ≤ g) : Bl W (w.setRow g cs) := below_setRow h hg cs
set_option maxHeartbeats 2000000 in
theorem slices_Repeat0 (A : Option Addr) (c : Nat) (w : World) (h : RdI w A 1 c [-1]) :
    Calls Try.prog 112 #[.slice A 1 c, .int .i64 0] w fun e w' => ∃ A' c', e = .returned (.slice A' 0 c') ∧ OwnI w.heap.size w' A' 0 c' [] ∧ Bl w w' := by
  obtain ⟨hle1, hle2⟩ := h.le
  have hmk : ∀ w : World, (Instr.makeSlice 24 (.int .i64 0) (.int .i64 0)).run Try.prog w = .ok (.slice (some ⟨w.heap.size, 0, none⟩) 0 0) (w.alloc (.cells (madeCells #[.int .i64 0] 0) 3)) := make_ints 0 (by omega)
  have hmul := fun W => Lib.hid (bits_Mul 0 (by omega) W)
  have hcp : (Builtin.copy_ #[24, 24] 3 #[.slice (some ⟨w.heap.size, 0, none⟩) 0 0, .slice A 1 c]).run Try.prog (w.alloc (.cells (madeCells #[.int .i64 0] 0) 3)) = .ok (.int .i64 0) (w.alloc (.cells (madeCells #[.int .i64 0] 0) 3)) := run_copy_none (P := Try.prog) (w.alloc (.cells (madeCells #[.int .i64 0] 0) 3)) 24 24 3 3 (some ⟨w.heap.size, 0, none⟩) A 0 0 1 c Try.underlying24 int_size1 rfl
  go_enter Try.func112, Try.ntmps112
  go_wp2_with (first | (go_at_call 137; refine (hmul _).out.mono ?_; rintro e w' ⟨rfl, rfl⟩))
  go_loopw [8] (fun i wr => i = .int .i64 0 ∧ Blk wr w.heap.size 3 (madeCells #[.int .i64 0] 0) ∧ Bl w wr) (fun i _ => 0)
  case atStart => exact ⟨rfl, Blk.new w 3 _, (by (repeat (first | assumption | with_reducible exact Bl.refl _ | with_reducible refine Bl.drewN ?_ _ | with_reducible refine Bl.drew ?_ | with_reducible refine Bl.alloc ?_ _ | (with_reducible refine Bl.call ?_ (by assumption)))))⟩
  case round =>
    obtain ⟨rfl, hBk, hW⟩ := hrel
    go_wp2
    go_ret
    exact ⟨_, _, rfl, own_row (l := []) (by rw [rowN_made] at hBk; exact hBk) rfl (by omega) (Nat.le_refl _), hW⟩
set_option maxRecDepth 20000 in
set_option maxHeartbeats 4000000 in
theorem slices_Repeat (A : Option Addr) (c N : Nat) (w : World) (h : RdI w A 1 c [-1]) (hN : N ≤ 1000) (hN0 : 0 < N) :
    Calls Try.prog 112 #[.slice A 1 c, .int .i64 (N : Int)] w fun e w' => ∃ A' c', e = .returned (.slice A' N c') ∧ OwnI w.heap.size w' A' N c' (List.replicate N (-1)) ∧ Bl w w' := by
  obtain ⟨hle1, hle2⟩ := h.le
  have hmk := make_ints N (by omega)
  have hmul := fun W => Lib.hid (bits_Mul N hN W)
  obtain ⟨ad, v, rfl, hadb, hv, hcell⟩ := h.at_ (k := 0) (by omega)
  simp only [List.getElem?_cons_zero, Option.some.injEq] at hv
  subst hv
  have hW := (Bl.refl w).alloc (.cells (madeCells #[.int .i64 0] N) 3)
  have hBk := Blk.new w 3 (madeCells #[.int .i64 0] N)
  rw [rowN_made] at hW hBk hmk
  have hsrc1 : ∀ (j : Nat) v, [Value.int .i64 (-1)][j]? = some v → (w.alloc (.cells (rowN N 0).toArray 3)).cell? (ad.add j) = some v := by
    intro j v hj
    match j, hj with
    | 0, hj => simp at hj; subst hj; exact hW.cells hcell
    | j + 1, hj => simp at hj
  have hst1 := rowN_step N 0 1 (by omega)
  have iN : ¬ ((N : Int) < 0) := by omega
  have hcp := run_copy_row (P := Try.prog) (w.alloc (.cells (rowN N 0).toArray 3)) 24 24 3 3 w.heap.size 0 N N ad 1 c (rowN N 0).toArray 3 [.int .i64 (-1)] Try.underlying24 int_size1 hBk (by show 1 = min 1 N; omega) hsrc1 (by have := rowN_len N 0 (by omega); simp; omega) (by intro v hv; simp at hv; rw [hv]; rfl)
  have hst1' : (rowN N 0).toArray.toList.take 0 ++ [Value.int .i64 (-1)] ++ (rowN N 0).toArray.toList.drop (0 + [Value.int .i64 (-1)].length) = rowN N 1 := hst1
  rw [hst1'] at hcp
  have hcp' : (Builtin.copy_ #[24, 24] 3 #[.slice (some ⟨w.heap.size, 0, none⟩) N N, .slice (some ad) 1 c]).run Try.prog (w.alloc (.cells (rowN N 0).toArray 3)) = .ok (.int .i64 1) ((w.alloc (.cells (rowN N 0).toArray 3)).setRow w.heap.size (rowN N 1).toArray) := hcp
  clear hcp hst1' hst1 hsrc1
  replace hBk := hBk.row (cs' := (rowN N 1).toArray)
  replace hW := hW.row (g := w.heap.size) (cs := (rowN N 1).toArray) (Nat.le_refl _)
  go_enter Try.func112, Try.ntmps112
  go_wp2_with (first | (go_at_call 137; refine (hmul _).out.mono ?_; rintro e w' ⟨rfl, rfl⟩))
  go_loopw [8] (fun i wr => ∃ n : Nat, 1 ≤ n ∧ n ≤ N ∧ i = .int .i64 (n : Int) ∧ Blk wr w.heap.size 3 (rowN N n).toArray ∧ Bl w wr) (fun i _ => N - (intOf i).toNat)
  case atStart => exact ⟨1, by omega, by omega, rfl, hBk, hW⟩
  case round =>
    clear hBk hW hmk hcp' hcell
    obtain ⟨n, hn1, hn, rfl, hBk, hW⟩ := hrel
    by_cases hlt : n < N
    · have hlen := rowN_len N n hn
      have ilt : (n : Int) < N := by omega
      have hNn : ¬ (N = n) := by omega
      obtain ⟨q, hq, hq1, hq2, hq3⟩ : ∃ q, q = Nat.min n (N - n) ∧ 1 ≤ q ∧ n + q ≤ N ∧ q ≤ n := ⟨min n (N - n), rfl, by omega, by omega, by omega⟩
      have HQ := Lib.hid hq
      have hwq : IntKind.i64.wrap ((n : Int) + (q : Int)) = n + q := IntWalk.i64_in _ (by omega)
      clear hq
      have hsrc : ∀ (j : Nat) v, (List.replicate q (Value.int .i64 (-1)))[j]? = some v → wr.cell? ((⟨w.heap.size, 0, none⟩ : Addr).add j) = some v := by
        intro j v hj
        rw [List.getElem?_replicate] at hj
        split at hj
        · injection hj with hj
          subst hj
          have hadd : (⟨w.heap.size, 0, none⟩ : Addr).add j = ⟨w.heap.size, j, none⟩ := by unfold Addr.add; split <;> simp_all
          rw [hadd]
          exact hBk.cell j _ (rowN_get N n j (by omega) hn)
        · cases hj
      have hst := rowN_step N n q (by omega)
      have hrow : (rowN N n).toArray.toList.take n ++ List.replicate q (Value.int .i64 (-1)) ++ (rowN N n).toArray.toList.drop (n + (List.replicate q (Value.int .i64 (-1))).length) = rowN N (n + q) := by rw [List.length_replicate]; exact hst
      have hB2 := hBk.drew.row (cs' := (rowN N (n + q)).toArray)
      have hW2 := hW.drew.row (g := w.heap.size) (cs := (rowN N (n + q)).toArray) (Nat.le_refl _)
      clear hst
      go_wp2_with fail
      refine wp_region_held_drew (S := (fun w' => True)) (by kernel_rfl) ?_ (fun hHeld => ?_)
      · exact trivial
      refine held_take (i := 0) (d := 38) (v := ?_) rfl rfl (by kernel_rfl) (by kernel_rfl) (by kernel_rfl) (fun _ _ _ h => h) (Or.inl ⟨by rfl, ?_⟩) (by assumption) ?_
      rotate_left
      · (intro w hSw; (try dsimp only at hSw); go_simp; (try with_reducible rfl))
      (try simp only [List.set_cons_zero, List.set_cons_succ])
      refine held_take (i := 1) (d := 39) (v := ?_) rfl rfl (by kernel_rfl) (by kernel_rfl) (by kernel_rfl) (fun _ _ _ h => h) (Or.inl ⟨by rfl, ?_⟩) (by assumption) ?_
      rotate_left
      · (intro w hSw; (try dsimp only at hSw); go_simp; (try with_reducible rfl))
      (try simp only [List.set_cons_zero, List.set_cons_succ])
      refine held_take (i := 2) (d := 40) (v := ?_) rfl rfl (by kernel_rfl) (by kernel_rfl) (by kernel_rfl) (fun _ _ _ h => h) (Or.inl ⟨by rfl, ?_⟩) (by assumption) ?_
      rotate_left
      · (intro w hSw; (try dsimp only at hSw); go_simp; (try with_reducible rfl))
      (try simp only [List.set_cons_zero, List.set_cons_succ])
      refine held_take (i := 3) (d := 41) (v := ?_) rfl rfl (by kernel_rfl) (by kernel_rfl) (by kernel_rfl) (fun _ _ _ h => h) (Or.inl ⟨by rfl, ?_⟩) (by assumption) ?_
      rotate_left
      · (intro w hSw; (try dsimp only at hSw); go_simp; (try with_reducible rfl))
      (try simp only [List.set_cons_zero, List.set_cons_succ])
      refine held_take (i := 4) (d := 42) (v := ?_) rfl rfl (by kernel_rfl) (by kernel_rfl) (by kernel_rfl) (fun _ _ _ h => h) (Or.inl ⟨by rfl, ?_⟩) (by assumption) ?_
      rotate_left
      · (intro w hSw; (try dsimp only at hSw); go_simp; (try with_reducible rfl))
      (try simp only [List.set_cons_zero, List.set_cons_succ])
      refine held_take (i := 5) (d := 43) (v := ?_) rfl rfl (by kernel_rfl) (by kernel_rfl) (by kernel_rfl) (fun _ _ _ h => h) (Or.inl ⟨by rfl, ?_⟩) (by assumption) ?_
      rotate_left
      · (intro w hSw; (try dsimp only at hSw); go_simp; (try with_reducible rfl))
      (try simp only [List.set_cons_zero, List.set_cons_succ])
      refine held_take (i := 6) (d := 44) (v := ?_) rfl rfl (by kernel_rfl) (by kernel_rfl) (by kernel_rfl) (fun _ _ _ h => h) (Or.inl ⟨by rfl, ?_⟩) (by assumption) ?_
      rotate_left
      · (intro w hSw; (try dsimp only at hSw); go_simp; (try with_reducible rfl))
      (try simp only [List.set_cons_zero, List.set_cons_succ])
      refine wpAnyH_ready (rs := [7]) (by kernel_rfl) (by simp) ?_
      refine AllReadyH.cons rfl (fun K hK => ?_) AllReadyH.nil
      refine cp_step rfl rfl w.heap.size n (N - n) (N - n) ⟨w.heap.size, 0, none⟩ n N (by go_simp) (by go_simp) (rowN N n).toArray 3 hBk (List.replicate q (Value.int .i64 (-1))) (by rw [List.length_replicate]; exact HQ.out) hsrc (by simp [hlen] <;> omega) (by intro v hv; rw [List.eq_of_mem_replicate hv]; rfl) ?_; rw [hrow]
      refine hK.out _ _ ?_ (fun hHeld => ?_)
      · exact trivial
      clear hK K
      (try simp only [Act.put]); (try simp only [List.setIfInBounds_toArray]); (try simp only [List.set_cons_succ]); (try simp only [List.set_cons_zero])
      refine held_take (i := 8) (d := 46) (v := ?_) rfl rfl (by kernel_rfl) (by kernel_rfl) (by kernel_rfl) (fun _ _ _ h => h) (Or.inl ⟨by rfl, ?_⟩) (by assumption) ?_
      rotate_left
      · (intro w hSw; (try dsimp only at hSw); go_simp; (try with_reducible rfl))
      (try simp only [List.set_cons_zero, List.set_cons_succ])
      refine held_take (i := 9) (d := 8) (v := ?_) rfl rfl (by kernel_rfl) (by kernel_rfl) (by kernel_rfl) (fun _ _ _ h => h) (Or.inl ⟨by rfl, ?_⟩) (by assumption) ?_
      rotate_left
      · (intro w hSw; (try dsimp only at hSw); go_simp; (try with_reducible rfl))
      (try simp only [List.set_cons_zero, List.set_cons_succ])
      refine wpAnyH_done (by kernel_rfl) ?_ _
      go_wp2
      go_roundw
      case rel => exact ⟨n + q, by omega, by omega, by rw [Int.natCast_add], hB2, hW2⟩
      case measure => simp [intOf]; omega
    · have he : n = N := by omega
      subst he
      go_wp2
      go_ret
      rw [rowN_all] at hBk
      exact ⟨_, _, rfl, own_row hBk (by simp) (by omega) (Nat.le_refl _), hW⟩
end Go.Proofs.Ytlmlffiajgofeaa
