/- Contracts of bits that belong to a list, of lists of bits side by side, and of shares of inputs.
   Conditions: lists of bits; small numbers. -/
import Derived.Test.YtlmlffiajgofeaaEvd
import Derived.Test.YtlmlffiajgofeaaAps
import Derived.Test.YtlmlffiajgofeaaQui
namespace Go.Proofs.Ytlmlffiajgofeaa
open Go.RowKit
set_option linter.unusedVariables false
theorem words2 (a b : Int) (ha : -1000000000000000 ≤ a ∧ a ≤ 1000000000000000) (hb : -1000000000000000 ≤ b ∧ b ≤ 1000000000000000) : Words [a, b] := by
  intro x hx
  simp only [List.mem_cons, List.not_mem_nil, or_false] at hx
  rcases hx with rfl | rfl
  · exact ha
  · exact hb
theorem Words.app {l l' : List Int} (h : Words l) (h' : Words l') : Words (l ++ l') := by
  intro x hx
  rcases List.mem_append.1 hx with hx | hx
  · exact h x hx
  · exact h' x hx
/-- n bits that belong to a list. -/
def bfL (l : List Int) (n : Nat) : List Int := (List.range n).map fun i : Nat => dig (l ++ [(i : Int), 2]) / 8 % 2
theorem bfL_step (l : List Int) (k : Nat) : bfL l (k + 1) = bfL l k ++ [dig (l ++ [(k : Int), 2]) / 8 % 2] := by simp [bfL, List.range_succ]
theorem bfL_len (l : List Int) (n : Nat) : (bfL l n).length = n := by simp [bfL]
theorem bfL_bit (l : List Int) (n : Nat) : ∀ z ∈ bfL l n, z = 0 ∨ z = 1 := by
  intro z hz
  obtain ⟨i, _, rfl⟩ := List.mem_map.1 hz
  omega
/-- Two bits, one beside the other. -/
def xo (x y : Int) : Int := if x = y then 0 else 1
def xoL (a b : List Int) : List Int := (List.range a.length).map fun i => xo (a[i]?.getD 0) (b[i]?.getD 0)
def xoK (a b : List Int) (k : Nat) : List Int := (List.range k).map fun i => xo (a[i]?.getD 0) (b[i]?.getD 0)
theorem xoK_step {a b : List Int} {k : Nat} {x y : Int} (ha : a[k]? = some x) (hb : b[k]? = some y) : xoK a b (k + 1) = xoK a b k ++ [xo x y] := by simp [xoK, List.range_succ, ha, hb]
theorem xoL_len (a b : List Int) : (xoL a b).length = a.length := by simp [xoL]
def Bits (l : List Int) : Prop := ∀ z ∈ l, z = 0 ∨ z = 1
theorem Bits.at_ {l : List Int} (h : Bits l) {k : Nat} {x : Int} (hx : l[k]? = some x) : x = 0 ∨ x = 1 := h x (List.mem_of_getElem? hx)
/-- The shares of both parties. -/
def shU (a b : Int) (key : Int) (la : List Int) : List Int := xoL la (bfL [key, 221] a.toNat) ++ bfL [key, 222] b.toNat
def shV (a b : Int) (key : Int) (lb : List Int) : List Int := bfL [key, 221] a.toNat ++ xoL lb (bfL [key, 222] b.toNat)
set_option maxHeartbeats 2000000 in
theorem impl_bitsFrom (A : Option Addr) (n c : Nat) (l : List Int) (N : Nat) (w : World) (h : RdI w A n c l) (hw : Words l) (hn : n ≤ 1000) (hN : N ≤ 1000) :
    Calls Try.prog 106 #[.slice A n c, .int .i64 N] w fun e w' => ∃ A' c', e = .returned (.slice A' N c') ∧ OwnI w.heap.size w' A' N c' (bfL l N) ∧ Bl w w' := by
  have hown0 : OwnI w.heap.size (w.alloc (.cells #[] 3)) (some ⟨w.heap.size, 0, none⟩) 0 0 (bfL l 0) := own_made w
  have hW0 : Bl w (w.alloc (.cells #[] 3)) := (Bl.refl w).alloc (.cells #[] 3)
  have hd := dig_bd
  go_enter Try.func106, Try.ntmps106
  go_wp2_with fail
  go_loopw [5, 9] (fun o i wr => ∃ (k c' : Nat) (A' : Option Addr), k ≤ N ∧ i = .int .i64 (k : Nat) ∧ o = .slice A' k c' ∧ OwnI w.heap.size wr A' k c' (bfL l k) ∧ Bl w wr) (fun _ i _ => N - (intOf i).toNat)
  case atStart => exact ⟨0, 0, (some ⟨w.heap.size, 0, none⟩), by omega, rfl, rfl, hown0, hW0⟩
  case round =>
    clear hown0 hW0
    obtain ⟨k, c', A', hk, rfl, rfl, hown, hW⟩ := hrel
    by_cases hlt : k < N
    · have i1 : (k : Int) < N := by omega
      have HX := Lib.hid (bfL_step l k)
      have hlow := fun q hq => (hown.blk q hq).2
      have hs0 := hW.sz
      have hdk := hd (l ++ [(k : Int), 2])
      clear hd
      go_wp2_with (first
        | (go_at_call 87; refine (impl_with A _ n c 2 2 l [(k : Int), 2] _ ((h.keep hW).keep ((Bl.refl _).alloc _)) (rd_new2 _ _ _ _) (by omega) (by omega)).mono ?_; rintro e w1 ⟨A1, c1, rfl, hown1, hb1⟩; replace hW := (hW.alloc _).call hb1; replace hown := (hown.alloc _).keep hb1)
        | (go_at_call 130; refine (impl_digest A1 (n + 2) c1 (l ++ [(k : Int), 2]) w1 hown1.rd (hw.app (words2 _ _ (by omega) (by omega))) (by omega)).mono ?_; rintro e w2 ⟨rfl, hb2⟩; replace hW := hW.call hb2; replace hown := hown.keep hb2)
        | (at_builtin; refine ap_int rfl rfl rfl (hown.alloc _) rfl (rd_new1 _ _ _) (by omega) (by have := hW.sz; simp; omega) ?_; intro A7 c7 v7 ho7 hg7 hat7; replace hW := (hW.alloc _).grown hg7 (fun q hq => (hown.blk q hq).1)))
      go_roundw
      case rel => exact ⟨k + 1, c7, A7, by omega, by go_num, rfl, by rw [HX.out]; exact ho7, hW⟩
      case measure => simp [intOf]; omega
    · have he : k = N := by omega
      subst he
      go_wp2_with fail
      go_ret
      exact ⟨A', c', rfl, hown, hW⟩
set_option maxHeartbeats 2000000 in
theorem spec_dgBits (A : Option Addr) (n c : Nat) (l : List Int) (N : Nat) (w : World) (h : RdI w A n c l) (hw : Words l) (hn : n ≤ 1000) (hN : N ≤ 1000) :
    Calls Try.prog 109 #[.slice A n c, .int .i64 N] w fun e w' => ∃ A' c', e = .returned (.slice A' N c') ∧ OwnI w.heap.size w' A' N c' (bfL l N) ∧ Bl w w' := by
  have hown0 : OwnI w.heap.size w none 0 0 (bfL l 0) := OwnI.nil w.heap.size w
  have hW0 : Bl w w := Bl.refl w
  have hd := dig_bd
  go_enter Try.func109, Try.ntmps109
  go_wp2_with fail
  go_loopw [5, 6] (fun o i wr => ∃ (k c' : Nat) (A' : Option Addr), k ≤ N ∧ i = .int .i64 (k : Nat) ∧ o = .slice A' k c' ∧ OwnI w.heap.size wr A' k c' (bfL l k) ∧ Bl w wr) (fun _ i _ => N - (intOf i).toNat)
  case atStart => exact ⟨0, 0, none, by omega, rfl, rfl, hown0, hW0⟩
  case round =>
    clear hown0 hW0
    obtain ⟨k, c', A', hk, rfl, rfl, hown, hW⟩ := hrel
    by_cases hlt : k < N
    · have i1 : (k : Int) < N := by omega
      have HX := Lib.hid (bfL_step l k)
      have hlow := fun q hq => (hown.blk q hq).2
      have hs0 := hW.sz
      have hdk := hd (l ++ [(k : Int), 2])
      clear hd
      go_wp2_with (first
        | (go_at_call 125; refine (spec_l1Own A n c l _ (h.keep hW) (by omega)).mono ?_; rintro e w1 ⟨A1, c1, rfl, hown1, hb1⟩; replace hW := hW.call hb1; replace hown := hown.keep hb1; have hs1 := hb1.sz)
        | (go_at_call 131; refine (spec_dgMix A6 (n + 2) c6 (l ++ [(k : Int), 2]) _ ho6.rd (hw.app (words2 _ _ (by omega) (by omega))) (by omega)).mono ?_; rintro e w2 ⟨rfl, hb2⟩; replace hW := hW.call hb2; replace hown := hown.keep hb2)
        | (at_builtin; refine ap_int (l' := [(k : Int), 2]) rfl rfl rfl (hown1.alloc _) rfl (rd_new2 _ _ _ _) (by omega) (by simp; omega) ?_; intro A6 c6 v6 ho6 hg6 hat6; have hown6 := (hown.alloc (.cells #[.int .i64 k, .int .i64 2] 3)).grown hg6 (by intro q hq e; have := (hown1.blk q.block e.symm).1; have := (hlow q.block (by rw [hq]; rfl)); omega); replace hW := (hW.alloc _).grown hg6 (fun q hq => by have := (hown1.blk q hq).1; omega); clear hown; have hown := hown6)
        | (at_builtin; refine ap_int rfl rfl rfl (hown.alloc _) rfl (rd_new1 _ _ _) (by omega) (by have := hW.sz; simp; omega) ?_; intro A7 c7 v7 ho7 hg7 hat7; replace hW := (hW.alloc _).grown hg7 (fun q hq => (hown.blk q hq).1)))
      go_roundw
      case rel => exact ⟨k + 1, c7, A7, by omega, by go_num, rfl, by rw [HX.out]; exact ho7, hW⟩
      case measure => simp [intOf]; omega
    · have he : k = N := by omega
      subst he
      go_wp2_with fail
      go_ret
      exact ⟨A', c', rfl, hown, hW⟩
set_option maxHeartbeats 2000000 in
theorem impl_xored (A B : Option Addr) (n c d : Nat) (l l' : List Int) (w : World) (h : RdI w A n c l) (h' : RdI w B n d l') (hb : Bits l) (hb' : Bits l') (hn : n ≤ 1000) :
    Calls Try.prog 107 #[.slice A n c, .slice B n d] w fun e w' => ∃ A' c', e = .returned (.slice A' n c') ∧ OwnI w.heap.size w' A' n c' (xoL l l') ∧ Bl w w' := by
  have hown0 : OwnI w.heap.size (w.alloc (.cells #[] 3)) (some ⟨w.heap.size, 0, none⟩) 0 0 (xoK l l' 0) := own_made w
  have hW0 : Bl w (w.alloc (.cells #[] 3)) := (Bl.refl w).alloc (.cells #[] 3)
  have hR := Lib.hid (show xoL l l' = xoK l l' n by unfold xoL xoK; rw [h.length])
  obtain ⟨hle1, hle2⟩ := h.le
  obtain ⟨hle3, hle4⟩ := h'.le
  go_enter Try.func107, Try.ntmps107
  go_wp2_with fail
  go_loopw [5, 10] (fun o i wr => ∃ (k c' : Nat) (A' : Option Addr), k ≤ n ∧ i = .int .i64 (k : Nat) ∧ o = .slice A' k c' ∧ OwnI w.heap.size wr A' k c' (xoK l l' k) ∧ Bl w wr) (fun _ i _ => n - (intOf i).toNat)
  case atStart => exact ⟨0, 0, (some ⟨w.heap.size, 0, none⟩), by omega, rfl, rfl, hown0, hW0⟩
  case round =>
    clear hown0 hW0
    obtain ⟨k, c', A', hk, rfl, rfl, hown, hW⟩ := hrel
    by_cases hlt : k < n
    · obtain ⟨ad, X, rfl, _, hX, ca0⟩ := h.at_ hlt
      obtain ⟨bd, Y, rfl, _, hY, cb0⟩ := h'.at_ hlt
      have i1 : (k : Int) < n := by omega
      have HX := Lib.hid (xoK_step hX hY)
      have hxy : bits .xor .i64 X Y = xo X Y := by
        rcases hb.at_ hX with rfl | rfl <;> rcases hb'.at_ hY with rfl | rfl <;> decide
      have hx0 : 0 ≤ xo X Y := by unfold xo; split <;> omega
      have hx1 : xo X Y ≤ 1 := by unfold xo; split <;> omega
      have ca1 := Lib.hid ca0
      have cb1 := Lib.hid cb0
      clear hX hY
      have hC := hW.cells ca0
      have hD := hW.cells cb0
      go_wp2_with fail
      refine wp_region_held_drew (S := (fun w' => w'.cell? (ad.add k) = some (.int .i64 X) ∧ w'.cell? (bd.add k) = some (.int .i64 Y))) (by kernel_rfl) ?_ (fun hHeld => ?_)
      · (try dsimp only); exact ⟨hW.cells ca0, hW.cells cb0⟩
      refine held_take (i := 0) (d := 13) (v := ?_) rfl rfl (by kernel_rfl) (by kernel_rfl) (by kernel_rfl) (fun _ _ _ h => h) (Or.inl ⟨by rfl, ?_⟩) (by assumption) ?_
      rotate_left
      · (intro w hSw; (try dsimp only at hSw); go_simp; (try with_reducible rfl))
      (try simp only [List.set_cons_zero, List.set_cons_succ])
      refine held_take (i := 1) (d := 14) (v := ?_) rfl rfl (by kernel_rfl) (by kernel_rfl) (by kernel_rfl) (fun _ _ _ h => h) (Or.inl ⟨by rfl, ?_⟩) (by assumption) ?_
      rotate_left
      · (intro w hSw; (try dsimp only at hSw); go_simp; (try with_reducible rfl))
      (try simp only [List.set_cons_zero, List.set_cons_succ])
      refine held_take (i := 2) (d := 15) (v := ?_) rfl rfl (by kernel_rfl) (by kernel_rfl) (by kernel_rfl) (fun _ _ _ h => h) (Or.inl ⟨by rfl, ?_⟩) (by assumption) ?_
      rotate_left
      · (intro w hSw; (try dsimp only at hSw); go_simp; (try with_reducible rfl))
      (try simp only [List.set_cons_zero, List.set_cons_succ])
      refine held_take (i := 3) (d := 16) (v := ?_) rfl rfl (by kernel_rfl) (by kernel_rfl) (by kernel_rfl) (fun _ _ _ h => h) (Or.inl ⟨by rfl, ?_⟩) (by assumption) ?_
      rotate_left
      · (intro w hSw; (try dsimp only at hSw); go_simp; (try with_reducible rfl))
      (try simp only [List.set_cons_zero, List.set_cons_succ])
      refine held_take (i := 4) (d := 17) (v := ?_) rfl rfl (by kernel_rfl) (by kernel_rfl) (by kernel_rfl) (fun _ _ _ h => h) (Or.inl ⟨by rfl, ?_⟩) (by assumption) ?_
      rotate_left
      · (intro w hSw; (try dsimp only at hSw); go_simp; (try with_reducible rfl))
      (try simp only [List.set_cons_zero, List.set_cons_succ])
      refine held_take (i := 5) (d := 18) (v := ?_) rfl rfl (by kernel_rfl) (by kernel_rfl) (by kernel_rfl) (fun _ _ _ h => h) (Or.inl ⟨by rfl, ?_⟩) (by assumption) ?_
      rotate_left
      · (intro w hSw; (try dsimp only at hSw); go_simp; (try with_reducible rfl))
      (try simp only [List.set_cons_zero, List.set_cons_succ])
      refine held_take (i := 6) (d := 19) (v := ?_) rfl rfl (by kernel_rfl) (by kernel_rfl) (by kernel_rfl) (fun _ _ _ h => h) (Or.inl ⟨by rfl, ?_⟩) (by assumption) ?_
      rotate_left
      · (intro w hSw; (try dsimp only at hSw); go_simp; (try with_reducible rfl))
      (try simp only [List.set_cons_zero, List.set_cons_succ])
      refine held_take (i := 7) (d := 20) (v := ?_) rfl rfl (by kernel_rfl) (by kernel_rfl) (by kernel_rfl) (fun _ _ _ h => h) (Or.inl ⟨by rfl, ?_⟩) (by assumption) ?_
      rotate_left
      · (intro w hSw; (try dsimp only at hSw); go_simp; (try with_reducible rfl))
      (try simp only [List.set_cons_zero, List.set_cons_succ])
      refine held_take (i := 8) (d := 21) (v := ?_) rfl rfl (by kernel_rfl) (by kernel_rfl) (by kernel_rfl) (fun _ _ _ h => h) (Or.inl ⟨by rfl, ?_⟩) (by assumption) ?_
      rotate_left
      · (intro w hSw; (try dsimp only at hSw); go_simp; (try with_reducible rfl))
      (try simp only [List.set_cons_zero, List.set_cons_succ])
      refine held_take (i := 9) (d := 22) (v := ?_) rfl rfl (by kernel_rfl) (by kernel_rfl) (by kernel_rfl) (fun _ _ _ h => h) (Or.inl ⟨by rfl, ?_⟩) (by assumption) ?_
      rotate_left
      · (intro w hSw; (try dsimp only at hSw); go_simp; (try with_reducible rfl))
      (try simp only [List.set_cons_zero, List.set_cons_succ])
      refine wpAnyH_ready (rs := [10]) (by kernel_rfl) (by simp) ?_
      refine AllReadyH.cons rfl (fun K hK => ?_) AllReadyH.nil
      go_simp
      refine hK.out _ _ ?_ (fun hHeld => ?_)
      · (try dsimp only); first | exact ⟨(hW.drew.alloc _).cells ca0, (hW.drew.alloc _).cells cb0⟩ | exact ⟨((hW.alloc _).drew).cells ca0, ((hW.alloc _).drew).cells cb0⟩
      clear hK K
      (try simp only [Act.put]); (try simp only [List.setIfInBounds_toArray]); (try simp only [List.set_cons_succ]); (try simp only [List.set_cons_zero])
      refine wpAnyH_ready (rs := [11]) (by kernel_rfl) (by simp) ?_
      refine AllReadyH.cons rfl (fun K hK => ?_) AllReadyH.nil
      refine ap_int_step rfl rfl rfl ((hown.alloc _).keep (Bl.refl _).drew) rfl (RdI.keep (rd_new1 wr _ _) (Bl.refl _).drew) (by omega) (by have := hW.sz; simp; omega) ?_; intro A7 c7 v7 ho7 hg7 hat7; have hW7 : Bl w v7 := Bl.grown (by first | exact hW.drew.alloc _ | exact (hW.alloc _).drew) hg7 (fun q hq => (hown.blk q hq).1)
      refine hK.out _ _ ?_ (fun hHeld => ?_)
      · (try dsimp only); exact ⟨hW7.cells ca0, hW7.cells cb0⟩
      clear hK K
      (try simp only [Act.put]); (try simp only [List.setIfInBounds_toArray]); (try simp only [List.set_cons_succ]); (try simp only [List.set_cons_zero])
      refine held_take (i := 12) (d := 5) (v := ?_) rfl rfl (by kernel_rfl) (by kernel_rfl) (by kernel_rfl) (fun _ _ _ h => h) (Or.inl ⟨by rfl, ?_⟩) (by assumption) ?_
      rotate_left
      · (intro w hSw; (try dsimp only at hSw); go_simp; (try with_reducible rfl))
      (try simp only [List.set_cons_zero, List.set_cons_succ])
      refine wpAnyH_done (by kernel_rfl) ?_ _
      go_wp2_with fail
      go_roundw
      case rel => exact ⟨k + 1, c7, A7, by omega, by go_num, rfl, by rw [HX.out]; exact ho7, hW7⟩
      case measure => simp [intOf]; omega
    · have he : k = n := by omega
      subst he
      go_wp2_with fail
      go_ret
      exact ⟨A', c', rfl, by rw [hR.out]; exact hown, hW⟩
set_option maxHeartbeats 2000000 in
theorem spec_btXor (A B : Option Addr) (n c d : Nat) (l l' : List Int) (w : World) (h : RdI w A n c l) (h' : RdI w B n d l') (hb : Bits l) (hb' : Bits l') (hn : n ≤ 1000) :
    Calls Try.prog 110 #[.slice A n c, .slice B n d] w fun e w' => ∃ A' c', e = .returned (.slice A' n c') ∧ OwnI w.heap.size w' A' n c' (xoL l l') ∧ Bl w w' := by
  have hown0 : OwnI w.heap.size w none 0 0 (xoK l l' 0) := OwnI.nil w.heap.size w
  have hW0 : Bl w w := Bl.refl w
  have hR := Lib.hid (show xoL l l' = xoK l l' n by unfold xoL xoK; rw [h.length])
  obtain ⟨hle1, hle2⟩ := h.le
  obtain ⟨hle3, hle4⟩ := h'.le
  go_enter Try.func110, Try.ntmps110
  go_wp2_with fail
  go_loopw [5, 10] (fun o i wr => ∃ (k c' : Nat) (A' : Option Addr), k ≤ n ∧ i = .int .i64 (k : Nat) ∧ o = .slice A' k c' ∧ OwnI w.heap.size wr A' k c' (xoK l l' k) ∧ Bl w wr) (fun _ i _ => n - (intOf i).toNat)
  case atStart => exact ⟨0, 0, none, by omega, rfl, rfl, hown0, hW0⟩
  case round =>
    clear hown0 hW0
    obtain ⟨k, c', A', hk, rfl, rfl, hown, hW⟩ := hrel
    by_cases hlt : k < n
    · obtain ⟨ad, X, rfl, _, hX, ca0⟩ := h.at_ hlt
      obtain ⟨bd, Y, rfl, _, hY, cb0⟩ := h'.at_ hlt
      have i1 : (k : Int) < n := by omega
      have HX := Lib.hid (xoK_step hX hY)
      have hxy : bits .xor .i64 X Y = xo X Y := by
        rcases hb.at_ hX with rfl | rfl <;> rcases hb'.at_ hY with rfl | rfl <;> decide
      have hx0 : 0 ≤ xo X Y := by unfold xo; split <;> omega
      have hx1 : xo X Y ≤ 1 := by unfold xo; split <;> omega
      have ca1 := Lib.hid ca0
      have cb1 := Lib.hid cb0
      clear hX hY
      have hC := hW.cells ca0
      have hD := hW.cells cb0
      go_wp2_with (at_builtin; refine ap_int rfl rfl rfl (hown.alloc _) rfl (rd_new1 _ _ _) (by omega) (by have := hW.sz; simp; omega) ?_; intro A7 c7 v7 ho7 hg7 hat7; have hW7 := (hW.alloc _).grown hg7 (fun q hq => (hown.blk q hq).1))
      go_roundw
      case rel => exact ⟨k + 1, c7, A7, by omega, by go_num, rfl, by rw [HX.out]; exact ho7, hW7⟩
      case measure => simp [intOf]; omega
    · have he : k = n := by omega
      subst he
      go_wp2_with fail
      go_ret
      exact ⟨A', c', rfl, by rw [hR.out]; exact hown, hW⟩
end Go.Proofs.Ytlmlffiajgofeaa
