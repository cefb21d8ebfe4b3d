/- Contracts of the draws out of a text of bytes: next, pick, one, among.
   Conditions: the cursor lies in a block of its own; the bytes are bytes. -/
import Derived.Test.YtlmlffiajgofeaaLst
import Derived.Lib.BufferOwn
import Derived.Lib.BufferWrite
import Derived.Laws.Bits64b
namespace Go.Proofs.Ytlmlffiajgofeaa
open Go.RowKit
set_option linter.unusedVariables false
/-- Bytes as cells. -/
def bytes (l : List Int) : List Value := l.map (Value.int .u8)
/-- A slice of bytes reads as the list l. -/
def RdB (w : World) (A : Option Addr) (n c : Nat) (l : List Int) : Prop := Rd w 1 A n c (bytes l) ∧ ∀ z ∈ l, 0 ≤ z ∧ z < 256
theorem RdB.keep {w w' : World} {A : Option Addr} {n c : Nat} {l : List Int} (h : RdB w A n c l) (hb : Bl w w') : RdB w' A n c l := ⟨h.1.keep hb, h.2⟩
theorem Rd.kept {w w' : World} {size n c : Nat} {A : Option Addr} {xs : List Value} {g : Nat} (h : Rd w size A n c xs) (hg : w.grownBy w' (some g)) (hne : 0 < n → ∀ a, A = some a → a.block ≠ g) : Rd w' size A n c xs :=
  ⟨h.len, h.cap, h.max, fun hn => by
    obtain ⟨ad, e, hl, hc⟩ := h.at0 hn
    refine ⟨ad, e, Nat.lt_of_lt_of_le hl hg.size, fun j u hu => ?_⟩
    have hb := hg.block _ hl (by intro e2; injection e2 with e2; exact hne hn ad e e2)
    rw [World.cell?_of_block (w := w) (w' := w') (a := ad.add j) (by rw [block_of_add]; exact hb)]
    exact hc j u hu⟩
/-- The cursor at block g: it has read at most k bytes. -/
structure CurB (w : World) (g : Nat) (A : Option Addr) (n c : Nat) (l : List Int) (i s : Int) : Prop where
  blk : Blk w g 71 #[.slice A n c, .int .i64 i, .int .u64 s]
  rd : RdB w A n c l
  far : 0 < n → ∀ a, A = some a → a.block < g
def Cur (w : World) (g k : Nat) : Prop := ∃ A n c l i s, CurB w g A n c l i s ∧ 0 ≤ i ∧ i ≤ (k : Nat)
theorem CurB.keep {w w' : World} {g n c : Nat} {A : Option Addr} {l : List Int} {i s : Int} (h : CurB w g A n c l i s) (hb : Bl w w') : CurB w' g A n c l i s := ⟨h.blk.keep hb, h.rd.keep hb, h.far⟩
theorem Cur.keep {w w' : World} {g k : Nat} (h : Cur w g k) (hb : Bl w w') : Cur w' g k := by
  obtain ⟨A, n, c, l, i, s, h1, h2⟩ := h
  exact ⟨A, n, c, l, i, s, h1.keep hb, h2⟩
theorem Cur.lt {w : World} {g k : Nat} (h : Cur w g k) : g < w.heap.size := by
  obtain ⟨A, n, c, l, i, s, h1, h2⟩ := h
  exact h1.blk.lt
theorem Cur.mono {w : World} {g k k' : Nat} (h : Cur w g k) (hk : k ≤ k') : Cur w g k' := by
  obtain ⟨A, n, c, l, i, s, h1, h2, h3⟩ := h
  exact ⟨A, n, c, l, i, s, h1, h2, by omega⟩
theorem Cur.new (w : World) {A : Option Addr} {n c : Nat} {l : List Int} (h : RdB w A n c l) {g : Nat} (hg : w.heap.size = g := by first | with_reducible rfl | simp) :
    Cur (w.alloc (.cells #[.slice A n c, .int .i64 0, .int .u64 0] 71)) g 0 :=
  ⟨A, n, c, l, 0, 0, ⟨Blk.new w _ _ hg, h.keep ((Bl.refl w).alloc _), fun hn a ha => by
    subst ha
    obtain ⟨ad, e, hl, _⟩ := h.1.at0 hn
    injection e with e
    subst e
    omega⟩, by omega, by omega⟩
theorem Rd.at_byte {w : World} {A : Option Addr} {n c : Nat} {l : List Int} (h : RdB w A n c l) {k : Nat} (hk : k < n) :
    ∃ ad x, A = some ad ∧ ad.block < w.heap.size ∧ 0 ≤ x ∧ x < 256 ∧ w.cell? (ad.add k) = some (.int .u8 x) := by
  obtain ⟨ad, e, hl, hc⟩ := h.1.at0 (by omega)
  have hln : l.length = n := by have := h.1.len; simpa [bytes] using this
  have hm := h.2 _ (List.getElem_mem (l := l) (n := k) (by omega))
  refine ⟨ad, l[k]'(by omega), e, hl, hm.1, hm.2, hc k _ ?_⟩
  unfold bytes
  rw [List.getElem?_map, List.getElem?_eq_getElem (by omega)]
  rfl
theorem wp_world {P : Program} {c : Code} {K : Exit → Act → World → Prop} {a : Act} {w : World} (S : World → Prop) (hS : S w) (h : ∀ w2, S w2 → Code.wp P c K a w2) : Code.wp P c K a w := h w hS
theorem u64_bd (x : Int) : 0 ≤ IntKind.u64.wrap x ∧ IntKind.u64.wrap x < 18446744073709551616 := by rw [IntKind.wrap_u64]; omega
theorem low8 (s : Int) (h : 0 ≤ s ∧ s < 18446744073709551616) : 0 ≤ wrap64 (bits .and .u64 (s / 1099511627776) 255) ∧ wrap64 (bits .and .u64 (s / 1099511627776) 255) < 256 := by
  obtain ⟨N, hN⟩ : ∃ N : Nat, s / 1099511627776 = (N : Int) := ⟨(s / 1099511627776).toNat, by omega⟩
  rw [hN, show (255 : Int) = ((255 : Nat) : Int) from rfl, bits_and_u64_nat _ _ (by omega) (by omega)]
  have : N &&& 255 ≤ 255 := Nat.and_le_right
  generalize N &&& 255 = b at this
  rw [show wrap64 (b : Int) = (b : Int) by simp only [wrap64]; omega]
  omega
theorem Cur.farSet {w : World} {g k : Nat} (h : Cur w g k) (b i : Nat) (v : Value) (hb : g < b) : Cur (w.setCell ⟨b, i, none⟩ v) g k := by
  obtain ⟨A, n, c, l, j, s, h1, h2, h3⟩ := h
  exact ⟨A, n, c, l, j, s, ⟨h1.blk.far (Nat.ne_of_lt hb) _, ⟨h1.rd.1.kept (Lib.grownBy_setCell w b i v) (fun hn a ha => by have := h1.far hn a ha; omega), h1.rd.2⟩, h1.far⟩, h2, h3⟩
theorem grown_far {w w' : World} {row : Option Nat} (h : w.grownBy w' row) (b i : Nat) (v : Value) (hb : w.heap.size ≤ b) : w.grownBy (w'.setCell ⟨b, i, none⟩ v) row := by
  have hs := Lib.grownBy_setCell w' b i v
  refine ⟨hs.os.trans h.os, hs.tape.trans h.tape, hs.output.trans h.output, Nat.le_trans h.size hs.size, fun k hk hr => ?_⟩
  rw [hs.block k (Nat.lt_of_lt_of_le hk h.size) (by intro e; injection e with e; omega)]
  exact h.block k hk hr
theorem CurB.moved {w w2 : World} {g n c : Nat} {A : Option Addr} {l : List Int} {i s i' s' : Int} (h : CurB w g A n c l i s) (hB : Blk w2 g 71 #[.slice A n c, .int .i64 i', .int .u64 s']) (hG : w.grownBy w2 (some g)) :
    CurB w2 g A n c l i' s' := ⟨hB, ⟨h.rd.1.kept hG (fun hn a ha => Nat.ne_of_lt (h.far hn a ha)), h.rd.2⟩, h.far⟩
set_option maxHeartbeats 2000000 in
theorem cur_next (w : World) (g : Nat) (A : Option Addr) (n c : Nat) (l : List Int) (i s : Int) (h : CurB w g A n c l i s) (hi : 0 ≤ i ∧ i < 1000000000) :
    Calls Try.prog 116 #[.pointer (some ⟨g, 0, none⟩)] w fun e w' => ∃ b s', e = .returned (.int .i64 b) ∧ 0 ≤ b ∧ b < 256 ∧ CurB w' g A n c l (i + 1) s' ∧ w.grownBy w' (some g) := by
  have k0 : w.cell? ⟨g, 0, none⟩ = some (.slice A n c) := h.blk.cell 0 _ rfl
  have k1 : w.cell? ⟨g, 1, none⟩ = some (.int .i64 i) := h.blk.cell 1 _ rfl
  have k2 : w.cell? ⟨g, 2, none⟩ = some (.int .u64 s) := h.blk.cell 2 _ rfl
  have kl := h.blk.lt
  have kf := h.blk.frozen
  have hcap := h.rd.1.cap
  have hmax := h.rd.1.max
  unfold maxLen at hmax
  by_cases hn : i < n
  · obtain ⟨ad, x, hA, hab, hx0, hx1, hx⟩ := Rd.at_byte h.rd (k := i.toNat) (by omega)
    subst hA
    have hfar := h.far (by omega) ad rfl
    go_enter Try.func116, Try.ntmps116
    go_wp2
    go_quiet (fail)
    go_wp2
    go_quiet (fail)
    go_wp2
    refine wp_world (fun w2 => ∃ s', Blk w2 g 71 #[.slice (some ad) n c, .int .i64 (i + 1), .int .u64 s'] ∧ w.grownBy w2 (some g) ∧ 0 ≤ s' ∧ s' < 18446744073709551616) ⟨_, ((h.blk.drewN _).set_ 1 _).set_ 2 _, Lib.grownBy_setB (Lib.grownBy_setB (Lib.grownBy_below (World.grownBy.refl w _) (Bl.of_drewN _ _)) 1 _) 2 _, u64_bd _⟩ ?_
    rintro w2 ⟨s', hB, hG, hs⟩
    have k0 : w2.cell? ⟨g, 0, none⟩ = some (.slice (some ad) n c) := hB.cell 0 _ rfl
    have k1 : w2.cell? ⟨g, 1, none⟩ = some (.int .i64 (i + 1)) := hB.cell 1 _ rfl
    have hn1 : i + 1 ≤ n := by omega
    go_quiet (fail)
    go_wp2
    go_ret
    exact ⟨x, s', rfl, hx0, hx1, (h.moved hB hG).keep (Bl.of_drewN _ _), Lib.grownBy_below hG (Bl.of_drewN _ _)⟩
  · go_enter Try.func116, Try.ntmps116
    go_wp2
    go_quiet (fail)
    go_wp2
    refine wp_world (fun w2 => ∃ s', Blk w2 g 71 #[.slice A n c, .int .i64 (i + 1), .int .u64 s'] ∧ w.grownBy w2 (some g) ∧ 0 ≤ s' ∧ s' < 18446744073709551616) ⟨_, ((h.blk.drewN _).set_ 1 _).set_ 2 _, Lib.grownBy_setB (Lib.grownBy_setB (Lib.grownBy_below (World.grownBy.refl w _) (Bl.of_drewN _ _)) 1 _) 2 _, u64_bd _⟩ ?_
    rintro w2 ⟨s', hB, hG, hs⟩
    have k0 : w2.cell? ⟨g, 0, none⟩ = some (.slice A n c) := hB.cell 0 _ rfl
    have k1 : w2.cell? ⟨g, 1, none⟩ = some (.int .i64 (i + 1)) := hB.cell 1 _ rfl
    have k2 : w2.cell? ⟨g, 2, none⟩ = some (.int .u64 s') := hB.cell 2 _ rfl
    have hn1 : ¬ i + 1 ≤ n := by omega
    go_quiet (fail)
    go_wp2
    go_ret
    exact ⟨_, rfl, (low8 s' hs).1, (low8 s' hs).2, ⟨s', (h.moved hB hG).keep (Bl.of_drewN _ _)⟩, Lib.grownBy_below hG (Bl.of_drewN _ _)⟩
set_option maxHeartbeats 2000000 in
theorem cur_pick (w : World) (g k : Nat) (h : Cur w g k) (hk : k < 900000000) (n : Int) (hn : 1 ≤ n ∧ n ≤ 65536) :
    Calls Try.prog 76 #[.pointer (some ⟨g, 0, none⟩), .int .i64 n] w fun e w' => ∃ b, e = .returned (.int .i64 b) ∧ 0 ≤ b ∧ b < n ∧ Cur w' g (k + 2) ∧ w.grownBy w' (some g) := by
  obtain ⟨A, N, c, l, i, s, hC, hi0, hi1⟩ := h
  by_cases h1 : n ≤ 1
  · go_enter Try.func76, Try.ntmps76
    go_wp2
    go_ret
    exact ⟨0, rfl, by omega, by omega, ⟨A, N, c, l, i, s, hC, by omega, by omega⟩, World.grownBy.refl w _⟩
  · by_cases h2 : 200 < n
    · go_enter Try.func76, Try.ntmps76
      go_wp2_with (first | (go_at_call 116; first | (refine (cur_next _ g A N c l (i + 1) _ (by assumption) (by omega)).mono ?_; rintro e w2 ⟨b2, s2, rfl, hb2, hc2, hC2, hG2⟩) | (refine (cur_next w g A N c l i s hC (by omega)).mono ?_; rintro e w1 ⟨b1, s1, rfl, hb1, hc1, hC1, hG1⟩)))
      go_ret
      exact ⟨_, rfl, Int.emod_nonneg _ (by omega), Int.emod_lt_of_pos _ (by omega), ⟨A, N, c, l, _, _, hC2, by omega, by omega⟩, Lib.grownBy_trans hG1 hG2⟩
    · go_enter Try.func76, Try.ntmps76
      go_wp2_with (go_at_call 116; refine (cur_next w g A N c l i s hC (by omega)).mono ?_; rintro e w1 ⟨b1, s1, rfl, hb1, hc1, hC1, hG1⟩)
      go_ret
      exact ⟨_, rfl, Int.emod_nonneg _ (by omega), Int.emod_lt_of_pos _ (by omega), ⟨A, N, c, l, _, _, hC1, by omega, by omega⟩, hG1⟩
theorem cur_one (w : World) (g k : Nat) (h : Cur w g k) (hk : k < 900000000) (n : Int) (hn : 1 ≤ n ∧ n ≤ 65536) :
    Calls Try.prog 74 #[.pointer (some ⟨g, 0, none⟩), .int .i64 n] w fun e w' => ∃ b, e = .returned (.bool b) ∧ Cur w' g (k + 2) ∧ w.grownBy w' (some g) := by
  go_enter Try.func74, Try.ntmps74
  go_wp2_with (go_at_call 76; refine (cur_pick w g k h hk n hn).mono ?_; rintro e w1 ⟨b1, rfl, hb1, hc1, hC1, hG1⟩)
  go_ret
  exact ⟨_, rfl, hC1, hG1⟩
set_option maxHeartbeats 2000000 in
theorem cur_among (w : World) (g k : Nat) (h : Cur w g k) (hk : k < 900000000) (A : Option Addr) (n c : Nat) (l : List Int) (hl : RdI w A n c l) (hn : 1 ≤ n ∧ n ≤ 65536) (hA : 0 < n → ∀ a, A = some a → a.block ≠ g) :
    Calls Try.prog 77 #[.pointer (some ⟨g, 0, none⟩), .slice A n c] w fun e w' => ∃ x, e = .returned (.int .i64 x) ∧ x ∈ l ∧ Cur w' g (k + 2) ∧ w.grownBy w' (some g) := by
  obtain ⟨hle1, hle2⟩ := hl.le
  go_enter Try.func77, Try.ntmps77
  go_wp2_with (go_at_call 76; refine (cur_pick w g k h hk (n : Int) (by omega)).mono ?_; rintro e w1 ⟨b1, rfl, hb1, hc1, hC1, hG1⟩; obtain ⟨b, rfl⟩ : ∃ b : Nat, b1 = (b : Int) := ⟨b1.toNat, by omega⟩; obtain ⟨ad, x, rfl, hadb, hx, hcell⟩ := RdI.at_ (Rd.kept hl hG1 hA) (k := b) (by omega))
  go_ret
  exact ⟨x, rfl, List.mem_of_getElem? hx, hC1, hG1⟩
end Go.Proofs.Ytlmlffiajgofeaa
