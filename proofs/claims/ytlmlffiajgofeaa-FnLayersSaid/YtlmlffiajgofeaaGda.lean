/- Contracts of the gadgets' parts: ranges, sums, differences, comparisons, choices.
   Conditions: at most a hundred wires a number. -/
import Derived.Test.YtlmlffiajgofeaaFrk
namespace Go.Proofs.Ytlmlffiajgofeaa
open Go.RowKit
set_option linter.unusedVariables false
def RngP (w : World) (N : Nat) (e : Ending) (w' : World) : Prop := ∃ S c l, e = .returned (.slice S N c) ∧ OwnI w.heap.size w' S N c l ∧ Bl w w'
theorem rngP {w w' : World} {N c : Nat} {S : Option Addr} {l : List Int} (h1 : OwnI w.heap.size w' S N c l) (h2 : Bl w w') : RngP w N (.returned (.slice S N c)) w' := ⟨S, c, l, rfl, h1, h2⟩
def EqlP (w : World) (x base : Nat) (a b : Int) (n : Nat) (A : Option Addr) (K : Nat) (e : Ending) (w' : World) : Prop := ∃ A' n' v, e = .returned (.int .i64 v) ∧ n' ≤ n + K ∧ MS w' x base a b n' A' ∧ Fm w w' x A A'
theorem eqlP {w w' : World} {x base : Nat} {a b v : Int} {n n' K : Nat} {A A' : Option Addr} (h1 : n' ≤ n + K) (h2 : MS w' x base a b n' A') (h3 : Fm w w' x A A') : EqlP w x base a b n A K (.returned (.int .i64 v)) w' := ⟨A', n', v, rfl, h1, h2, h3⟩
set_option maxHeartbeats 1000000 in
theorem spec_gdRange (f : Int) (N : Nat) (w : World) (hf : 0 ≤ f ∧ f ≤ 1000) (hN : N ≤ 1000) :
    Calls Try.prog 138 #[.int .i64 f, .int .i64 N] w (RngP w N) := by
  have hown0 := OwnI.nil w.heap.size w
  have hW0 := Bl.refl w
  go_enter Try.func138, Try.ntmps138
  go_wp2_with fail
  go_loopw [5, 6] (fun o i wr => ∃ (k c : Nat) (S : Option Addr) (l : List Int), k ≤ N ∧ o = .slice S k c ∧ i = .int .i64 k ∧ OwnI w.heap.size wr S k c l ∧ Bl w wr) (fun _ i _ => N - (intOf i).toNat)
  case atStart => exact ⟨0, 0, none, [], by omega, rfl, rfl, hown0, hW0⟩
  case round =>
    clear hown0 hW0
    obtain ⟨k, c, S, l, hk, rfl, rfl, hown, hW⟩ := hrel
    by_cases hlt : k < N
    · have ik : (k : Int) < N := by omega
      have hz := hW.size
      go_wp2_with (at_builtin; refine ap_int rfl rfl rfl (hown.alloc _) rfl (rd_new1 _ _ _) (by omega) (by simp; omega) ?_; intro S9 c9 wz ho9 hg9 hat9)
      go_roundw
      case rel => exact ⟨k + 1, c9, S9, _, by omega, rfl, by go_num, ho9, Bl.grown (hW.alloc _) hg9 (fun q hq => (hown.blk q hq).1)⟩
      case measure => simp [intOf]; omega
    · have ik : ¬ ((k : Int) < N) := by omega
      have hkn : k = N := by omega
      subst hkn
      go_wp2_with fail
      go_ret
      exact rngP hown hW
set_option maxRecDepth 20000 in
set_option maxHeartbeats 4000000 in
theorem spec_gdAdd {w : World} {x base : Nat} {a b : Int} {n : Nat} {A : Option Addr} (h : MS w x base a b n A) (ha : 0 ≤ a ∧ a ≤ 100) (hb : 0 ≤ b ∧ b ≤ 100) (Sa Sb : Option Addr) (N ca cb : Nat) (la lb : List Int) (hLa : Lx w x A Sa N ca la) (hLb : Lx w x A Sb N cb lb) (hN : N ≤ 20) (hn : n ≤ 600) :
    Calls Try.prog 139 #[.pointer (some ⟨x, 0, none⟩), .slice Sa N ca, .slice Sb N cb] w (GadP w x base a b n A (7 * N) (N + 1)) := by
  have hL0 := LI.start h
  have hxl := h.lt
  go_enter Try.func139, Try.ntmps139
  go_wp2_with fail
  go_loopw [7, 8, 17] (fun o cc i wr => ∃ (k n1 c : Nat) (cv : Int) (A1 S : Option Addr) (l : List Int), k ≤ N ∧ o = .slice S k c ∧ cc = .int .i64 cv ∧ i = .int .i64 k ∧ n1 ≤ n + 7 * k ∧ LI w wr x base a b A A1 n1 S k c l) (fun _ _ i _ => N - (intOf i).toNat)
  case atStart => exact ⟨0, n, 0, -1, A, none, [], by omega, rfl, rfl, rfl, by omega, hL0⟩
  case round =>
    clear hL0
    obtain ⟨k, n1, c, cv, A1, S, l, hk, rfl, rfl, rfl, hn1, hL⟩ := hrel
    by_cases hlt : k < N
    · have ik : (k : Int) < N := by omega
      obtain ⟨ada, va, rfl, hva⟩ := hLa.at_ hlt
      obtain ⟨adb, vb, rfl, hvb⟩ := hLb.at_ hlt
      have hva1 := hva _ _ hL.fm
      have hvb1 := hvb _ _ hL.fm
      have HN := Lib.hid hn1
      clear hva hvb hLa hLb
      by_cases hc : cv < 0
      · go_wp2_with (first
        | (go_at_call 135; refine (mk_xor hL.ms ha hb (by omega) _ _).mono ?_; rintro e wz ⟨A9, v9, rfl, hm9, hf9⟩; replace hL := hL.step hm9 hf9; clear hm9 hf9)
        | (go_at_call 136; refine (mk_and hL.ms ha hb (by omega) _ _).mono ?_; rintro e wz ⟨A9, v9, rfl, hm9, hf9⟩; replace hL := hL.step hm9 hf9; clear hm9 hf9)
        | (go_at_call 134; refine (mk_not hL.ms ha hb (by omega) _).mono ?_; rintro e wz ⟨A9, v9, rfl, hm9, hf9⟩; replace hL := hL.step hm9 hf9; clear hm9 hf9)
        | (at_builtin; refine ap_int rfl rfl rfl (hL.own.alloc _) rfl (rd_new1 _ _ _) (by omega) (by have := hL.fm.size; simp; omega) ?_; intro S9 c9 wz ho9 hg9 hat9; replace hL := hL.app hxl ho9 hg9 hat9; clear ho9 hg9 hat9))
        go_roundw
        case rel => exact ⟨k + 1, _, _, _, _, _, _, by omega, rfl, rfl, by go_num, by have := HN.out; omega, hL⟩
        case measure => simp [intOf]; omega
      · go_wp2_with (first
        | (go_at_call 135; refine (mk_xor hL.ms ha hb (by omega) _ _).mono ?_; rintro e wz ⟨A9, v9, rfl, hm9, hf9⟩; replace hL := hL.step hm9 hf9; clear hm9 hf9)
        | (go_at_call 136; refine (mk_and hL.ms ha hb (by omega) _ _).mono ?_; rintro e wz ⟨A9, v9, rfl, hm9, hf9⟩; replace hL := hL.step hm9 hf9; clear hm9 hf9)
        | (go_at_call 134; refine (mk_not hL.ms ha hb (by omega) _).mono ?_; rintro e wz ⟨A9, v9, rfl, hm9, hf9⟩; replace hL := hL.step hm9 hf9; clear hm9 hf9)
        | (at_builtin; refine ap_int rfl rfl rfl (hL.own.alloc _) rfl (rd_new1 _ _ _) (by omega) (by have := hL.fm.size; simp; omega) ?_; intro S9 c9 wz ho9 hg9 hat9; replace hL := hL.app hxl ho9 hg9 hat9; clear ho9 hg9 hat9))
        go_roundw
        case rel => exact ⟨k + 1, _, _, _, _, _, _, by omega, rfl, rfl, by go_num, by have := HN.out; omega, hL⟩
        case measure => simp [intOf]; omega
    · have ik : ¬ ((k : Int) < N) := by omega
      have hkn : k = N := by omega
      subst hkn
      go_wp2_with (first
        | (go_at_call 135; refine (mk_xor hL.ms ha hb (by omega) _ _).mono ?_; rintro e wz ⟨A9, v9, rfl, hm9, hf9⟩; replace hL := hL.step hm9 hf9; clear hm9 hf9)
        | (go_at_call 136; refine (mk_and hL.ms ha hb (by omega) _ _).mono ?_; rintro e wz ⟨A9, v9, rfl, hm9, hf9⟩; replace hL := hL.step hm9 hf9; clear hm9 hf9)
        | (go_at_call 134; refine (mk_not hL.ms ha hb (by omega) _).mono ?_; rintro e wz ⟨A9, v9, rfl, hm9, hf9⟩; replace hL := hL.step hm9 hf9; clear hm9 hf9)
        | (at_builtin; refine ap_int rfl rfl rfl (hL.own.alloc _) rfl (rd_new1 _ _ _) (by omega) (by have := hL.fm.size; simp; omega) ?_; intro S9 c9 wz ho9 hg9 hat9; replace hL := hL.app hxl ho9 hg9 hat9; clear ho9 hg9 hat9))
      go_ret
      exact gadP hn1 hL
set_option maxRecDepth 20000 in
set_option maxHeartbeats 4000000 in
theorem spec_gdSub {w : World} {x base : Nat} {a b : Int} {n : Nat} {A : Option Addr} (h : MS w x base a b n A) (ha : 0 ≤ a ∧ a ≤ 100) (hb : 0 ≤ b ∧ b ≤ 100) (Sa Sb : Option Addr) (N ca cb : Nat) (la lb : List Int) (hLa : Lx w x A Sa N ca la) (hLb : Lx w x A Sb N cb lb) (hN : N ≤ 20) (hn : n ≤ 600) :
    Calls Try.prog 140 #[.pointer (some ⟨x, 0, none⟩), .slice Sa N ca, .slice Sb N cb] w (GadP w x base a b n A (7 * N) (N + 1)) := by
  have hL0 := LI.start h
  have hxl := h.lt
  go_enter Try.func140, Try.ntmps140
  go_wp2_with fail
  go_loopw [7, 8, 19] (fun o cc i wr => ∃ (k n1 c : Nat) (cv : Int) (A1 S : Option Addr) (l : List Int), k ≤ N ∧ o = .slice S k c ∧ cc = .int .i64 cv ∧ i = .int .i64 k ∧ n1 ≤ n + 7 * k ∧ LI w wr x base a b A A1 n1 S k c l) (fun _ _ i _ => N - (intOf i).toNat)
  case atStart => exact ⟨0, n, 0, -1, A, none, [], by omega, rfl, rfl, rfl, by omega, hL0⟩
  case round =>
    clear hL0
    obtain ⟨k, n1, c, cv, A1, S, l, hk, rfl, rfl, rfl, hn1, hL⟩ := hrel
    by_cases hlt : k < N
    · have ik : (k : Int) < N := by omega
      obtain ⟨ada, va, rfl, hva⟩ := hLa.at_ hlt
      obtain ⟨adb, vb, rfl, hvb⟩ := hLb.at_ hlt
      have hva1 := hva _ _ hL.fm
      have hvb1 := hvb _ _ hL.fm
      have HN := Lib.hid hn1
      clear hva hvb hLa hLb
      by_cases hc : cv < 0
      · go_wp2_with (first
        | (go_at_call 135; refine (mk_xor hL.ms ha hb (by omega) _ _).mono ?_; rintro e wz ⟨A9, v9, rfl, hm9, hf9⟩; replace hL := hL.step hm9 hf9; clear hm9 hf9)
        | (go_at_call 136; refine (mk_and hL.ms ha hb (by omega) _ _).mono ?_; rintro e wz ⟨A9, v9, rfl, hm9, hf9⟩; replace hL := hL.step hm9 hf9; clear hm9 hf9)
        | (go_at_call 134; refine (mk_not hL.ms ha hb (by omega) _).mono ?_; rintro e wz ⟨A9, v9, rfl, hm9, hf9⟩; replace hL := hL.step hm9 hf9; clear hm9 hf9)
        | (at_builtin; refine ap_int rfl rfl rfl (hL.own.alloc _) rfl (rd_new1 _ _ _) (by omega) (by have := hL.fm.size; simp; omega) ?_; intro S9 c9 wz ho9 hg9 hat9; replace hL := hL.app hxl ho9 hg9 hat9; clear ho9 hg9 hat9))
        go_roundw
        case rel => exact ⟨k + 1, _, _, _, _, _, _, by omega, rfl, rfl, by go_num, by have := HN.out; omega, hL⟩
        case measure => simp [intOf]; omega
      · go_wp2_with (first
        | (go_at_call 135; refine (mk_xor hL.ms ha hb (by omega) _ _).mono ?_; rintro e wz ⟨A9, v9, rfl, hm9, hf9⟩; replace hL := hL.step hm9 hf9; clear hm9 hf9)
        | (go_at_call 136; refine (mk_and hL.ms ha hb (by omega) _ _).mono ?_; rintro e wz ⟨A9, v9, rfl, hm9, hf9⟩; replace hL := hL.step hm9 hf9; clear hm9 hf9)
        | (go_at_call 134; refine (mk_not hL.ms ha hb (by omega) _).mono ?_; rintro e wz ⟨A9, v9, rfl, hm9, hf9⟩; replace hL := hL.step hm9 hf9; clear hm9 hf9)
        | (at_builtin; refine ap_int rfl rfl rfl (hL.own.alloc _) rfl (rd_new1 _ _ _) (by omega) (by have := hL.fm.size; simp; omega) ?_; intro S9 c9 wz ho9 hg9 hat9; replace hL := hL.app hxl ho9 hg9 hat9; clear ho9 hg9 hat9))
        go_roundw
        case rel => exact ⟨k + 1, _, _, _, _, _, _, by omega, rfl, rfl, by go_num, by have := HN.out; omega, hL⟩
        case measure => simp [intOf]; omega
    · have ik : ¬ ((k : Int) < N) := by omega
      have hkn : k = N := by omega
      subst hkn
      go_wp2_with (first
        | (go_at_call 135; refine (mk_xor hL.ms ha hb (by omega) _ _).mono ?_; rintro e wz ⟨A9, v9, rfl, hm9, hf9⟩; replace hL := hL.step hm9 hf9; clear hm9 hf9)
        | (go_at_call 136; refine (mk_and hL.ms ha hb (by omega) _ _).mono ?_; rintro e wz ⟨A9, v9, rfl, hm9, hf9⟩; replace hL := hL.step hm9 hf9; clear hm9 hf9)
        | (go_at_call 134; refine (mk_not hL.ms ha hb (by omega) _).mono ?_; rintro e wz ⟨A9, v9, rfl, hm9, hf9⟩; replace hL := hL.step hm9 hf9; clear hm9 hf9)
        | (at_builtin; refine ap_int rfl rfl rfl (hL.own.alloc _) rfl (rd_new1 _ _ _) (by omega) (by have := hL.fm.size; simp; omega) ?_; intro S9 c9 wz ho9 hg9 hat9; replace hL := hL.app hxl ho9 hg9 hat9; clear ho9 hg9 hat9))
      go_ret
      exact gadP hn1 hL
set_option maxRecDepth 20000 in
set_option maxHeartbeats 4000000 in
theorem spec_gdPick {w : World} {x base : Nat} {a b : Int} {n : Nat} {A : Option Addr} (h : MS w x base a b n A) (ha : 0 ≤ a ∧ a ≤ 100) (hb : 0 ≤ b ∧ b ≤ 100) (s : Int) (Sa Sb : Option Addr) (N ca cb : Nat) (la lb : List Int) (hLa : Lx w x A Sa N ca la) (hLb : Lx w x A Sb N cb lb) (hN : N ≤ 20) (hn : n ≤ 600) :
    Calls Try.prog 142 #[.pointer (some ⟨x, 0, none⟩), .int .i64 s, .slice Sa N ca, .slice Sb N cb] w (GadP w x base a b n A (7 * N) N) := by
  have hL0 := LI.start h
  have hxl := h.lt
  go_enter Try.func142, Try.ntmps142
  go_wp2_with fail
  go_loopw [9, 16] (fun o i wr => ∃ (k n1 c : Nat) (A1 S : Option Addr) (l : List Int), k ≤ N ∧ o = .slice S k c ∧ i = .int .i64 k ∧ n1 ≤ n + 7 * k ∧ LI w wr x base a b A A1 n1 S k c l) (fun _ i _ => N - (intOf i).toNat)
  case atStart => exact ⟨0, n, 0, A, none, [], by omega, rfl, rfl, by omega, hL0⟩
  case round =>
    clear hL0
    obtain ⟨k, n1, c, A1, S, l, hk, rfl, rfl, hn1, hL⟩ := hrel
    by_cases hlt : k < N
    · have ik : (k : Int) < N := by omega
      obtain ⟨ada, va, rfl, hva⟩ := hLa.at_ hlt
      obtain ⟨adb, vb, rfl, hvb⟩ := hLb.at_ hlt
      have hva1 := hva _ _ hL.fm
      have hvb1 := hvb _ _ hL.fm
      have HN := Lib.hid hn1
      have HB := Lib.hid hvb
      clear hva hvb hLa hLb
      go_wp2_with (first
        | (go_at_call 135; refine (mk_xor hL.ms ha hb (by omega) _ _).mono ?_; rintro e wz ⟨A9, v9, rfl, hm9, hf9⟩; replace hL := hL.step hm9 hf9; clear hm9 hf9; have hvb2 := HB.out _ _ hL.fm)
        | (go_at_call 136; refine (mk_and hL.ms ha hb (by omega) _ _).mono ?_; rintro e wz ⟨A9, v9, rfl, hm9, hf9⟩; replace hL := hL.step hm9 hf9; clear hm9 hf9; have hvb2 := HB.out _ _ hL.fm)
        | (go_at_call 134; refine (mk_not hL.ms ha hb (by omega) _).mono ?_; rintro e wz ⟨A9, v9, rfl, hm9, hf9⟩; replace hL := hL.step hm9 hf9; clear hm9 hf9; have hvb2 := HB.out _ _ hL.fm)
        | (at_builtin; refine ap_int rfl rfl rfl (hL.own.alloc _) rfl (rd_new1 _ _ _) (by omega) (by have := hL.fm.size; simp; omega) ?_; intro S9 c9 wz ho9 hg9 hat9; replace hL := hL.app hxl ho9 hg9 hat9; clear ho9 hg9 hat9; have hvb2 := HB.out _ _ hL.fm))
      go_roundw
      case rel => exact ⟨k + 1, _, _, _, _, _, by omega, rfl, by go_num, by have := HN.out; omega, hL⟩
      case measure => simp [intOf]; omega
    · have ik : ¬ ((k : Int) < N) := by omega
      have hkn : k = N := by omega
      subst hkn
      go_wp2_with fail
      go_ret
      exact gadP hn1 hL
set_option maxRecDepth 20000 in
set_option maxHeartbeats 4000000 in
theorem spec_gdEqual {w : World} {x base : Nat} {a b : Int} {n : Nat} {A : Option Addr} (h : MS w x base a b n A) (ha : 0 ≤ a ∧ a ≤ 100) (hb : 0 ≤ b ∧ b ≤ 100) (Sa Sb : Option Addr) (N ca cb : Nat) (la lb : List Int) (hLa : Lx w x A Sa N ca la) (hLb : Lx w x A Sb N cb lb) (hN : N ≤ 20) (hN0 : 0 < N) (hn : n ≤ 600) :
    Calls Try.prog 141 #[.pointer (some ⟨x, 0, none⟩), .slice Sa N ca, .slice Sb N cb] w (EqlP w x base a b n A (7 * N)) := by
  have hL0 := LI.start h
  have hxl := h.lt
  go_enter Try.func141, Try.ntmps141
  go_wp2_with fail
  go_loopw [7, 16] (fun o i wr => ∃ (k n1 c : Nat) (A1 S : Option Addr) (l : List Int), k ≤ N ∧ o = .slice S k c ∧ i = .int .i64 k ∧ n1 ≤ n + 4 * k ∧ LI w wr x base a b A A1 n1 S k c l) (fun _ i _ => N - (intOf i).toNat)
  case atStart => exact ⟨0, n, 0, A, none, [], by omega, rfl, rfl, by omega, hL0⟩
  case round =>
    clear hL0
    obtain ⟨k, n1, c, A1, S, l, hk, rfl, rfl, hn1, hL⟩ := hrel
    by_cases hlt : k < N
    · have ik : (k : Int) < N := by omega
      obtain ⟨ada, va, rfl, hva⟩ := hLa.at_ hlt
      obtain ⟨adb, vb, rfl, hvb⟩ := hLb.at_ hlt
      have hva1 := hva _ _ hL.fm
      have hvb1 := hvb _ _ hL.fm
      have HN := Lib.hid hn1
      clear hva hvb hLa hLb
      go_wp2_with (first
        | (go_at_call 135; refine (mk_xor hL.ms ha hb (by omega) _ _).mono ?_; rintro e wz ⟨A9, v9, rfl, hm9, hf9⟩; replace hL := hL.step hm9 hf9; clear hm9 hf9)
        | (go_at_call 136; refine (mk_and hL.ms ha hb (by omega) _ _).mono ?_; rintro e wz ⟨A9, v9, rfl, hm9, hf9⟩; replace hL := hL.step hm9 hf9; clear hm9 hf9)
        | (go_at_call 134; refine (mk_not hL.ms ha hb (by omega) _).mono ?_; rintro e wz ⟨A9, v9, rfl, hm9, hf9⟩; replace hL := hL.step hm9 hf9; clear hm9 hf9)
        | (at_builtin; refine ap_int rfl rfl rfl (hL.own.alloc _) rfl (rd_new1 _ _ _) (by omega) (by have := hL.fm.size; simp; omega) ?_; intro S9 c9 wz ho9 hg9 hat9; replace hL := hL.app hxl ho9 hg9 hat9; clear ho9 hg9 hat9))
      go_roundw
      case rel => exact ⟨k + 1, _, _, _, _, _, by omega, rfl, by go_num, by have := HN.out; omega, hL⟩
      case measure => simp [intOf]; omega
    · have ik : ¬ ((k : Int) < N) := by omega
      have hkn : k = N := by omega
      subst hkn
      obtain ⟨g, rfl, hg1, hg2, hgc, hgf⟩ := hL.own.form hN0
      have hlen := hL.own.length
      obtain ⟨v0, rest, rfl⟩ : ∃ v0 rest, l = v0 :: rest := by cases l with | nil => simp at hlen; omega | cons v0 rest => exact ⟨v0, rest, rfl⟩
      have hv0 := hgc 0 v0 rfl
      have hle := hL.own.rd.le
      have i1 : (1 : Int) ≤ k := by omega
      have i2 : (1 : Int) ≤ c := by omega
      have i3 : (k : Int) ≤ c := by omega
      have iT : (((k : Int) - 1).toNat : Int) = k - 1 := by omega
      have hLx := hL.lx
      have hcell := Lib.hid (fun j (hj : j < k) => hLx.at_ hj)
      have hfm := hL.fm
      have hms := hL.ms
      have HN := Lib.hid hn1
      clear hLx hL hgc hgf hg1 hg2 hLa hLb
      by_cases hc1 : c = 1
      · subst hc1
        have hk1 : k = 1 := by omega
        subst hk1
        go_wp2_with fail
        go_loopw [11, 41] (fun o i wx => o = .int .i64 v0 ∧ i = .int .i64 0 ∧ wx = wr) (fun _ _ _ => 0)
        case atStart => exact ⟨rfl, rfl, rfl⟩
        case round =>
          obtain ⟨rfl, rfl, rfl⟩ := hrel
          go_wp2_with fail
          go_ret
          exact eqlP (by have := HN.out; omega) hms hfm
      · go_wp2_with fail
        go_loopw [11, 41] (fun o i wx => ∃ (j n2 : Nat) (A2 : Option Addr) (v : Int), j ≤ k - 1 ∧ o = .int .i64 v ∧ i = .int .i64 j ∧ n2 ≤ n1 + j ∧ MS wx x base a b n2 A2 ∧ Fm wr wx x A1 A2) (fun _ i _ => k - 1 - (intOf i).toNat)
        case atStart => exact ⟨0, n1, A1, v0, by omega, rfl, rfl, by omega, hms, Fm.refl _ _ _⟩
        case round =>
          obtain ⟨j, n2, A2, v, hj, rfl, rfl, hn2, hms2, hfm2⟩ := hrel
          by_cases hlt2 : j < k - 1
          · have ij : (j : Int) < ((k - 1 : Nat) : Int) := by omega
            obtain ⟨ad, vj, e, hvj⟩ := hcell.out (1 + j) (by omega)
            injection e with e
            subst e
            have hvj1 := hvj _ _ hfm2
            rw [show (⟨g, 0, none⟩ : Addr).add (1 + j) = ⟨g, 1 + j, none⟩ by unfold Addr.add; rw [if_neg (by omega)]; simp] at hvj1
            clear hvj
            have HN2 := Lib.hid hn2
            go_wp2_with (go_at_call 136; refine (mk_and hms2 ha hb (by have := HN.out; omega) _ _).mono ?_; rintro e wz ⟨A9, v9, rfl, hm9, hf9⟩)
            go_roundw
            case rel => exact ⟨j + 1, _, _, _, by omega, rfl, by go_num, by have := HN2.out; omega, hm9, hfm2.trans hf9⟩
            case measure => simp [intOf]; omega
          · have ij : ¬ ((j : Int) < ((k - 1 : Nat) : Int)) := by omega
            go_wp2_with fail
            go_ret
            exact eqlP (by have := HN.out; omega) hms2 (hfm.trans hfm2)
end Go.Proofs.Ytlmlffiajgofeaa
