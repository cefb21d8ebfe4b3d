/- Contracts of digits, constants and operations of both compilers.
   Conditions: small numbers. -/
import Derived.Test.YtjggecbaladiiaaGreatDoorCmc
import Derived.Test.YtjggecbaladiiaaGreatDoorCmd
import Derived.Test.YtjggecbaladiiaaGreatDoorCmh
namespace Go.Proofs.YtjggecbaladiiaaGreatDoor
open Go.RowKit
set_option linter.unusedVariables false
/-- What an operation leaves: these gates, a list of these wires apart from the maker. -/
def ResE (T : TypeId) (X : Mx) (w : World) (A : Option Addr) (g' : List Gt) (l' : List Int) (e : Ending) (w' : World) : Prop := ∃ A' n1 S m c, e = .returned (.slice S m c) ∧ ME T X w' n1 g' A' ∧ Fm w w' X.x A A' ∧ RdI w' S m c l' ∧ ∀ q, S.map (·.block) = some q → w.heap.size ≤ q ∧ q < w'.heap.size ∧ A'.map (·.block) ≠ some q
theorem LE.res {T : TypeId} {X : Mx} {w w' : World} {n : Nat} {g : List Gt} {A A' S : Option Addr} {m c : Nat} {l : List Int} (h : LE T X w w' A A' n g S m c l) : ResE T X w A g l (.returned (.slice S m c)) w' :=
  ⟨A', n, S, m, c, rfl, h.ms, h.fm, h.own.rd, fun q hq => ⟨(h.own.blk q hq).1, (h.own.blk q hq).2, (h.ap q hq).2⟩⟩
theorem ResE.cast {T : TypeId} {X : Mx} {w w' : World} {A : Option Addr} {g g' : List Gt} {l l' : List Int} {e : Ending} (h : ResE T X w A g l e w') (h1 : g = g') (h2 : l = l') : ResE T X w A g' l' e w' := by subst h1; subst h2; exact h
theorem wn_le {T : TypeId} {X : Mx} {w : World} {n : Nat} {g : List Gt} {A : Option Addr} (h : ME T X w n g A) (k : Nat) : 0 ≤ wn X.t k ∧ wn X.t k ≤ 200 + k := by have := h.ra; have := h.rb; unfold wn Mx.t; omega
def cstL (W v : Int) (k : Nat) : List Int := (bitL v k).map fun b => W - b
theorem cstL_step (W v : Int) (k : Nat) : cstL W v (k + 1) = cstL W v k ++ [W - v / 2 ^ k % 2] := by simp [cstL, bitL_step]
theorem andS_len (t : Int) (la : List Int) (v : Int) (g : List Gt) (k : Nat) : (andS t la v g k).1.length = g.length + k ∧ (andS t la v g k).2.length = k := by
  induction k with
  | zero => simp [andS]
  | succ k ih => simp only [andS, List.length_append, List.length_singleton]; omega
theorem addS_len2 (t : Int) (la lb : List Int) (g : List Gt) (k : Nat) : (addS t la lb g k).2.1.length = k := by
  induction k with
  | zero => simp [addS]
  | succ k ih =>
    simp only [addS]
    split <;> (simp only [List.length_append, List.length_singleton]; omega)
theorem row_len (t : Int) (la rest : List Int) (v : Int) (G : List Gt) (N : Nat) : (addS t rest (andS t la v G N).2 (andS t la v G N).1 N).1.length ≤ G.length + 8 * N := by
  have h1 := andS_len t la v G N
  have h3 := addS_len1 t rest (andS t la v G N).2 (andS t la v G N).1 N
  omega
theorem mulS_len (t : Int) (la lb : List Int) (N : Nat) (g : List Gt) (k : Nat) : (mulS t la lb N g k).1.length ≤ g.length + (8 * N + 2) * k ∧ (mulS t la lb N g k).2.length ≤ (N + 1) * (k + 1) := by
  induction k with
  | zero => simp [mulS]
  | succ k ih =>
    obtain ⟨i1, i2⟩ := ih
    have e1 : (8 * N + 2) * (k + 1) = (8 * N + 2) * k + (8 * N + 2) := Nat.mul_succ _ _
    have e2 : (N + 1) * (k + 1 + 1) = (N + 1) * (k + 1) + (N + 1) := Nat.mul_succ _ _
    have hg : ∀ (p : Prop) [Decidable p] (a b : Gt), (if p then (mulS t la lb N g k).1 ++ [a] ++ [b] else (mulS t la lb N g k).1).length ≤ g.length + (8 * N + 2) * k + 2 := by
      intro p _ a b
      split
      · simp only [List.length_append, List.length_singleton]; omega
      · omega
    simp only [mulS]
    by_cases hk : k = 0
    · rw [if_pos hk]
      have := andS_len t la (lb.getD k 0) (if k = 1 then (mulS t la lb N g k).1 ++ [⟨3, 0, 0⟩] ++ [⟨2, wn t (mulS t la lb N g k).1.length, 0⟩] else (mulS t la lb N g k).1) N
      have := hg (k = 1) ⟨3, 0, 0⟩ ⟨2, wn t (mulS t la lb N g k).1.length, 0⟩
      omega
    · rw [if_neg hk]
      have h2 := hg (k = 1) ⟨3, 0, 0⟩ ⟨2, wn t (mulS t la lb N g k).1.length, 0⟩
      refine ⟨Nat.le_trans (row_len _ _ _ _ _ _) (by omega), ?_⟩
      simp only [List.length_append, List.length_singleton, addS_len2, List.length_take]
      omega
theorem mulT_len (t : Int) (la lb : List Int) (N : Nat) (g : List Gt) (k : Nat) : (mulT t la lb N g k).1.length ≤ g.length + (8 * N + 2) * k ∧ (mulT t la lb N g k).2.1.length ≤ k ∧ (mulT t la lb N g k).2.2.length ≤ N + 1 := by
  induction k with
  | zero => simp [mulT]
  | succ k ih =>
    obtain ⟨i1, i2, i3⟩ := ih
    have e1 : (8 * N + 2) * (k + 1) = (8 * N + 2) * k + (8 * N + 2) := Nat.mul_succ _ _
    have hg : ∀ (p : Prop) [Decidable p] (a b : Gt), (if p then (mulT t la lb N g k).1 ++ [a] ++ [b] else (mulT t la lb N g k).1).length ≤ g.length + (8 * N + 2) * k + 2 := by
      intro p _ a b
      split
      · simp only [List.length_append, List.length_singleton]; omega
      · omega
    simp only [mulT]
    by_cases hk : k = 0
    · rw [if_pos hk]
      have := andS_len t la (lb.getD k 0) (if k = 1 then (mulT t la lb N g k).1 ++ [⟨3, 0, 0⟩] ++ [⟨2, wn t (mulT t la lb N g k).1.length, 0⟩] else (mulT t la lb N g k).1) N
      have := hg (k = 1) ⟨3, 0, 0⟩ ⟨2, wn t (mulT t la lb N g k).1.length, 0⟩
      simp only [List.length_take, List.length_drop]
      omega
    · rw [if_neg hk]
      have h2 := hg (k = 1) ⟨3, 0, 0⟩ ⟨2, wn t (mulT t la lb N g k).1.length, 0⟩
      refine ⟨Nat.le_trans (row_len _ _ _ _ _ _) (by omega), ?_⟩
      simp only [List.length_append, List.length_singleton, addS_len2, List.length_drop]
      omega
theorem mul_bd {N : Nat} (h : N ≤ 4) : (8 * N + 2) * N ≤ 200 ∧ (N + 1) * (N + 1) ≤ 25 := by
  rcases (by omega : N = 0 ∨ N = 1 ∨ N = 2 ∨ N = 3 ∨ N = 4) with rfl | rfl | rfl | rfl | rfl <;> decide
theorem mul_len_mulI (t : Int) (la lb : List Int) (g : List Gt) (N : Nat) (hN : N ≤ 4) : (mulI t la lb g N).1.length ≤ g.length + 200 ∧ (mulI t la lb g N).2.length ≤ 25 := by
  have := mulS_len t la lb N g N
  have := mul_bd hN
  unfold mulI
  omega
theorem mul_len_mulR (t : Int) (la lb : List Int) (g : List Gt) (N : Nat) (hN : N ≤ 4) : (mulR t la lb g N).1.length ≤ g.length + 200 ∧ (mulR t la lb g N).2.length ≤ 25 := by
  have := mulT_len t la lb N g N
  have := mul_bd hN
  unfold mulR
  dsimp only
  rw [List.length_append]
  omega
set_option maxHeartbeats 4000000 in
theorem impl_constant {w : World} {X : Mx} {n : Nat} {g : List Gt} {A : Option Addr} (h : ME 117 X w n g A) (v : Int) (N : Nat) (hv : 0 ≤ v ∧ v ≤ 1023) (hN : N ≤ 10) (hn : n ≤ 600) :
    Calls Tryz.prog 138 #[.pointer (some ⟨X.x, 0, none⟩), .int .i64 v, .int .i64 N] w (ResE 117 X w A (g ++ [⟨3, 0, 0⟩] ++ [⟨2, wn X.t n, 0⟩]) (cstL (wn X.t (n + 1)) v N)) := by
  have hxl := h.lt
  have HU := Lib.hid (fun (k : Nat) (u : Int) (hk : k < N) (hu : (bitL v N)[k]? = some u) => (show u = 0 ∨ u = 1 by rw [bitL_at hk] at hu; injection hu with hu; omega))
  have hwb := wn_le h (n + 1)
  have HVW0 := Lib.hid (show wn X.t n = wn X.t (n + 1) - 1 by unfold wn; omega)
  obtain ⟨G, hG⟩ : ∃ G, G = g ++ [⟨3, 0, 0⟩] ++ [⟨2, wn X.t n, 0⟩] := ⟨_, rfl⟩
  obtain ⟨R, hR⟩ : ∃ R, R = cstL (wn X.t (n + 1)) v N := ⟨_, rfl⟩
  rw [← hG, ← hR]
  have HG := Lib.hid hG
  have HR := Lib.hid hR
  clear hG hR
  go_enter Tryz.func138, Tryz.ntmps138
  go_wp2_with (go_at_call 182; refine (mi_zero h (by omega)).mono ?_; rintro e w1 ⟨A1, rfl, hm1, hf1⟩)
  generalize hWW : wn X.t (n + 1) = W at hwb ⊢
  have HWW := Lib.hid hWW
  have hL0 := LE.made hm1
  have hb0 := hm1.lt
  refine (impl_bitsOf v N hv hN _).mono ?_
  rintro e w2 ⟨Sb, cb, rfl, hob, hb2⟩
  replace hL0 := hL0.grew hb2
  have hbr := hob.rd
  have hbl : ∀ q, Sb.map (·.block) = some q → q < w2.heap.size ∧ w1.heap.size ≤ q ∧ w1.heap.size ≠ q := fun q hq => ⟨(hob.blk q hq).2, by have := (hob.blk q hq).1; (try simp at this); omega, by have := (hob.blk q hq).1; simp at this; omega⟩
  have hle := hbr.le
  clear hob hb2 hWW
  go_wp2_with fail
  go_loopw [8, 18] (fun o i wr => ∃ (k c : Nat) (S : Option Addr), k ≤ N ∧ o = .slice S k c ∧ i = .int .i64 (k : Nat) ∧ RdI wr Sb N cb (bitL v N) ∧ (∀ q, Sb.map (·.block) = some q → q < wr.heap.size ∧ S.map (·.block) ≠ some q) ∧ LE 117 X w1 wr A1 A1 (n + 1 + 1) (g ++ [⟨3, 0, 0⟩] ++ [⟨2, wn X.t n, 0⟩]) S k c (cstL W v k)) (fun _ i _ => N - (intOf i).toNat)
  case atStart => exact ⟨0, 0, _, by omega, rfl, rfl, hbr, fun q hq => ⟨(hbl q hq).1, fun e => by injection e with e; have := (hbl q hq).2.2; exact this e⟩, hL0⟩
  case round =>
    clear hL0 hbr hbl
    obtain ⟨k, c, S, hk, rfl, rfl, hbr, hap, hL⟩ := hrel
    by_cases hlt : k < N
    · have ik : (k : Int) < N := by omega
      obtain ⟨ad, u, rfl, hadb, hu, huc⟩ := hbr.at_ hlt
      obtain rfl : v / 2 ^ k % 2 = u := by rw [bitL_at hlt] at hu; injection hu
      have HST := Lib.hid (cstL_step W v k)
      generalize v / 2 ^ k % 2 = u at huc HST hu
      have hub : u = 0 ∨ u = 1 := HU.out k u hlt hu
      clear hu
      have hsub : wrap64 (W - u) = W - u := by unfold wrap64; omega
      go_wp2_with (at_builtin; have hlow := hap; refine ap_int rfl rfl rfl (hL.own.alloc _) rfl (rd_new1 _ _ _) (by omega) (by have := hL.fm.size; simp; omega) ?_; intro S9 c9 wz ho9 hg9 hat9; replace hbr := (hbr.keep ((Bl.refl _).alloc (.cells #[.int .i64 (W - u)] 3))).grown hg9 (fun q hq e => (hap q.block (by rw [hq]; rfl)).2 e.symm); replace hap : ∀ q, (some ad).map (·.block) = some q → q < wz.heap.size ∧ S9.map (·.block) ≠ some q := fun q hq => ⟨by have := (hlow q hq).1; have := hg9.size; simp at this; omega, by rcases hat9 with e | e; (rw [e]; exact (hlow q hq).2); (rw [e]; intro e2; injection e2 with e2; have := (hlow q hq).1; simp at e2; omega)⟩; replace hL := hL.app hm1.lt ho9 hg9 hat9; clear ho9 hg9 hat9)
      go_roundw
      case rel => exact ⟨k + 1, c9, S9, by omega, rfl, by go_num, hbr, hap, by rw [HST.out]; exact hL⟩
      case measure => simp [intOf]; omega
    · have ik : ¬ ((k : Int) < N) := by omega
      have hkn : k = N := by omega
      subst hkn
      go_wp2_with fail
      go_ret
      have hfin := LE.res ⟨hL.ms, hf1.trans hL.fm, hL.own.mono hf1.size, hL.ap, fun q hq => (h.os.blk q hq).2⟩
      exact hfin.cast (by rw [HG.out]) (by rw [HR.out, HWW.out])
set_option maxHeartbeats 4000000 in
theorem spec_gdConst {w : World} {X : Mx} {n : Nat} {g : List Gt} {A : Option Addr} (h : ME 102 X w n g A) (v : Int) (N : Nat) (hv : 0 ≤ v ∧ v ≤ 1023) (hN : N ≤ 10) (hn : n ≤ 600) :
    Calls Tryz.prog 129 #[.pointer (some ⟨X.x, 0, none⟩), .int .i64 v, .int .i64 N] w (ResE 102 X w A (g ++ [⟨3, 0, 0⟩] ++ [⟨2, wn X.t n, 0⟩]) (cstL (wn X.t (n + 1)) v N)) := by
  have hxl := h.lt
  have HU := Lib.hid (fun (k : Nat) (u : Int) (hk : k < N) (hu : (bitL v N)[k]? = some u) => (show u = 0 ∨ u = 1 by rw [bitL_at hk] at hu; injection hu with hu; omega))
  have hwb := wn_le h (n + 1)
  have HVW0 := Lib.hid (show wn X.t n = wn X.t (n + 1) - 1 by unfold wn; omega)
  obtain ⟨G, hG⟩ : ∃ G, G = g ++ [⟨3, 0, 0⟩] ++ [⟨2, wn X.t n, 0⟩] := ⟨_, rfl⟩
  obtain ⟨R, hR⟩ : ∃ R, R = cstL (wn X.t (n + 1)) v N := ⟨_, rfl⟩
  rw [← hG, ← hR]
  have HG := Lib.hid hG
  have HR := Lib.hid hR
  clear hG hR
  go_enter Tryz.func129, Tryz.ntmps129
  go_wp2_with (first
    | (go_at_call 171; refine (ms_one h (by omega)).mono ?_; rintro e w0 ⟨A0, rfl, hm0, hf0⟩)
    | (go_at_call 131; refine (ms_not hm0 (by omega) _).mono ?_; rintro e w1 ⟨A1, rfl, hm1, hf1⟩))
  replace hf1 := hf0.trans hf1
  clear hm0 hf0
  generalize hVV : wn X.t n = V at hm1 ⊢
  generalize hWW : wn X.t (n + 1) = W at hwb ⊢
  have HVV := Lib.hid hVV
  have HWW := Lib.hid hWW
  have HVW := Lib.hid (show V = W - 1 by rw [← hVV, ← hWW]; exact HVW0.out)
  clear hVV hWW
  have hL0 := LE.start hm1
  refine (spec_btOf v N hv hN _).mono ?_
  rintro e w2 ⟨Sb, cb, rfl, hob, hb2⟩
  replace hL0 := hL0.grew hb2
  have hbr := hob.rd
  have hbl : ∀ q, Sb.map (·.block) = some q → q < w2.heap.size ∧ w1.heap.size ≤ q := fun q hq => ⟨(hob.blk q hq).2, by have := (hob.blk q hq).1; (try simp at this); omega⟩
  have hle := hbr.le
  clear hob hb2
  go_wp2_with fail
  go_loopw [9, 21] (fun o i wr => ∃ (k c : Nat) (S : Option Addr), k ≤ N ∧ o = .slice S k c ∧ i = .int .i64 (k : Nat) ∧ RdI wr Sb N cb (bitL v N) ∧ (∀ q, Sb.map (·.block) = some q → q < wr.heap.size ∧ S.map (·.block) ≠ some q) ∧ LE 102 X w1 wr A1 A1 (n + 1 + 1) (g ++ [⟨3, 0, 0⟩] ++ [⟨2, V, 0⟩]) S k c (cstL W v k)) (fun _ i _ => N - (intOf i).toNat)
  case atStart => exact ⟨0, 0, _, by omega, rfl, rfl, hbr, fun q hq => ⟨(hbl q hq).1, fun e => by simp at e⟩, hL0⟩
  case round =>
    clear hL0 hbr hbl
    obtain ⟨k, c, S, hk, rfl, rfl, hbr, hap, hL⟩ := hrel
    by_cases hlt : k < N
    · have ik : (k : Int) < N := by omega
      obtain ⟨ad, u, rfl, hadb, hu, huc⟩ := hbr.at_ hlt
      obtain rfl : v / 2 ^ k % 2 = u := by rw [bitL_at hlt] at hu; injection hu
      have HST := Lib.hid (cstL_step W v k)
      generalize v / 2 ^ k % 2 = u at huc HST hu
      have hub : u = 0 ∨ u = 1 := HU.out k u hlt hu
      clear hu
      rcases hub with rfl | rfl
      · go_wp2_with (at_builtin; have hlow := hap; refine ap_int rfl rfl rfl (hL.own.alloc _) rfl (rd_new1 _ _ _) (by omega) (by have := hL.fm.size; simp; omega) ?_; intro S9 c9 wz ho9 hg9 hat9; replace hbr := (hbr.keep ((Bl.refl _).alloc (.cells #[.int .i64 W] 3))).grown hg9 (fun q hq e => (hap q.block (by rw [hq]; rfl)).2 e.symm); replace hap : ∀ q, (some ad).map (·.block) = some q → q < wz.heap.size ∧ S9.map (·.block) ≠ some q := fun q hq => ⟨by have := (hlow q hq).1; have := hg9.size; simp at this; omega, by rcases hat9 with e | e; (rw [e]; exact (hlow q hq).2); (rw [e]; intro e2; injection e2 with e2; have := (hlow q hq).1; simp at e2; omega)⟩; replace hL := hL.app hm1.lt ho9 hg9 hat9; clear ho9 hg9 hat9)
        go_roundw
        case rel => exact ⟨k + 1, c9, S9, by omega, rfl, by go_num, hbr, hap, by rw [HST.out, Int.sub_zero]; exact hL⟩
        case measure => simp [intOf]; omega
      · go_wp2_with (at_builtin; have hlow := hap; refine ap_int rfl rfl rfl (hL.own.alloc _) rfl (rd_new1 _ _ _) (by omega) (by have := hL.fm.size; simp; omega) ?_; intro S9 c9 wz ho9 hg9 hat9; replace hbr := (hbr.keep ((Bl.refl _).alloc (.cells #[.int .i64 V] 3))).grown hg9 (fun q hq e => (hap q.block (by rw [hq]; rfl)).2 e.symm); replace hap : ∀ q, (some ad).map (·.block) = some q → q < wz.heap.size ∧ S9.map (·.block) ≠ some q := fun q hq => ⟨by have := (hlow q hq).1; have := hg9.size; simp at this; omega, by rcases hat9 with e | e; (rw [e]; exact (hlow q hq).2); (rw [e]; intro e2; injection e2 with e2; have := (hlow q hq).1; simp at e2; omega)⟩; replace hL := hL.app hm1.lt ho9 hg9 hat9; clear ho9 hg9 hat9)
        go_roundw
        case rel => exact ⟨k + 1, c9, S9, by omega, rfl, by go_num, hbr, hap, by rw [HST.out, ← HVW.out]; exact hL⟩
        case measure => simp [intOf]; omega
    · have ik : ¬ ((k : Int) < N) := by omega
      have hkn : k = N := by omega
      subst hkn
      go_wp2_with fail
      go_ret
      have hfin := LE.res ⟨hL.ms, hf1.trans hL.fm, hL.own.mono hf1.size, hL.ap, fun q hq => (h.os.blk q hq).2⟩
      exact hfin.cast (by rw [HG.out, HVV.out]) (by rw [HR.out, HWW.out])
set_option maxRecDepth 20000 in
set_option maxHeartbeats 4000000 in
theorem impl_two_add {w : World} {X : Mx} {n : Nat} {g : List Gt} {A : Option Addr} (h : ME 117 X w n g A) (Sa Sb : Option Addr) (N ca cb : Nat) (la lb : List Int) (hLa : Lx w X.x A Sa N ca la) (hLb : Lx w X.x A Sb N cb lb) (hN0 : 0 < N) (hN4 : N ≤ 4) (hn : n ≤ 300) :
    Calls Tryz.prog 139 #[.pointer (some ⟨X.x, 0, none⟩), .string ⟨#[43]⟩, .slice Sa N ca, .slice Sb N cb] w (ResE 117 X w A (twoS mulI X.t ⟨#[43]⟩ la lb g).1 (twoS mulI X.t ⟨#[43]⟩ la lb g).2) := by
  have hlen := hLa.rd.length
  have hxl := h.lt
  have hBl : ∀ k, X.B.map (·.block) = some k → k < w.heap.size := fun k e => (h.os.blk k e).2
  have HE := Lib.hid (show twoS mulI X.t ⟨#[43]⟩ la lb g = ((addS X.t la lb g N).1, (addS X.t la lb g N).2.1) by unfold twoS; rw [hlen]; rfl)
  rw [HE.out]
  clear hlen
  obtain ⟨⟨g1, ld, cv⟩, HD⟩ : ∃ p, addS X.t la lb g N = p := ⟨_, rfl⟩
  rw [HD]
  dsimp only
  go_enter Tryz.func139, Tryz.ntmps139
  go_wp2_with fail
  refine (impl_add h Sa Sb N ca cb la lb hLa hLb (by omega) (by omega)).mono ?_
  rintro e w1 ⟨A1, n1, S, c, rfl, hL⟩
  rw [HD] at hL ⊢
  dsimp only at hL ⊢
  go_wp2_with fail
  go_ret
  exact hL.res
set_option maxRecDepth 20000 in
set_option maxHeartbeats 4000000 in
theorem impl_two_sub {w : World} {X : Mx} {n : Nat} {g : List Gt} {A : Option Addr} (h : ME 117 X w n g A) (Sa Sb : Option Addr) (N ca cb : Nat) (la lb : List Int) (hLa : Lx w X.x A Sa N ca la) (hLb : Lx w X.x A Sb N cb lb) (hN0 : 0 < N) (hN4 : N ≤ 4) (hn : n ≤ 300) :
    Calls Tryz.prog 139 #[.pointer (some ⟨X.x, 0, none⟩), .string ⟨#[45]⟩, .slice Sa N ca, .slice Sb N cb] w (ResE 117 X w A (twoS mulI X.t ⟨#[45]⟩ la lb g).1 (twoS mulI X.t ⟨#[45]⟩ la lb g).2) := by
  have hlen := hLa.rd.length
  have hxl := h.lt
  have hBl : ∀ k, X.B.map (·.block) = some k → k < w.heap.size := fun k e => (h.os.blk k e).2
  have HE := Lib.hid (show twoS mulI X.t ⟨#[45]⟩ la lb g = ((subS X.t la lb g N).1, (subS X.t la lb g N).2.1) by unfold twoS; rw [hlen]; rfl)
  rw [HE.out]
  clear hlen
  obtain ⟨⟨g1, ld, cv⟩, HD⟩ : ∃ p, subS X.t la lb g N = p := ⟨_, rfl⟩
  rw [HD]
  dsimp only
  go_enter Tryz.func139, Tryz.ntmps139
  go_wp2_with fail
  refine (impl_subtract h Sa Sb N ca cb la lb hLa hLb (by omega) (by omega)).mono ?_
  rintro e w1 ⟨A1, n1, S, c, rfl, hL⟩
  rw [HD] at hL ⊢
  dsimp only at hL ⊢
  go_wp2_with fail
  go_ret
  exact hL.res
set_option maxRecDepth 20000 in
set_option maxHeartbeats 4000000 in
theorem impl_two_lss {w : World} {X : Mx} {n : Nat} {g : List Gt} {A : Option Addr} (h : ME 117 X w n g A) (Sa Sb : Option Addr) (N ca cb : Nat) (la lb : List Int) (hLa : Lx w X.x A Sa N ca la) (hLb : Lx w X.x A Sb N cb lb) (hN0 : 0 < N) (hN4 : N ≤ 4) (hn : n ≤ 300) :
    Calls Tryz.prog 139 #[.pointer (some ⟨X.x, 0, none⟩), .string ⟨#[60]⟩, .slice Sa N ca, .slice Sb N cb] w (ResE 117 X w A (twoS mulI X.t ⟨#[60]⟩ la lb g).1 (twoS mulI X.t ⟨#[60]⟩ la lb g).2) := by
  have hlen := hLa.rd.length
  have hxl := h.lt
  have hBl : ∀ k, X.B.map (·.block) = some k → k < w.heap.size := fun k e => (h.os.blk k e).2
  have HE := Lib.hid (show twoS mulI X.t ⟨#[60]⟩ la lb g = ((subS X.t la lb g N).1, [(subS X.t la lb g N).2.2]) by unfold twoS; rw [hlen]; rfl)
  rw [HE.out]
  clear hlen
  obtain ⟨⟨g1, ld, cv⟩, HD⟩ : ∃ p, subS X.t la lb g N = p := ⟨_, rfl⟩
  rw [HD]
  dsimp only
  go_enter Tryz.func139, Tryz.ntmps139
  go_wp2_with fail
  refine (impl_subtract h Sa Sb N ca cb la lb hLa hLb (by omega) (by omega)).mono ?_
  rintro e w1 ⟨A1, n1, S, c, rfl, hL⟩
  rw [HD] at hL ⊢
  dsimp only at hL ⊢
  go_wp2_with fail
  go_ret
  have hO := rd_new1 w1 3 cv (g := w1.heap.size) rfl
  refine ⟨A1, n1, _, _, _, rfl, hL.ms.keep ((Bl.refl w1).alloc _), hL.fm.grew ((Bl.refl w1).alloc _) (Nat.le_of_lt hL.ms.lt), hO, fun q hq => ?_⟩
  injection hq with hq
  have hq : w1.heap.size = q := hq
  have := hL.fm.size
  refine ⟨by omega, by simp; omega, fun e => ?_⟩
  have := (hL.ms.at_ q e).2
  omega
set_option maxRecDepth 20000 in
set_option maxHeartbeats 4000000 in
theorem impl_two_eql {w : World} {X : Mx} {n : Nat} {g : List Gt} {A : Option Addr} (h : ME 117 X w n g A) (Sa Sb : Option Addr) (N ca cb : Nat) (la lb : List Int) (hLa : Lx w X.x A Sa N ca la) (hLb : Lx w X.x A Sb N cb lb) (hN0 : 0 < N) (hN4 : N ≤ 4) (hn : n ≤ 300) :
    Calls Tryz.prog 139 #[.pointer (some ⟨X.x, 0, none⟩), .string ⟨#[61]⟩, .slice Sa N ca, .slice Sb N cb] w (ResE 117 X w A (twoS mulI X.t ⟨#[61]⟩ la lb g).1 (twoS mulI X.t ⟨#[61]⟩ la lb g).2) := by
  have hlen := hLa.rd.length
  have hxl := h.lt
  have hBl : ∀ k, X.B.map (·.block) = some k → k < w.heap.size := fun k e => (h.os.blk k e).2
  have HE := Lib.hid (show twoS mulI X.t ⟨#[61]⟩ la lb g = ((eqS X.t la lb g N).1, [(eqS X.t la lb g N).2]) by unfold twoS; rw [hlen]; rfl)
  rw [HE.out]
  clear hlen
  obtain ⟨⟨g1, v1⟩, HD⟩ : ∃ p, eqS X.t la lb g N = p := ⟨_, rfl⟩
  rw [HD]
  dsimp only
  go_enter Tryz.func139, Tryz.ntmps139
  go_wp2_with fail
  refine (impl_equal h Sa Sb N ca cb la lb hLa hLb (by omega) hN0 (by omega)).mono ?_
  rintro e w1 ⟨A1, n1, rfl, hm1, hf1⟩
  rw [HD] at hm1 ⊢
  dsimp only at hm1 ⊢
  go_wp2_with fail
  go_ret
  have hO := rd_new1 w1 3 v1 (g := w1.heap.size) rfl
  refine ⟨A1, n1, _, _, _, rfl, hm1.keep ((Bl.refl w1).alloc _), hf1.grew ((Bl.refl w1).alloc _) (Nat.le_of_lt hm1.lt), hO, fun q hq => ?_⟩
  injection hq with hq
  have hq : w1.heap.size = q := hq
  have := hf1.size
  refine ⟨by omega, by simp; omega, fun e => ?_⟩
  have := (hm1.at_ q e).2
  omega
set_option maxRecDepth 20000 in
set_option maxHeartbeats 4000000 in
theorem impl_two_mul {w : World} {X : Mx} {n : Nat} {g : List Gt} {A : Option Addr} (h : ME 117 X w n g A) (Sa Sb : Option Addr) (N ca cb : Nat) (la lb : List Int) (hLa : Lx w X.x A Sa N ca la) (hLb : Lx w X.x A Sb N cb lb) (hN0 : 0 < N) (hN4 : N ≤ 4) (hn : n ≤ 300) :
    Calls Tryz.prog 139 #[.pointer (some ⟨X.x, 0, none⟩), .string ⟨#[42]⟩, .slice Sa N ca, .slice Sb N cb] w (ResE 117 X w A (twoS mulI X.t ⟨#[42]⟩ la lb g).1 (twoS mulI X.t ⟨#[42]⟩ la lb g).2) := by
  have hlen := hLa.rd.length
  have hxl := h.lt
  have hBl : ∀ k, X.B.map (·.block) = some k → k < w.heap.size := fun k e => (h.os.blk k e).2
  have HE := Lib.hid (show twoS mulI X.t ⟨#[42]⟩ la lb g = (if N = 1 then ((mulI X.t la lb g N).1 ++ [⟨3, 0, 0⟩] ++ [⟨2, wn X.t (mulI X.t la lb g N).1.length, 0⟩], (mulI X.t la lb g N).2 ++ [wn X.t ((mulI X.t la lb g N).1.length + 1)]) else mulI X.t la lb g N) by unfold twoS; rw [hlen]; rfl)
  rw [HE.out]
  have HMU := Lib.hid (show ∀ (A1 : Option Addr) (n1 : Nat) (S : Option Addr) (m c : Nat) (w1 : World), LE 117 X w w1 A A1 n1 ((mulS X.t la lb N g N).1) S m c ((mulS X.t la lb N g N).2) → LE 117 X w w1 A A1 n1 (mulI X.t la lb g N).1 S m c (mulI X.t la lb g N).2 from fun _ _ _ _ _ _ h => h)
  have HLG := Lib.hid (mul_len_mulI X.t la lb g N hN4)
  obtain ⟨⟨g1, l1⟩, HD⟩ : ∃ p, mulI X.t la lb g N = p := ⟨_, rfl⟩
  rw [HD] at HMU HLG
  rw [HD]
  dsimp only at HMU HLG ⊢
  clear hlen HD
  by_cases hN1 : N = 1
  · rw [if_pos hN1]
    dsimp only
    obtain ⟨G, hG⟩ : ∃ G, G = g1 ++ [⟨3, 0, 0⟩] ++ [⟨2, wn X.t g1.length, 0⟩] := ⟨_, rfl⟩
    obtain ⟨R, hR⟩ : ∃ R, R = l1 ++ [wn X.t (g1.length + 1)] := ⟨_, rfl⟩
    rw [← hG, ← hR]
    have HG := Lib.hid hG
    have HR := Lib.hid hR
    clear hG hR
    have e1 : ((N : Int) == 1) = true := by simp; omega
    have HN1 := Lib.hid hN1
    clear hN1
    go_enter Tryz.func139, Tryz.ntmps139
    go_wp2_with fail
    refine (impl_product h Sa Sb N ca cb la lb hLa hLb (by omega) hN0 hn).mono ?_
    rintro e w1 ⟨A1, n1, S, m, c, rfl, hL⟩
    replace hL := HMU.out _ _ _ _ _ _ hL
    have hm9 : m + 1 ≤ 1000 := by have h1 := hL.own.length; have := HLG.out.2; omega
    have hn9 : n1 ≤ 800 := by have h1 := hL.ms.len; have := HLG.out.1; have := h.len; omega
    have HLN := Lib.hid hL.ms.len
    go_wp2_with (first | (go_at_call 182; refine (mi_zero hL.ms (by omega)).mono ?_; rintro e wz ⟨A9, rfl, hm9, hf9⟩; replace hL := hL.step hm9 hf9; clear hm9 hf9) | (at_builtin; refine ap_int rfl rfl rfl (hL.own.alloc _) rfl (rd_new1 _ _ _) (by omega) (by have := hL.fm.size; simp; omega) ?_; intro S9 c9 wz ho9 hg9 hat9; replace hL := hL.app hxl ho9 hg9 hat9; clear ho9 hg9 hat9))
    go_ret
    exact hL.res.cast (by rw [HG.out, HLN.out]) (by rw [HR.out, HLN.out])
  · rw [if_neg hN1]
    have e1 : ((N : Int) == 1) = false := by simp; omega
    clear hN1
    go_enter Tryz.func139, Tryz.ntmps139
    go_wp2_with fail
    refine (impl_product h Sa Sb N ca cb la lb hLa hLb (by omega) hN0 hn).mono ?_
    rintro e w1 ⟨A1, n1, S, m, c, rfl, hL⟩
    replace hL := HMU.out _ _ _ _ _ _ hL
    go_wp2_with fail
    go_ret
    exact hL.res
set_option maxRecDepth 20000 in
set_option maxHeartbeats 4000000 in
theorem impl_two_and {w : World} {X : Mx} {n : Nat} {g : List Gt} {A : Option Addr} (h : ME 117 X w n g A) (Sa Sb : Option Addr) (N ca cb : Nat) (la lb : List Int) (hLa : Lx w X.x A Sa N ca la) (hLb : Lx w X.x A Sb N cb lb) (hN0 : 0 < N) (hN4 : N ≤ 4) (hn : n ≤ 300) :
    Calls Tryz.prog 139 #[.pointer (some ⟨X.x, 0, none⟩), .string ⟨#[38]⟩, .slice Sa N ca, .slice Sb N cb] w (ResE 117 X w A (twoS mulI X.t ⟨#[38]⟩ la lb g).1 (twoS mulI X.t ⟨#[38]⟩ la lb g).2) := by
  have hlen := hLa.rd.length
  have hxl := h.lt
  have hBl : ∀ k, X.B.map (·.block) = some k → k < w.heap.size := fun k e => (h.os.blk k e).2
  have HE := Lib.hid (show twoS mulI X.t ⟨#[38]⟩ la lb g = bitS 0 X.t la lb g N by unfold twoS; rw [hlen]; rfl)
  rw [HE.out]
  clear hlen
  have hL0 := LE.made h
  go_enter Tryz.func139, Tryz.ntmps139
  go_wp2_with fail
  go_loopw [16, 76] (fun o i wr => ∃ (k n1 c : Nat) (A1 S : Option Addr) (g1 : List Gt) (l : List Int), k ≤ N ∧ o = .slice S k c ∧ i = .int .i64 (k : Nat) ∧ n1 ≤ n + 7 * k ∧ Hid (bitS 0 X.t la lb g k = (g1, l)) ∧ LE 117 X w wr A A1 n1 g1 S k c l) (fun _ i _ => N - (intOf i).toNat)
  case atStart => exact ⟨0, n, 0, A, _, g, [], by omega, rfl, rfl, by omega, Lib.hid rfl, hL0⟩
  case round =>
    clear hL0
    obtain ⟨k, n1, c, A1, S, g1, l, hk, rfl, rfl, hn1, hSt, hL⟩ := hrel
    by_cases hlt : k < N
    · have ik : (k : Int) < N := by omega
      obtain ⟨ada, va, rfl, hea, hva⟩ := hLa.at_ hlt
      obtain ⟨adb, vb, rfl, heb, hvb⟩ := hLb.at_ hlt
      have hva1 := hva _ _ hL.fm
      have hvb1 := hvb _ _ hL.fm
      have HN := Lib.hid hn1
      have HB := Lib.hid hvb
      have HA := Lib.hid hva
      have HS := Lib.hid (bitS_0 hSt.out hL.ms.len hea heb)
      clear hva hvb hLa hLb hSt hea heb
      go_wp2_with fail
      refine wp_region_held_drew (S := (fun w' => w'.cell? (ada.add k) = some (.int .i64 va) ∧ w'.cell? (adb.add k) = some (.int .i64 vb))) (by kernel_rfl) ?_ (fun hHeld => ?_)
      · (try dsimp only); exact ⟨HA.out _ _ (by first | exact hL.fm | exact (hL.grew ((Bl.refl _).drew)).fm | exact (hL.grew ((Bl.refl _).alloc _)).fm), HB.out _ _ (by first | exact hL.fm | exact (hL.grew ((Bl.refl _).drew)).fm | exact (hL.grew ((Bl.refl _).alloc _)).fm)⟩
      replace hL := hL.grew ((Bl.refl _).drew)
      clear hva1 hvb1
      refine held_take (i := 0) (d := 108) (v := ?_) rfl rfl (by kernel_rfl) (by kernel_rfl) (by kernel_rfl) (fun _ _ _ h => h) (Or.inl ⟨by rfl, ?_⟩) (by assumption) ?_
      rotate_left
      · (intro w hSw; (try dsimp only at hSw); go_simp; (try with_reducible rfl))
      (try simp only [List.set_cons_zero, List.set_cons_succ])
      refine held_take (i := 1) (d := 109) (v := ?_) rfl rfl (by kernel_rfl) (by kernel_rfl) (by kernel_rfl) (fun _ _ _ h => h) (Or.inl ⟨by rfl, ?_⟩) (by assumption) ?_
      rotate_left
      · (intro w hSw; (try dsimp only at hSw); go_simp; (try with_reducible rfl))
      (try simp only [List.set_cons_zero, List.set_cons_succ])
      refine held_take (i := 2) (d := 110) (v := ?_) rfl rfl (by kernel_rfl) (by kernel_rfl) (by kernel_rfl) (fun _ _ _ h => h) (Or.inl ⟨by rfl, ?_⟩) (by assumption) ?_
      rotate_left
      · (intro w hSw; (try dsimp only at hSw); go_simp; (try with_reducible rfl))
      (try simp only [List.set_cons_zero, List.set_cons_succ])
      refine held_take (i := 3) (d := 111) (v := ?_) rfl rfl (by kernel_rfl) (by kernel_rfl) (by kernel_rfl) (fun _ _ _ h => h) (Or.inl ⟨by rfl, ?_⟩) (by assumption) ?_
      rotate_left
      · (intro w hSw; (try dsimp only at hSw); go_simp; (try with_reducible rfl))
      (try simp only [List.set_cons_zero, List.set_cons_succ])
      refine held_take (i := 4) (d := 112) (v := ?_) rfl rfl (by kernel_rfl) (by kernel_rfl) (by kernel_rfl) (fun _ _ _ h => h) (Or.inl ⟨by rfl, ?_⟩) (by assumption) ?_
      rotate_left
      · (intro w hSw; (try dsimp only at hSw); go_simp; (try with_reducible rfl))
      (try simp only [List.set_cons_zero, List.set_cons_succ])
      refine held_take (i := 5) (d := 113) (v := ?_) rfl rfl (by kernel_rfl) (by kernel_rfl) (by kernel_rfl) (fun _ _ _ h => h) (Or.inl ⟨by rfl, ?_⟩) (by assumption) ?_
      rotate_left
      · (intro w hSw; (try dsimp only at hSw); go_simp; (try with_reducible rfl))
      (try simp only [List.set_cons_zero, List.set_cons_succ])
      refine held_take (i := 6) (d := 114) (v := ?_) rfl rfl (by kernel_rfl) (by kernel_rfl) (by kernel_rfl) (fun _ _ _ h => h) (Or.inl ⟨by rfl, ?_⟩) (by assumption) ?_
      rotate_left
      · (intro w hSw; (try dsimp only at hSw); go_simp; (try with_reducible rfl))
      (try simp only [List.set_cons_zero, List.set_cons_succ])
      refine held_take (i := 7) (d := 115) (v := ?_) rfl rfl (by kernel_rfl) (by kernel_rfl) (by kernel_rfl) (fun _ _ _ h => h) (Or.inl ⟨by rfl, ?_⟩) (by assumption) ?_
      rotate_left
      · (intro w hSw; (try dsimp only at hSw); go_simp; (try with_reducible rfl))
      (try simp only [List.set_cons_zero, List.set_cons_succ])
      refine held_take (i := 8) (d := 116) (v := ?_) rfl rfl (by kernel_rfl) (by kernel_rfl) (by kernel_rfl) (fun _ _ _ h => h) (Or.inl ⟨by rfl, ?_⟩) (by assumption) ?_
      rotate_left
      · (intro w hSw; (try dsimp only at hSw); go_simp; (try with_reducible rfl))
      (try simp only [List.set_cons_zero, List.set_cons_succ])
      refine held_take (i := 9) (d := 117) (v := ?_) rfl rfl (by kernel_rfl) (by kernel_rfl) (by kernel_rfl) (fun _ _ _ h => h) (Or.inl ⟨by rfl, ?_⟩) (by assumption) ?_
      rotate_left
      · (intro w hSw; (try dsimp only at hSw); go_simp; (try with_reducible rfl))
      (try simp only [List.set_cons_zero, List.set_cons_succ])
      refine wpAnyH_ready (rs := [10]) (by kernel_rfl) (by simp) ?_
      refine AllReadyH.cons rfl (fun K hK => ?_) AllReadyH.nil
      go_simp
      refine (mi_and hL.ms (by omega) _ _).mono ?_; rintro e wz ⟨A9, rfl, hm9, hf9⟩; replace hL := hL.step hm9 hf9; clear hm9 hf9
      go_wp2_with fail
      refine hK.out _ _ ?_ (fun hHeld => ?_)
      · (try dsimp only); exact ⟨HA.out _ _ (by first | exact hL.fm | exact (hL.grew ((Bl.refl _).drew)).fm | exact (hL.grew ((Bl.refl _).alloc _)).fm), HB.out _ _ (by first | exact hL.fm | exact (hL.grew ((Bl.refl _).drew)).fm | exact (hL.grew ((Bl.refl _).alloc _)).fm)⟩
      clear hK K
      (try simp only [Act.put]); (try simp only [List.setIfInBounds_toArray]); (try simp only [List.set_cons_succ]); (try simp only [List.set_cons_zero])
      refine wpAnyH_ready (rs := [11]) (by kernel_rfl) (by simp) ?_
      refine AllReadyH.cons rfl (fun K hK => ?_) AllReadyH.nil
      go_simp
      refine hK.out _ _ ?_ (fun hHeld => ?_)
      · (try dsimp only); exact ⟨HA.out _ _ (by first | exact hL.fm | exact (hL.grew ((Bl.refl _).drew)).fm | exact (hL.grew ((Bl.refl _).alloc _)).fm), HB.out _ _ (by first | exact hL.fm | exact (hL.grew ((Bl.refl _).drew)).fm | exact (hL.grew ((Bl.refl _).alloc _)).fm)⟩
      clear hK K
      (try simp only [Act.put]); (try simp only [List.setIfInBounds_toArray]); (try simp only [List.set_cons_succ]); (try simp only [List.set_cons_zero])
      refine wpAnyH_ready (rs := [12]) (by kernel_rfl) (by simp) ?_
      refine AllReadyH.cons rfl (fun K hK => ?_) AllReadyH.nil
      refine ap_int_step rfl rfl rfl (hL.own.alloc _) rfl (rd_new1 _ _ _) (by omega) (by have := hL.fm.size; simp; omega) ?_; intro S9 c9 wz ho9 hg9 hat9; replace hL := hL.app hxl ho9 hg9 hat9; clear ho9 hg9 hat9
      refine hK.out _ _ ?_ (fun hHeld => ?_)
      · (try dsimp only); exact ⟨HA.out _ _ (by first | exact hL.fm | exact (hL.grew ((Bl.refl _).drew)).fm | exact (hL.grew ((Bl.refl _).alloc _)).fm), HB.out _ _ (by first | exact hL.fm | exact (hL.grew ((Bl.refl _).drew)).fm | exact (hL.grew ((Bl.refl _).alloc _)).fm)⟩
      clear hK K
      (try simp only [Act.put]); (try simp only [List.setIfInBounds_toArray]); (try simp only [List.set_cons_succ]); (try simp only [List.set_cons_zero])
      refine held_take (i := 13) (d := 16) (v := ?_) rfl rfl (by kernel_rfl) (by kernel_rfl) (by kernel_rfl) (fun _ _ _ h => h) (Or.inl ⟨by rfl, ?_⟩) (by assumption) ?_
      rotate_left
      · (intro w hSw; (try dsimp only at hSw); go_simp; (try with_reducible rfl))
      (try simp only [List.set_cons_zero, List.set_cons_succ])
      refine wpAnyH_done (by kernel_rfl) ?_ _
      have hva1 := HA.out _ _ hL.fm
      have hvb1 := HB.out _ _ hL.fm
      go_wp2_with fail
      go_roundw
      case rel => exact ⟨k + 1, _, _, _, _, _, _, by omega, rfl, by go_num, by have := HN.out; omega, HS, hL⟩
      case measure => simp [intOf]; omega
    · have ik : ¬ ((k : Int) < N) := by omega
      have hkn : k = N := by omega
      subst hkn
      have HS := hSt
      clear hLa hLb hSt
      go_wp2_with fail
      go_ret
      rw [HS.out]
      exact hL.res
set_option maxRecDepth 20000 in
set_option maxHeartbeats 4000000 in
theorem impl_two_xor {w : World} {X : Mx} {n : Nat} {g : List Gt} {A : Option Addr} (h : ME 117 X w n g A) (Sa Sb : Option Addr) (N ca cb : Nat) (la lb : List Int) (hLa : Lx w X.x A Sa N ca la) (hLb : Lx w X.x A Sb N cb lb) (hN0 : 0 < N) (hN4 : N ≤ 4) (hn : n ≤ 300) :
    Calls Tryz.prog 139 #[.pointer (some ⟨X.x, 0, none⟩), .string ⟨#[94]⟩, .slice Sa N ca, .slice Sb N cb] w (ResE 117 X w A (twoS mulI X.t ⟨#[94]⟩ la lb g).1 (twoS mulI X.t ⟨#[94]⟩ la lb g).2) := by
  have hlen := hLa.rd.length
  have hxl := h.lt
  have hBl : ∀ k, X.B.map (·.block) = some k → k < w.heap.size := fun k e => (h.os.blk k e).2
  have HE := Lib.hid (show twoS mulI X.t ⟨#[94]⟩ la lb g = bitS 1 X.t la lb g N by unfold twoS; rw [hlen]; rfl)
  rw [HE.out]
  clear hlen
  have hL0 := LE.made h
  go_enter Tryz.func139, Tryz.ntmps139
  go_wp2_with fail
  go_loopw [16, 76] (fun o i wr => ∃ (k n1 c : Nat) (A1 S : Option Addr) (g1 : List Gt) (l : List Int), k ≤ N ∧ o = .slice S k c ∧ i = .int .i64 (k : Nat) ∧ n1 ≤ n + 7 * k ∧ Hid (bitS 1 X.t la lb g k = (g1, l)) ∧ LE 117 X w wr A A1 n1 g1 S k c l) (fun _ i _ => N - (intOf i).toNat)
  case atStart => exact ⟨0, n, 0, A, _, g, [], by omega, rfl, rfl, by omega, Lib.hid rfl, hL0⟩
  case round =>
    clear hL0
    obtain ⟨k, n1, c, A1, S, g1, l, hk, rfl, rfl, hn1, hSt, hL⟩ := hrel
    by_cases hlt : k < N
    · have ik : (k : Int) < N := by omega
      obtain ⟨ada, va, rfl, hea, hva⟩ := hLa.at_ hlt
      obtain ⟨adb, vb, rfl, heb, hvb⟩ := hLb.at_ hlt
      have hva1 := hva _ _ hL.fm
      have hvb1 := hvb _ _ hL.fm
      have HN := Lib.hid hn1
      have HB := Lib.hid hvb
      have HA := Lib.hid hva
      have HS := Lib.hid (bitS_1 hSt.out hL.ms.len hea heb)
      clear hva hvb hLa hLb hSt hea heb
      go_wp2_with fail
      refine wp_region_held_drew (S := (fun w' => w'.cell? (ada.add k) = some (.int .i64 va) ∧ w'.cell? (adb.add k) = some (.int .i64 vb))) (by kernel_rfl) ?_ (fun hHeld => ?_)
      · (try dsimp only); exact ⟨HA.out _ _ (by first | exact hL.fm | exact (hL.grew ((Bl.refl _).drew)).fm | exact (hL.grew ((Bl.refl _).alloc _)).fm), HB.out _ _ (by first | exact hL.fm | exact (hL.grew ((Bl.refl _).drew)).fm | exact (hL.grew ((Bl.refl _).alloc _)).fm)⟩
      replace hL := hL.grew ((Bl.refl _).drew)
      clear hva1 hvb1
      refine held_take (i := 0) (d := 123) (v := ?_) rfl rfl (by kernel_rfl) (by kernel_rfl) (by kernel_rfl) (fun _ _ _ h => h) (Or.inl ⟨by rfl, ?_⟩) (by assumption) ?_
      rotate_left
      · (intro w hSw; (try dsimp only at hSw); go_simp; (try with_reducible rfl))
      (try simp only [List.set_cons_zero, List.set_cons_succ])
      refine held_take (i := 1) (d := 124) (v := ?_) rfl rfl (by kernel_rfl) (by kernel_rfl) (by kernel_rfl) (fun _ _ _ h => h) (Or.inl ⟨by rfl, ?_⟩) (by assumption) ?_
      rotate_left
      · (intro w hSw; (try dsimp only at hSw); go_simp; (try with_reducible rfl))
      (try simp only [List.set_cons_zero, List.set_cons_succ])
      refine held_take (i := 2) (d := 125) (v := ?_) rfl rfl (by kernel_rfl) (by kernel_rfl) (by kernel_rfl) (fun _ _ _ h => h) (Or.inl ⟨by rfl, ?_⟩) (by assumption) ?_
      rotate_left
      · (intro w hSw; (try dsimp only at hSw); go_simp; (try with_reducible rfl))
      (try simp only [List.set_cons_zero, List.set_cons_succ])
      refine held_take (i := 3) (d := 126) (v := ?_) rfl rfl (by kernel_rfl) (by kernel_rfl) (by kernel_rfl) (fun _ _ _ h => h) (Or.inl ⟨by rfl, ?_⟩) (by assumption) ?_
      rotate_left
      · (intro w hSw; (try dsimp only at hSw); go_simp; (try with_reducible rfl))
      (try simp only [List.set_cons_zero, List.set_cons_succ])
      refine held_take (i := 4) (d := 127) (v := ?_) rfl rfl (by kernel_rfl) (by kernel_rfl) (by kernel_rfl) (fun _ _ _ h => h) (Or.inl ⟨by rfl, ?_⟩) (by assumption) ?_
      rotate_left
      · (intro w hSw; (try dsimp only at hSw); go_simp; (try with_reducible rfl))
      (try simp only [List.set_cons_zero, List.set_cons_succ])
      refine held_take (i := 5) (d := 128) (v := ?_) rfl rfl (by kernel_rfl) (by kernel_rfl) (by kernel_rfl) (fun _ _ _ h => h) (Or.inl ⟨by rfl, ?_⟩) (by assumption) ?_
      rotate_left
      · (intro w hSw; (try dsimp only at hSw); go_simp; (try with_reducible rfl))
      (try simp only [List.set_cons_zero, List.set_cons_succ])
      refine held_take (i := 6) (d := 129) (v := ?_) rfl rfl (by kernel_rfl) (by kernel_rfl) (by kernel_rfl) (fun _ _ _ h => h) (Or.inl ⟨by rfl, ?_⟩) (by assumption) ?_
      rotate_left
      · (intro w hSw; (try dsimp only at hSw); go_simp; (try with_reducible rfl))
      (try simp only [List.set_cons_zero, List.set_cons_succ])
      refine held_take (i := 7) (d := 130) (v := ?_) rfl rfl (by kernel_rfl) (by kernel_rfl) (by kernel_rfl) (fun _ _ _ h => h) (Or.inl ⟨by rfl, ?_⟩) (by assumption) ?_
      rotate_left
      · (intro w hSw; (try dsimp only at hSw); go_simp; (try with_reducible rfl))
      (try simp only [List.set_cons_zero, List.set_cons_succ])
      refine held_take (i := 8) (d := 131) (v := ?_) rfl rfl (by kernel_rfl) (by kernel_rfl) (by kernel_rfl) (fun _ _ _ h => h) (Or.inl ⟨by rfl, ?_⟩) (by assumption) ?_
      rotate_left
      · (intro w hSw; (try dsimp only at hSw); go_simp; (try with_reducible rfl))
      (try simp only [List.set_cons_zero, List.set_cons_succ])
      refine held_take (i := 9) (d := 132) (v := ?_) rfl rfl (by kernel_rfl) (by kernel_rfl) (by kernel_rfl) (fun _ _ _ h => h) (Or.inl ⟨by rfl, ?_⟩) (by assumption) ?_
      rotate_left
      · (intro w hSw; (try dsimp only at hSw); go_simp; (try with_reducible rfl))
      (try simp only [List.set_cons_zero, List.set_cons_succ])
      refine wpAnyH_ready (rs := [10]) (by kernel_rfl) (by simp) ?_
      refine AllReadyH.cons rfl (fun K hK => ?_) AllReadyH.nil
      go_simp
      refine (mi_xor hL.ms (by omega) _ _).mono ?_; rintro e wz ⟨A9, rfl, hm9, hf9⟩; replace hL := hL.step hm9 hf9; clear hm9 hf9
      go_wp2_with fail
      refine hK.out _ _ ?_ (fun hHeld => ?_)
      · (try dsimp only); exact ⟨HA.out _ _ (by first | exact hL.fm | exact (hL.grew ((Bl.refl _).drew)).fm | exact (hL.grew ((Bl.refl _).alloc _)).fm), HB.out _ _ (by first | exact hL.fm | exact (hL.grew ((Bl.refl _).drew)).fm | exact (hL.grew ((Bl.refl _).alloc _)).fm)⟩
      clear hK K
      (try simp only [Act.put]); (try simp only [List.setIfInBounds_toArray]); (try simp only [List.set_cons_succ]); (try simp only [List.set_cons_zero])
      refine wpAnyH_ready (rs := [11]) (by kernel_rfl) (by simp) ?_
      refine AllReadyH.cons rfl (fun K hK => ?_) AllReadyH.nil
      go_simp
      refine hK.out _ _ ?_ (fun hHeld => ?_)
      · (try dsimp only); exact ⟨HA.out _ _ (by first | exact hL.fm | exact (hL.grew ((Bl.refl _).drew)).fm | exact (hL.grew ((Bl.refl _).alloc _)).fm), HB.out _ _ (by first | exact hL.fm | exact (hL.grew ((Bl.refl _).drew)).fm | exact (hL.grew ((Bl.refl _).alloc _)).fm)⟩
      clear hK K
      (try simp only [Act.put]); (try simp only [List.setIfInBounds_toArray]); (try simp only [List.set_cons_succ]); (try simp only [List.set_cons_zero])
      refine wpAnyH_ready (rs := [12]) (by kernel_rfl) (by simp) ?_
      refine AllReadyH.cons rfl (fun K hK => ?_) AllReadyH.nil
      refine ap_int_step rfl rfl rfl (hL.own.alloc _) rfl (rd_new1 _ _ _) (by omega) (by have := hL.fm.size; simp; omega) ?_; intro S9 c9 wz ho9 hg9 hat9; replace hL := hL.app hxl ho9 hg9 hat9; clear ho9 hg9 hat9
      refine hK.out _ _ ?_ (fun hHeld => ?_)
      · (try dsimp only); exact ⟨HA.out _ _ (by first | exact hL.fm | exact (hL.grew ((Bl.refl _).drew)).fm | exact (hL.grew ((Bl.refl _).alloc _)).fm), HB.out _ _ (by first | exact hL.fm | exact (hL.grew ((Bl.refl _).drew)).fm | exact (hL.grew ((Bl.refl _).alloc _)).fm)⟩
      clear hK K
      (try simp only [Act.put]); (try simp only [List.setIfInBounds_toArray]); (try simp only [List.set_cons_succ]); (try simp only [List.set_cons_zero])
      refine held_take (i := 13) (d := 16) (v := ?_) rfl rfl (by kernel_rfl) (by kernel_rfl) (by kernel_rfl) (fun _ _ _ h => h) (Or.inl ⟨by rfl, ?_⟩) (by assumption) ?_
      rotate_left
      · (intro w hSw; (try dsimp only at hSw); go_simp; (try with_reducible rfl))
      (try simp only [List.set_cons_zero, List.set_cons_succ])
      refine wpAnyH_done (by kernel_rfl) ?_ _
      have hva1 := HA.out _ _ hL.fm
      have hvb1 := HB.out _ _ hL.fm
      go_wp2_with fail
      go_roundw
      case rel => exact ⟨k + 1, _, _, _, _, _, _, by omega, rfl, by go_num, by have := HN.out; omega, HS, hL⟩
      case measure => simp [intOf]; omega
    · have ik : ¬ ((k : Int) < N) := by omega
      have hkn : k = N := by omega
      subst hkn
      have HS := hSt
      clear hLa hLb hSt
      go_wp2_with fail
      go_ret
      rw [HS.out]
      exact hL.res
set_option maxRecDepth 20000 in
set_option maxHeartbeats 4000000 in
theorem impl_two_or {w : World} {X : Mx} {n : Nat} {g : List Gt} {A : Option Addr} (h : ME 117 X w n g A) (Sa Sb : Option Addr) (N ca cb : Nat) (la lb : List Int) (hLa : Lx w X.x A Sa N ca la) (hLb : Lx w X.x A Sb N cb lb) (hN0 : 0 < N) (hN4 : N ≤ 4) (hn : n ≤ 300) :
    Calls Tryz.prog 139 #[.pointer (some ⟨X.x, 0, none⟩), .string ⟨#[124]⟩, .slice Sa N ca, .slice Sb N cb] w (ResE 117 X w A (twoS mulI X.t ⟨#[124]⟩ la lb g).1 (twoS mulI X.t ⟨#[124]⟩ la lb g).2) := by
  have hlen := hLa.rd.length
  have hxl := h.lt
  have hBl : ∀ k, X.B.map (·.block) = some k → k < w.heap.size := fun k e => (h.os.blk k e).2
  have HE := Lib.hid (show twoS mulI X.t ⟨#[124]⟩ la lb g = bitS 2 X.t la lb g N by unfold twoS; rw [hlen]; rfl)
  rw [HE.out]
  clear hlen
  have hL0 := LE.made h
  go_enter Tryz.func139, Tryz.ntmps139
  go_wp2_with fail
  go_loopw [16, 76] (fun o i wr => ∃ (k n1 c : Nat) (A1 S : Option Addr) (g1 : List Gt) (l : List Int), k ≤ N ∧ o = .slice S k c ∧ i = .int .i64 (k : Nat) ∧ n1 ≤ n + 7 * k ∧ Hid (bitS 2 X.t la lb g k = (g1, l)) ∧ LE 117 X w wr A A1 n1 g1 S k c l) (fun _ i _ => N - (intOf i).toNat)
  case atStart => exact ⟨0, n, 0, A, _, g, [], by omega, rfl, rfl, by omega, Lib.hid rfl, hL0⟩
  case round =>
    clear hL0
    obtain ⟨k, n1, c, A1, S, g1, l, hk, rfl, rfl, hn1, hSt, hL⟩ := hrel
    by_cases hlt : k < N
    · have ik : (k : Int) < N := by omega
      obtain ⟨ada, va, rfl, hea, hva⟩ := hLa.at_ hlt
      obtain ⟨adb, vb, rfl, heb, hvb⟩ := hLb.at_ hlt
      have hva1 := hva _ _ hL.fm
      have hvb1 := hvb _ _ hL.fm
      have HN := Lib.hid hn1
      have HB := Lib.hid hvb
      have HA := Lib.hid hva
      have HS := Lib.hid (bitS_2 hSt.out hL.ms.len hea heb)
      clear hva hvb hLa hLb hSt hea heb
      go_wp2_with fail
      refine wp_region_held_drew (S := (fun w' => w'.cell? (ada.add k) = some (.int .i64 va) ∧ w'.cell? (adb.add k) = some (.int .i64 vb))) (by kernel_rfl) ?_ (fun hHeld => ?_)
      · (try dsimp only); exact ⟨HA.out _ _ (by first | exact hL.fm | exact (hL.grew ((Bl.refl _).drew)).fm | exact (hL.grew ((Bl.refl _).alloc _)).fm), HB.out _ _ (by first | exact hL.fm | exact (hL.grew ((Bl.refl _).drew)).fm | exact (hL.grew ((Bl.refl _).alloc _)).fm)⟩
      replace hL := hL.grew ((Bl.refl _).drew)
      clear hva1 hvb1
      refine held_take (i := 0) (d := 80) (v := ?_) rfl rfl (by kernel_rfl) (by kernel_rfl) (by kernel_rfl) (fun _ _ _ h => h) (Or.inl ⟨by rfl, ?_⟩) (by assumption) ?_
      rotate_left
      · (intro w hSw; (try dsimp only at hSw); go_simp; (try with_reducible rfl))
      (try simp only [List.set_cons_zero, List.set_cons_succ])
      refine held_take (i := 1) (d := 81) (v := ?_) rfl rfl (by kernel_rfl) (by kernel_rfl) (by kernel_rfl) (fun _ _ _ h => h) (Or.inl ⟨by rfl, ?_⟩) (by assumption) ?_
      rotate_left
      · (intro w hSw; (try dsimp only at hSw); go_simp; (try with_reducible rfl))
      (try simp only [List.set_cons_zero, List.set_cons_succ])
      refine held_take (i := 2) (d := 82) (v := ?_) rfl rfl (by kernel_rfl) (by kernel_rfl) (by kernel_rfl) (fun _ _ _ h => h) (Or.inl ⟨by rfl, ?_⟩) (by assumption) ?_
      rotate_left
      · (intro w hSw; (try dsimp only at hSw); go_simp; (try with_reducible rfl))
      (try simp only [List.set_cons_zero, List.set_cons_succ])
      refine held_take (i := 3) (d := 83) (v := ?_) rfl rfl (by kernel_rfl) (by kernel_rfl) (by kernel_rfl) (fun _ _ _ h => h) (Or.inl ⟨by rfl, ?_⟩) (by assumption) ?_
      rotate_left
      · (intro w hSw; (try dsimp only at hSw); go_simp; (try with_reducible rfl))
      (try simp only [List.set_cons_zero, List.set_cons_succ])
      refine held_take (i := 4) (d := 84) (v := ?_) rfl rfl (by kernel_rfl) (by kernel_rfl) (by kernel_rfl) (fun _ _ _ h => h) (Or.inl ⟨by rfl, ?_⟩) (by assumption) ?_
      rotate_left
      · (intro w hSw; (try dsimp only at hSw); go_simp; (try with_reducible rfl))
      (try simp only [List.set_cons_zero, List.set_cons_succ])
      refine held_take (i := 5) (d := 85) (v := ?_) rfl rfl (by kernel_rfl) (by kernel_rfl) (by kernel_rfl) (fun _ _ _ h => h) (Or.inl ⟨by rfl, ?_⟩) (by assumption) ?_
      rotate_left
      · (intro w hSw; (try dsimp only at hSw); go_simp; (try with_reducible rfl))
      (try simp only [List.set_cons_zero, List.set_cons_succ])
      refine held_take (i := 6) (d := 86) (v := ?_) rfl rfl (by kernel_rfl) (by kernel_rfl) (by kernel_rfl) (fun _ _ _ h => h) (Or.inl ⟨by rfl, ?_⟩) (by assumption) ?_
      rotate_left
      · (intro w hSw; (try dsimp only at hSw); go_simp; (try with_reducible rfl))
      (try simp only [List.set_cons_zero, List.set_cons_succ])
      refine held_take (i := 7) (d := 87) (v := ?_) rfl rfl (by kernel_rfl) (by kernel_rfl) (by kernel_rfl) (fun _ _ _ h => h) (Or.inl ⟨by rfl, ?_⟩) (by assumption) ?_
      rotate_left
      · (intro w hSw; (try dsimp only at hSw); go_simp; (try with_reducible rfl))
      (try simp only [List.set_cons_zero, List.set_cons_succ])
      refine held_take (i := 8) (d := 88) (v := ?_) rfl rfl (by kernel_rfl) (by kernel_rfl) (by kernel_rfl) (fun _ _ _ h => h) (Or.inl ⟨by rfl, ?_⟩) (by assumption) ?_
      rotate_left
      · (intro w hSw; (try dsimp only at hSw); go_simp; (try with_reducible rfl))
      (try simp only [List.set_cons_zero, List.set_cons_succ])
      refine wpAnyH_ready (rs := [9]) (by kernel_rfl) (by simp) ?_
      refine AllReadyH.cons rfl (fun K hK => ?_) AllReadyH.nil
      go_simp
      refine (mi_xor hL.ms (by omega) _ _).mono ?_; rintro e wz ⟨A9, rfl, hm9, hf9⟩; replace hL := hL.step hm9 hf9; clear hm9 hf9
      go_wp2_with fail
      refine hK.out _ _ ?_ (fun hHeld => ?_)
      · (try dsimp only); exact ⟨HA.out _ _ (by first | exact hL.fm | exact (hL.grew ((Bl.refl _).drew)).fm | exact (hL.grew ((Bl.refl _).alloc _)).fm), HB.out _ _ (by first | exact hL.fm | exact (hL.grew ((Bl.refl _).drew)).fm | exact (hL.grew ((Bl.refl _).alloc _)).fm)⟩
      clear hK K
      (try simp only [Act.put]); (try simp only [List.setIfInBounds_toArray]); (try simp only [List.set_cons_succ]); (try simp only [List.set_cons_zero])
      refine held_take (i := 10) (d := 18) (v := ?_) rfl rfl (by kernel_rfl) (by kernel_rfl) (by kernel_rfl) (fun _ _ _ h => h) (Or.inl ⟨by rfl, ?_⟩) (by assumption) ?_
      rotate_left
      · (intro w hSw; (try dsimp only at hSw); go_simp; (try with_reducible rfl))
      (try simp only [List.set_cons_zero, List.set_cons_succ])
      refine wpAnyH_done (by kernel_rfl) ?_ _
      have hva1 := HA.out _ _ hL.fm
      have hvb1 := HB.out _ _ hL.fm
      go_wp2_with fail
      refine wp_region_held_drew (S := (fun w' => w'.cell? (ada.add k) = some (.int .i64 va) ∧ w'.cell? (adb.add k) = some (.int .i64 vb))) (by kernel_rfl) ?_ (fun hHeld => ?_)
      · (try dsimp only); exact ⟨HA.out _ _ (by first | exact hL.fm | exact (hL.grew ((Bl.refl _).drew)).fm | exact (hL.grew ((Bl.refl _).alloc _)).fm), HB.out _ _ (by first | exact hL.fm | exact (hL.grew ((Bl.refl _).drew)).fm | exact (hL.grew ((Bl.refl _).alloc _)).fm)⟩
      replace hL := hL.grew ((Bl.refl _).drew)
      clear hva1 hvb1
      refine held_take (i := 0) (d := 90) (v := ?_) rfl rfl (by kernel_rfl) (by kernel_rfl) (by kernel_rfl) (fun _ _ _ h => h) (Or.inl ⟨by rfl, ?_⟩) (by assumption) ?_
      rotate_left
      · (intro w hSw; (try dsimp only at hSw); go_simp; (try with_reducible rfl))
      (try simp only [List.set_cons_zero, List.set_cons_succ])
      refine held_take (i := 1) (d := 91) (v := ?_) rfl rfl (by kernel_rfl) (by kernel_rfl) (by kernel_rfl) (fun _ _ _ h => h) (Or.inl ⟨by rfl, ?_⟩) (by assumption) ?_
      rotate_left
      · (intro w hSw; (try dsimp only at hSw); go_simp; (try with_reducible rfl))
      (try simp only [List.set_cons_zero, List.set_cons_succ])
      refine held_take (i := 2) (d := 92) (v := ?_) rfl rfl (by kernel_rfl) (by kernel_rfl) (by kernel_rfl) (fun _ _ _ h => h) (Or.inl ⟨by rfl, ?_⟩) (by assumption) ?_
      rotate_left
      · (intro w hSw; (try dsimp only at hSw); go_simp; (try with_reducible rfl))
      (try simp only [List.set_cons_zero, List.set_cons_succ])
      refine held_take (i := 3) (d := 93) (v := ?_) rfl rfl (by kernel_rfl) (by kernel_rfl) (by kernel_rfl) (fun _ _ _ h => h) (Or.inl ⟨by rfl, ?_⟩) (by assumption) ?_
      rotate_left
      · (intro w hSw; (try dsimp only at hSw); go_simp; (try with_reducible rfl))
      (try simp only [List.set_cons_zero, List.set_cons_succ])
      refine held_take (i := 4) (d := 94) (v := ?_) rfl rfl (by kernel_rfl) (by kernel_rfl) (by kernel_rfl) (fun _ _ _ h => h) (Or.inl ⟨by rfl, ?_⟩) (by assumption) ?_
      rotate_left
      · (intro w hSw; (try dsimp only at hSw); go_simp; (try with_reducible rfl))
      (try simp only [List.set_cons_zero, List.set_cons_succ])
      refine held_take (i := 5) (d := 95) (v := ?_) rfl rfl (by kernel_rfl) (by kernel_rfl) (by kernel_rfl) (fun _ _ _ h => h) (Or.inl ⟨by rfl, ?_⟩) (by assumption) ?_
      rotate_left
      · (intro w hSw; (try dsimp only at hSw); go_simp; (try with_reducible rfl))
      (try simp only [List.set_cons_zero, List.set_cons_succ])
      refine held_take (i := 6) (d := 96) (v := ?_) rfl rfl (by kernel_rfl) (by kernel_rfl) (by kernel_rfl) (fun _ _ _ h => h) (Or.inl ⟨by rfl, ?_⟩) (by assumption) ?_
      rotate_left
      · (intro w hSw; (try dsimp only at hSw); go_simp; (try with_reducible rfl))
      (try simp only [List.set_cons_zero, List.set_cons_succ])
      refine held_take (i := 7) (d := 97) (v := ?_) rfl rfl (by kernel_rfl) (by kernel_rfl) (by kernel_rfl) (fun _ _ _ h => h) (Or.inl ⟨by rfl, ?_⟩) (by assumption) ?_
      rotate_left
      · (intro w hSw; (try dsimp only at hSw); go_simp; (try with_reducible rfl))
      (try simp only [List.set_cons_zero, List.set_cons_succ])
      refine held_take (i := 8) (d := 98) (v := ?_) rfl rfl (by kernel_rfl) (by kernel_rfl) (by kernel_rfl) (fun _ _ _ h => h) (Or.inl ⟨by rfl, ?_⟩) (by assumption) ?_
      rotate_left
      · (intro w hSw; (try dsimp only at hSw); go_simp; (try with_reducible rfl))
      (try simp only [List.set_cons_zero, List.set_cons_succ])
      refine held_take (i := 9) (d := 99) (v := ?_) rfl rfl (by kernel_rfl) (by kernel_rfl) (by kernel_rfl) (fun _ _ _ h => h) (Or.inl ⟨by rfl, ?_⟩) (by assumption) ?_
      rotate_left
      · (intro w hSw; (try dsimp only at hSw); go_simp; (try with_reducible rfl))
      (try simp only [List.set_cons_zero, List.set_cons_succ])
      refine held_take (i := 10) (d := 100) (v := ?_) rfl rfl (by kernel_rfl) (by kernel_rfl) (by kernel_rfl) (fun _ _ _ h => h) (Or.inl ⟨by rfl, ?_⟩) (by assumption) ?_
      rotate_left
      · (intro w hSw; (try dsimp only at hSw); go_simp; (try with_reducible rfl))
      (try simp only [List.set_cons_zero, List.set_cons_succ])
      refine held_take (i := 11) (d := 101) (v := ?_) rfl rfl (by kernel_rfl) (by kernel_rfl) (by kernel_rfl) (fun _ _ _ h => h) (Or.inl ⟨by rfl, ?_⟩) (by assumption) ?_
      rotate_left
      · (intro w hSw; (try dsimp only at hSw); go_simp; (try with_reducible rfl))
      (try simp only [List.set_cons_zero, List.set_cons_succ])
      refine wpAnyH_ready (rs := [12]) (by kernel_rfl) (by simp) ?_
      refine AllReadyH.cons rfl (fun K hK => ?_) AllReadyH.nil
      go_simp
      refine (mi_and hL.ms (by omega) _ _).mono ?_; rintro e wz ⟨A9, rfl, hm9, hf9⟩; replace hL := hL.step hm9 hf9; clear hm9 hf9
      go_wp2_with fail
      refine hK.out _ _ ?_ (fun hHeld => ?_)
      · (try dsimp only); exact ⟨HA.out _ _ (by first | exact hL.fm | exact (hL.grew ((Bl.refl _).drew)).fm | exact (hL.grew ((Bl.refl _).alloc _)).fm), HB.out _ _ (by first | exact hL.fm | exact (hL.grew ((Bl.refl _).drew)).fm | exact (hL.grew ((Bl.refl _).alloc _)).fm)⟩
      clear hK K
      (try simp only [Act.put]); (try simp only [List.setIfInBounds_toArray]); (try simp only [List.set_cons_succ]); (try simp only [List.set_cons_zero])
      refine wpAnyH_ready (rs := [13]) (by kernel_rfl) (by simp) ?_
      refine AllReadyH.cons rfl (fun K hK => ?_) AllReadyH.nil
      go_simp
      refine (mi_xor hL.ms (by omega) _ _).mono ?_; rintro e wz ⟨A9, rfl, hm9, hf9⟩; replace hL := hL.step hm9 hf9; clear hm9 hf9
      go_wp2_with fail
      refine hK.out _ _ ?_ (fun hHeld => ?_)
      · (try dsimp only); exact ⟨HA.out _ _ (by first | exact hL.fm | exact (hL.grew ((Bl.refl _).drew)).fm | exact (hL.grew ((Bl.refl _).alloc _)).fm), HB.out _ _ (by first | exact hL.fm | exact (hL.grew ((Bl.refl _).drew)).fm | exact (hL.grew ((Bl.refl _).alloc _)).fm)⟩
      clear hK K
      (try simp only [Act.put]); (try simp only [List.setIfInBounds_toArray]); (try simp only [List.set_cons_succ]); (try simp only [List.set_cons_zero])
      refine wpAnyH_ready (rs := [14]) (by kernel_rfl) (by simp) ?_
      refine AllReadyH.cons rfl (fun K hK => ?_) AllReadyH.nil
      go_simp
      refine hK.out _ _ ?_ (fun hHeld => ?_)
      · (try dsimp only); exact ⟨HA.out _ _ (by first | exact hL.fm | exact (hL.grew ((Bl.refl _).drew)).fm | exact (hL.grew ((Bl.refl _).alloc _)).fm), HB.out _ _ (by first | exact hL.fm | exact (hL.grew ((Bl.refl _).drew)).fm | exact (hL.grew ((Bl.refl _).alloc _)).fm)⟩
      clear hK K
      (try simp only [Act.put]); (try simp only [List.setIfInBounds_toArray]); (try simp only [List.set_cons_succ]); (try simp only [List.set_cons_zero])
      refine wpAnyH_ready (rs := [15]) (by kernel_rfl) (by simp) ?_
      refine AllReadyH.cons rfl (fun K hK => ?_) AllReadyH.nil
      refine ap_int_step rfl rfl rfl (hL.own.alloc _) rfl (rd_new1 _ _ _) (by omega) (by have := hL.fm.size; simp; omega) ?_; intro S9 c9 wz ho9 hg9 hat9; replace hL := hL.app hxl ho9 hg9 hat9; clear ho9 hg9 hat9
      refine hK.out _ _ ?_ (fun hHeld => ?_)
      · (try dsimp only); exact ⟨HA.out _ _ (by first | exact hL.fm | exact (hL.grew ((Bl.refl _).drew)).fm | exact (hL.grew ((Bl.refl _).alloc _)).fm), HB.out _ _ (by first | exact hL.fm | exact (hL.grew ((Bl.refl _).drew)).fm | exact (hL.grew ((Bl.refl _).alloc _)).fm)⟩
      clear hK K
      (try simp only [Act.put]); (try simp only [List.setIfInBounds_toArray]); (try simp only [List.set_cons_succ]); (try simp only [List.set_cons_zero])
      refine held_take (i := 16) (d := 16) (v := ?_) rfl rfl (by kernel_rfl) (by kernel_rfl) (by kernel_rfl) (fun _ _ _ h => h) (Or.inl ⟨by rfl, ?_⟩) (by assumption) ?_
      rotate_left
      · (intro w hSw; (try dsimp only at hSw); go_simp; (try with_reducible rfl))
      (try simp only [List.set_cons_zero, List.set_cons_succ])
      refine wpAnyH_done (by kernel_rfl) ?_ _
      have hva1 := HA.out _ _ hL.fm
      have hvb1 := HB.out _ _ hL.fm
      go_wp2_with fail
      go_roundw
      case rel => exact ⟨k + 1, _, _, _, _, _, _, by omega, rfl, by go_num, by have := HN.out; omega, HS, hL⟩
      case measure => simp [intOf]; omega
    · have ik : ¬ ((k : Int) < N) := by omega
      have hkn : k = N := by omega
      subst hkn
      have HS := hSt
      clear hLa hLb hSt
      go_wp2_with fail
      go_ret
      rw [HS.out]
      exact hL.res
theorem impl_two {w : World} {X : Mx} {n : Nat} {g : List Gt} {A : Option Addr} (h : ME 117 X w n g A) (op : ByteArray) (ho : op ∈ opsL) (Sa Sb : Option Addr) (N ca cb : Nat) (la lb : List Int) (hLa : Lx w X.x A Sa N ca la) (hLb : Lx w X.x A Sb N cb lb) (hN0 : 0 < N) (hN4 : N ≤ 4) (hn : n ≤ 300) :
    Calls Tryz.prog 139 #[.pointer (some ⟨X.x, 0, none⟩), .string op, .slice Sa N ca, .slice Sb N cb] w (ResE 117 X w A (twoS mulI X.t op la lb g).1 (twoS mulI X.t op la lb g).2) := by
  simp only [opsL, List.mem_cons, List.not_mem_nil, or_false] at ho
  rcases ho with rfl | rfl | rfl | rfl | rfl | rfl | rfl | rfl
  · exact impl_two_add h Sa Sb N ca cb la lb hLa hLb hN0 hN4 hn
  · exact impl_two_sub h Sa Sb N ca cb la lb hLa hLb hN0 hN4 hn
  · exact impl_two_mul h Sa Sb N ca cb la lb hLa hLb hN0 hN4 hn
  · exact impl_two_lss h Sa Sb N ca cb la lb hLa hLb hN0 hN4 hn
  · exact impl_two_eql h Sa Sb N ca cb la lb hLa hLb hN0 hN4 hn
  · exact impl_two_and h Sa Sb N ca cb la lb hLa hLb hN0 hN4 hn
  · exact impl_two_or h Sa Sb N ca cb la lb hLa hLb hN0 hN4 hn
  · exact impl_two_xor h Sa Sb N ca cb la lb hLa hLb hN0 hN4 hn
set_option maxRecDepth 20000 in
set_option maxHeartbeats 4000000 in
theorem spec_two_add {w : World} {X : Mx} {n : Nat} {g : List Gt} {A : Option Addr} (h : ME 102 X w n g A) (Sa Sb : Option Addr) (N ca cb : Nat) (la lb : List Int) (hLa : Lx w X.x A Sa N ca la) (hLb : Lx w X.x A Sb N cb lb) (hN0 : 0 < N) (hN4 : N ≤ 4) (hn : n ≤ 300) :
    Calls Tryz.prog 130 #[.pointer (some ⟨X.x, 0, none⟩), .string ⟨#[43]⟩, .slice Sa N ca, .slice Sb N cb] w (ResE 102 X w A (twoS mulR X.t ⟨#[43]⟩ la lb g).1 (twoS mulR X.t ⟨#[43]⟩ la lb g).2) := by
  have hlen := hLa.rd.length
  have hxl := h.lt
  have hBl : ∀ k, X.B.map (·.block) = some k → k < w.heap.size := fun k e => (h.os.blk k e).2
  have HE := Lib.hid (show twoS mulR X.t ⟨#[43]⟩ la lb g = ((addS X.t la lb g N).1, (addS X.t la lb g N).2.1) by unfold twoS; rw [hlen]; rfl)
  rw [HE.out]
  clear hlen
  obtain ⟨⟨g1, ld, cv⟩, HD⟩ : ∃ p, addS X.t la lb g N = p := ⟨_, rfl⟩
  rw [HD]
  dsimp only
  go_enter Tryz.func130, Tryz.ntmps130
  go_wp2_with fail
  refine (spec_gdAdd h Sa Sb N ca cb la lb hLa hLb (by omega) (by omega)).mono ?_
  rintro e w1 ⟨A1, n1, S, c, rfl, hL⟩
  rw [HD] at hL
  dsimp only at hL
  have hld : ld.length = N := by have := hL.own.length; rw [List.length_append] at this; simpa using this
  have hle := hL.own.rd.le
  have i1 : (N : Int) ≤ ((N + 1 : Nat) : Int) := by omega
  have i2 : ((N + 1 : Nat) : Int) ≤ c := by omega
  have i3 : (N : Int) ≤ c := by omega
  have hC := hL.own.rd.take_ (k := N) (by omega)
  rw [show (ld ++ [cv]).take N = ld by rw [← hld, List.take_left]] at hC
  go_wp2_with fail
  go_ret
  exact ⟨A1, n1, _, _, _, rfl, hL.ms, hL.fm, hC, fun q hq => ⟨(hL.own.blk q hq).1, (hL.own.blk q hq).2, (hL.ap q hq).2⟩⟩
set_option maxRecDepth 20000 in
set_option maxHeartbeats 4000000 in
theorem spec_two_sub {w : World} {X : Mx} {n : Nat} {g : List Gt} {A : Option Addr} (h : ME 102 X w n g A) (Sa Sb : Option Addr) (N ca cb : Nat) (la lb : List Int) (hLa : Lx w X.x A Sa N ca la) (hLb : Lx w X.x A Sb N cb lb) (hN0 : 0 < N) (hN4 : N ≤ 4) (hn : n ≤ 300) :
    Calls Tryz.prog 130 #[.pointer (some ⟨X.x, 0, none⟩), .string ⟨#[45]⟩, .slice Sa N ca, .slice Sb N cb] w (ResE 102 X w A (twoS mulR X.t ⟨#[45]⟩ la lb g).1 (twoS mulR X.t ⟨#[45]⟩ la lb g).2) := by
  have hlen := hLa.rd.length
  have hxl := h.lt
  have hBl : ∀ k, X.B.map (·.block) = some k → k < w.heap.size := fun k e => (h.os.blk k e).2
  have HE := Lib.hid (show twoS mulR X.t ⟨#[45]⟩ la lb g = ((subS X.t la lb g N).1, (subS X.t la lb g N).2.1) by unfold twoS; rw [hlen]; rfl)
  rw [HE.out]
  clear hlen
  obtain ⟨⟨g1, ld, cv⟩, HD⟩ : ∃ p, subS X.t la lb g N = p := ⟨_, rfl⟩
  rw [HD]
  dsimp only
  go_enter Tryz.func130, Tryz.ntmps130
  go_wp2_with fail
  refine (spec_gdSub h Sa Sb N ca cb la lb hLa hLb (by omega) (by omega)).mono ?_
  rintro e w1 ⟨A1, n1, S, c, rfl, hL⟩
  rw [HD] at hL
  dsimp only at hL
  have hld : ld.length = N := by have := hL.own.length; rw [List.length_append] at this; simpa using this
  have hle := hL.own.rd.le
  have i1 : (N : Int) ≤ ((N + 1 : Nat) : Int) := by omega
  have i2 : ((N + 1 : Nat) : Int) ≤ c := by omega
  have i3 : (N : Int) ≤ c := by omega
  have hC := hL.own.rd.take_ (k := N) (by omega)
  rw [show (ld ++ [cv]).take N = ld by rw [← hld, List.take_left]] at hC
  go_wp2_with fail
  go_ret
  exact ⟨A1, n1, _, _, _, rfl, hL.ms, hL.fm, hC, fun q hq => ⟨(hL.own.blk q hq).1, (hL.own.blk q hq).2, (hL.ap q hq).2⟩⟩
set_option maxRecDepth 20000 in
set_option maxHeartbeats 4000000 in
theorem spec_two_lss {w : World} {X : Mx} {n : Nat} {g : List Gt} {A : Option Addr} (h : ME 102 X w n g A) (Sa Sb : Option Addr) (N ca cb : Nat) (la lb : List Int) (hLa : Lx w X.x A Sa N ca la) (hLb : Lx w X.x A Sb N cb lb) (hN0 : 0 < N) (hN4 : N ≤ 4) (hn : n ≤ 300) :
    Calls Tryz.prog 130 #[.pointer (some ⟨X.x, 0, none⟩), .string ⟨#[60]⟩, .slice Sa N ca, .slice Sb N cb] w (ResE 102 X w A (twoS mulR X.t ⟨#[60]⟩ la lb g).1 (twoS mulR X.t ⟨#[60]⟩ la lb g).2) := by
  have hlen := hLa.rd.length
  have hxl := h.lt
  have hBl : ∀ k, X.B.map (·.block) = some k → k < w.heap.size := fun k e => (h.os.blk k e).2
  have HE := Lib.hid (show twoS mulR X.t ⟨#[60]⟩ la lb g = ((subS X.t la lb g N).1, [(subS X.t la lb g N).2.2]) by unfold twoS; rw [hlen]; rfl)
  rw [HE.out]
  clear hlen
  obtain ⟨⟨g1, ld, cv⟩, HD⟩ : ∃ p, subS X.t la lb g N = p := ⟨_, rfl⟩
  rw [HD]
  dsimp only
  go_enter Tryz.func130, Tryz.ntmps130
  go_wp2_with fail
  refine (spec_gdSub h Sa Sb N ca cb la lb hLa hLb (by omega) (by omega)).mono ?_
  rintro e w1 ⟨A1, n1, S, c, rfl, hL⟩
  rw [HD] at hL
  dsimp only at hL
  have hld : ld.length = N := by have := hL.own.length; rw [List.length_append] at this; simpa using this
  have hle := hL.own.rd.le
  have i1 : (N : Int) ≤ ((N + 1 : Nat) : Int) := by omega
  have i2 : ((N + 1 : Nat) : Int) ≤ c := by omega
  have i3 : (N : Int) ≤ c := by omega
  obtain ⟨ga, rfl, hg1, hg2, hgc, hgf⟩ := hL.own.form (by omega)
  have i4 : ¬ c = N := by omega
  have iN : ((N + 1 : Nat) : Int) - N = 1 := by omega
  have hC := hL.own.rd.cut_ (k := N) (by omega) i4 hN0
  rw [show (ld ++ [cv]).drop N = [cv] by rw [← hld, List.drop_left], show N + 1 - N = 1 by omega] at hC
  clear hgc hgf
  go_wp2_with fail
  go_ret
  exact ⟨A1, n1, _, _, _, by first | rfl | (rw [show N + 1 - N = 1 by omega]), hL.ms, hL.fm, hC, fun q hq => by
    injection hq with hq
    have hq : ga = q := hq
    subst hq
    exact ⟨hg1, hg2, (hL.ap ga rfl).2⟩⟩
set_option maxRecDepth 20000 in
set_option maxHeartbeats 4000000 in
theorem spec_two_eql {w : World} {X : Mx} {n : Nat} {g : List Gt} {A : Option Addr} (h : ME 102 X w n g A) (Sa Sb : Option Addr) (N ca cb : Nat) (la lb : List Int) (hLa : Lx w X.x A Sa N ca la) (hLb : Lx w X.x A Sb N cb lb) (hN0 : 0 < N) (hN4 : N ≤ 4) (hn : n ≤ 300) :
    Calls Tryz.prog 130 #[.pointer (some ⟨X.x, 0, none⟩), .string ⟨#[61]⟩, .slice Sa N ca, .slice Sb N cb] w (ResE 102 X w A (twoS mulR X.t ⟨#[61]⟩ la lb g).1 (twoS mulR X.t ⟨#[61]⟩ la lb g).2) := by
  have hlen := hLa.rd.length
  have hxl := h.lt
  have hBl : ∀ k, X.B.map (·.block) = some k → k < w.heap.size := fun k e => (h.os.blk k e).2
  have HE := Lib.hid (show twoS mulR X.t ⟨#[61]⟩ la lb g = ((eqS X.t la lb g N).1, [(eqS X.t la lb g N).2]) by unfold twoS; rw [hlen]; rfl)
  rw [HE.out]
  clear hlen
  obtain ⟨⟨g1, v1⟩, HD⟩ : ∃ p, eqS X.t la lb g N = p := ⟨_, rfl⟩
  rw [HD]
  dsimp only
  go_enter Tryz.func130, Tryz.ntmps130
  go_wp2_with fail
  refine (spec_gdEqual h Sa Sb N ca cb la lb hLa hLb (by omega) hN0 (by omega)).mono ?_
  rintro e w1 ⟨A1, n1, rfl, hm1, hf1⟩
  rw [HD] at hm1 ⊢
  dsimp only at hm1 ⊢
  go_wp2_with fail
  go_ret
  have hO := rd_new1 w1 3 v1 (g := w1.heap.size) rfl
  refine ⟨A1, n1, _, _, _, rfl, hm1.keep ((Bl.refl w1).alloc _), hf1.grew ((Bl.refl w1).alloc _) (Nat.le_of_lt hm1.lt), hO, fun q hq => ?_⟩
  injection hq with hq
  have hq : w1.heap.size = q := hq
  have := hf1.size
  refine ⟨by omega, by simp; omega, fun e => ?_⟩
  have := (hm1.at_ q e).2
  omega
set_option maxRecDepth 20000 in
set_option maxHeartbeats 4000000 in
theorem spec_two_mul {w : World} {X : Mx} {n : Nat} {g : List Gt} {A : Option Addr} (h : ME 102 X w n g A) (Sa Sb : Option Addr) (N ca cb : Nat) (la lb : List Int) (hLa : Lx w X.x A Sa N ca la) (hLb : Lx w X.x A Sb N cb lb) (hN0 : 0 < N) (hN4 : N ≤ 4) (hn : n ≤ 300) :
    Calls Tryz.prog 130 #[.pointer (some ⟨X.x, 0, none⟩), .string ⟨#[42]⟩, .slice Sa N ca, .slice Sb N cb] w (ResE 102 X w A (twoS mulR X.t ⟨#[42]⟩ la lb g).1 (twoS mulR X.t ⟨#[42]⟩ la lb g).2) := by
  have hlen := hLa.rd.length
  have hxl := h.lt
  have hBl : ∀ k, X.B.map (·.block) = some k → k < w.heap.size := fun k e => (h.os.blk k e).2
  have HE := Lib.hid (show twoS mulR X.t ⟨#[42]⟩ la lb g = (if N = 1 then ((mulR X.t la lb g N).1 ++ [⟨3, 0, 0⟩] ++ [⟨2, wn X.t (mulR X.t la lb g N).1.length, 0⟩], (mulR X.t la lb g N).2 ++ [wn X.t ((mulR X.t la lb g N).1.length + 1)]) else mulR X.t la lb g N) by unfold twoS; rw [hlen]; rfl)
  rw [HE.out]
  have HMU := Lib.hid (show ∀ (A1 : Option Addr) (n1 : Nat) (S : Option Addr) (m c : Nat) (w1 : World), LE 102 X w w1 A A1 n1 ((mulT X.t la lb N g N).1) S m c ((mulT X.t la lb N g N).2.1 ++ (mulT X.t la lb N g N).2.2) → LE 102 X w w1 A A1 n1 (mulR X.t la lb g N).1 S m c (mulR X.t la lb g N).2 from fun _ _ _ _ _ _ h => h)
  have HLG := Lib.hid (mul_len_mulR X.t la lb g N hN4)
  obtain ⟨⟨g1, l1⟩, HD⟩ : ∃ p, mulR X.t la lb g N = p := ⟨_, rfl⟩
  rw [HD] at HMU HLG
  rw [HD]
  dsimp only at HMU HLG ⊢
  clear hlen HD
  by_cases hN1 : N = 1
  · rw [if_pos hN1]
    dsimp only
    obtain ⟨G, hG⟩ : ∃ G, G = g1 ++ [⟨3, 0, 0⟩] ++ [⟨2, wn X.t g1.length, 0⟩] := ⟨_, rfl⟩
    obtain ⟨R, hR⟩ : ∃ R, R = l1 ++ [wn X.t (g1.length + 1)] := ⟨_, rfl⟩
    rw [← hG, ← hR]
    have HG := Lib.hid hG
    have HR := Lib.hid hR
    clear hG hR
    have e1 : ((N : Int) == 1) = true := by simp; omega
    have HN1 := Lib.hid hN1
    clear hN1
    go_enter Tryz.func130, Tryz.ntmps130
    go_wp2_with fail
    refine (spec_gdTimes h Sa Sb N ca cb la lb hLa hLb (by omega) hN0 hn).mono ?_
    rintro e w1 ⟨A1, n1, S, m, c, rfl, hL⟩
    replace hL := HMU.out _ _ _ _ _ _ hL
    have hm9 : m + 1 ≤ 1000 := by have h1 := hL.own.length; have := HLG.out.2; omega
    have hn9 : n1 ≤ 800 := by have h1 := hL.ms.len; have := HLG.out.1; have := h.len; omega
    have HLN := Lib.hid hL.ms.len
    go_wp2_with (first | (go_at_call 171; refine (ms_one hL.ms (by omega)).mono ?_; rintro e wz ⟨A9, rfl, hm9, hf9⟩; replace hL := hL.step hm9 hf9; clear hm9 hf9) | (go_at_call 131; refine (ms_not hL.ms (by omega) _).mono ?_; rintro e wz ⟨A9, rfl, hm9, hf9⟩; replace hL := hL.step hm9 hf9; clear hm9 hf9) | (at_builtin; refine ap_int rfl rfl rfl (hL.own.alloc _) rfl (rd_new1 _ _ _) (by omega) (by have := hL.fm.size; simp; omega) ?_; intro S9 c9 wz ho9 hg9 hat9; replace hL := hL.app hxl ho9 hg9 hat9; clear ho9 hg9 hat9))
    go_ret
    exact hL.res.cast (by rw [HG.out, HLN.out]) (by rw [HR.out, HLN.out])
  · rw [if_neg hN1]
    have e1 : ((N : Int) == 1) = false := by simp; omega
    clear hN1
    go_enter Tryz.func130, Tryz.ntmps130
    go_wp2_with fail
    refine (spec_gdTimes h Sa Sb N ca cb la lb hLa hLb (by omega) hN0 hn).mono ?_
    rintro e w1 ⟨A1, n1, S, m, c, rfl, hL⟩
    replace hL := HMU.out _ _ _ _ _ _ hL
    go_wp2_with fail
    go_ret
    exact hL.res
set_option maxRecDepth 20000 in
set_option maxHeartbeats 4000000 in
theorem spec_two_and {w : World} {X : Mx} {n : Nat} {g : List Gt} {A : Option Addr} (h : ME 102 X w n g A) (Sa Sb : Option Addr) (N ca cb : Nat) (la lb : List Int) (hLa : Lx w X.x A Sa N ca la) (hLb : Lx w X.x A Sb N cb lb) (hN0 : 0 < N) (hN4 : N ≤ 4) (hn : n ≤ 300) :
    Calls Tryz.prog 130 #[.pointer (some ⟨X.x, 0, none⟩), .string ⟨#[38]⟩, .slice Sa N ca, .slice Sb N cb] w (ResE 102 X w A (twoS mulR X.t ⟨#[38]⟩ la lb g).1 (twoS mulR X.t ⟨#[38]⟩ la lb g).2) := by
  have hlen := hLa.rd.length
  have hxl := h.lt
  have hBl : ∀ k, X.B.map (·.block) = some k → k < w.heap.size := fun k e => (h.os.blk k e).2
  have HE := Lib.hid (show twoS mulR X.t ⟨#[38]⟩ la lb g = bitS 0 X.t la lb g N by unfold twoS; rw [hlen]; rfl)
  rw [HE.out]
  clear hlen
  have hL0 := LE.start h
  go_enter Tryz.func130, Tryz.ntmps130
  go_wp2_with fail
  go_loopw [12, 70] (fun o i wr => ∃ (k n1 c : Nat) (A1 S : Option Addr) (g1 : List Gt) (l : List Int), k ≤ N ∧ o = .slice S k c ∧ i = .int .i64 (k : Nat) ∧ n1 ≤ n + 7 * k ∧ Hid (bitS 0 X.t la lb g k = (g1, l)) ∧ LE 102 X w wr A A1 n1 g1 S k c l) (fun _ i _ => N - (intOf i).toNat)
  case atStart => exact ⟨0, n, 0, A, none, g, [], by omega, rfl, rfl, by omega, Lib.hid rfl, hL0⟩
  case round =>
    clear hL0
    obtain ⟨k, n1, c, A1, S, g1, l, hk, rfl, rfl, hn1, hSt, hL⟩ := hrel
    by_cases hlt : k < N
    · have ik : (k : Int) < N := by omega
      obtain ⟨ada, va, rfl, hea, hva⟩ := hLa.at_ hlt
      obtain ⟨adb, vb, rfl, heb, hvb⟩ := hLb.at_ hlt
      have hva1 := hva _ _ hL.fm
      have hvb1 := hvb _ _ hL.fm
      have HN := Lib.hid hn1
      have HB := Lib.hid hvb
      have HA := Lib.hid hva
      have HS := Lib.hid (bitS_0 hSt.out hL.ms.len hea heb)
      clear hva hvb hLa hLb hSt hea heb
      go_wp2_with (first
        | (go_at_call 177; refine (ms_xor hL.ms (by omega) _ _).mono ?_; rintro e wz ⟨A9, rfl, hm9, hf9⟩; replace hL := hL.step hm9 hf9; clear hm9 hf9; have hva2 := HA.out _ _ hL.fm; have hvb2 := HB.out _ _ hL.fm)
        | (go_at_call 176; refine (ms_and hL.ms (by omega) _ _).mono ?_; rintro e wz ⟨A9, rfl, hm9, hf9⟩; replace hL := hL.step hm9 hf9; clear hm9 hf9; have hva2 := HA.out _ _ hL.fm; have hvb2 := HB.out _ _ hL.fm)
        | (go_at_call 131; refine (ms_not hL.ms (by omega) _).mono ?_; rintro e wz ⟨A9, rfl, hm9, hf9⟩; replace hL := hL.step hm9 hf9; clear hm9 hf9; have hva2 := HA.out _ _ hL.fm; have hvb2 := HB.out _ _ hL.fm)
        | (at_builtin; refine ap_int rfl rfl rfl (hL.own.alloc _) rfl (rd_new1 _ _ _) (by omega) (by have := hL.fm.size; simp; omega) ?_; intro S9 c9 wz ho9 hg9 hat9; replace hL := hL.app hxl ho9 hg9 hat9; clear ho9 hg9 hat9; have hva2 := HA.out _ _ hL.fm; have hvb2 := HB.out _ _ hL.fm))
      go_roundw
      case rel => exact ⟨k + 1, _, _, _, _, _, _, by omega, rfl, by go_num, by have := HN.out; omega, HS, hL⟩
      case measure => simp [intOf]; omega
    · have ik : ¬ ((k : Int) < N) := by omega
      have hkn : k = N := by omega
      subst hkn
      have HS := hSt
      clear hLa hLb hSt
      go_wp2_with fail
      go_ret
      rw [HS.out]
      exact hL.res
set_option maxRecDepth 20000 in
set_option maxHeartbeats 4000000 in
theorem spec_two_xor {w : World} {X : Mx} {n : Nat} {g : List Gt} {A : Option Addr} (h : ME 102 X w n g A) (Sa Sb : Option Addr) (N ca cb : Nat) (la lb : List Int) (hLa : Lx w X.x A Sa N ca la) (hLb : Lx w X.x A Sb N cb lb) (hN0 : 0 < N) (hN4 : N ≤ 4) (hn : n ≤ 300) :
    Calls Tryz.prog 130 #[.pointer (some ⟨X.x, 0, none⟩), .string ⟨#[94]⟩, .slice Sa N ca, .slice Sb N cb] w (ResE 102 X w A (twoS mulR X.t ⟨#[94]⟩ la lb g).1 (twoS mulR X.t ⟨#[94]⟩ la lb g).2) := by
  have hlen := hLa.rd.length
  have hxl := h.lt
  have hBl : ∀ k, X.B.map (·.block) = some k → k < w.heap.size := fun k e => (h.os.blk k e).2
  have HE := Lib.hid (show twoS mulR X.t ⟨#[94]⟩ la lb g = bitS 1 X.t la lb g N by unfold twoS; rw [hlen]; rfl)
  rw [HE.out]
  clear hlen
  have hL0 := LE.start h
  go_enter Tryz.func130, Tryz.ntmps130
  go_wp2_with fail
  go_loopw [12, 70] (fun o i wr => ∃ (k n1 c : Nat) (A1 S : Option Addr) (g1 : List Gt) (l : List Int), k ≤ N ∧ o = .slice S k c ∧ i = .int .i64 (k : Nat) ∧ n1 ≤ n + 7 * k ∧ Hid (bitS 1 X.t la lb g k = (g1, l)) ∧ LE 102 X w wr A A1 n1 g1 S k c l) (fun _ i _ => N - (intOf i).toNat)
  case atStart => exact ⟨0, n, 0, A, none, g, [], by omega, rfl, rfl, by omega, Lib.hid rfl, hL0⟩
  case round =>
    clear hL0
    obtain ⟨k, n1, c, A1, S, g1, l, hk, rfl, rfl, hn1, hSt, hL⟩ := hrel
    by_cases hlt : k < N
    · have ik : (k : Int) < N := by omega
      obtain ⟨ada, va, rfl, hea, hva⟩ := hLa.at_ hlt
      obtain ⟨adb, vb, rfl, heb, hvb⟩ := hLb.at_ hlt
      have hva1 := hva _ _ hL.fm
      have hvb1 := hvb _ _ hL.fm
      have HN := Lib.hid hn1
      have HB := Lib.hid hvb
      have HA := Lib.hid hva
      have HS := Lib.hid (bitS_1 hSt.out hL.ms.len hea heb)
      clear hva hvb hLa hLb hSt hea heb
      go_wp2_with (first
        | (go_at_call 177; refine (ms_xor hL.ms (by omega) _ _).mono ?_; rintro e wz ⟨A9, rfl, hm9, hf9⟩; replace hL := hL.step hm9 hf9; clear hm9 hf9; have hva2 := HA.out _ _ hL.fm; have hvb2 := HB.out _ _ hL.fm)
        | (go_at_call 176; refine (ms_and hL.ms (by omega) _ _).mono ?_; rintro e wz ⟨A9, rfl, hm9, hf9⟩; replace hL := hL.step hm9 hf9; clear hm9 hf9; have hva2 := HA.out _ _ hL.fm; have hvb2 := HB.out _ _ hL.fm)
        | (go_at_call 131; refine (ms_not hL.ms (by omega) _).mono ?_; rintro e wz ⟨A9, rfl, hm9, hf9⟩; replace hL := hL.step hm9 hf9; clear hm9 hf9; have hva2 := HA.out _ _ hL.fm; have hvb2 := HB.out _ _ hL.fm)
        | (at_builtin; refine ap_int rfl rfl rfl (hL.own.alloc _) rfl (rd_new1 _ _ _) (by omega) (by have := hL.fm.size; simp; omega) ?_; intro S9 c9 wz ho9 hg9 hat9; replace hL := hL.app hxl ho9 hg9 hat9; clear ho9 hg9 hat9; have hva2 := HA.out _ _ hL.fm; have hvb2 := HB.out _ _ hL.fm))
      go_roundw
      case rel => exact ⟨k + 1, _, _, _, _, _, _, by omega, rfl, by go_num, by have := HN.out; omega, HS, hL⟩
      case measure => simp [intOf]; omega
    · have ik : ¬ ((k : Int) < N) := by omega
      have hkn : k = N := by omega
      subst hkn
      have HS := hSt
      clear hLa hLb hSt
      go_wp2_with fail
      go_ret
      rw [HS.out]
      exact hL.res
set_option maxRecDepth 20000 in
set_option maxHeartbeats 4000000 in
theorem spec_two_or {w : World} {X : Mx} {n : Nat} {g : List Gt} {A : Option Addr} (h : ME 102 X w n g A) (Sa Sb : Option Addr) (N ca cb : Nat) (la lb : List Int) (hLa : Lx w X.x A Sa N ca la) (hLb : Lx w X.x A Sb N cb lb) (hN0 : 0 < N) (hN4 : N ≤ 4) (hn : n ≤ 300) :
    Calls Tryz.prog 130 #[.pointer (some ⟨X.x, 0, none⟩), .string ⟨#[124]⟩, .slice Sa N ca, .slice Sb N cb] w (ResE 102 X w A (twoS mulR X.t ⟨#[124]⟩ la lb g).1 (twoS mulR X.t ⟨#[124]⟩ la lb g).2) := by
  have hlen := hLa.rd.length
  have hxl := h.lt
  have hBl : ∀ k, X.B.map (·.block) = some k → k < w.heap.size := fun k e => (h.os.blk k e).2
  have HE := Lib.hid (show twoS mulR X.t ⟨#[124]⟩ la lb g = bitS 2 X.t la lb g N by unfold twoS; rw [hlen]; rfl)
  rw [HE.out]
  clear hlen
  have hL0 := LE.start h
  go_enter Tryz.func130, Tryz.ntmps130
  go_wp2_with fail
  go_loopw [12, 70] (fun o i wr => ∃ (k n1 c : Nat) (A1 S : Option Addr) (g1 : List Gt) (l : List Int), k ≤ N ∧ o = .slice S k c ∧ i = .int .i64 (k : Nat) ∧ n1 ≤ n + 7 * k ∧ Hid (bitS 2 X.t la lb g k = (g1, l)) ∧ LE 102 X w wr A A1 n1 g1 S k c l) (fun _ i _ => N - (intOf i).toNat)
  case atStart => exact ⟨0, n, 0, A, none, g, [], by omega, rfl, rfl, by omega, Lib.hid rfl, hL0⟩
  case round =>
    clear hL0
    obtain ⟨k, n1, c, A1, S, g1, l, hk, rfl, rfl, hn1, hSt, hL⟩ := hrel
    by_cases hlt : k < N
    · have ik : (k : Int) < N := by omega
      obtain ⟨ada, va, rfl, hea, hva⟩ := hLa.at_ hlt
      obtain ⟨adb, vb, rfl, heb, hvb⟩ := hLb.at_ hlt
      have hva1 := hva _ _ hL.fm
      have hvb1 := hvb _ _ hL.fm
      have HN := Lib.hid hn1
      have HB := Lib.hid hvb
      have HA := Lib.hid hva
      have HS := Lib.hid (bitS_2 hSt.out hL.ms.len hea heb)
      clear hva hvb hLa hLb hSt hea heb
      go_wp2_with (first
        | (go_at_call 177; refine (ms_xor hL.ms (by omega) _ _).mono ?_; rintro e wz ⟨A9, rfl, hm9, hf9⟩; replace hL := hL.step hm9 hf9; clear hm9 hf9; have hva2 := HA.out _ _ hL.fm; have hvb2 := HB.out _ _ hL.fm)
        | (go_at_call 176; refine (ms_and hL.ms (by omega) _ _).mono ?_; rintro e wz ⟨A9, rfl, hm9, hf9⟩; replace hL := hL.step hm9 hf9; clear hm9 hf9; have hva2 := HA.out _ _ hL.fm; have hvb2 := HB.out _ _ hL.fm)
        | (go_at_call 131; refine (ms_not hL.ms (by omega) _).mono ?_; rintro e wz ⟨A9, rfl, hm9, hf9⟩; replace hL := hL.step hm9 hf9; clear hm9 hf9; have hva2 := HA.out _ _ hL.fm; have hvb2 := HB.out _ _ hL.fm)
        | (at_builtin; refine ap_int rfl rfl rfl (hL.own.alloc _) rfl (rd_new1 _ _ _) (by omega) (by have := hL.fm.size; simp; omega) ?_; intro S9 c9 wz ho9 hg9 hat9; replace hL := hL.app hxl ho9 hg9 hat9; clear ho9 hg9 hat9; have hva2 := HA.out _ _ hL.fm; have hvb2 := HB.out _ _ hL.fm))
      go_roundw
      case rel => exact ⟨k + 1, _, _, _, _, _, _, by omega, rfl, by go_num, by have := HN.out; omega, HS, hL⟩
      case measure => simp [intOf]; omega
    · have ik : ¬ ((k : Int) < N) := by omega
      have hkn : k = N := by omega
      subst hkn
      have HS := hSt
      clear hLa hLb hSt
      go_wp2_with fail
      go_ret
      rw [HS.out]
      exact hL.res
theorem spec_two {w : World} {X : Mx} {n : Nat} {g : List Gt} {A : Option Addr} (h : ME 102 X w n g A) (op : ByteArray) (ho : op ∈ opsL) (Sa Sb : Option Addr) (N ca cb : Nat) (la lb : List Int) (hLa : Lx w X.x A Sa N ca la) (hLb : Lx w X.x A Sb N cb lb) (hN0 : 0 < N) (hN4 : N ≤ 4) (hn : n ≤ 300) :
    Calls Tryz.prog 130 #[.pointer (some ⟨X.x, 0, none⟩), .string op, .slice Sa N ca, .slice Sb N cb] w (ResE 102 X w A (twoS mulR X.t op la lb g).1 (twoS mulR X.t op la lb g).2) := by
  simp only [opsL, List.mem_cons, List.not_mem_nil, or_false] at ho
  rcases ho with rfl | rfl | rfl | rfl | rfl | rfl | rfl | rfl
  · exact spec_two_add h Sa Sb N ca cb la lb hLa hLb hN0 hN4 hn
  · exact spec_two_sub h Sa Sb N ca cb la lb hLa hLb hN0 hN4 hn
  · exact spec_two_mul h Sa Sb N ca cb la lb hLa hLb hN0 hN4 hn
  · exact spec_two_lss h Sa Sb N ca cb la lb hLa hLb hN0 hN4 hn
  · exact spec_two_eql h Sa Sb N ca cb la lb hLa hLb hN0 hN4 hn
  · exact spec_two_and h Sa Sb N ca cb la lb hLa hLb hN0 hN4 hn
  · exact spec_two_or h Sa Sb N ca cb la lb hLa hLb hN0 hN4 hn
  · exact spec_two_xor h Sa Sb N ca cb la lb hLa hLb hN0 hN4 hn
end Go.Proofs.YtjggecbaladiiaaGreatDoor
