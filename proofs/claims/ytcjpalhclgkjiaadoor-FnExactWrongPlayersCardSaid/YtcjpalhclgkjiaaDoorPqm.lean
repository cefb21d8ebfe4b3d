/- Contracts of the laws' own functions on slices of slices of numbers and on players: sizes, copies, comparing.
   Conditions: none. -/
import Derived.Test.YtcjpalhclgkjiaaDoorPiy
import Derived.Test.YtcjpalhclgkjiaaDoorMakG
import Derived.Test.YtcjpalhclgkjiaaDoorPgx
namespace Go.Proofs.YtcjpalhclgkjiaaDoor
open Go.RowKit
set_option linter.unusedVariables false
/-- A row that is new is stored. -/
theorem OwnSS.putNew {base n c g i : Nat} {w w' : World} {hs : List Hd} {LL : List (List Int)} (h : OwnSS base w (some ⟨g, 0, none⟩) n c hs LL) (hi : i < n) {x' : Hd} {l' : List Int} (hb : Bl w w') (ho : OwnI w.heap.size w' x'.A x'.n x'.c l') (hbase : base ≤ w.heap.size) :
  OwnSS base (w'.setCell ⟨g, i, none⟩ (.slice x'.A x'.n x'.c)) (some ⟨g, 0, none⟩) n c (hs.set i x') (LL.set i l') := by
 have hn := h.n_eq
 have hgl := (h.hd.blk g rfl).2
 have hnA : ∀ (j : Nat) (y : Hd), hs[j]? = some y → ∀ k, y.blk = some k → k ≠ g := fun j y hy k hk e => by subst e; exact h.apA j y hy k hk rfl
 have hx : ∀ k, x'.blk = some k → w.heap.size ≤ k := fun k hk => (ho.blk k hk).1
 have hset := (h.hd.keep hb).set_ i (.slice x'.A x'.n x'.c) (by omega)
 have hfar : ∀ (y : Hd) (l : List Int), (∀ k, y.blk = some k → k ≠ g) → OwnI base w' y.A y.n y.c l → OwnI base (w'.setCell ⟨g, i, none⟩ (.slice x'.A x'.n x'.c)) y.A y.n y.c l := fun y l hy ho =>
  OwnI.grownR ho (grownBy_setCell w' g i _) (fun k hk e => by injection e with e; exact hy k hk e.symm)
 have hother : ∀ (j : Nat) (y : Hd), hs[j]? = some y → ∀ k, y.blk = some k → x'.blk ≠ some k := fun j y hy k hk e => by
  have := h.under.2 j y hy k hk
  have := hx k e
  omega
 refine ⟨?_, by simp [h.len], fun j y l hy hl => ?_, fun j y hy k hk => ?_, fun j j' y y' hj hy hy' k hk => ?_⟩
 ·have e : (hs.set i x').map Hd.val = (hs.map Hd.val).set i (.slice x'.A x'.n x'.c) := by rw [List.map_set]; rfl
  rw [e]; exact hset
 ·by_cases hji : j = i
  ·subst hji
   rw [List.getElem?_set_self (by omega)] at hy
   rw [List.getElem?_set_self (by rw [h.l_eq]; exact hi)] at hl
   injection hy with hy; injection hl with hl
   subst hy; subst hl
   exact hfar _ _ (fun k hk => by have := hx k hk; omega) (ho.mono hbase)
  ·rw [List.getElem?_set_ne (Ne.symm hji)] at hy hl
   exact hfar _ _ (hnA j y hy) ((h.row j y l hy hl).keep hb)
 ·by_cases hji : j = i
  ·subst hji
   rw [List.getElem?_set_self (by omega)] at hy
   injection hy with hy
   subst hy
   intro e
   have e : g = k := by simpa using e
   have := hx k hk
   omega
  ·rw [List.getElem?_set_ne (Ne.symm hji)] at hy
   exact h.apA j y hy k hk
 ·by_cases hji : j = i
  ·subst hji
   rw [List.getElem?_set_self (by omega)] at hy
   injection hy with hy
   subst hy
   rw [List.getElem?_set_ne hj] at hy'
   intro e
   exact hother j' y' hy' k e hk
  ·rw [List.getElem?_set_ne (Ne.symm hji)] at hy
   by_cases hji' : j' = i
   ·subst hji'
    rw [List.getElem?_set_self (by omega)] at hy'
    injection hy' with hy'
    subst hy'
    exact hother j y hy k hk
   ·rw [List.getElem?_set_ne (Ne.symm hji')] at hy'
    exact h.apR j j' y y' hj hy hy' k hk
def Hd.zero : Hd := ⟨none, 0, 0⟩
theorem make_hds (n : Nat) (hn : n ≤ 1000000000000) : ∀ w : World, (Instr.makeSlice 24 (.int .i64 (n : Int)) (.int .i64 (n : Int))).run Tryd.prog w = .ok (.slice (some ⟨w.heap.size, 0, none⟩) n n) (w.alloc (.cells (madeCells #[.slice none 0 0] n) 23)) :=
 fun w => run_make_row' 24 23 _ 24 Tryd.underlying24 ints_info rfl _ _ n (by omega) (by omega) w
theorem own_nils (w : World) (n : Nat) (hn : n ≤ 1000000000000) {g : Nat} (hg : w.heap.size = g := by first | with_reducible rfl | simp) :
  OwnSS w.heap.size (w.alloc (.cells (madeCells #[.slice none 0 0] n) 23)) (some ⟨g, 0, none⟩) n n (List.replicate n Hd.zero) (List.replicate n []) := by
 subst hg
 refine ⟨⟨by simp, .inr ⟨w.heap.size, n, _, rfl, Nat.le_refl _, heap_alloc_new w _, Nat.le_refl _, by unfold maxLen; omega, by simp [size_madeCells], ?_⟩⟩, by simp, fun i x l hx hl => ?_, fun i x hx k hk => ?_, fun i j x y _ hx hy k hk => ?_⟩
 ·rw [toList_madeCells_one, Nat.mul_one, List.take_of_length_le (by simp)]
  simp [Hd.val, Hd.zero]
 ·rw [List.getElem?_replicate] at hx hl
  by_cases hi : i < n
  ·rw [if_pos hi] at hx hl
   injection hx with hx
   injection hl with hl
   subst hx; subst hl
   exact OwnI.nil _ _
  ·rw [if_neg hi] at hx; cases hx
 ·rw [List.getElem?_replicate] at hx
  split at hx
  ·injection hx with hx; subst hx; cases hk
  ·cases hx
 ·rw [List.getElem?_replicate] at hx
  split at hx
  ·injection hx with hx; subst hx; cases hk
  ·cases hx
set_option maxHeartbeats 1000000 in
theorem laws_toIntSS (A : Option Addr) (n c : Nat) (hs : List Hd) (LL : List (List Int)) (w : World) (h : RdSS w A n c hs LL) (hn : n ≤ 1048576) (hr : ∀ (i : Nat) (x : Hd), hs[i]? = some x → x.n ≤ 1048576) :
  Calls Tryd.prog 37 #[.slice A n c] w fun e w' => ∃ A' c' hs', e = .returned (.slice A' n c') ∧ OwnSS w.heap.size w' A' n c' hs' LL ∧ Bl w w' := by
 obtain ⟨hle1, hle2⟩ := h.le
 have hl := Lib.hid h.l_eq
 have HR := Lib.hid hr
 have hmk := make_hds n (by omega)
 have hown0 := own_nils w n (by omega)
 have hW0 := (Bl.refl w).alloc (.cells (madeCells #[.slice none 0 0] n) 23)
 clear hr
 go_enter Tryd.func37, Tryd.ntmps37
 go_wp2
 go_loopw [4] (fun i wr => ∃ k, k ≤ n ∧ i = .int .i64 (k : Nat) ∧ (∃ hs', OwnSS w.heap.size wr (some ⟨w.heap.size, 0, none⟩) n n hs' (filled [] LL k)) ∧ Bl w wr) (fun i _ => n - (intOf i).toNat)
 case atStart => exact ⟨0, by omega, rfl, ⟨_, by rw [filled_zero, hl.out]; exact hown0⟩, hW0⟩
 case round =>
  obtain ⟨k, hk, rfl, ⟨hs', hown⟩, hW⟩ := hrel
  clear hmk hown0 hW0
  by_cases hlt : k < n
  ·obtain ⟨x, hkh⟩ : ∃ x, hs[k]? = some x := ⟨_, List.getElem?_eq_getElem (by rw [h.n_eq]; exact hlt)⟩
   obtain ⟨y, hkl⟩ : ∃ y, LL[k]? = some y := ⟨_, List.getElem?_eq_getElem (by rw [h.l_eq]; exact hlt)⟩
   obtain ⟨ad, rfl, _, hc⟩ := (h.keep hW).hd.at0 (by omega)
   have q0 := hc k _ (by rw [List.getElem?_map, hkh]; rfl)
   have hrow := (h.keep hW).row k _ _ hkh hkl
   have hxn := HR.out k _ hkh
   have HX := Lib.hid hkl
   rcases x with ⟨xA, xn, xc⟩
   change wr.cell? (ad.add k) = some (.slice xA xn xc) at q0
   dsimp only at hrow hxn
   clear hc hkh hkl
   have i1 : (k : Int) < n := by omega
   obtain ⟨g, x0, l0, hg, -, -, hbg, hgl, hc3, hfr, -⟩ := hown.cell hlt
   injection hg with hg
   injection hg with hg
   subst hg
   have hf3 := hfr k
   clear hfr
   go_wp2_with fail
   refine (laws_toIntS xA xn xc y _ hrow (by omega)).mono ?_
   rintro e w1 ⟨A1, c1, rfl, o1, hb1⟩
   have hc4 := hb1.cells hc3
   have hf4 : w1.frozen? ⟨w.heap.size, k, none⟩ = false := by rw [hb1.froz0 _ _ hgl]; exact hf3
   have hz1 := hb1.sz
   go_wp2_with fail
   go_roundw
   case rel => exact ⟨k + 1, by omega, by go_num, ⟨hs'.set k ⟨A1, xn, c1⟩, by rw [← filled_step _ _ _ _ HX.out]; exact hown.putNew hlt (x' := ⟨A1, xn, c1⟩) hb1 o1 (by omega)⟩, (hW.call hb1).setCell (Nat.le_refl _) _⟩
   case measure => simp [intOf]; omega
  ·have he : k = n := by omega
   subst he
   have hfa := Lib.hid (filled_all [] LL k hl.out)
   go_wp2
   go_ret
   exact ⟨_, _, hs', rfl, by rw [← hfa.out]; exact hown, hW⟩
set_option maxHeartbeats 1000000 in
theorem laws_szIntSS (A : Option Addr) (n c : Nat) (hs : List Hd) (LL : List (List Int)) (left : Int) (w : World) (h : RdSS w A n c hs LL) (h0 : 0 ≤ left) (h1 : left ≤ 1048576) :
  Calls Tryd.prog 32 #[.slice A n c, .int .i64 left] w fun e w' => ∃ r : Int, e = .returned (.int .i64 r) ∧ -1 ≤ r ∧ r ≤ left ∧ (0 ≤ r → n ≤ 1048576 ∧ ∀ (i : Nat) (x : Hd), hs[i]? = some x → x.n ≤ 1048576) ∧ Bl w w' := by
 obtain ⟨hle1, hle2⟩ := h.le
 have hW0 := Bl.refl w
 have zl : IntKind.i64.wrap (left - n) = left - n := IntWalk.i64_in _ (by omega)
 by_cases hlt : left - n < 0
 ·go_enter Tryd.func32, Tryd.ntmps32
  go_wp2
  go_ret
  exact ⟨-1, rfl, by omega, by omega, fun h => by omega, hW0⟩
 ·go_enter Tryd.func32, Tryd.ntmps32
  go_wp2
  go_loopw [5, 1] (fun i s wr => ∃ (k : Nat) (r : Int), k ≤ n ∧ i = .int .i64 (k : Nat) ∧ s = .int .i64 r ∧ 0 ≤ r ∧ r ≤ left ∧ Hid (∀ (i : Nat) (x : Hd), i < k → hs[i]? = some x → x.n ≤ 1048576) ∧ Bl w wr) (fun i _ _ => n - (intOf i).toNat)
  case atStart => exact ⟨0, left - n, by omega, rfl, rfl, by omega, by omega, Lib.hid (fun i x hi => absurd hi (by omega)), hW0⟩
  case round =>
   obtain ⟨k, r, hk, rfl, rfl, hr0, hr1, hq, hW⟩ := hrel
   clear hW0
   by_cases hkn : k < n
   ·obtain ⟨x, hkh⟩ : ∃ x, hs[k]? = some x := ⟨_, List.getElem?_eq_getElem (by rw [h.n_eq]; exact hkn)⟩
    obtain ⟨y, hkl⟩ : ∃ y, LL[k]? = some y := ⟨_, List.getElem?_eq_getElem (by rw [h.l_eq]; exact hkn)⟩
    obtain ⟨ad, rfl, _, hc⟩ := (h.keep hW).hd.at0 (by omega)
    have q0 := hc k _ (by rw [List.getElem?_map, hkh]; rfl)
    have hrow := (h.keep hW).row k _ _ hkh hkl
    have HX := Lib.hid hkh
    rcases x with ⟨xA, xn, xc⟩
    change wr.cell? (ad.add k) = some (.slice xA xn xc) at q0
    obtain ⟨x1, x2⟩ := hrow.le
    dsimp only at x1 x2
    clear hc hkh hkl hrow
    have i1 : (k : Int) < n := by omega
    by_cases hneg : r - xn < 0
    ·go_wp2_with (go_at_call 31; refine (laws_szIntS xA xn xc r _ x1 x2 hr0 (by omega)).mono ?_; rintro e w1 ⟨rfl, rfl⟩; rw [if_pos hneg])
     go_ret
     exact ⟨-1, rfl, by omega, by omega, fun h => by omega, hW⟩
    ·have hst := Lib.hid (show ∀ (i : Nat) (y : Hd), i < k + 1 → hs[i]? = some y → y.n ≤ 1048576 from fun i y hi hy => by
      rcases Nat.lt_or_eq_of_le (Nat.le_of_lt_succ hi) with h3 | h3
      ·exact hq.out i y h3 hy
      ·subst h3; rw [HX.out] at hy; injection hy with hy; subst hy; dsimp only; omega)
     have hge : ¬ r - xn < 0 := hneg
     have zr : (0 : Int) ≤ r - xn := by omega
     go_wp2_with (go_at_call 31; refine (laws_szIntS xA xn xc r _ x1 x2 hr0 (by omega)).mono ?_; rintro e w1 ⟨rfl, rfl⟩; rw [if_neg hneg])
     go_roundw
     case rel => exact ⟨k + 1, r - xn, by omega, by go_num, rfl, by omega, by omega, hst, hW⟩
     case measure => simp [intOf]; omega
   ·have hf := Lib.hid (show ∀ (i : Nat) (x : Hd), hs[i]? = some x → x.n ≤ 1048576 from fun i x hx => hq.out i x (by have := (List.getElem?_eq_some_iff.1 hx).1; have := h.n_eq; omega) hx)
    go_wp2
    go_ret
    exact ⟨r, rfl, by omega, hr1, fun _ => ⟨by omega, hf.out⟩, hW⟩
set_option maxRecDepth 20000 in
set_option maxHeartbeats 2000000 in
theorem laws_szPlayer (a : Pl) (As Ak Ah : Option Addr) (ns cs nk ck nh ch : Nat) (hs : List Hd) (left : Int) (w : World) (h : RdP w a As Ak Ah ns cs nk ck nh ch hs) (h0 : 0 ≤ left) (h1 : left ≤ 1048576) :
  Calls Tryd.prog 7 #[.agg #[.int .i64 a.p, .int .i64 a.party, .int .i64 a.x, .int .i64 a.mask, .int .i64 a.delta, .slice As ns cs, .slice Ak nk ck, .int .i64 a.step, .slice Ah nh ch, .int .i64 a.status, .int .i64 a.out], .int .i64 left] w fun e w' => ∃ r : Int, e = .returned (.int .i64 r) ∧ -1 ≤ r ∧ r ≤ left ∧ (0 ≤ r → ns ≤ 1048576 ∧ nk ≤ 1048576 ∧ nh ≤ 1048576 ∧ ∀ (i : Nat) (x : Hd), hs[i]? = some x → x.n ≤ 1048576) ∧ Bl w w' := by
 obtain ⟨s1, s2⟩ := h.sh.le
 obtain ⟨k1, k2⟩ := h.ks.le
 have hW : Bl w (w.alloc (.cells #[.int .i64 a.p, .int .i64 a.party, .int .i64 a.x, .int .i64 a.mask, .int .i64 a.delta, .slice As ns cs, .slice Ak nk ck, .int .i64 a.step, .slice Ah nh ch, .int .i64 a.status, .int .i64 a.out] 26)) := Bl.a3
 have hB : Blk (w.alloc (.cells #[.int .i64 a.p, .int .i64 a.party, .int .i64 a.x, .int .i64 a.mask, .int .i64 a.delta, .slice As ns cs, .slice Ak nk ck, .int .i64 a.step, .slice Ah nh ch, .int .i64 a.status, .int .i64 a.out] 26)) (w.heap.size) 26 #[.int .i64 a.p, .int .i64 a.party, .int .i64 a.x, .int .i64 a.mask, .int .i64 a.delta, .slice As ns cs, .slice Ak nk ck, .int .i64 a.step, .slice Ah nh ch, .int .i64 a.status, .int .i64 a.out] := (Blk.new w 26 #[.int .i64 a.p, .int .i64 a.party, .int .i64 a.x, .int .i64 a.mask, .int .i64 a.delta, .slice As ns cs, .slice Ak nk ck, .int .i64 a.step, .slice Ah nh ch, .int .i64 a.status, .int .i64 a.out] (g := w.heap.size))
 obtain ⟨B_l, B_f, B_0, B_1, B_2, B_3, B_4, B_5, B_6, B_7, B_8, B_9, B_10⟩ := hB.l11
 by_cases hns : left - ns < 0
 ·go_enter Tryd.func7, Tryd.ntmps7
  go_wp2_with (go_at_call 30; refine (laws_szTaggedS As ns cs left _ s1 s2 h0 h1).mono ?_; rintro e w1 ⟨rfl, rfl⟩; rw [if_pos hns])
  go_ret
  exact ⟨-1, rfl, by omega, by omega, fun h => by omega, hW⟩
 obtain ⟨r1, hr1⟩ : ∃ r : Int, left - ns = r := ⟨_, rfl⟩
 have HR1 := Lib.hid hr1
 have r10 : ¬ r1 < 0 := by omega
 have r11 : (0 : Int) ≤ r1 := by omega
 have r12 : r1 ≤ left := by omega
 by_cases hnk : r1 - nk < 0
 ·go_enter Tryd.func7, Tryd.ntmps7
  go_wp2_with (first | (go_at_call 30; refine (laws_szTaggedS As ns cs left _ s1 s2 h0 h1).mono ?_; rintro e w1 ⟨rfl, rfl⟩; rw [if_neg (show ¬ left - (ns : Int) < 0 by omega), HR1.out]) | (go_at_call 31; refine (laws_szIntS Ak nk ck r1 _ k1 k2 r11 (by omega)).mono ?_; rintro e w1 ⟨rfl, rfl⟩; rw [if_pos hnk]))
  go_ret
  exact ⟨-1, rfl, by omega, by omega, fun h => by omega, hW⟩
 obtain ⟨r2, hr2⟩ : ∃ r : Int, r1 - nk = r := ⟨_, rfl⟩
 have HR2 := Lib.hid hr2
 have r20 : ¬ r2 < 0 := by omega
 have r21 : (0 : Int) ≤ r2 := by omega
 have r22 : r2 ≤ left := by omega
 have HS := Lib.hid (fun (w' : World) (hb : Bl w w') => laws_szIntSS Ah nh ch hs a.hd r2 w' (h.hd.keep hb) r21 (by omega))
 clear hr1 hr2
 go_enter Tryd.func7, Tryd.ntmps7
 go_wp2_with (first | (go_at_call 30; refine (laws_szTaggedS As ns cs left _ s1 s2 h0 h1).mono ?_; rintro e w1 ⟨rfl, rfl⟩; rw [if_neg (show ¬ left - (ns : Int) < 0 by omega), HR1.out]) | (go_at_call 31; refine (laws_szIntS Ak nk ck r1 _ k1 k2 r11 (by omega)).mono ?_; rintro e w1 ⟨rfl, rfl⟩; rw [if_neg (show ¬ r1 - (nk : Int) < 0 by omega), HR2.out]))
 refine (HS.out _ hW).mono ?_
 rintro e w1 ⟨r, rfl, t1, t2, t3, hb1⟩
 have HT := Lib.hid t3
 clear t3
 by_cases hr : r < 0
 ·go_wp2_with fail
  go_ret
  exact ⟨-1, rfl, by omega, by omega, fun h => by omega, hW.call hb1⟩
 ·go_wp2_with fail
  go_ret
  exact ⟨r, rfl, t1, by omega, fun h => ⟨by have := HR1.out; omega, by have := HR1.out; have := HR2.out; omega, (HT.out h).1, (HT.out h).2⟩, hW.call hb1⟩
set_option maxRecDepth 20000 in
set_option maxHeartbeats 4000000 in
theorem laws_toPlayer (a : Pl) (As Ak Ah : Option Addr) (ns cs nk ck nh ch : Nat) (hs : List Hd) (w : World) (h : RdP w a As Ak Ah ns cs nk ck nh ch hs) (hn : ns ≤ 1048576 ∧ nk ≤ 1048576 ∧ nh ≤ 1048576 ∧ ∀ (i : Nat) (x : Hd), hs[i]? = some x → x.n ≤ 1048576) :
  Calls Tryd.prog 10 #[.agg #[.int .i64 a.p, .int .i64 a.party, .int .i64 a.x, .int .i64 a.mask, .int .i64 a.delta, .slice As ns cs, .slice Ak nk ck, .int .i64 a.step, .slice Ah nh ch, .int .i64 a.status, .int .i64 a.out]] w fun e w' => ∃ As' Ak' Ah' cs' ck' ch' hs' T, e = .returned (.agg #[.int .i64 a.p, .int .i64 a.party, .int .i64 a.x, .int .i64 a.mask, .int .i64 a.delta, .slice As' ns cs', .slice Ak' nk ck', .int .i64 a.step, .slice Ah' nh ch', .int .i64 a.status, .int .i64 a.out]) ∧ OwnP w.heap.size T w' a As' Ak' Ah' ns cs' nk ck' nh ch' hs' ∧ Bl w w' := by
 obtain ⟨n1, n2, n3, n4⟩ := hn
 have HN4 := Lib.hid n4
 clear n4
 have hW : Bl w (((w.alloc (.cells #[.int .i64 a.p, .int .i64 a.party, .int .i64 a.x, .int .i64 a.mask, .int .i64 a.delta, .slice As ns cs, .slice Ak nk ck, .int .i64 a.step, .slice Ah nh ch, .int .i64 a.status, .int .i64 a.out] 26)).alloc (.cells #[.int .i64 0, .int .i64 0, .int .i64 0, .int .i64 0, .int .i64 0, .slice none 0 0, .slice none 0 0, .int .i64 0, .slice none 0 0, .int .i64 0, .int .i64 0] 34)).alloc (.cells #[.int .i64 0, .int .i64 0, .int .i64 0, .int .i64 0, .int .i64 0, .slice none 0 0, .slice none 0 0, .int .i64 0, .slice none 0 0, .int .i64 0, .int .i64 0] 34)) := Bl.a3
 have hB : Blk (((w.alloc (.cells #[.int .i64 a.p, .int .i64 a.party, .int .i64 a.x, .int .i64 a.mask, .int .i64 a.delta, .slice As ns cs, .slice Ak nk ck, .int .i64 a.step, .slice Ah nh ch, .int .i64 a.status, .int .i64 a.out] 26)).alloc (.cells #[.int .i64 0, .int .i64 0, .int .i64 0, .int .i64 0, .int .i64 0, .slice none 0 0, .slice none 0 0, .int .i64 0, .slice none 0 0, .int .i64 0, .int .i64 0] 34)).alloc (.cells #[.int .i64 0, .int .i64 0, .int .i64 0, .int .i64 0, .int .i64 0, .slice none 0 0, .slice none 0 0, .int .i64 0, .slice none 0 0, .int .i64 0, .int .i64 0] 34)) (w.heap.size) 26 #[.int .i64 a.p, .int .i64 a.party, .int .i64 a.x, .int .i64 a.mask, .int .i64 a.delta, .slice As ns cs, .slice Ak nk ck, .int .i64 a.step, .slice Ah nh ch, .int .i64 a.status, .int .i64 a.out] := (((Blk.new w 26 #[.int .i64 a.p, .int .i64 a.party, .int .i64 a.x, .int .i64 a.mask, .int .i64 a.delta, .slice As ns cs, .slice Ak nk ck, .int .i64 a.step, .slice Ah nh ch, .int .i64 a.status, .int .i64 a.out] (g := w.heap.size)).alloc (.cells #[.int .i64 0, .int .i64 0, .int .i64 0, .int .i64 0, .int .i64 0, .slice none 0 0, .slice none 0 0, .int .i64 0, .slice none 0 0, .int .i64 0, .int .i64 0] 34)).alloc (.cells #[.int .i64 0, .int .i64 0, .int .i64 0, .int .i64 0, .int .i64 0, .slice none 0 0, .slice none 0 0, .int .i64 0, .slice none 0 0, .int .i64 0, .int .i64 0] 34))
 have hR : Blk (((w.alloc (.cells #[.int .i64 a.p, .int .i64 a.party, .int .i64 a.x, .int .i64 a.mask, .int .i64 a.delta, .slice As ns cs, .slice Ak nk ck, .int .i64 a.step, .slice Ah nh ch, .int .i64 a.status, .int .i64 a.out] 26)).alloc (.cells #[.int .i64 0, .int .i64 0, .int .i64 0, .int .i64 0, .int .i64 0, .slice none 0 0, .slice none 0 0, .int .i64 0, .slice none 0 0, .int .i64 0, .int .i64 0] 34)).alloc (.cells #[.int .i64 0, .int .i64 0, .int .i64 0, .int .i64 0, .int .i64 0, .slice none 0 0, .slice none 0 0, .int .i64 0, .slice none 0 0, .int .i64 0, .int .i64 0] 34)) (w.heap.size + 1) 34 #[.int .i64 0, .int .i64 0, .int .i64 0, .int .i64 0, .int .i64 0, .slice none 0 0, .slice none 0 0, .int .i64 0, .slice none 0 0, .int .i64 0, .int .i64 0] := ((Blk.new (w.alloc (.cells #[.int .i64 a.p, .int .i64 a.party, .int .i64 a.x, .int .i64 a.mask, .int .i64 a.delta, .slice As ns cs, .slice Ak nk ck, .int .i64 a.step, .slice Ah nh ch, .int .i64 a.status, .int .i64 a.out] 26)) 34 #[.int .i64 0, .int .i64 0, .int .i64 0, .int .i64 0, .int .i64 0, .slice none 0 0, .slice none 0 0, .int .i64 0, .slice none 0 0, .int .i64 0, .int .i64 0] (g := w.heap.size + 1)).alloc (.cells #[.int .i64 0, .int .i64 0, .int .i64 0, .int .i64 0, .int .i64 0, .slice none 0 0, .slice none 0 0, .int .i64 0, .slice none 0 0, .int .i64 0, .int .i64 0] 34))
 have hO : Blk (((w.alloc (.cells #[.int .i64 a.p, .int .i64 a.party, .int .i64 a.x, .int .i64 a.mask, .int .i64 a.delta, .slice As ns cs, .slice Ak nk ck, .int .i64 a.step, .slice Ah nh ch, .int .i64 a.status, .int .i64 a.out] 26)).alloc (.cells #[.int .i64 0, .int .i64 0, .int .i64 0, .int .i64 0, .int .i64 0, .slice none 0 0, .slice none 0 0, .int .i64 0, .slice none 0 0, .int .i64 0, .int .i64 0] 34)).alloc (.cells #[.int .i64 0, .int .i64 0, .int .i64 0, .int .i64 0, .int .i64 0, .slice none 0 0, .slice none 0 0, .int .i64 0, .slice none 0 0, .int .i64 0, .int .i64 0] 34)) (w.heap.size + 1 + 1) 34 #[.int .i64 0, .int .i64 0, .int .i64 0, .int .i64 0, .int .i64 0, .slice none 0 0, .slice none 0 0, .int .i64 0, .slice none 0 0, .int .i64 0, .int .i64 0] := (Blk.new ((w.alloc (.cells #[.int .i64 a.p, .int .i64 a.party, .int .i64 a.x, .int .i64 a.mask, .int .i64 a.delta, .slice As ns cs, .slice Ak nk ck, .int .i64 a.step, .slice Ah nh ch, .int .i64 a.status, .int .i64 a.out] 26)).alloc (.cells #[.int .i64 0, .int .i64 0, .int .i64 0, .int .i64 0, .int .i64 0, .slice none 0 0, .slice none 0 0, .int .i64 0, .slice none 0 0, .int .i64 0, .int .i64 0] 34)) 34 #[.int .i64 0, .int .i64 0, .int .i64 0, .int .i64 0, .int .i64 0, .slice none 0 0, .slice none 0 0, .int .i64 0, .slice none 0 0, .int .i64 0, .int .i64 0] (g := w.heap.size + 1 + 1))
 obtain ⟨B_l, B_f, B_0, B_1, B_2, B_3, B_4, B_5, B_6, B_7, B_8, B_9, B_10⟩ := hB.l11
 have hR0 := hR
 have hz0 : w.heap.size + 3 = (((w.alloc (.cells #[.int .i64 a.p, .int .i64 a.party, .int .i64 a.x, .int .i64 a.mask, .int .i64 a.delta, .slice As ns cs, .slice Ak nk ck, .int .i64 a.step, .slice Ah nh ch, .int .i64 a.status, .int .i64 a.out] 26)).alloc (.cells #[.int .i64 0, .int .i64 0, .int .i64 0, .int .i64 0, .int .i64 0, .slice none 0 0, .slice none 0 0, .int .i64 0, .slice none 0 0, .int .i64 0, .int .i64 0] 34)).alloc (.cells #[.int .i64 0, .int .i64 0, .int .i64 0, .int .i64 0, .int .i64 0, .slice none 0 0, .slice none 0 0, .int .i64 0, .slice none 0 0, .int .i64 0, .int .i64 0] 34)).heap.size := by simp
 have HZ0 := Lib.hid hz0
 clear hz0
 go_enter Tryd.func10, Tryd.ntmps10
 go_wp2_with fail
 have hO1 : Blk (((w.alloc (.cells #[.int .i64 a.p, .int .i64 a.party, .int .i64 a.x, .int .i64 a.mask, .int .i64 a.delta, .slice As ns cs, .slice Ak nk ck, .int .i64 a.step, .slice Ah nh ch, .int .i64 a.status, .int .i64 a.out] 26)).alloc (.cells #[.int .i64 0, .int .i64 0, .int .i64 0, .int .i64 0, .int .i64 0, .slice none 0 0, .slice none 0 0, .int .i64 0, .slice none 0 0, .int .i64 0, .int .i64 0] 34)).alloc (.cells #[.int .i64 a.p, .int .i64 a.party, .int .i64 a.x, .int .i64 a.mask, .int .i64 a.delta, .slice none 0 0, .slice none 0 0, .int .i64 0, .slice none 0 0, .int .i64 0, .int .i64 0] 34)) (w.heap.size + 1 + 1) 34 #[.int .i64 a.p, .int .i64 a.party, .int .i64 a.x, .int .i64 a.mask, .int .i64 a.delta, .slice none 0 0, .slice none 0 0, .int .i64 0, .slice none 0 0, .int .i64 0, .int .i64 0] := Blk.new _ _ _
 have hB1 : Blk (((w.alloc (.cells #[.int .i64 a.p, .int .i64 a.party, .int .i64 a.x, .int .i64 a.mask, .int .i64 a.delta, .slice As ns cs, .slice Ak nk ck, .int .i64 a.step, .slice Ah nh ch, .int .i64 a.status, .int .i64 a.out] 26)).alloc (.cells #[.int .i64 0, .int .i64 0, .int .i64 0, .int .i64 0, .int .i64 0, .slice none 0 0, .slice none 0 0, .int .i64 0, .slice none 0 0, .int .i64 0, .int .i64 0] 34)).alloc (.cells #[.int .i64 a.p, .int .i64 a.party, .int .i64 a.x, .int .i64 a.mask, .int .i64 a.delta, .slice none 0 0, .slice none 0 0, .int .i64 0, .slice none 0 0, .int .i64 0, .int .i64 0] 34)) w.heap.size 26 #[.int .i64 a.p, .int .i64 a.party, .int .i64 a.x, .int .i64 a.mask, .int .i64 a.delta, .slice As ns cs, .slice Ak nk ck, .int .i64 a.step, .slice Ah nh ch, .int .i64 a.status, .int .i64 a.out] := ((Blk.new w 26 #[.int .i64 a.p, .int .i64 a.party, .int .i64 a.x, .int .i64 a.mask, .int .i64 a.delta, .slice As ns cs, .slice Ak nk ck, .int .i64 a.step, .slice Ah nh ch, .int .i64 a.status, .int .i64 a.out]).alloc _).alloc _
 have hR1 : Blk (((w.alloc (.cells #[.int .i64 a.p, .int .i64 a.party, .int .i64 a.x, .int .i64 a.mask, .int .i64 a.delta, .slice As ns cs, .slice Ak nk ck, .int .i64 a.step, .slice Ah nh ch, .int .i64 a.status, .int .i64 a.out] 26)).alloc (.cells #[.int .i64 0, .int .i64 0, .int .i64 0, .int .i64 0, .int .i64 0, .slice none 0 0, .slice none 0 0, .int .i64 0, .slice none 0 0, .int .i64 0, .int .i64 0] 34)).alloc (.cells #[.int .i64 a.p, .int .i64 a.party, .int .i64 a.x, .int .i64 a.mask, .int .i64 a.delta, .slice none 0 0, .slice none 0 0, .int .i64 0, .slice none 0 0, .int .i64 0, .int .i64 0] 34)) (w.heap.size + 1) 34 #[.int .i64 0, .int .i64 0, .int .i64 0, .int .i64 0, .int .i64 0, .slice none 0 0, .slice none 0 0, .int .i64 0, .slice none 0 0, .int .i64 0, .int .i64 0] := (Blk.new _ _ _).alloc _
 have hW1 : Bl w (((w.alloc (.cells #[.int .i64 a.p, .int .i64 a.party, .int .i64 a.x, .int .i64 a.mask, .int .i64 a.delta, .slice As ns cs, .slice Ak nk ck, .int .i64 a.step, .slice Ah nh ch, .int .i64 a.status, .int .i64 a.out] 26)).alloc (.cells #[.int .i64 0, .int .i64 0, .int .i64 0, .int .i64 0, .int .i64 0, .slice none 0 0, .slice none 0 0, .int .i64 0, .slice none 0 0, .int .i64 0, .int .i64 0] 34)).alloc (.cells #[.int .i64 a.p, .int .i64 a.party, .int .i64 a.x, .int .i64 a.mask, .int .i64 a.delta, .slice none 0 0, .slice none 0 0, .int .i64 0, .slice none 0 0, .int .i64 0, .int .i64 0] 34)) := (((Bl.refl w).alloc _).alloc _).alloc _
 (try clear B_l B_f B_0 B_1 B_2 B_3 B_4 B_5 B_6 B_7 B_8 B_9 B_10)
 clear hB hR hO hW hR0
 generalize (((w.alloc (.cells #[.int .i64 a.p, .int .i64 a.party, .int .i64 a.x, .int .i64 a.mask, .int .i64 a.delta, .slice As ns cs, .slice Ak nk ck, .int .i64 a.step, .slice Ah nh ch, .int .i64 a.status, .int .i64 a.out] 26)).alloc (.cells #[.int .i64 0, .int .i64 0, .int .i64 0, .int .i64 0, .int .i64 0, .slice none 0 0, .slice none 0 0, .int .i64 0, .slice none 0 0, .int .i64 0, .int .i64 0] 34)).alloc (.cells #[.int .i64 a.p, .int .i64 a.party, .int .i64 a.x, .int .i64 a.mask, .int .i64 a.delta, .slice none 0 0, .slice none 0 0, .int .i64 0, .slice none 0 0, .int .i64 0, .int .i64 0] 34)) = v1 at hO1 hB1 hR1 hW1 ⊢
 have hzv : w.heap.size + 3 ≤ v1.heap.size := by have := hO1.lt; omega
 refine (laws_toTaggedS As ns cs a.sh _ (h.sh.keep hW1) (by omega)).mono ?_
 rintro e w5 ⟨A5, c5, rfl, o5, hb5⟩
 have hO := hO1.keep hb5
 have hB := hB1.keep hb5
 have hW := hW1.call hb5
 have hl1 := hO1.lt
 obtain ⟨B_l, B_f, B_0, B_1, B_2, B_3, B_4, B_5, B_6, B_7, B_8, B_9, B_10⟩ := hB.l11
 obtain ⟨O_l, O_f, O_0, O_1, O_2, O_3, O_4, O_5, O_6, O_7, O_8, O_9, O_10⟩ := hO.l11
 go_wp2_with fail
 have hW5 : Bl w (w5.setCell ⟨w.heap.size + 1 + 1, 5, none⟩ (.slice A5 ns c5)) := hW.setCell (by dsimp only; omega) _
 have hO5 : Blk (w5.setCell ⟨w.heap.size + 1 + 1, 5, none⟩ (.slice A5 ns c5)) (w.heap.size + 1 + 1) 34 #[.int .i64 a.p, .int .i64 a.party, .int .i64 a.x, .int .i64 a.mask, .int .i64 a.delta, .slice A5 ns c5, .slice none 0 0, .int .i64 0, .slice none 0 0, .int .i64 0, .int .i64 0] := hO.set_ 5 _
 have hR5 := (hR1.keep hb5).far (p := ⟨w.heap.size + 1 + 1, 5, none⟩) (by dsimp only; omega) (.slice A5 ns c5)
 have hB5 := hB.far (p := ⟨w.heap.size + 1 + 1, 5, none⟩) (by dsimp only; omega) (.slice A5 ns c5)
 have m5 : OwnTg (w.heap.size + 3) (w5.setCell ⟨w.heap.size + 1 + 1, 5, none⟩ (.slice A5 ns c5)) A5 ns c5 a.sh := (OwnTg.mono o5 (by omega)).setLow (by omega) _
 (try clear B_l B_f B_0 B_1 B_2 B_3 B_4 B_5 B_6 B_7 B_8 B_9 B_10)
 (try clear O_l O_f O_0 O_1 O_2 O_3 O_4 O_5 O_6 O_7 O_8 O_9 O_10)
 clear hB hO hW hB1 hO1 hR1 hW1 o5 hb5 hl1
 generalize (w5.setCell ⟨w.heap.size + 1 + 1, 5, none⟩ (.slice A5 ns c5)) = v2 at hW5 hO5 hR5 hB5 m5 ⊢
 refine (laws_toIntS Ak nk ck a.ks _ (h.ks.keep hW5) (by omega)).mono ?_
 rintro e w6 ⟨A6, c6, rfl, o6, hb6⟩
 have hl2 := hO5.lt
 have hz6 := hb6.sz
 have n56 : ∀ k, A5.map (·.block) = some k → A6.map (·.block) ≠ some k := fun k q1 q2 => by have a1 := (m5.blk k q1).2; have a2 := (o6.blk k q2).1; omega
 have hO := hO5.keep hb6
 have hB := hB5.keep hb6
 have hW := hW5.call hb6
 have k5 := m5.keep hb6
 obtain ⟨B_l, B_f, B_0, B_1, B_2, B_3, B_4, B_5, B_6, B_7, B_8, B_9, B_10⟩ := hB.l11
 obtain ⟨O_l, O_f, O_0, O_1, O_2, O_3, O_4, O_5, O_6, O_7, O_8, O_9, O_10⟩ := hO.l11
 go_wp2_with fail
 have hW6 : Bl w ((w6.setCell ⟨w.heap.size + 1 + 1, 6, none⟩ (.slice A6 nk c6)).setCell ⟨w.heap.size + 1 + 1, 7, none⟩ (.int .i64 a.step)) := (hW.setCell (by dsimp only; omega) _).setCell (by dsimp only; omega) _
 have hO6 : Blk ((w6.setCell ⟨w.heap.size + 1 + 1, 6, none⟩ (.slice A6 nk c6)).setCell ⟨w.heap.size + 1 + 1, 7, none⟩ (.int .i64 a.step)) (w.heap.size + 1 + 1) 34 #[.int .i64 a.p, .int .i64 a.party, .int .i64 a.x, .int .i64 a.mask, .int .i64 a.delta, .slice A5 ns c5, .slice A6 nk c6, .int .i64 a.step, .slice none 0 0, .int .i64 0, .int .i64 0] := (hO.set_ 6 _).set_ 7 _
 have hR6 := ((hR5.keep hb6).far (p := ⟨w.heap.size + 1 + 1, 6, none⟩) (by dsimp only; omega) (.slice A6 nk c6)).far (p := ⟨w.heap.size + 1 + 1, 7, none⟩) (by dsimp only; omega) (.int .i64 a.step)
 have hB6 := (hB.far (p := ⟨w.heap.size + 1 + 1, 6, none⟩) (by dsimp only; omega) (.slice A6 nk c6)).far (p := ⟨w.heap.size + 1 + 1, 7, none⟩) (by dsimp only; omega) (.int .i64 a.step)
 have m55 : OwnTg (w.heap.size + 3) ((w6.setCell ⟨w.heap.size + 1 + 1, 6, none⟩ (.slice A6 nk c6)).setCell ⟨w.heap.size + 1 + 1, 7, none⟩ (.int .i64 a.step)) A5 ns c5 a.sh := (k5.setLow (by omega) _).setLow (by omega) _
 have m6 : OwnI (w.heap.size + 3) ((w6.setCell ⟨w.heap.size + 1 + 1, 6, none⟩ (.slice A6 nk c6)).setCell ⟨w.heap.size + 1 + 1, 7, none⟩ (.int .i64 a.step)) A6 nk c6 a.ks := ((OwnI.mono o6 (by omega)).setLow (by omega) _).setLow (by omega) _
 (try clear B_l B_f B_0 B_1 B_2 B_3 B_4 B_5 B_6 B_7 B_8 B_9 B_10)
 (try clear O_l O_f O_0 O_1 O_2 O_3 O_4 O_5 O_6 O_7 O_8 O_9 O_10)
 clear hB hO hW hB5 hO5 hR5 hW5 m5 k5 o6 hb6 hz6
 generalize ((w6.setCell ⟨w.heap.size + 1 + 1, 6, none⟩ (.slice A6 nk c6)).setCell ⟨w.heap.size + 1 + 1, 7, none⟩ (.int .i64 a.step)) = v3 at hW6 hO6 hR6 hB6 m55 m6 ⊢
 refine (laws_toIntSS Ah nh ch hs a.hd _ (h.hd.keep hW6) n3 HN4.out).mono ?_
 rintro e w8 ⟨A8, c8, hs8, rfl, o8, hb8⟩
 have hl3 := hO6.lt
 have hz8 := hb8.sz
 have l5 : ∀ k, A5.map (·.block) = some k → k < v3.heap.size := fun k e => (m55.blk k e).2
 have l6 : ∀ k, A6.map (·.block) = some k → k < v3.heap.size := fun k e => (m6.blk k e).2
 have hO := hO6.keep hb8
 have hB := hB6.keep hb8
 have hW := hW6.call hb8
 have hX : OwnP (w.heap.size + 3) v3.heap.size w8 a A5 A6 A8 ns c5 nk c6 nh c8 hs8 := ⟨m55.keep hb8, m6.keep hb8, o8, by omega, l5, l6, n56, hz8⟩
 have hR := hR6.keep hb8
 obtain ⟨B_l, B_f, B_0, B_1, B_2, B_3, B_4, B_5, B_6, B_7, B_8, B_9, B_10⟩ := hB.l11
 obtain ⟨O_l, O_f, O_0, O_1, O_2, O_3, O_4, O_5, O_6, O_7, O_8, O_9, O_10⟩ := hO.l11
 obtain ⟨R_l, R_f, R_0, R_1, R_2, R_3, R_4, R_5, R_6, R_7, R_8, R_9, R_10⟩ := hR.l11
 go_wp2_with fail
 have hW9 : Bl w (((w8.setCell ⟨w.heap.size + 1 + 1, 8, none⟩ (.slice A8 nh c8)).setCell ⟨w.heap.size + 1 + 1, 9, none⟩ (.int .i64 a.status)).setCell ⟨w.heap.size + 1 + 1, 10, none⟩ (.int .i64 a.out)) := ((hW.setCell (by dsimp only; omega) _).setCell (by dsimp only; omega) _).setCell (by dsimp only; omega) _
 have hR9 : Blk (((w8.setCell ⟨w.heap.size + 1 + 1, 8, none⟩ (.slice A8 nh c8)).setCell ⟨w.heap.size + 1 + 1, 9, none⟩ (.int .i64 a.status)).setCell ⟨w.heap.size + 1 + 1, 10, none⟩ (.int .i64 a.out)) (w.heap.size + 1) 34 #[.int .i64 0, .int .i64 0, .int .i64 0, .int .i64 0, .int .i64 0, .slice none 0 0, .slice none 0 0, .int .i64 0, .slice none 0 0, .int .i64 0, .int .i64 0] := ((hR.far (by dsimp only; omega) _).far (by dsimp only; omega) _).far (by dsimp only; omega) _
 have hX9 : OwnP (w.heap.size + 3) v3.heap.size (((w8.setCell ⟨w.heap.size + 1 + 1, 8, none⟩ (.slice A8 nh c8)).setCell ⟨w.heap.size + 1 + 1, 9, none⟩ (.int .i64 a.status)).setCell ⟨w.heap.size + 1 + 1, 10, none⟩ (.int .i64 a.out)) a A5 A6 A8 ns c5 nk c6 nh c8 hs8 := ((hX.setLow (by omega) _).setLow (by omega) _).setLow (by omega) _
 have hg4 : World.grownBy (((w8.setCell ⟨w.heap.size + 1 + 1, 8, none⟩ (.slice A8 nh c8)).setCell ⟨w.heap.size + 1 + 1, 9, none⟩ (.int .i64 a.status)).setCell ⟨w.heap.size + 1 + 1, 10, none⟩ (.int .i64 a.out)) (((((((((((((((w8.setCell ⟨w.heap.size + 1 + 1, 8, none⟩ (.slice A8 nh c8)).setCell ⟨w.heap.size + 1 + 1, 9, none⟩ (.int .i64 a.status)).setCell ⟨w.heap.size + 1 + 1, 10, none⟩ (.int .i64 a.out)).setCell ⟨w.heap.size + 1, 0, none⟩ (.int .i64 a.p)).setCell ⟨w.heap.size + 1, 1, none⟩ (.int .i64 a.party)).setCell ⟨w.heap.size + 1, 2, none⟩ (.int .i64 a.x)).setCell ⟨w.heap.size + 1, 3, none⟩ (.int .i64 a.mask)).setCell ⟨w.heap.size + 1, 4, none⟩ (.int .i64 a.delta)).setCell ⟨w.heap.size + 1, 5, none⟩ (.slice A5 ns c5)).setCell ⟨w.heap.size + 1, 6, none⟩ (.slice A6 nk c6)).setCell ⟨w.heap.size + 1, 7, none⟩ (.int .i64 a.step)).setCell ⟨w.heap.size + 1, 8, none⟩ (.slice A8 nh c8)).setCell ⟨w.heap.size + 1, 9, none⟩ (.int .i64 a.status)).setCell ⟨w.heap.size + 1, 10, none⟩ (.int .i64 a.out))) (some (w.heap.size + 1)) := put11_grown _ _ (.int .i64 a.p) (.int .i64 a.party) (.int .i64 a.x) (.int .i64 a.mask) (.int .i64 a.delta) (.slice A5 ns c5) (.slice A6 nk c6) (.int .i64 a.step) (.slice A8 nh c8) (.int .i64 a.status) (.int .i64 a.out)
 have hR3 : Blk (((((((((((((((w8.setCell ⟨w.heap.size + 1 + 1, 8, none⟩ (.slice A8 nh c8)).setCell ⟨w.heap.size + 1 + 1, 9, none⟩ (.int .i64 a.status)).setCell ⟨w.heap.size + 1 + 1, 10, none⟩ (.int .i64 a.out)).setCell ⟨w.heap.size + 1, 0, none⟩ (.int .i64 a.p)).setCell ⟨w.heap.size + 1, 1, none⟩ (.int .i64 a.party)).setCell ⟨w.heap.size + 1, 2, none⟩ (.int .i64 a.x)).setCell ⟨w.heap.size + 1, 3, none⟩ (.int .i64 a.mask)).setCell ⟨w.heap.size + 1, 4, none⟩ (.int .i64 a.delta)).setCell ⟨w.heap.size + 1, 5, none⟩ (.slice A5 ns c5)).setCell ⟨w.heap.size + 1, 6, none⟩ (.slice A6 nk c6)).setCell ⟨w.heap.size + 1, 7, none⟩ (.int .i64 a.step)).setCell ⟨w.heap.size + 1, 8, none⟩ (.slice A8 nh c8)).setCell ⟨w.heap.size + 1, 9, none⟩ (.int .i64 a.status)).setCell ⟨w.heap.size + 1, 10, none⟩ (.int .i64 a.out))) (w.heap.size + 1) 34 #[.int .i64 a.p, .int .i64 a.party, .int .i64 a.x, .int .i64 a.mask, .int .i64 a.delta, .slice A5 ns c5, .slice A6 nk c6, .int .i64 a.step, .slice A8 nh c8, .int .i64 a.status, .int .i64 a.out] := put11_blk hR9 (.int .i64 a.p) (.int .i64 a.party) (.int .i64 a.x) (.int .i64 a.mask) (.int .i64 a.delta) (.slice A5 ns c5) (.slice A6 nk c6) (.int .i64 a.step) (.slice A8 nh c8) (.int .i64 a.status) (.int .i64 a.out)
 have hW4 := hW9.grown hg4 (fun k h => by injection h with h; omega)
 have hXf := hX9.grownLow hg4 (fun k h => by injection h with h; omega)
 clear hg4
 generalize ((((((((((((((w8.setCell ⟨w.heap.size + 1 + 1, 8, none⟩ (.slice A8 nh c8)).setCell ⟨w.heap.size + 1 + 1, 9, none⟩ (.int .i64 a.status)).setCell ⟨w.heap.size + 1 + 1, 10, none⟩ (.int .i64 a.out)).setCell ⟨w.heap.size + 1, 0, none⟩ (.int .i64 a.p)).setCell ⟨w.heap.size + 1, 1, none⟩ (.int .i64 a.party)).setCell ⟨w.heap.size + 1, 2, none⟩ (.int .i64 a.x)).setCell ⟨w.heap.size + 1, 3, none⟩ (.int .i64 a.mask)).setCell ⟨w.heap.size + 1, 4, none⟩ (.int .i64 a.delta)).setCell ⟨w.heap.size + 1, 5, none⟩ (.slice A5 ns c5)).setCell ⟨w.heap.size + 1, 6, none⟩ (.slice A6 nk c6)).setCell ⟨w.heap.size + 1, 7, none⟩ (.int .i64 a.step)).setCell ⟨w.heap.size + 1, 8, none⟩ (.slice A8 nh c8)).setCell ⟨w.heap.size + 1, 9, none⟩ (.int .i64 a.status)).setCell ⟨w.heap.size + 1, 10, none⟩ (.int .i64 a.out)) = wy at hW4 hR3 hXf ⊢
 have R3_0 := hR3.cell 0 _ rfl; have R3_1 := hR3.cell 1 _ rfl; have R3_2 := hR3.cell 2 _ rfl; have R3_3 := hR3.cell 3 _ rfl; have R3_4 := hR3.cell 4 _ rfl; have R3_5 := hR3.cell 5 _ rfl; have R3_6 := hR3.cell 6 _ rfl; have R3_7 := hR3.cell 7 _ rfl; have R3_8 := hR3.cell 8 _ rfl; have R3_9 := hR3.cell 9 _ rfl; have R3_10 := hR3.cell 10 _ rfl
 refine bodyPost_ret (v := .agg #[.int .i64 a.p, .int .i64 a.party, .int .i64 a.x, .int .i64 a.mask, .int .i64 a.delta, .slice A5 ns c5, .slice A6 nk c6, .int .i64 a.step, .slice A8 nh c8, .int .i64 a.status, .int .i64 a.out]) (by simp [results, Tryd.results10, go_sem, R3_0, R3_1, R3_2, R3_3, R3_4, R3_5, R3_6, R3_7, R3_8, R3_9, R3_10]) rfl ?_
 exact ⟨A5, A6, A8, c5, c6, c8, hs8, v3.heap.size, rfl, hXf.mono (by omega), hW4⟩
set_option maxRecDepth 20000 in
set_option maxHeartbeats 2000000 in
theorem laws_eqPlayer (a : Pl) (As Ak Ah : Option Addr) (ns cs nk ck nh ch : Nat) (hs : List Hd) (As2 Ak2 Ah2 : Option Addr) (ns2 cs2 nk2 ck2 nh2 ch2 : Nat) (hs2 : List Hd) (base T base2 T2 : Nat) (w : World) (h : OwnP base T w a As Ak Ah ns cs nk ck nh ch hs) (h2 : OwnP base2 T2 w a As2 Ak2 Ah2 ns2 cs2 nk2 ck2 nh2 ch2 hs2) :
  Calls Tryd.prog 13 #[.agg #[.int .i64 a.p, .int .i64 a.party, .int .i64 a.x, .int .i64 a.mask, .int .i64 a.delta, .slice As ns cs, .slice Ak nk ck, .int .i64 a.step, .slice Ah nh ch, .int .i64 a.status, .int .i64 a.out], .agg #[.int .i64 a.p, .int .i64 a.party, .int .i64 a.x, .int .i64 a.mask, .int .i64 a.delta, .slice As2 ns2 cs2, .slice Ak2 nk2 ck2, .int .i64 a.step, .slice Ah2 nh2 ch2, .int .i64 a.status, .int .i64 a.out]] w fun e w' => e = .returned (.bool true) ∧ Bl w w' := by
 have H1 := Lib.hid h
 have H2 := Lib.hid h2
 clear h h2
 have hW : Bl w ((w.alloc (.cells #[.int .i64 a.p, .int .i64 a.party, .int .i64 a.x, .int .i64 a.mask, .int .i64 a.delta, .slice As ns cs, .slice Ak nk ck, .int .i64 a.step, .slice Ah nh ch, .int .i64 a.status, .int .i64 a.out] 34)).alloc (.cells #[.int .i64 a.p, .int .i64 a.party, .int .i64 a.x, .int .i64 a.mask, .int .i64 a.delta, .slice As2 ns2 cs2, .slice Ak2 nk2 ck2, .int .i64 a.step, .slice Ah2 nh2 ch2, .int .i64 a.status, .int .i64 a.out] 34)) := Bl.a3
 have hA : Blk ((w.alloc (.cells #[.int .i64 a.p, .int .i64 a.party, .int .i64 a.x, .int .i64 a.mask, .int .i64 a.delta, .slice As ns cs, .slice Ak nk ck, .int .i64 a.step, .slice Ah nh ch, .int .i64 a.status, .int .i64 a.out] 34)).alloc (.cells #[.int .i64 a.p, .int .i64 a.party, .int .i64 a.x, .int .i64 a.mask, .int .i64 a.delta, .slice As2 ns2 cs2, .slice Ak2 nk2 ck2, .int .i64 a.step, .slice Ah2 nh2 ch2, .int .i64 a.status, .int .i64 a.out] 34)) (w.heap.size) 34 #[.int .i64 a.p, .int .i64 a.party, .int .i64 a.x, .int .i64 a.mask, .int .i64 a.delta, .slice As ns cs, .slice Ak nk ck, .int .i64 a.step, .slice Ah nh ch, .int .i64 a.status, .int .i64 a.out] := ((Blk.new w 34 #[.int .i64 a.p, .int .i64 a.party, .int .i64 a.x, .int .i64 a.mask, .int .i64 a.delta, .slice As ns cs, .slice Ak nk ck, .int .i64 a.step, .slice Ah nh ch, .int .i64 a.status, .int .i64 a.out] (g := w.heap.size)).alloc (.cells #[.int .i64 a.p, .int .i64 a.party, .int .i64 a.x, .int .i64 a.mask, .int .i64 a.delta, .slice As2 ns2 cs2, .slice Ak2 nk2 ck2, .int .i64 a.step, .slice Ah2 nh2 ch2, .int .i64 a.status, .int .i64 a.out] 34))
 have hB : Blk ((w.alloc (.cells #[.int .i64 a.p, .int .i64 a.party, .int .i64 a.x, .int .i64 a.mask, .int .i64 a.delta, .slice As ns cs, .slice Ak nk ck, .int .i64 a.step, .slice Ah nh ch, .int .i64 a.status, .int .i64 a.out] 34)).alloc (.cells #[.int .i64 a.p, .int .i64 a.party, .int .i64 a.x, .int .i64 a.mask, .int .i64 a.delta, .slice As2 ns2 cs2, .slice Ak2 nk2 ck2, .int .i64 a.step, .slice Ah2 nh2 ch2, .int .i64 a.status, .int .i64 a.out] 34)) (w.heap.size + 1) 34 #[.int .i64 a.p, .int .i64 a.party, .int .i64 a.x, .int .i64 a.mask, .int .i64 a.delta, .slice As2 ns2 cs2, .slice Ak2 nk2 ck2, .int .i64 a.step, .slice Ah2 nh2 ch2, .int .i64 a.status, .int .i64 a.out] := (Blk.new (w.alloc (.cells #[.int .i64 a.p, .int .i64 a.party, .int .i64 a.x, .int .i64 a.mask, .int .i64 a.delta, .slice As ns cs, .slice Ak nk ck, .int .i64 a.step, .slice Ah nh ch, .int .i64 a.status, .int .i64 a.out] 34)) 34 #[.int .i64 a.p, .int .i64 a.party, .int .i64 a.x, .int .i64 a.mask, .int .i64 a.delta, .slice As2 ns2 cs2, .slice Ak2 nk2 ck2, .int .i64 a.step, .slice Ah2 nh2 ch2, .int .i64 a.status, .int .i64 a.out] (g := w.heap.size + 1))
 obtain ⟨A_l, A_f, A_0, A_1, A_2, A_3, A_4, A_5, A_6, A_7, A_8, A_9, A_10⟩ := hA.l11; obtain ⟨B_l, B_f, B_0, B_1, B_2, B_3, B_4, B_5, B_6, B_7, B_8, B_9, B_10⟩ := hB.l11
 go_enter Tryd.func13, Tryd.ntmps13
 go_wp2_with (first | (go_at_call 40; refine (laws_eqTaggedS As As2 ns cs ns2 cs2 a.sh _ (H1.out.sh.rd.keep Bl.a3) (H2.out.sh.rd.keep Bl.a3)).mono ?_; rintro e w1 ⟨rfl, hb1⟩; replace hW : Bl w w1 := Bl.a3; replace hA := hA.kp hb1; replace hB := hB.kp hb1; (try clear A_l A_f A_0 A_1 A_2 A_3 A_4 A_5 A_6 A_7 A_8 A_9 A_10 B_l B_f B_0 B_1 B_2 B_3 B_4 B_5 B_6 B_7 B_8 B_9 B_10); obtain ⟨A_l, A_f, A_0, A_1, A_2, A_3, A_4, A_5, A_6, A_7, A_8, A_9, A_10⟩ := hA.l11; obtain ⟨B_l, B_f, B_0, B_1, B_2, B_3, B_4, B_5, B_6, B_7, B_8, B_9, B_10⟩ := hB.l11) | (go_at_call 17; refine (laws_eqIntS Ak Ak2 nk ck nk2 ck2 a.ks a.ks _ (H1.out.ks.rd.keep Bl.a3) (H2.out.ks.rd.keep Bl.a3)).mono ?_; rintro e w1 ⟨rfl, hb1⟩; rw [show decide (a.ks = a.ks) = true by simp]; replace hW : Bl w w1 := Bl.a3; replace hA := hA.kp hb1; replace hB := hB.kp hb1; (try clear A_l A_f A_0 A_1 A_2 A_3 A_4 A_5 A_6 A_7 A_8 A_9 A_10 B_l B_f B_0 B_1 B_2 B_3 B_4 B_5 B_6 B_7 B_8 B_9 B_10); obtain ⟨A_l, A_f, A_0, A_1, A_2, A_3, A_4, A_5, A_6, A_7, A_8, A_9, A_10⟩ := hA.l11; obtain ⟨B_l, B_f, B_0, B_1, B_2, B_3, B_4, B_5, B_6, B_7, B_8, B_9, B_10⟩ := hB.l11) | (go_at_call 41; refine (laws_eqIntSS Ah Ah2 nh ch nh2 ch2 hs hs2 a.hd _ (H1.out.hd.keep Bl.a3) (H2.out.hd.keep Bl.a3)).mono ?_; rintro e w1 ⟨rfl, hb1⟩; replace hW : Bl w w1 := Bl.a3; replace hA := hA.kp hb1; replace hB := hB.kp hb1; (try clear A_l A_f A_0 A_1 A_2 A_3 A_4 A_5 A_6 A_7 A_8 A_9 A_10 B_l B_f B_0 B_1 B_2 B_3 B_4 B_5 B_6 B_7 B_8 B_9 B_10); obtain ⟨A_l, A_f, A_0, A_1, A_2, A_3, A_4, A_5, A_6, A_7, A_8, A_9, A_10⟩ := hA.l11; obtain ⟨B_l, B_f, B_0, B_1, B_2, B_3, B_4, B_5, B_6, B_7, B_8, B_9, B_10⟩ := hB.l11))
 go_ret
 exact ⟨rfl, hW⟩
end Go.Proofs.YtcjpalhclgkjiaaDoor
