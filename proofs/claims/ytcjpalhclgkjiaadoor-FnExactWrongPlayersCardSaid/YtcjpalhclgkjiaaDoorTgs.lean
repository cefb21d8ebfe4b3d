/- Slices of tagged values and of meddles as arguments of a law.
   Conditions: none. -/
import Derived.Test.YtcjpalhclgkjiaaDoorBaseG
import Derived.Test.YtcjpalhclgkjiaaDoorMakG
import Derived.Test.YtcjpalhclgkjiaaDoorOpn
namespace Go.Proofs.YtcjpalhclgkjiaaDoor
open Go.ChangeShapes Go.WideShapes Go.ChangeAt Go.RowKit Go.Deep
set_option linter.unusedVariables false
theorem laws_szIntS (A : Option Addr) (n c : Nat) (left : Int) (w : World) (hn : n ≤ c) (hc : c ≤ 9223372036854775807) (h0 : 0 ≤ left) (h1 : left ≤ 1048576) :
  Calls Tryd.prog 31 #[.slice A n c, .int .i64 left] w fun e w' => e = .returned (.int .i64 (if left - n < 0 then -1 else left - n)) ∧ w = w' := by
 by_cases hlt : left - n < 0
 ·rw [if_pos hlt]
  go_enter Tryd.func31, Tryd.ntmps31
  go_wp2
  go_ret
  exact ⟨rfl, rfl⟩
 ·rw [if_neg hlt]
  go_enter Tryd.func31, Tryd.ntmps31
  go_wp2
  go_ret
  exact ⟨rfl, rfl⟩
def RdTg (w : World) (A : Option Addr) (n c : Nat) (l : List Tg) : Prop := Rd w 2 A n c (encs Tg.enc l) ∧ l.length = n
def OwnTg (base : Nat) (w : World) (A : Option Addr) (n c : Nat) (l : List Tg) : Prop := OwnV 93 2 base w A n c (encs Tg.enc l) ∧ l.length = n
theorem Tg_info : (Tryd.prog.info? 93).map (fun i => (i.zero, i.size, i.bytes)) = some (some (.agg #[.int .i64 0, .int .i64 0]), 2, 16) := by kernel_rfl
theorem OwnTg.rd {base n c : Nat} {w : World} {A : Option Addr} {l : List Tg} (h : OwnTg base w A n c l) : RdTg w A n c l := ⟨h.1.rd, h.2⟩
theorem RdTg.keep {n c : Nat} {w w' : World} {A : Option Addr} {l : List Tg} (h : RdTg w A n c l) (hb : Bl w w') : RdTg w' A n c l := ⟨h.1.keep hb, h.2⟩
theorem OwnTg.keep {base n c : Nat} {w w' : World} {A : Option Addr} {l : List Tg} (h : OwnTg base w A n c l) (hb : Bl w w') : OwnTg base w' A n c l := ⟨h.1.keep hb, h.2⟩
theorem OwnTg.blk {base n c : Nat} {w : World} {A : Option Addr} {l : List Tg} (h : OwnTg base w A n c l) : ∀ k, A.map (·.block) = some k → base ≤ k ∧ k < w.heap.size := OwnV.blk h.1
theorem OwnTg.mono {base base' n c : Nat} {w : World} {A : Option Addr} {l : List Tg} (h : OwnTg base' w A n c l) (hb : base ≤ base') : OwnTg base w A n c l := ⟨OwnV.mono h.1 hb, h.2⟩
theorem OwnTg.nil (base : Nat) (w : World) : OwnTg base w none 0 0 [] := ⟨OwnV.nil _ _ _ _, rfl⟩
theorem RdTg.le {n c : Nat} {w : World} {A : Option Addr} {l : List Tg} (h : RdTg w A n c l) : n ≤ c ∧ c ≤ 9223372036854775807 := ⟨h.1.cap, by have := h.1.max; unfold maxLen at this; exact this⟩
theorem OwnTg.grownR {w w' : World} {base n c : Nat} {A : Option Addr} {l : List Tg} {row : Option Nat} (h : OwnTg base w A n c l) (hg : w.grownBy w' row) (hne : ∀ k, A.map (·.block) = some k → row ≠ some k) : OwnTg base w' A n c l := ⟨OwnV.grownR h.1 hg hne, h.2⟩
theorem RdTg.at_ {n c : Nat} {w : World} {A : Option Addr} {l : List Tg} (h : RdTg w A n c l) {k : Nat} (hk : k < n) :
  ∃ ad a b, A = some ad ∧ l[k]? = some ⟨a, b⟩ ∧ w.cell? (ad.add (k * 2)) = some (.int .i64 a) ∧ w.cell? ⟨(ad.add (k * 2)).block, (ad.add (k * 2)).off + 1, none⟩ = some (.int .i64 b) := by
 obtain ⟨ad, ⟨a, b⟩, e, _, hx, hc⟩ := Rd.elem Tg.enc_len h.1 h.2 hk
 have h0 := hc 0 _ (by omega) rfl
 rw [add_zero_] at h0
 exact ⟨ad, a, b, e, hx, h0, hc 1 _ (by omega) rfl⟩
theorem OwnTg.at_ {base n c : Nat} {w : World} {g : Nat} {l : List Tg} (h : OwnTg base w (some ⟨g, 0, none⟩) n c l) {k : Nat} (hk : k < n) :
  ∃ a b, l[k]? = some ⟨a, b⟩ ∧ (∀ i, w.frozen? ⟨g, i, none⟩ = false) ∧ w.cell? ⟨g, k * 2, none⟩ = some (.int .i64 a) ∧ w.cell? ⟨g, k * 2 + 1, none⟩ = some (.int .i64 b) := by
 obtain ⟨g', hg, _, _, hcell, hfr⟩ := h.1.form (by omega)
 injection hg with hg
 injection hg with hg
 subst hg
 have hkl : k < l.length := by rw [h.2]; exact hk
 obtain ⟨x, hx⟩ : ∃ x, l[k]? = some x := ⟨_, List.getElem?_eq_getElem hkl⟩
 obtain ⟨a, b⟩ := x
 have hq : ∀ j u, j < 2 → (Tg.enc ⟨a, b⟩)[j]? = some u → w.cell? ⟨g, k * 2 + j, none⟩ = some u := fun j u hj hu =>
  hcell _ u (by rw [encs_get Tg.enc_len l k j _ hx hj]; exact hu)
 exact ⟨a, b, hx, hfr, hq 0 _ (by omega) rfl, hq 1 _ (by omega) rfl⟩
/-- All cells of an element are written. -/
theorem OwnTg.put {base n c : Nat} {w : World} {g : Nat} {l : List Tg} (h : OwnTg base w (some ⟨g, 0, none⟩) n c l) {k : Nat} (hk : k < n) (a b : Int) :
  OwnTg base ((w.setCell ⟨g, k * 2, none⟩ (.int .i64 a)).setCell ⟨g, k * 2 + 1, none⟩ (.int .i64 b))
   (some ⟨g, 0, none⟩) n c (l.set k ⟨a, b⟩) := by
 refine ⟨?_, by simpa using h.2⟩
 have h5 := (h.1.set_ (k * 2) (.int .i64 a) (by omega)).set_ (k * 2 + 1) (.int .i64 b) (by omega)
 have he := putAt_encs Tg.enc_len l k ⟨a, b⟩ (by rw [h.2]; exact hk)
 rw [← he]
 exact h5
theorem make_Tg (n : Nat) (hn : n ≤ 4398046511103) : ∀ w : World, (Instr.makeSlice 32 (.int .i64 (n : Int)) (.int .i64 (n : Int))).run Tryd.prog w = .ok (.slice (some ⟨w.heap.size, 0, none⟩) n n) (w.alloc (.cells (madeCells (Tg.zero.enc).toArray (n * 2)) 93)) := by
 obtain ⟨i0, hi, hz0, hz1, hz2⟩ := info_parts Tg_info
 intro w
 have h := run_make_rowN (P := Tryd.prog) 32 93 i0 _ Tryd.underlying32 hi hz0 .i64 .i64 n n (Nat.le_refl _) (by rw [hz2]; omega) (by omega) w
 rw [hz1] at h
 exact h
theorem own_made_Tg (w : World) (n : Nat) (hn : n ≤ 4398046511103) {g : Nat} (hg : w.heap.size = g := by first | with_reducible rfl | simp) :
  OwnTg w.heap.size (w.alloc (.cells (madeCells (Tg.zero.enc).toArray (n * 2)) 93)) (some ⟨g, 0, none⟩) n n (List.replicate n Tg.zero) := by
 subst hg
 refine ⟨⟨?_, .inr ⟨w.heap.size, n, _, rfl, Nat.le_refl _, heap_alloc_new w _, Nat.le_refl _, by unfold maxLen; omega, by simp [size_madeCells], ?_⟩⟩, by simp⟩
 ·simp [encs_length Tg.enc_len]
 ·rw [made_encs Tg.enc_len _ _ (by omega), List.take_of_length_le (by rw [encs_length Tg.enc_len]; simp)]
theorem toTagged_any (a b : Int) (w : World) : Calls Tryd.prog 58 #[.agg #[.int .i64 a, .int .i64 b]] w fun e w' => e = .returned (.agg #[.int .i64 a, .int .i64 b]) ∧ Bl w w' := by
 go_enter Tryd.func58, Tryd.ntmps58
 go_wp2
 refine bodyPost_ret (v := .agg #[.int .i64 a, .int .i64 b]) (by simp [results, Tryd.results58, go_sem]) rfl ⟨rfl, ?_⟩
 repeat (first | exact Bl.refl _ | apply Bl.alloc | apply Bl.drew)
theorem eqTagged_any (a b : Int) (w : World) : Calls Tryd.prog 60 #[.agg #[.int .i64 a, .int .i64 b], .agg #[.int .i64 a, .int .i64 b]] w fun e w' => e = .returned (.bool true) ∧ Bl w w' := by
 go_enter Tryd.func60, Tryd.ntmps60
 go_wp2
 go_ret
 exact ⟨rfl, Bl.a1⟩
set_option maxHeartbeats 2000000 in
theorem laws_toTaggedS (A : Option Addr) (n c : Nat) (l : List Tg) (w : World) (h : RdTg w A n c l) (hn : n ≤ 4398046511103) :
  Calls Tryd.prog 35 #[.slice A n c] w fun e w' => ∃ A' c', e = .returned (.slice A' n c') ∧ OwnTg w.heap.size w' A' n c' l ∧ Bl w w' := by
 obtain ⟨hle1, hle2⟩ := h.le
 have hl := Lib.hid h.2
 have hmk := make_Tg n hn
 have hown0 := own_made_Tg w n hn
 have hW0 := (Bl.refl w).alloc (.cells (madeCells (Tg.zero.enc).toArray (n * 2)) 93)
 go_enter Tryd.func35, Tryd.ntmps35
 go_wp2
 go_loopw [4] (fun i wr => ∃ k, k ≤ n ∧ i = .int .i64 (k : Nat) ∧ OwnTg w.heap.size wr (some ⟨w.heap.size, 0, none⟩) n n (filled Tg.zero l k) ∧ Bl w wr) (fun i _ => n - (intOf i).toNat)
 case atStart => exact ⟨0, by omega, rfl, by rw [filled_zero, hl.out]; exact hown0, hW0⟩
 case round =>
  obtain ⟨k, hk, rfl, hown, hW⟩ := hrel
  clear hmk hown0 hW0
  by_cases hlt : k < n
  ·obtain ⟨ad, a, b, rfl, hx, q0, q1⟩ := (h.keep hW).at_ hlt
   have HX := Lib.hid hx
   clear hx
   have i1 : (k : Int) < n := by omega
   go_wp2_with (first | (go_at_call 58; refine (toTagged_any _ _ _).mono ?_; rintro e w1 ⟨rfl, hb1⟩; replace hown := hown.keep hb1; replace hW := hW.call hb1; obtain ⟨a', b', hx', hfr, r0, r1⟩ := hown.at_ hlt; clear hx'))
   go_roundw
   case rel => exact ⟨k + 1, by omega, by go_num, by rw [← filled_step _ _ _ _ HX.out]; exact hown.put hlt a b, ((hW.setCell (Nat.le_refl _) _).setCell (Nat.le_refl _) _)⟩
   case measure => simp [intOf]; omega
  ·have he : k = n := by omega
   subst he
   have hfa := Lib.hid (filled_all Tg.zero l k hl.out)
   go_wp2
   go_ret
   exact ⟨_, _, rfl, by rw [← hfa.out]; exact hown, hW⟩
set_option maxHeartbeats 2000000 in
theorem laws_eqTaggedS (A B : Option Addr) (n c m d : Nat) (l : List Tg) (w : World) (h : RdTg w A n c l) (h' : RdTg w B m d l) :
  Calls Tryd.prog 40 #[.slice A n c, .slice B m d] w fun e w' => e = .returned (.bool true) ∧ Bl w w' := by
 obtain rfl : n = m := h.2.symm.trans h'.2
 obtain ⟨hle1, hle2⟩ := h.le
 obtain ⟨hle3, hle4⟩ := h'.le
 have hl := Lib.hid h.2
 have h0 := Bl.refl w
 go_enter Tryd.func40, Tryd.ntmps40
 go_wp2
 go_loopw [5] (fun i wr => ∃ k, k ≤ n ∧ i = .int .i64 (k : Nat) ∧ Bl w wr) (fun i _ => n - (intOf i).toNat)
 case atStart => exact ⟨0, by omega, rfl, h0⟩
 case round =>
  obtain ⟨k, hk, rfl, hW⟩ := hrel
  clear h0
  by_cases hlt : k < n
  ·obtain ⟨ad, a, b, rfl, hx, q0, q1⟩ := (h.keep hW).at_ hlt
   obtain ⟨ad', a', b', rfl, hy, r0, r1⟩ := (h'.keep hW).at_ hlt
   have hxy := hx.symm.trans hy
   simp only [Option.some.injEq, Tg.mk.injEq] at hxy
   obtain ⟨rfl, rfl⟩ := hxy
   clear hx hy
   have i1 : (k : Int) < n := by omega
   go_wp2
   go_region_held3 (fun w' => w'.cell? (ad.add (k * 2)) = some (.int .i64 a) ∧ w'.cell? ⟨(ad.add (k * 2)).block, (ad.add (k * 2)).off + 1, none⟩ = some (.int .i64 b) ∧ w'.cell? (ad'.add (k * 2)) = some (.int .i64 a) ∧ w'.cell? ⟨(ad'.add (k * 2)).block, (ad'.add (k * 2)).off + 1, none⟩ = some (.int .i64 b)) (first | exact ⟨q0, q1, r0, r1⟩ | go_keep) (first | (go_at_call 60; refine (eqTagged_any _ _ _).mono ?_; rintro e w1 ⟨rfl, hb1⟩; replace hW := (by first | exact hW.drew.call hb1 | exact hW.call hb1); replace q0 := hb1.cells q0; replace q1 := hb1.cells q1; replace r0 := hb1.cells r0; replace r1 := hb1.cells r1))
   go_wp2
   go_roundw
   case rel => exact ⟨k + 1, by omega, by go_num, hW⟩
   case measure => simp [intOf]; omega
  ·go_wp2
   go_ret
   exact ⟨rfl, hW⟩
theorem laws_szTaggedS (A : Option Addr) (n c : Nat) (left : Int) (w : World) (hn : n ≤ c) (hc : c ≤ 9223372036854775807) (h0 : 0 ≤ left) (h1 : left ≤ 1048576) :
  Calls Tryd.prog 30 #[.slice A n c, .int .i64 left] w fun e w' => e = .returned (.int .i64 (if left - n < 0 then -1 else left - n)) ∧ w = w' := by
 by_cases hlt : left - n < 0
 ·rw [if_pos hlt]
  go_enter Tryd.func30, Tryd.ntmps30
  go_wp2
  go_ret
  exact ⟨rfl, rfl⟩
 ·rw [if_neg hlt]
  go_enter Tryd.func30, Tryd.ntmps30
  go_wp2
  go_ret
  exact ⟨rfl, rfl⟩
/-- The marks of the elements. -/
def markTg (k : Int) : Tg := ⟨k, k + 1⟩
def markTgs (k : Int) (l : List Tg) (i : Nat) : List Tg := ((List.range i).map fun j => markTg (k + 2 * (j : Nat))) ++ l.drop i
theorem markTgs_zero (k : Int) (l : List Tg) : markTgs k l 0 = l := by simp [markTgs]
theorem markTgs_step (k : Int) (l : List Tg) (i : Nat) (h : i < l.length) : (markTgs k l i).set i (markTg (k + 2 * i)) = markTgs k l (i + 1) := by
 unfold markTgs
 rw [List.set_append_right _ _ (by simp), show i - ((List.range i).map fun j => markTg (k + 2 * (j : Nat))).length = 0 by simp, List.drop_eq_getElem_cons h, List.set_cons_zero]
 simp [List.range_succ]
set_option maxHeartbeats 4000000 in
theorem laws_markTaggedS (A : Option Addr) (n c base : Nat) (l : List Tg) (k : Int) (w : World) (h : OwnTg base w A n c l) (hk : 0 ≤ k) (hk2 : k + 2 * n ≤ 4000000000000000000) :
  Calls Tryd.prog 43 #[.slice A n c, .int .i64 k] w fun e w' => e = .returned (.int .i64 (k + 2 * n)) ∧ OwnTg base w' A n c (markTgs k l n) ∧ w.grownBy w' (A.map (·.block)) := by
 obtain ⟨hle1, hle2⟩ := h.rd.le
 have hl := Lib.hid h.2
 go_enter Tryd.func43, Tryd.ntmps43
 go_wp2
 go_loopw [1, 5] (fun q i wr => ∃ j : Nat, j ≤ n ∧ i = .int .i64 j ∧ q = .int .i64 (k + 2 * j) ∧ OwnTg base wr A n c (markTgs k l j) ∧ w.grownBy wr (A.map (·.block))) (fun _ i _ => n - (intOf i).toNat)
 case atStart => exact ⟨0, by omega, rfl, by simp, by rw [markTgs_zero]; exact h, World.grownBy.refl w _⟩
 case round =>
  obtain ⟨j, hj, rfl, rfl, hown, hg⟩ := hrel
  by_cases hlt : j < n
  ·obtain ⟨g, rfl, hbg, hgl, hcell, hfr0⟩ := hown.1.form (by omega)
   clear hcell hfr0
   obtain ⟨a', b', hx', hfr, r0, r1⟩ := hown.at_ hlt
   clear hx'
   go_wp2
   go_roundw
   case rel => exact ⟨j + 1, by omega, by go_num, by go_num, by rw [← markTgs_step _ _ _ (by rw [hl.out]; omega)]; exact hown.put hlt _ _, grownBy_trans (grownBy_trans hg (grownBy_setCell _ _ _ _)) (grownBy_setCell _ _ _ _)⟩
   case measure => simp [intOf]; omega
  ·have he : j = n := by omega
   subst he
   go_wp2
   go_ret
   exact ⟨rfl, hown, hg⟩
theorem open_Tg {H : Type} {enc : TypeId × Value → H} {w : World} {base : Nat} {spare : Nat → Bool} {held : Bool} {v : Value} {y : DataW H × List MemPlace} {fuel : Nat}
  (hf : DataW.trod enc Tryd.prog w base spare held fuel 22 [v] = some y) : ∃ A n c l, v = .slice A n c ∧ RdTg w A n c l := by
 rcases open_slice_fields Tryd.underlying22 Tryd.underlying95 (by kernel_rfl) (by kernel_rfl) hf with hcs | ⟨a, len, cap, hcs, hl, hm, he⟩
 ·simp at hcs
  exact ⟨none, 0, 0, [], hcs, Rd.nil w 2, rfl⟩
 ·simp at hcs
  obtain ⟨l, hll, hp⟩ := choose_list (p := fun i (x : Tg) => ∀ j u, x.enc[j]? = some u → w.cell? (a.add (i * 2 + j)) = some u) len (by
   intro i hi
   obtain ⟨v0, y0, n0, c0, t0⟩ := he i hi 0 _ rfl
   obtain ⟨v1, y1, n1, c1, t1⟩ := he i hi 1 _ rfl
   obtain ⟨x0, e0, _, _⟩ := DataW.trod_int Tryd.underlying3 t0
   obtain ⟨x1, e1, _, _⟩ := DataW.trod_int Tryd.underlying3 t1
   simp at e0 e1
   subst e0 e1
   refine ⟨⟨x0, x1⟩, fun j u hu => ?_⟩
   match j, hu with
   | 0, hu => simp [Tg.enc] at hu; subst hu; exact c0
   | 1, hu => simp [Tg.enc] at hu; subst hu; exact c1
   | j + 2, hu => simp [Tg.enc] at hu)
  exact ⟨some a, len, cap, l, hcs, rd_of_elems Tg.enc_len (by omega) hll hl hm hp, hll⟩
def RdMd (w : World) (A : Option Addr) (n c : Nat) (l : List Md) : Prop := Rd w 4 A n c (encs Md.enc l) ∧ l.length = n
def OwnMd (base : Nat) (w : World) (A : Option Addr) (n c : Nat) (l : List Md) : Prop := OwnV 55 4 base w A n c (encs Md.enc l) ∧ l.length = n
theorem Md_info : (Tryd.prog.info? 55).map (fun i => (i.zero, i.size, i.bytes)) = some (some (.agg #[.int .i64 0, .int .i64 0, .int .i64 0, .int .i64 0]), 4, 32) := by kernel_rfl
theorem OwnMd.rd {base n c : Nat} {w : World} {A : Option Addr} {l : List Md} (h : OwnMd base w A n c l) : RdMd w A n c l := ⟨h.1.rd, h.2⟩
theorem RdMd.keep {n c : Nat} {w w' : World} {A : Option Addr} {l : List Md} (h : RdMd w A n c l) (hb : Bl w w') : RdMd w' A n c l := ⟨h.1.keep hb, h.2⟩
theorem OwnMd.keep {base n c : Nat} {w w' : World} {A : Option Addr} {l : List Md} (h : OwnMd base w A n c l) (hb : Bl w w') : OwnMd base w' A n c l := ⟨h.1.keep hb, h.2⟩
theorem OwnMd.blk {base n c : Nat} {w : World} {A : Option Addr} {l : List Md} (h : OwnMd base w A n c l) : ∀ k, A.map (·.block) = some k → base ≤ k ∧ k < w.heap.size := OwnV.blk h.1
theorem OwnMd.mono {base base' n c : Nat} {w : World} {A : Option Addr} {l : List Md} (h : OwnMd base' w A n c l) (hb : base ≤ base') : OwnMd base w A n c l := ⟨OwnV.mono h.1 hb, h.2⟩
theorem OwnMd.nil (base : Nat) (w : World) : OwnMd base w none 0 0 [] := ⟨OwnV.nil _ _ _ _, rfl⟩
theorem RdMd.le {n c : Nat} {w : World} {A : Option Addr} {l : List Md} (h : RdMd w A n c l) : n ≤ c ∧ c ≤ 9223372036854775807 := ⟨h.1.cap, by have := h.1.max; unfold maxLen at this; exact this⟩
theorem OwnMd.grownR {w w' : World} {base n c : Nat} {A : Option Addr} {l : List Md} {row : Option Nat} (h : OwnMd base w A n c l) (hg : w.grownBy w' row) (hne : ∀ k, A.map (·.block) = some k → row ≠ some k) : OwnMd base w' A n c l := ⟨OwnV.grownR h.1 hg hne, h.2⟩
theorem RdMd.at_ {n c : Nat} {w : World} {A : Option Addr} {l : List Md} (h : RdMd w A n c l) {k : Nat} (hk : k < n) :
  ∃ ad a b d f, A = some ad ∧ l[k]? = some ⟨a, b, d, f⟩ ∧ w.cell? (ad.add (k * 4)) = some (.int .i64 a) ∧ w.cell? ⟨(ad.add (k * 4)).block, (ad.add (k * 4)).off + 1, none⟩ = some (.int .i64 b) ∧ w.cell? ⟨(ad.add (k * 4)).block, (ad.add (k * 4)).off + 2, none⟩ = some (.int .i64 d) ∧ w.cell? ⟨(ad.add (k * 4)).block, (ad.add (k * 4)).off + 3, none⟩ = some (.int .i64 f) := by
 obtain ⟨ad, ⟨a, b, d, f⟩, e, _, hx, hc⟩ := Rd.elem Md.enc_len h.1 h.2 hk
 have h0 := hc 0 _ (by omega) rfl
 rw [add_zero_] at h0
 exact ⟨ad, a, b, d, f, e, hx, h0, hc 1 _ (by omega) rfl, hc 2 _ (by omega) rfl, hc 3 _ (by omega) rfl⟩
theorem OwnMd.at_ {base n c : Nat} {w : World} {g : Nat} {l : List Md} (h : OwnMd base w (some ⟨g, 0, none⟩) n c l) {k : Nat} (hk : k < n) :
  ∃ a b d f, l[k]? = some ⟨a, b, d, f⟩ ∧ (∀ i, w.frozen? ⟨g, i, none⟩ = false) ∧ w.cell? ⟨g, k * 4, none⟩ = some (.int .i64 a) ∧ w.cell? ⟨g, k * 4 + 1, none⟩ = some (.int .i64 b) ∧ w.cell? ⟨g, k * 4 + 2, none⟩ = some (.int .i64 d) ∧ w.cell? ⟨g, k * 4 + 3, none⟩ = some (.int .i64 f) := by
 obtain ⟨g', hg, _, _, hcell, hfr⟩ := h.1.form (by omega)
 injection hg with hg
 injection hg with hg
 subst hg
 have hkl : k < l.length := by rw [h.2]; exact hk
 obtain ⟨x, hx⟩ : ∃ x, l[k]? = some x := ⟨_, List.getElem?_eq_getElem hkl⟩
 obtain ⟨a, b, d, f⟩ := x
 have hq : ∀ j u, j < 4 → (Md.enc ⟨a, b, d, f⟩)[j]? = some u → w.cell? ⟨g, k * 4 + j, none⟩ = some u := fun j u hj hu =>
  hcell _ u (by rw [encs_get Md.enc_len l k j _ hx hj]; exact hu)
 exact ⟨a, b, d, f, hx, hfr, hq 0 _ (by omega) rfl, hq 1 _ (by omega) rfl, hq 2 _ (by omega) rfl, hq 3 _ (by omega) rfl⟩
/-- All cells of an element are written. -/
theorem OwnMd.put {base n c : Nat} {w : World} {g : Nat} {l : List Md} (h : OwnMd base w (some ⟨g, 0, none⟩) n c l) {k : Nat} (hk : k < n) (a b d f : Int) :
  OwnMd base ((((w.setCell ⟨g, k * 4, none⟩ (.int .i64 a)).setCell ⟨g, k * 4 + 1, none⟩ (.int .i64 b)).setCell ⟨g, k * 4 + 2, none⟩ (.int .i64 d)).setCell ⟨g, k * 4 + 3, none⟩ (.int .i64 f))
   (some ⟨g, 0, none⟩) n c (l.set k ⟨a, b, d, f⟩) := by
 refine ⟨?_, by simpa using h.2⟩
 have h5 := (((h.1.set_ (k * 4) (.int .i64 a) (by omega)).set_ (k * 4 + 1) (.int .i64 b) (by omega)).set_ (k * 4 + 2) (.int .i64 d) (by omega)).set_ (k * 4 + 3) (.int .i64 f) (by omega)
 have he := putAt_encs Md.enc_len l k ⟨a, b, d, f⟩ (by rw [h.2]; exact hk)
 rw [← he]
 exact h5
theorem make_Md (n : Nat) (hn : n ≤ 4398046511103) : ∀ w : World, (Instr.makeSlice 36 (.int .i64 (n : Int)) (.int .i64 (n : Int))).run Tryd.prog w = .ok (.slice (some ⟨w.heap.size, 0, none⟩) n n) (w.alloc (.cells (madeCells (Md.zero.enc).toArray (n * 4)) 55)) := by
 obtain ⟨i0, hi, hz0, hz1, hz2⟩ := info_parts Md_info
 intro w
 have h := run_make_rowN (P := Tryd.prog) 36 55 i0 _ Tryd.underlying36 hi hz0 .i64 .i64 n n (Nat.le_refl _) (by rw [hz2]; omega) (by omega) w
 rw [hz1] at h
 exact h
theorem own_made_Md (w : World) (n : Nat) (hn : n ≤ 4398046511103) {g : Nat} (hg : w.heap.size = g := by first | with_reducible rfl | simp) :
  OwnMd w.heap.size (w.alloc (.cells (madeCells (Md.zero.enc).toArray (n * 4)) 55)) (some ⟨g, 0, none⟩) n n (List.replicate n Md.zero) := by
 subst hg
 refine ⟨⟨?_, .inr ⟨w.heap.size, n, _, rfl, Nat.le_refl _, heap_alloc_new w _, Nat.le_refl _, by unfold maxLen; omega, by simp [size_madeCells], ?_⟩⟩, by simp⟩
 ·simp [encs_length Md.enc_len]
 ·rw [made_encs Md.enc_len _ _ (by omega), List.take_of_length_le (by rw [encs_length Md.enc_len]; simp)]
theorem toMeddle_any (a b d f : Int) (w : World) : Calls Tryd.prog 38 #[.agg #[.int .i64 a, .int .i64 b, .int .i64 d, .int .i64 f]] w fun e w' => e = .returned (.agg #[.int .i64 a, .int .i64 b, .int .i64 d, .int .i64 f]) ∧ Bl w w' := by
 go_enter Tryd.func38, Tryd.ntmps38
 go_wp2
 refine bodyPost_ret (v := .agg #[.int .i64 a, .int .i64 b, .int .i64 d, .int .i64 f]) (by simp [results, Tryd.results38, go_sem]) rfl ⟨rfl, ?_⟩
 repeat (first | exact Bl.refl _ | apply Bl.alloc | apply Bl.drew)
theorem eqMeddle_any (a b d f : Int) (w : World) : Calls Tryd.prog 42 #[.agg #[.int .i64 a, .int .i64 b, .int .i64 d, .int .i64 f], .agg #[.int .i64 a, .int .i64 b, .int .i64 d, .int .i64 f]] w fun e w' => e = .returned (.bool true) ∧ Bl w w' := by
 go_enter Tryd.func42, Tryd.ntmps42
 go_wp2
 go_ret
 exact ⟨rfl, Bl.a1⟩
set_option maxHeartbeats 2000000 in
theorem laws_toMeddleS (A : Option Addr) (n c : Nat) (l : List Md) (w : World) (h : RdMd w A n c l) (hn : n ≤ 4398046511103) :
  Calls Tryd.prog 11 #[.slice A n c] w fun e w' => ∃ A' c', e = .returned (.slice A' n c') ∧ OwnMd w.heap.size w' A' n c' l ∧ Bl w w' := by
 obtain ⟨hle1, hle2⟩ := h.le
 have hl := Lib.hid h.2
 have hmk := make_Md n hn
 have hown0 := own_made_Md w n hn
 have hW0 := (Bl.refl w).alloc (.cells (madeCells (Md.zero.enc).toArray (n * 4)) 55)
 go_enter Tryd.func11, Tryd.ntmps11
 go_wp2
 go_loopw [4] (fun i wr => ∃ k, k ≤ n ∧ i = .int .i64 (k : Nat) ∧ OwnMd w.heap.size wr (some ⟨w.heap.size, 0, none⟩) n n (filled Md.zero l k) ∧ Bl w wr) (fun i _ => n - (intOf i).toNat)
 case atStart => exact ⟨0, by omega, rfl, by rw [filled_zero, hl.out]; exact hown0, hW0⟩
 case round =>
  obtain ⟨k, hk, rfl, hown, hW⟩ := hrel
  clear hmk hown0 hW0
  by_cases hlt : k < n
  ·obtain ⟨ad, a, b, d, f, rfl, hx, q0, q1, q2, q3⟩ := (h.keep hW).at_ hlt
   have HX := Lib.hid hx
   clear hx
   have i1 : (k : Int) < n := by omega
   go_wp2_with (first | (go_at_call 38; refine (toMeddle_any _ _ _ _ _).mono ?_; rintro e w1 ⟨rfl, hb1⟩; replace hown := hown.keep hb1; replace hW := hW.call hb1; obtain ⟨a', b', d', f', hx', hfr, r0, r1, r2, r3⟩ := hown.at_ hlt; clear hx'))
   go_roundw
   case rel => exact ⟨k + 1, by omega, by go_num, by rw [← filled_step _ _ _ _ HX.out]; exact hown.put hlt a b d f, ((((hW.setCell (Nat.le_refl _) _).setCell (Nat.le_refl _) _).setCell (Nat.le_refl _) _).setCell (Nat.le_refl _) _)⟩
   case measure => simp [intOf]; omega
  ·have he : k = n := by omega
   subst he
   have hfa := Lib.hid (filled_all Md.zero l k hl.out)
   go_wp2
   go_ret
   exact ⟨_, _, rfl, by rw [← hfa.out]; exact hown, hW⟩
set_option maxHeartbeats 2000000 in
theorem laws_eqMeddleS (A B : Option Addr) (n c m d : Nat) (l : List Md) (w : World) (h : RdMd w A n c l) (h' : RdMd w B m d l) :
  Calls Tryd.prog 14 #[.slice A n c, .slice B m d] w fun e w' => e = .returned (.bool true) ∧ Bl w w' := by
 obtain rfl : n = m := h.2.symm.trans h'.2
 obtain ⟨hle1, hle2⟩ := h.le
 obtain ⟨hle3, hle4⟩ := h'.le
 have hl := Lib.hid h.2
 have h0 := Bl.refl w
 go_enter Tryd.func14, Tryd.ntmps14
 go_wp2
 go_loopw [5] (fun i wr => ∃ k, k ≤ n ∧ i = .int .i64 (k : Nat) ∧ Bl w wr) (fun i _ => n - (intOf i).toNat)
 case atStart => exact ⟨0, by omega, rfl, h0⟩
 case round =>
  obtain ⟨k, hk, rfl, hW⟩ := hrel
  clear h0
  by_cases hlt : k < n
  ·obtain ⟨ad, a, b, d, f, rfl, hx, q0, q1, q2, q3⟩ := (h.keep hW).at_ hlt
   obtain ⟨ad', a', b', d', f', rfl, hy, r0, r1, r2, r3⟩ := (h'.keep hW).at_ hlt
   have hxy := hx.symm.trans hy
   simp only [Option.some.injEq, Md.mk.injEq] at hxy
   obtain ⟨rfl, rfl, rfl, rfl⟩ := hxy
   clear hx hy
   have i1 : (k : Int) < n := by omega
   go_wp2
   go_region_held3 (fun w' => w'.cell? (ad.add (k * 4)) = some (.int .i64 a) ∧ w'.cell? ⟨(ad.add (k * 4)).block, (ad.add (k * 4)).off + 1, none⟩ = some (.int .i64 b) ∧ w'.cell? ⟨(ad.add (k * 4)).block, (ad.add (k * 4)).off + 2, none⟩ = some (.int .i64 d) ∧ w'.cell? ⟨(ad.add (k * 4)).block, (ad.add (k * 4)).off + 3, none⟩ = some (.int .i64 f) ∧ w'.cell? (ad'.add (k * 4)) = some (.int .i64 a) ∧ w'.cell? ⟨(ad'.add (k * 4)).block, (ad'.add (k * 4)).off + 1, none⟩ = some (.int .i64 b) ∧ w'.cell? ⟨(ad'.add (k * 4)).block, (ad'.add (k * 4)).off + 2, none⟩ = some (.int .i64 d) ∧ w'.cell? ⟨(ad'.add (k * 4)).block, (ad'.add (k * 4)).off + 3, none⟩ = some (.int .i64 f)) (first | exact ⟨q0, q1, q2, q3, r0, r1, r2, r3⟩ | go_keep) (first | (go_at_call 42; refine (eqMeddle_any _ _ _ _ _).mono ?_; rintro e w1 ⟨rfl, hb1⟩; replace hW := (by first | exact hW.drew.call hb1 | exact hW.call hb1); replace q0 := hb1.cells q0; replace q1 := hb1.cells q1; replace q2 := hb1.cells q2; replace q3 := hb1.cells q3; replace r0 := hb1.cells r0; replace r1 := hb1.cells r1; replace r2 := hb1.cells r2; replace r3 := hb1.cells r3))
   go_wp2
   go_roundw
   case rel => exact ⟨k + 1, by omega, by go_num, hW⟩
   case measure => simp [intOf]; omega
  ·go_wp2
   go_ret
   exact ⟨rfl, hW⟩
theorem laws_szMeddleS (A : Option Addr) (n c : Nat) (left : Int) (w : World) (hn : n ≤ c) (hc : c ≤ 9223372036854775807) (h0 : 0 ≤ left) (h1 : left ≤ 1048576) :
  Calls Tryd.prog 8 #[.slice A n c, .int .i64 left] w fun e w' => e = .returned (.int .i64 (if left - n < 0 then -1 else left - n)) ∧ w = w' := by
 by_cases hlt : left - n < 0
 ·rw [if_pos hlt]
  go_enter Tryd.func8, Tryd.ntmps8
  go_wp2
  go_ret
  exact ⟨rfl, rfl⟩
 ·rw [if_neg hlt]
  go_enter Tryd.func8, Tryd.ntmps8
  go_wp2
  go_ret
  exact ⟨rfl, rfl⟩
/-- The marks of the elements. -/
def markMd (k : Int) : Md := ⟨k, k + 1, k + 1 + 1, k + 1 + 1 + 1⟩
def markMds (k : Int) (l : List Md) (i : Nat) : List Md := ((List.range i).map fun j => markMd (k + 4 * (j : Nat))) ++ l.drop i
theorem markMds_zero (k : Int) (l : List Md) : markMds k l 0 = l := by simp [markMds]
theorem markMds_step (k : Int) (l : List Md) (i : Nat) (h : i < l.length) : (markMds k l i).set i (markMd (k + 4 * i)) = markMds k l (i + 1) := by
 unfold markMds
 rw [List.set_append_right _ _ (by simp), show i - ((List.range i).map fun j => markMd (k + 4 * (j : Nat))).length = 0 by simp, List.drop_eq_getElem_cons h, List.set_cons_zero]
 simp [List.range_succ]
set_option maxHeartbeats 4000000 in
theorem laws_markMeddleS (A : Option Addr) (n c base : Nat) (l : List Md) (k : Int) (w : World) (h : OwnMd base w A n c l) (hk : 0 ≤ k) (hk2 : k + 4 * n ≤ 4000000000000000000) :
  Calls Tryd.prog 19 #[.slice A n c, .int .i64 k] w fun e w' => e = .returned (.int .i64 (k + 4 * n)) ∧ OwnMd base w' A n c (markMds k l n) ∧ w.grownBy w' (A.map (·.block)) := by
 obtain ⟨hle1, hle2⟩ := h.rd.le
 have hl := Lib.hid h.2
 go_enter Tryd.func19, Tryd.ntmps19
 go_wp2
 go_loopw [1, 5] (fun q i wr => ∃ j : Nat, j ≤ n ∧ i = .int .i64 j ∧ q = .int .i64 (k + 4 * j) ∧ OwnMd base wr A n c (markMds k l j) ∧ w.grownBy wr (A.map (·.block))) (fun _ i _ => n - (intOf i).toNat)
 case atStart => exact ⟨0, by omega, rfl, by simp, by rw [markMds_zero]; exact h, World.grownBy.refl w _⟩
 case round =>
  obtain ⟨j, hj, rfl, rfl, hown, hg⟩ := hrel
  by_cases hlt : j < n
  ·obtain ⟨g, rfl, hbg, hgl, hcell, hfr0⟩ := hown.1.form (by omega)
   clear hcell hfr0
   obtain ⟨a', b', d', f', hx', hfr, r0, r1, r2, r3⟩ := hown.at_ hlt
   clear hx'
   go_wp2
   go_roundw
   case rel => exact ⟨j + 1, by omega, by go_num, by go_num, by rw [← markMds_step _ _ _ (by rw [hl.out]; omega)]; exact hown.put hlt _ _ _ _, grownBy_trans (grownBy_trans (grownBy_trans (grownBy_trans hg (grownBy_setCell _ _ _ _)) (grownBy_setCell _ _ _ _)) (grownBy_setCell _ _ _ _)) (grownBy_setCell _ _ _ _)⟩
   case measure => simp [intOf]; omega
  ·have he : j = n := by omega
   subst he
   go_wp2
   go_ret
   exact ⟨rfl, hown, hg⟩
theorem open_Md {H : Type} {enc : TypeId × Value → H} {w : World} {base : Nat} {spare : Nat → Bool} {held : Bool} {v : Value} {y : DataW H × List MemPlace} {fuel : Nat}
  (hf : DataW.trod enc Tryd.prog w base spare held fuel 27 [v] = some y) : ∃ A n c l, v = .slice A n c ∧ RdMd w A n c l := by
 rcases open_slice_fields Tryd.underlying27 Tryd.underlying67 (by kernel_rfl) (by kernel_rfl) hf with hcs | ⟨a, len, cap, hcs, hl, hm, he⟩
 ·simp at hcs
  exact ⟨none, 0, 0, [], hcs, Rd.nil w 4, rfl⟩
 ·simp at hcs
  obtain ⟨l, hll, hp⟩ := choose_list (p := fun i (x : Md) => ∀ j u, x.enc[j]? = some u → w.cell? (a.add (i * 4 + j)) = some u) len (by
   intro i hi
   obtain ⟨v0, y0, n0, c0, t0⟩ := he i hi 0 _ rfl
   obtain ⟨v1, y1, n1, c1, t1⟩ := he i hi 1 _ rfl
   obtain ⟨v2, y2, n2, c2, t2⟩ := he i hi 2 _ rfl
   obtain ⟨v3, y3, n3, c3, t3⟩ := he i hi 3 _ rfl
   obtain ⟨x0, e0, _, _⟩ := DataW.trod_int Tryd.underlying3 t0
   obtain ⟨x1, e1, _, _⟩ := DataW.trod_int Tryd.underlying3 t1
   obtain ⟨x2, e2, _, _⟩ := DataW.trod_int Tryd.underlying3 t2
   obtain ⟨x3, e3, _, _⟩ := DataW.trod_int Tryd.underlying3 t3
   simp at e0 e1 e2 e3
   subst e0 e1 e2 e3
   refine ⟨⟨x0, x1, x2, x3⟩, fun j u hu => ?_⟩
   match j, hu with
   | 0, hu => simp [Md.enc] at hu; subst hu; exact c0
   | 1, hu => simp [Md.enc] at hu; subst hu; exact c1
   | 2, hu => simp [Md.enc] at hu; subst hu; exact c2
   | 3, hu => simp [Md.enc] at hu; subst hu; exact c3
   | j + 4, hu => simp [Md.enc] at hu)
  exact ⟨some a, len, cap, l, hcs, rd_of_elems Md.enc_len (by omega) hll hl hm hp, hll⟩
end Go.Proofs.YtcjpalhclgkjiaaDoor
