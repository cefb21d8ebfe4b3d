/- Contracts of a drawn gadget.
   Conditions: one to five wires a number. -/
import Derived.Test.YtlmlffiajgofeaaGdt
import Derived.Test.YtlmlffiajgofeaaFre
import Derived.Test.YtlmlffiajgofeaaQui
namespace Go.Proofs.Ytlmlffiajgofeaa
open Go.RowKit
set_option linter.unusedVariables false
/-- A circuit that the call made. -/
def MakP (w : World) (e : Ending) (w' : World) : Prop := ∃ a b A n c gl S m d ol, e = .returned (.agg #[.int .i64 a, .int .i64 b, .slice A n c, .slice S m d]) ∧ ((0 ≤ a ∧ a ≤ 30) ∧ (0 ≤ b ∧ b ≤ 30) ∧ n ≤ 301 ∧ m ≤ 41) ∧ RdC w' A n c gl S m d ol ∧ Bl w w' ∧ ((∀ k, A.map (·.block) = some k → w.heap.size ≤ k) ∧ ∀ k, S.map (·.block) = some k → w.heap.size ≤ k)
theorem makP {w w' : World} {a b : Int} {A S : Option Addr} {n c m d : Nat} {gl : List Gt} {ol : List Int} (h1 : (0 ≤ a ∧ a ≤ 30) ∧ (0 ≤ b ∧ b ≤ 30) ∧ n ≤ 301 ∧ m ≤ 41) (h2 : RdC w' A n c gl S m d ol) (h3 : Bl w w' ∧ ((∀ k, A.map (·.block) = some k → w.heap.size ≤ k) ∧ ∀ k, S.map (·.block) = some k → w.heap.size ≤ k)) : MakP w (.returned (.agg #[.int .i64 a, .int .i64 b, .slice A n c, .slice S m d])) w' :=
  ⟨a, b, A, n, c, gl, S, m, d, ol, rfl, h1, h2, h3⟩
theorem Lx.of_own {w w' : World} {x m c : Nat} {S : Option Addr} {l : List Int} (h : OwnI w.heap.size w' S m c l) (hx : x < w.heap.size) : Lx w' x none S m c l :=
  ⟨h.rd, fun k hk => ⟨(h.blk k hk).2, by have := (h.blk k hk).1; omega, fun e => by simp at e⟩⟩
theorem Bl.low {w w1 w2 : World} {x : Nat} (h : Bl w w1) (hl : Below x w1 w2) (hx : w.heap.size ≤ x) : Bl w w2 := Below.trans h (Below.mono hl hx)
theorem Blk.low {w1 w2 : World} {x r : Nat} {t : TypeId} {cs : Array Value} (h : Blk w1 r t cs) (hl : Below x w1 w2) (hr : r < x) : Blk w2 r t cs := (hl.block r hr).trans h
/-- The circuit is whole once its outs are stored and it is copied. -/
theorem mk_fin {w wz : World} {x r base : Nat} {a b : Int} {A S : Option Addr} {n m c cA : Nat} {gl : List Gt} {l : List Int} (hM : Mk wz x base a b A n cA gl none 0 0 []) (hS : RdI wz S m c l) (hSx : ∀ k, S.map (·.block) = some k → k ≠ x ∧ w.heap.size < k) (hr : r < x) (hB : Bl w wz) (hw : w.heap.size = r) (u v0 v1 v2 v3 : Value) :
    RdC (((((wz.setCell ⟨x, 3, none⟩ u).setCell ⟨r, 0, none⟩ v0).setCell ⟨r, 1, none⟩ v1).setCell ⟨r, 2, none⟩ v2).setCell ⟨r, 3, none⟩ v3) A n cA gl S m c l ∧
    Bl w (((((wz.setCell ⟨x, 3, none⟩ u).setCell ⟨r, 0, none⟩ v0).setCell ⟨r, 1, none⟩ v1).setCell ⟨r, 2, none⟩ v2).setCell ⟨r, 3, none⟩ v3) ∧ ((∀ k, A.map (·.block) = some k → w.heap.size ≤ k) ∧ ∀ k, S.map (·.block) = some k → w.heap.size ≤ k) := by
  have h1 := hM.far
  have hx : ∀ a, S = some a → a.block ≠ x := fun a e => (hSx a.block (by rw [e]; rfl)).1
  have hr' : ∀ a, S = some a → a.block ≠ r := fun a e => by have := (hSx a.block (by rw [e]; rfl)).2; omega
  refine ⟨⟨OwnG.rd (base := base) ?_, ?_⟩, ?_, fun k hk => by have := (hM.gs.blk k hk).1; omega, fun k hk => by have := (hSx k hk).2; omega⟩
  · exact ((((hM.gs.low h1 _).low (by omega) _).low (by omega) _).low (by omega) _).low (by omega) _
  · exact RdI.far hr' 3 _ (RdI.far hr' 2 _ (RdI.far hr' 1 _ (RdI.far hr' 0 _ (RdI.far hx 3 _ hS))))
  · exact ((((hB.setCell (p := ⟨x, 3, none⟩) (by dsimp only; omega) _).setCell (p := ⟨r, 0, none⟩) (by dsimp only; omega) _).setCell (p := ⟨r, 1, none⟩) (by dsimp only; omega) _).setCell (p := ⟨r, 2, none⟩) (by dsimp only; omega) _).setCell (p := ⟨r, 3, none⟩) (by dsimp only; omega) _
/-- The same where the outs are a literal slice. -/
theorem mk_fin1 {w wz : World} {x r base : Nat} {a b : Int} {A : Option Addr} {n cA : Nat} {gl : List Gt} (hM : Mk wz x base a b A n cA gl none 0 0 []) (hr : r < x) (hB : Bl w wz) (hw : w.heap.size = r) (v9 : Int) (u v0 v1 v2 v3 : Value) :
    RdC ((((((wz.setCell ⟨x, 3, none⟩ u).setCell ⟨r, 0, none⟩ v0).setCell ⟨r, 1, none⟩ v1).setCell ⟨r, 2, none⟩ v2).setCell ⟨r, 3, none⟩ v3).alloc (.cells #[.int .i64 v9] 3)) A n cA gl (some ⟨wz.heap.size, 0, none⟩) 1 1 [v9] ∧
    Bl w ((((((wz.setCell ⟨x, 3, none⟩ u).setCell ⟨r, 0, none⟩ v0).setCell ⟨r, 1, none⟩ v1).setCell ⟨r, 2, none⟩ v2).setCell ⟨r, 3, none⟩ v3).alloc (.cells #[.int .i64 v9] 3)) ∧
    ((∀ k, A.map (·.block) = some k → w.heap.size ≤ k) ∧ ∀ k, (some (⟨wz.heap.size, 0, none⟩ : Addr)).map (·.block) = some k → w.heap.size ≤ k) := by
  have h1 := mk_fin (S := none) (m := 0) (c := 0) (l := []) hM (RdI.nil _) (fun k hk => by simp at hk) hr hB hw u v0 v1 v2 v3
  exact ⟨⟨h1.1.g.keep ((Bl.refl _).alloc _), rd_new1 _ _ _ (by simp [World.setCell])⟩, h1.2.1.alloc _, h1.2.2.1, fun k hk => by simp at hk; have := hB.size; omega⟩
set_option maxRecDepth 20000 in
set_option maxHeartbeats 4000000 in
theorem spec_gdMake0 (wd : Nat) (hwd : 1 ≤ wd ∧ wd ≤ 5) (w : World) : Calls Try.prog 115 #[.int .i64 0, .int .i64 wd] w (MakP w) := by
  have hR := Blk.new w 26 #[.int .i64 0, .int .i64 0, .slice none 0 0, .slice none 0 0] (g := w.heap.size)
  have hW := (Bl.refl w).alloc (.cells #[.int .i64 0, .int .i64 0, .slice none 0 0, .slice none 0 0] 26)
  go_enter Try.func115, Try.ntmps115
  go_wp2_with fail
  refine (spec_ciNew _ _ _).mono ?_
  rintro e w3 ⟨rfl, rfl⟩
  have hwz : (w.alloc (.cells #[.int .i64 0, .int .i64 0, .slice none 0 0, .slice none 0 0] 26)).heap.size = w.heap.size + 1 := by simp
  generalize w.alloc (.cells #[.int .i64 0, .int .i64 0, .slice none 0 0, .slice none 0 0] 26) = w2 at hR hW hwz ⊢
  have hM : Mk (w2.alloc (.cells #[.int .i64 ((wd : Int)), .int .i64 ((wd : Int)), .slice none 0 0, .slice none 0 0] 105)) w2.heap.size (w2.heap.size + 1) ((wd : Int)) ((wd : Int)) none 0 0 [] none 0 0 [] :=
    ⟨Blk.new w2 _ _, ⟨OwnV.nil _ _ _ _, rfl⟩, OwnI.nil _ _, Nat.lt_succ_self _, fun k hk => by simp at hk, by simp⟩
  replace hR := hR.alloc (.cells #[.int .i64 ((wd : Int)), .int .i64 ((wd : Int)), .slice none 0 0, .slice none 0 0] 105)
  replace hW := hW.alloc (.cells #[.int .i64 ((wd : Int)), .int .i64 ((wd : Int)), .slice none 0 0, .slice none 0 0] 105)
  have hwx : w.heap.size < w2.heap.size := by omega
  have hxs : w2.heap.size < (w2.alloc (.cells #[.int .i64 ((wd : Int)), .int .i64 ((wd : Int)), .slice none 0 0, .slice none 0 0] 105)).heap.size := by simp
  clear hwz
  generalize w2.alloc (.cells #[.int .i64 ((wd : Int)), .int .i64 ((wd : Int)), .slice none 0 0, .slice none 0 0] 105) = w3 at hM hR hW hxs ⊢
  generalize w2.heap.size = x at hM hwx hxs ⊢
  have hms : MS w3 x (x + 1) ((wd : Int)) ((wd : Int)) 0 none := ⟨_, _, hM⟩
  clear hM
  go_wp2_with fail
  refine (spec_gdRange 0 wd w3 (by omega) (by omega)).mono ?_
  rintro e w4 ⟨S6, c6, l6, rfl, ho6, hb4⟩
  replace hms := hms.keep hb4
  replace hR := hR.keep hb4
  replace hW := hW.call hb4
  have hx4 : x < w4.heap.size := hms.lt
  go_wp2_with fail
  refine (spec_gdRange wd wd w4 (by omega) (by omega)).mono ?_
  rintro e w5 ⟨S7, c7, l7, rfl, ho7, hb5⟩
  replace hms := hms.keep hb5
  replace hR := hR.keep hb5
  replace hW := hW.call hb5
  have hL6 := Lx.of_own (ho6.keep hb5) hxs
  have hL7 := Lx.of_own ho7 hx4
  clear ho6 ho7 hb4 hb5 hxs hx4
  go_wp2_with fail
  refine (spec_gdAdd hms (by omega) (by omega) S6 S7 wd c6 c7 l6 l7 hL6 hL7 (by omega) (by omega)).mono ?_
  rintro e wz ⟨A9, n9, S9, c9, l9, rfl, hn9, hL⟩
  replace hR := hR.low hL.fm.low hwx
  have hWz := hW.low hL.fm.low (by omega)
  have hmz := hL.ms
  obtain ⟨cA, gl, hM⟩ := hmz
  have hB := hM.blk
  have hB_l := hB.lt; have hB_f := hB.frozen; have hB_0 := hB.cell 0 _ rfl; have hB_1 := hB.cell 1 _ rfl; have hB_2 := hB.cell 2 _ rfl; have hB_3 := hB.cell 3 _ rfl
  have hR_l := hR.lt; have hR_f := hR.frozen; have hR_0 := hR.cell 0 _ rfl; have hR_1 := hR.cell 1 _ rfl; have hR_2 := hR.cell 2 _ rfl; have hR_3 := hR.cell 3 _ rfl
  have hne1 : ¬ (x = w.heap.size) := by omega
  have hne2 : ¬ (w.heap.size = x) := by omega
  have hfin := mk_fin (w := w) (r := w.heap.size) hM hL.own.rd (fun q hq => ⟨(hL.ap q hq).1, by have := (hL.own.blk q hq).1; have := hms.lt; omega⟩) hwx hWz rfl
  clear hB hR hM
  go_wp2_with fail
  refine bodyPost_ret (v := .agg #[.int .i64 ((wd : Int)), .int .i64 ((wd : Int)), .slice A9 n9 cA, .slice S9 (wd + 1) (c9)]) (by simp only [results, Try.results115]; go_simp) rfl ?_
  exact makP ⟨by omega, by omega, by omega, by omega⟩ (hfin _ _ _ _ _).1 (hfin _ _ _ _ _).2
set_option maxRecDepth 20000 in
set_option maxHeartbeats 4000000 in
theorem spec_gdMake1 (wd : Nat) (hwd : 1 ≤ wd ∧ wd ≤ 5) (w : World) : Calls Try.prog 115 #[.int .i64 1, .int .i64 wd] w (MakP w) := by
  have hR := Blk.new w 26 #[.int .i64 0, .int .i64 0, .slice none 0 0, .slice none 0 0] (g := w.heap.size)
  have hW := (Bl.refl w).alloc (.cells #[.int .i64 0, .int .i64 0, .slice none 0 0, .slice none 0 0] 26)
  go_enter Try.func115, Try.ntmps115
  go_wp2_with fail
  refine (spec_ciNew _ _ _).mono ?_
  rintro e w3 ⟨rfl, rfl⟩
  have hwz : (w.alloc (.cells #[.int .i64 0, .int .i64 0, .slice none 0 0, .slice none 0 0] 26)).heap.size = w.heap.size + 1 := by simp
  generalize w.alloc (.cells #[.int .i64 0, .int .i64 0, .slice none 0 0, .slice none 0 0] 26) = w2 at hR hW hwz ⊢
  have hM : Mk (w2.alloc (.cells #[.int .i64 ((wd : Int)), .int .i64 ((wd : Int)), .slice none 0 0, .slice none 0 0] 105)) w2.heap.size (w2.heap.size + 1) ((wd : Int)) ((wd : Int)) none 0 0 [] none 0 0 [] :=
    ⟨Blk.new w2 _ _, ⟨OwnV.nil _ _ _ _, rfl⟩, OwnI.nil _ _, Nat.lt_succ_self _, fun k hk => by simp at hk, by simp⟩
  replace hR := hR.alloc (.cells #[.int .i64 ((wd : Int)), .int .i64 ((wd : Int)), .slice none 0 0, .slice none 0 0] 105)
  replace hW := hW.alloc (.cells #[.int .i64 ((wd : Int)), .int .i64 ((wd : Int)), .slice none 0 0, .slice none 0 0] 105)
  have hwx : w.heap.size < w2.heap.size := by omega
  have hxs : w2.heap.size < (w2.alloc (.cells #[.int .i64 ((wd : Int)), .int .i64 ((wd : Int)), .slice none 0 0, .slice none 0 0] 105)).heap.size := by simp
  clear hwz
  generalize w2.alloc (.cells #[.int .i64 ((wd : Int)), .int .i64 ((wd : Int)), .slice none 0 0, .slice none 0 0] 105) = w3 at hM hR hW hxs ⊢
  generalize w2.heap.size = x at hM hwx hxs ⊢
  have hms : MS w3 x (x + 1) ((wd : Int)) ((wd : Int)) 0 none := ⟨_, _, hM⟩
  clear hM
  go_wp2_with fail
  refine (spec_gdRange 0 wd w3 (by omega) (by omega)).mono ?_
  rintro e w4 ⟨S6, c6, l6, rfl, ho6, hb4⟩
  replace hms := hms.keep hb4
  replace hR := hR.keep hb4
  replace hW := hW.call hb4
  have hx4 : x < w4.heap.size := hms.lt
  go_wp2_with fail
  refine (spec_gdRange wd wd w4 (by omega) (by omega)).mono ?_
  rintro e w5 ⟨S7, c7, l7, rfl, ho7, hb5⟩
  replace hms := hms.keep hb5
  replace hR := hR.keep hb5
  replace hW := hW.call hb5
  have hL6 := Lx.of_own (ho6.keep hb5) hxs
  have hL7 := Lx.of_own ho7 hx4
  clear ho6 ho7 hb4 hb5 hxs hx4
  go_wp2_with fail
  refine (spec_gdSub hms (by omega) (by omega) S6 S7 wd c6 c7 l6 l7 hL6 hL7 (by omega) (by omega)).mono ?_
  rintro e wz ⟨A9, n9, S9, c9, l9, rfl, hn9, hL⟩
  replace hR := hR.low hL.fm.low hwx
  have hWz := hW.low hL.fm.low (by omega)
  have hmz := hL.ms
  obtain ⟨cA, gl, hM⟩ := hmz
  have hB := hM.blk
  have hB_l := hB.lt; have hB_f := hB.frozen; have hB_0 := hB.cell 0 _ rfl; have hB_1 := hB.cell 1 _ rfl; have hB_2 := hB.cell 2 _ rfl; have hB_3 := hB.cell 3 _ rfl
  have hR_l := hR.lt; have hR_f := hR.frozen; have hR_0 := hR.cell 0 _ rfl; have hR_1 := hR.cell 1 _ rfl; have hR_2 := hR.cell 2 _ rfl; have hR_3 := hR.cell 3 _ rfl
  have hne1 : ¬ (x = w.heap.size) := by omega
  have hne2 : ¬ (w.heap.size = x) := by omega
  have hfin := mk_fin (w := w) (r := w.heap.size) hM hL.own.rd (fun q hq => ⟨(hL.ap q hq).1, by have := (hL.own.blk q hq).1; have := hms.lt; omega⟩) hwx hWz rfl
  clear hB hR hM
  go_wp2_with fail
  refine bodyPost_ret (v := .agg #[.int .i64 ((wd : Int)), .int .i64 ((wd : Int)), .slice A9 n9 cA, .slice S9 (wd + 1) (c9)]) (by simp only [results, Try.results115]; go_simp) rfl ?_
  exact makP ⟨by omega, by omega, by omega, by omega⟩ (hfin _ _ _ _ _).1 (hfin _ _ _ _ _).2
set_option maxRecDepth 20000 in
set_option maxHeartbeats 4000000 in
theorem spec_gdMake2 (wd : Nat) (hwd : 1 ≤ wd ∧ wd ≤ 5) (w : World) : Calls Try.prog 115 #[.int .i64 2, .int .i64 wd] w (MakP w) := by
  have hR := Blk.new w 26 #[.int .i64 0, .int .i64 0, .slice none 0 0, .slice none 0 0] (g := w.heap.size)
  have hW := (Bl.refl w).alloc (.cells #[.int .i64 0, .int .i64 0, .slice none 0 0, .slice none 0 0] 26)
  go_enter Try.func115, Try.ntmps115
  go_wp2_with fail
  refine (spec_ciNew _ _ _).mono ?_
  rintro e w3 ⟨rfl, rfl⟩
  have hwz : (w.alloc (.cells #[.int .i64 0, .int .i64 0, .slice none 0 0, .slice none 0 0] 26)).heap.size = w.heap.size + 1 := by simp
  generalize w.alloc (.cells #[.int .i64 0, .int .i64 0, .slice none 0 0, .slice none 0 0] 26) = w2 at hR hW hwz ⊢
  have hM : Mk (w2.alloc (.cells #[.int .i64 ((wd : Int)), .int .i64 ((wd : Int)), .slice none 0 0, .slice none 0 0] 105)) w2.heap.size (w2.heap.size + 1) ((wd : Int)) ((wd : Int)) none 0 0 [] none 0 0 [] :=
    ⟨Blk.new w2 _ _, ⟨OwnV.nil _ _ _ _, rfl⟩, OwnI.nil _ _, Nat.lt_succ_self _, fun k hk => by simp at hk, by simp⟩
  replace hR := hR.alloc (.cells #[.int .i64 ((wd : Int)), .int .i64 ((wd : Int)), .slice none 0 0, .slice none 0 0] 105)
  replace hW := hW.alloc (.cells #[.int .i64 ((wd : Int)), .int .i64 ((wd : Int)), .slice none 0 0, .slice none 0 0] 105)
  have hwx : w.heap.size < w2.heap.size := by omega
  have hxs : w2.heap.size < (w2.alloc (.cells #[.int .i64 ((wd : Int)), .int .i64 ((wd : Int)), .slice none 0 0, .slice none 0 0] 105)).heap.size := by simp
  clear hwz
  generalize w2.alloc (.cells #[.int .i64 ((wd : Int)), .int .i64 ((wd : Int)), .slice none 0 0, .slice none 0 0] 105) = w3 at hM hR hW hxs ⊢
  generalize w2.heap.size = x at hM hwx hxs ⊢
  have hms : MS w3 x (x + 1) ((wd : Int)) ((wd : Int)) 0 none := ⟨_, _, hM⟩
  clear hM
  go_wp2_with fail
  refine (spec_gdRange 0 wd w3 (by omega) (by omega)).mono ?_
  rintro e w4 ⟨S6, c6, l6, rfl, ho6, hb4⟩
  replace hms := hms.keep hb4
  replace hR := hR.keep hb4
  replace hW := hW.call hb4
  have hx4 : x < w4.heap.size := hms.lt
  go_wp2_with fail
  refine (spec_gdRange wd wd w4 (by omega) (by omega)).mono ?_
  rintro e w5 ⟨S7, c7, l7, rfl, ho7, hb5⟩
  replace hms := hms.keep hb5
  replace hR := hR.keep hb5
  replace hW := hW.call hb5
  have hL6 := Lx.of_own (ho6.keep hb5) hxs
  have hL7 := Lx.of_own ho7 hx4
  clear ho6 ho7 hb4 hb5 hxs hx4
  go_wp2_with fail
  refine (spec_gdSub hms (by omega) (by omega) S6 S7 wd c6 c7 l6 l7 hL6 hL7 (by omega) (by omega)).mono ?_
  rintro e wz ⟨A9, n9, S9, c9, l9, rfl, hn9, hL⟩
  replace hR := hR.low hL.fm.low hwx
  have hWz := hW.low hL.fm.low (by omega)
  have hmz := hL.ms
  obtain ⟨g9, rfl, hg1, hg2, hgc, hgf⟩ := hL.own.form (by omega)
  have hle := hL.own.rd.le
  have hcn : ¬ (c9 = wd) := by omega
  have i1 : (wd : Int) ≤ ((wd + 1 : Nat) : Int) := by omega
  have i2 : (wd : Int) ≤ c9 := by omega
  have i3 : ((wd + 1 : Nat) : Int) ≤ c9 := by omega
  have hrd : RdI wz (some ⟨g9, wd, none⟩) (wd + 1 - wd) (c9 - wd) (l9.drop wd) := by
    have := Rd.cut hL.own.rd (k := wd) (by omega)
    rw [if_neg hcn] at this
    unfold RdI
    rw [show ints (l9.drop wd) = (ints l9).drop (wd * 1) by simp [ints, List.map_drop]]
    simpa [addr_add] using this
  clear hgc hgf hg1 hg2
  obtain ⟨cA, gl, hM⟩ := hmz
  have hB := hM.blk
  have hB_l := hB.lt; have hB_f := hB.frozen; have hB_0 := hB.cell 0 _ rfl; have hB_1 := hB.cell 1 _ rfl; have hB_2 := hB.cell 2 _ rfl; have hB_3 := hB.cell 3 _ rfl
  have hR_l := hR.lt; have hR_f := hR.frozen; have hR_0 := hR.cell 0 _ rfl; have hR_1 := hR.cell 1 _ rfl; have hR_2 := hR.cell 2 _ rfl; have hR_3 := hR.cell 3 _ rfl
  have hne1 : ¬ (x = w.heap.size) := by omega
  have hne2 : ¬ (w.heap.size = x) := by omega
  have hfin := mk_fin (w := w) (r := w.heap.size) hM hrd (fun q hq => ⟨(hL.ap q hq).1, by have := (hL.own.blk q hq).1; have := hms.lt; omega⟩) hwx hWz rfl
  clear hB hR hM
  go_wp2_with fail
  refine bodyPost_ret (v := .agg #[.int .i64 ((wd : Int)), .int .i64 ((wd : Int)), .slice A9 n9 cA, .slice (some ⟨g9, wd, none⟩) (wd + 1 - wd) (c9 - wd)]) (by simp only [results, Try.results115]; go_simp) rfl ?_
  exact makP ⟨by omega, by omega, by omega, by omega⟩ (hfin _ _ _ _ _).1 (hfin _ _ _ _ _).2
set_option maxRecDepth 20000 in
set_option maxHeartbeats 4000000 in
theorem spec_gdMake3 (wd : Nat) (hwd : 1 ≤ wd ∧ wd ≤ 5) (w : World) : Calls Try.prog 115 #[.int .i64 3, .int .i64 wd] w (MakP w) := by
  have hR := Blk.new w 26 #[.int .i64 0, .int .i64 0, .slice none 0 0, .slice none 0 0] (g := w.heap.size)
  have hW := (Bl.refl w).alloc (.cells #[.int .i64 0, .int .i64 0, .slice none 0 0, .slice none 0 0] 26)
  go_enter Try.func115, Try.ntmps115
  go_wp2_with fail
  refine (spec_ciNew _ _ _).mono ?_
  rintro e w3 ⟨rfl, rfl⟩
  have hwz : (w.alloc (.cells #[.int .i64 0, .int .i64 0, .slice none 0 0, .slice none 0 0] 26)).heap.size = w.heap.size + 1 := by simp
  generalize w.alloc (.cells #[.int .i64 0, .int .i64 0, .slice none 0 0, .slice none 0 0] 26) = w2 at hR hW hwz ⊢
  have hM : Mk (w2.alloc (.cells #[.int .i64 ((wd : Int)), .int .i64 ((wd : Int)), .slice none 0 0, .slice none 0 0] 105)) w2.heap.size (w2.heap.size + 1) ((wd : Int)) ((wd : Int)) none 0 0 [] none 0 0 [] :=
    ⟨Blk.new w2 _ _, ⟨OwnV.nil _ _ _ _, rfl⟩, OwnI.nil _ _, Nat.lt_succ_self _, fun k hk => by simp at hk, by simp⟩
  replace hR := hR.alloc (.cells #[.int .i64 ((wd : Int)), .int .i64 ((wd : Int)), .slice none 0 0, .slice none 0 0] 105)
  replace hW := hW.alloc (.cells #[.int .i64 ((wd : Int)), .int .i64 ((wd : Int)), .slice none 0 0, .slice none 0 0] 105)
  have hwx : w.heap.size < w2.heap.size := by omega
  have hxs : w2.heap.size < (w2.alloc (.cells #[.int .i64 ((wd : Int)), .int .i64 ((wd : Int)), .slice none 0 0, .slice none 0 0] 105)).heap.size := by simp
  clear hwz
  generalize w2.alloc (.cells #[.int .i64 ((wd : Int)), .int .i64 ((wd : Int)), .slice none 0 0, .slice none 0 0] 105) = w3 at hM hR hW hxs ⊢
  generalize w2.heap.size = x at hM hwx hxs ⊢
  have hms : MS w3 x (x + 1) ((wd : Int)) ((wd : Int)) 0 none := ⟨_, _, hM⟩
  clear hM
  go_wp2_with fail
  refine (spec_gdRange 0 wd w3 (by omega) (by omega)).mono ?_
  rintro e w4 ⟨S6, c6, l6, rfl, ho6, hb4⟩
  replace hms := hms.keep hb4
  replace hR := hR.keep hb4
  replace hW := hW.call hb4
  have hx4 : x < w4.heap.size := hms.lt
  go_wp2_with fail
  refine (spec_gdRange wd wd w4 (by omega) (by omega)).mono ?_
  rintro e w5 ⟨S7, c7, l7, rfl, ho7, hb5⟩
  replace hms := hms.keep hb5
  replace hR := hR.keep hb5
  replace hW := hW.call hb5
  have hL6 := Lx.of_own (ho6.keep hb5) hxs
  have hL7 := Lx.of_own ho7 hx4
  clear ho6 ho7 hb4 hb5 hxs hx4
  go_wp2_with fail
  refine (spec_gdEqual hms (by omega) (by omega) S6 S7 wd c6 c7 l6 l7 hL6 hL7 (by omega) (by omega) (by omega)).mono ?_
  rintro e wz ⟨A9, n9, v9, rfl, hn9, hmz0, hfz⟩
  replace hR := hR.low hfz.low hwx
  have hWz := hW.low hfz.low (by omega)
  obtain ⟨cA, gl, hM⟩ := hmz0
  have hlz := hM.blk.lt
  have hB := hM.blk
  have hB_l := hB.lt; have hB_f := hB.frozen; have hB_0 := hB.cell 0 _ rfl; have hB_1 := hB.cell 1 _ rfl; have hB_2 := hB.cell 2 _ rfl; have hB_3 := hB.cell 3 _ rfl
  have hR_l := hR.lt; have hR_f := hR.frozen; have hR_0 := hR.cell 0 _ rfl; have hR_1 := hR.cell 1 _ rfl; have hR_2 := hR.cell 2 _ rfl; have hR_3 := hR.cell 3 _ rfl
  have hne1 : ¬ (x = w.heap.size) := by omega
  have hne2 : ¬ (w.heap.size = x) := by omega
  have hfin := mk_fin1 (w := w) (r := w.heap.size) hM hwx hWz rfl v9
  clear hB hR hM
  go_wp2_with fail
  refine bodyPost_ret (v := .agg #[.int .i64 ((wd : Int)), .int .i64 ((wd : Int)), .slice A9 n9 cA, .slice (some ⟨wz.heap.size, 0, none⟩) 1 1]) (by simp only [results, Try.results115]; go_simp) rfl ?_
  exact makP ⟨by omega, by omega, by omega, by omega⟩ (hfin _ _ _ _ _).1 (hfin _ _ _ _ _).2
set_option maxRecDepth 20000 in
set_option maxHeartbeats 4000000 in
theorem spec_gdMake4 (wd : Nat) (hwd : 1 ≤ wd ∧ wd ≤ 5) (w : World) : Calls Try.prog 115 #[.int .i64 4, .int .i64 wd] w (MakP w) := by
  have hR := Blk.new w 26 #[.int .i64 0, .int .i64 0, .slice none 0 0, .slice none 0 0] (g := w.heap.size)
  have hW := (Bl.refl w).alloc (.cells #[.int .i64 0, .int .i64 0, .slice none 0 0, .slice none 0 0] 26)
  go_enter Try.func115, Try.ntmps115
  go_wp2_with fail
  refine (spec_ciNew _ _ _).mono ?_
  rintro e w3 ⟨rfl, rfl⟩
  replace hR := hR.alloc (.cells #[.int .i64 (wd), .int .i64 (wd), .slice none 0 0, .slice none 0 0] 105)
  replace hW := hW.alloc (.cells #[.int .i64 (wd), .int .i64 (wd), .slice none 0 0, .slice none 0 0] 105)
  have hwz : ((w.alloc (.cells #[.int .i64 0, .int .i64 0, .slice none 0 0, .slice none 0 0] 26)).alloc (.cells #[.int .i64 (wd), .int .i64 (wd), .slice none 0 0, .slice none 0 0] 105)).heap.size = w.heap.size + 2 := by simp
  generalize (w.alloc (.cells #[.int .i64 0, .int .i64 0, .slice none 0 0, .slice none 0 0] 26)).alloc (.cells #[.int .i64 (wd), .int .i64 (wd), .slice none 0 0, .slice none 0 0] 105) = w2 at hR hW hwz ⊢
  go_wp2_with fail
  refine (spec_ciNew _ _ _).mono ?_
  rintro e w3 ⟨rfl, rfl⟩
  have hM : Mk (w2.alloc (.cells #[.int .i64 (2 * (wd : Int)), .int .i64 (1), .slice none 0 0, .slice none 0 0] 105)) w2.heap.size (w2.heap.size + 1) (2 * (wd : Int)) (1) none 0 0 [] none 0 0 [] :=
    ⟨Blk.new w2 _ _, ⟨OwnV.nil _ _ _ _, rfl⟩, OwnI.nil _ _, Nat.lt_succ_self _, fun k hk => by simp at hk, by simp⟩
  replace hR := hR.alloc (.cells #[.int .i64 (2 * (wd : Int)), .int .i64 (1), .slice none 0 0, .slice none 0 0] 105)
  replace hW := hW.alloc (.cells #[.int .i64 (2 * (wd : Int)), .int .i64 (1), .slice none 0 0, .slice none 0 0] 105)
  have hwx : w.heap.size < w2.heap.size := by omega
  have hxs : w2.heap.size < (w2.alloc (.cells #[.int .i64 (2 * (wd : Int)), .int .i64 (1), .slice none 0 0, .slice none 0 0] 105)).heap.size := by simp
  clear hwz
  generalize w2.alloc (.cells #[.int .i64 (2 * (wd : Int)), .int .i64 (1), .slice none 0 0, .slice none 0 0] 105) = w3 at hM hR hW hxs ⊢
  generalize w2.heap.size = x at hM hwx hxs ⊢
  have hms : MS w3 x (x + 1) (2 * (wd : Int)) (1) 0 none := ⟨_, _, hM⟩
  clear hM
  go_wp2_with fail
  refine (spec_gdRange 0 wd w3 (by omega) (by omega)).mono ?_
  rintro e w4 ⟨S6, c6, l6, rfl, ho6, hb4⟩
  replace hms := hms.keep hb4
  replace hR := hR.keep hb4
  replace hW := hW.call hb4
  have hx4 : x < w4.heap.size := hms.lt
  go_wp2_with fail
  refine (spec_gdRange wd wd w4 (by omega) (by omega)).mono ?_
  rintro e w5 ⟨S7, c7, l7, rfl, ho7, hb5⟩
  replace hms := hms.keep hb5
  replace hR := hR.keep hb5
  replace hW := hW.call hb5
  have hL6 := Lx.of_own (ho6.keep hb5) hxs
  have hL7 := Lx.of_own ho7 hx4
  clear ho6 ho7 hb4 hb5 hxs hx4
  go_wp2_with fail
  refine (spec_gdPick hms (by omega) (by omega) _ S6 S7 wd c6 c7 l6 l7 hL6 hL7 (by omega) (by omega)).mono ?_
  rintro e wz ⟨A9, n9, S9, c9, l9, rfl, hn9, hL⟩
  replace hR := hR.low hL.fm.low hwx
  have hWz := hW.low hL.fm.low (by omega)
  have hmz := hL.ms
  obtain ⟨cA, gl, hM⟩ := hmz
  have hB := hM.blk
  have hB_l := hB.lt; have hB_f := hB.frozen; have hB_0 := hB.cell 0 _ rfl; have hB_1 := hB.cell 1 _ rfl; have hB_2 := hB.cell 2 _ rfl; have hB_3 := hB.cell 3 _ rfl
  have hR_l := hR.lt; have hR_f := hR.frozen; have hR_0 := hR.cell 0 _ rfl; have hR_1 := hR.cell 1 _ rfl; have hR_2 := hR.cell 2 _ rfl; have hR_3 := hR.cell 3 _ rfl
  have hne1 : ¬ (x = w.heap.size) := by omega
  have hne2 : ¬ (w.heap.size = x) := by omega
  have hfin := mk_fin (w := w) (r := w.heap.size) hM hL.own.rd (fun q hq => ⟨(hL.ap q hq).1, by have := (hL.own.blk q hq).1; have := hms.lt; omega⟩) hwx hWz rfl
  clear hB hR hM
  go_wp2_with fail
  refine bodyPost_ret (v := .agg #[.int .i64 (2 * (wd : Int)), .int .i64 (1), .slice A9 n9 cA, .slice S9 wd (c9)]) (by simp only [results, Try.results115]; go_simp) rfl ?_
  exact makP ⟨by omega, by omega, by omega, by omega⟩ (hfin _ _ _ _ _).1 (hfin _ _ _ _ _).2
set_option maxRecDepth 20000 in
set_option maxHeartbeats 4000000 in
theorem spec_gdMake5 (wd : Nat) (hwd : 1 ≤ wd ∧ wd ≤ 5) (w : World) : Calls Try.prog 115 #[.int .i64 5, .int .i64 wd] w (MakP w) := by
  have hR := Blk.new w 26 #[.int .i64 0, .int .i64 0, .slice none 0 0, .slice none 0 0] (g := w.heap.size)
  have hW := (Bl.refl w).alloc (.cells #[.int .i64 0, .int .i64 0, .slice none 0 0, .slice none 0 0] 26)
  go_enter Try.func115, Try.ntmps115
  go_wp2_with fail
  refine (spec_ciNew _ _ _).mono ?_
  rintro e w3 ⟨rfl, rfl⟩
  have hwz : (w.alloc (.cells #[.int .i64 0, .int .i64 0, .slice none 0 0, .slice none 0 0] 26)).heap.size = w.heap.size + 1 := by simp
  generalize w.alloc (.cells #[.int .i64 0, .int .i64 0, .slice none 0 0, .slice none 0 0] 26) = w2 at hR hW hwz ⊢
  have hM : Mk (w2.alloc (.cells #[.int .i64 ((wd : Int)), .int .i64 ((wd : Int)), .slice none 0 0, .slice none 0 0] 105)) w2.heap.size (w2.heap.size + 1) ((wd : Int)) ((wd : Int)) none 0 0 [] none 0 0 [] :=
    ⟨Blk.new w2 _ _, ⟨OwnV.nil _ _ _ _, rfl⟩, OwnI.nil _ _, Nat.lt_succ_self _, fun k hk => by simp at hk, by simp⟩
  replace hR := hR.alloc (.cells #[.int .i64 ((wd : Int)), .int .i64 ((wd : Int)), .slice none 0 0, .slice none 0 0] 105)
  replace hW := hW.alloc (.cells #[.int .i64 ((wd : Int)), .int .i64 ((wd : Int)), .slice none 0 0, .slice none 0 0] 105)
  have hwx : w.heap.size < w2.heap.size := by omega
  have hxs : w2.heap.size < (w2.alloc (.cells #[.int .i64 ((wd : Int)), .int .i64 ((wd : Int)), .slice none 0 0, .slice none 0 0] 105)).heap.size := by simp
  clear hwz
  generalize w2.alloc (.cells #[.int .i64 ((wd : Int)), .int .i64 ((wd : Int)), .slice none 0 0, .slice none 0 0] 105) = w3 at hM hR hW hxs ⊢
  generalize w2.heap.size = x at hM hwx hxs ⊢
  have hms : MS w3 x (x + 1) ((wd : Int)) ((wd : Int)) 0 none := ⟨_, _, hM⟩
  clear hM
  go_wp2_with fail
  refine (spec_gdRange 0 wd w3 (by omega) (by omega)).mono ?_
  rintro e w4 ⟨S6, c6, l6, rfl, ho6, hb4⟩
  replace hms := hms.keep hb4
  replace hR := hR.keep hb4
  replace hW := hW.call hb4
  have hx4 : x < w4.heap.size := hms.lt
  go_wp2_with fail
  refine (spec_gdRange wd wd w4 (by omega) (by omega)).mono ?_
  rintro e w5 ⟨S7, c7, l7, rfl, ho7, hb5⟩
  replace hms := hms.keep hb5
  replace hR := hR.keep hb5
  replace hW := hW.call hb5
  have hL6 := Lx.of_own (ho6.keep hb5) hxs
  have hL7 := Lx.of_own ho7 hx4
  clear ho6 ho7 hb4 hb5 hxs hx4
  go_wp2_with fail
  refine (spec_gdSub hms (by omega) (by omega) S6 S7 wd c6 c7 l6 l7 hL6 hL7 (by omega) (by omega)).mono ?_
  rintro e wy ⟨A8, n8, S8, c8, l8, rfl, hn8, hL8⟩
  replace hR := hR.low hL8.fm.low hwx
  replace hW := hW.low hL8.fm.low (by omega)
  obtain ⟨g8, rfl, hg1, hg2, hgc, hgf⟩ := hL8.own.form (by omega)
  have hlen := hL8.own.length
  have hv8 := hgc wd _ (List.getElem?_eq_getElem (by omega))
  have i1 : (wd : Int) < ((wd + 1 : Nat) : Int) := by omega
  replace hL6 := hL6.fm hL8.fm
  replace hL7 := hL7.fm hL8.fm
  replace hms := hL8.ms
  generalize l8[wd]'(by omega) = v8 at hv8
  clear hgc hgf hg1 hg2 hL8 hlen
  go_wp2_with fail
  refine (spec_gdPick hms (by omega) (by omega) v8 S7 S6 wd c7 c6 l7 l6 hL7 hL6 (by omega) (by omega)).mono ?_
  rintro e wz ⟨A9, n9, S9, c9, l9, rfl, hn9, hL⟩
  clear hv8
  replace hR := hR.low hL.fm.low hwx
  have hWz := hW.low hL.fm.low (by omega)
  have hmz := hL.ms
  obtain ⟨cA, gl, hM⟩ := hmz
  have hB := hM.blk
  have hB_l := hB.lt; have hB_f := hB.frozen; have hB_0 := hB.cell 0 _ rfl; have hB_1 := hB.cell 1 _ rfl; have hB_2 := hB.cell 2 _ rfl; have hB_3 := hB.cell 3 _ rfl
  have hR_l := hR.lt; have hR_f := hR.frozen; have hR_0 := hR.cell 0 _ rfl; have hR_1 := hR.cell 1 _ rfl; have hR_2 := hR.cell 2 _ rfl; have hR_3 := hR.cell 3 _ rfl
  have hne1 : ¬ (x = w.heap.size) := by omega
  have hne2 : ¬ (w.heap.size = x) := by omega
  have hfin := mk_fin (w := w) (r := w.heap.size) hM hL.own.rd (fun q hq => ⟨(hL.ap q hq).1, by have := (hL.own.blk q hq).1; have := hms.lt; omega⟩) hwx hWz rfl
  clear hB hR hM
  go_wp2_with fail
  refine bodyPost_ret (v := .agg #[.int .i64 ((wd : Int)), .int .i64 ((wd : Int)), .slice A9 n9 cA, .slice S9 wd (c9)]) (by simp only [results, Try.results115]; go_simp) rfl ?_
  exact makP ⟨by omega, by omega, by omega, by omega⟩ (hfin _ _ _ _ _).1 (hfin _ _ _ _ _).2
set_option maxRecDepth 20000 in
set_option maxHeartbeats 4000000 in
theorem spec_gdMake6 (wd : Nat) (hwd : 1 ≤ wd ∧ wd ≤ 5) (w : World) : Calls Try.prog 115 #[.int .i64 6, .int .i64 wd] w (MakP w) := by
  have hR := Blk.new w 26 #[.int .i64 0, .int .i64 0, .slice none 0 0, .slice none 0 0] (g := w.heap.size)
  have hW := (Bl.refl w).alloc (.cells #[.int .i64 0, .int .i64 0, .slice none 0 0, .slice none 0 0] 26)
  go_enter Try.func115, Try.ntmps115
  go_wp2_with fail
  refine (spec_ciNew _ _ _).mono ?_
  rintro e w3 ⟨rfl, rfl⟩
  have hwz : (w.alloc (.cells #[.int .i64 0, .int .i64 0, .slice none 0 0, .slice none 0 0] 26)).heap.size = w.heap.size + 1 := by simp
  generalize w.alloc (.cells #[.int .i64 0, .int .i64 0, .slice none 0 0, .slice none 0 0] 26) = w2 at hR hW hwz ⊢
  have hM : Mk (w2.alloc (.cells #[.int .i64 ((wd : Int)), .int .i64 ((wd : Int)), .slice none 0 0, .slice none 0 0] 105)) w2.heap.size (w2.heap.size + 1) ((wd : Int)) ((wd : Int)) none 0 0 [] none 0 0 [] :=
    ⟨Blk.new w2 _ _, ⟨OwnV.nil _ _ _ _, rfl⟩, OwnI.nil _ _, Nat.lt_succ_self _, fun k hk => by simp at hk, by simp⟩
  replace hR := hR.alloc (.cells #[.int .i64 ((wd : Int)), .int .i64 ((wd : Int)), .slice none 0 0, .slice none 0 0] 105)
  replace hW := hW.alloc (.cells #[.int .i64 ((wd : Int)), .int .i64 ((wd : Int)), .slice none 0 0, .slice none 0 0] 105)
  have hwx : w.heap.size < w2.heap.size := by omega
  have hxs : w2.heap.size < (w2.alloc (.cells #[.int .i64 ((wd : Int)), .int .i64 ((wd : Int)), .slice none 0 0, .slice none 0 0] 105)).heap.size := by simp
  clear hwz
  generalize w2.alloc (.cells #[.int .i64 ((wd : Int)), .int .i64 ((wd : Int)), .slice none 0 0, .slice none 0 0] 105) = w3 at hM hR hW hxs ⊢
  generalize w2.heap.size = x at hM hwx hxs ⊢
  have hms : MS w3 x (x + 1) ((wd : Int)) ((wd : Int)) 0 none := ⟨_, _, hM⟩
  clear hM
  go_wp2_with fail
  refine (spec_gdRange 0 wd w3 (by omega) (by omega)).mono ?_
  rintro e w4 ⟨S6, c6, l6, rfl, ho6, hb4⟩
  replace hms := hms.keep hb4
  replace hR := hR.keep hb4
  replace hW := hW.call hb4
  have hx4 : x < w4.heap.size := hms.lt
  go_wp2_with fail
  refine (spec_gdRange wd wd w4 (by omega) (by omega)).mono ?_
  rintro e w5 ⟨S7, c7, l7, rfl, ho7, hb5⟩
  replace hms := hms.keep hb5
  replace hR := hR.keep hb5
  replace hW := hW.call hb5
  have hL6 := Lx.of_own (ho6.keep hb5) hxs
  have hL7 := Lx.of_own ho7 hx4
  clear ho6 ho7 hb4 hb5 hxs hx4
  go_wp2_with fail
  refine (spec_gdTimes hms (by omega) (by omega) S6 S7 wd c6 c7 l6 l7 hL6 hL7 (by omega) (by omega) (by omega)).mono ?_
  rintro e wz ⟨A9, n9, S9, m9, c9, l9, rfl, hm9, hn9, hL⟩
  replace hR := hR.low hL.fm.low hwx
  have hWz := hW.low hL.fm.low (by omega)
  have hmz := hL.ms
  obtain ⟨cA, gl, hM⟩ := hmz
  have hB := hM.blk
  have hB_l := hB.lt; have hB_f := hB.frozen; have hB_0 := hB.cell 0 _ rfl; have hB_1 := hB.cell 1 _ rfl; have hB_2 := hB.cell 2 _ rfl; have hB_3 := hB.cell 3 _ rfl
  have hR_l := hR.lt; have hR_f := hR.frozen; have hR_0 := hR.cell 0 _ rfl; have hR_1 := hR.cell 1 _ rfl; have hR_2 := hR.cell 2 _ rfl; have hR_3 := hR.cell 3 _ rfl
  have hne1 : ¬ (x = w.heap.size) := by omega
  have hne2 : ¬ (w.heap.size = x) := by omega
  have hfin := mk_fin (w := w) (r := w.heap.size) hM hL.own.rd (fun q hq => ⟨(hL.ap q hq).1, by have := (hL.own.blk q hq).1; have := hms.lt; omega⟩) hwx hWz rfl
  clear hB hR hM
  go_wp2_with fail
  refine bodyPost_ret (v := .agg #[.int .i64 ((wd : Int)), .int .i64 ((wd : Int)), .slice A9 n9 cA, .slice S9 m9 (c9)]) (by simp only [results, Try.results115]; go_simp) rfl ?_
  exact makP ⟨by omega, by omega, by omega, by omega⟩ (hfin _ _ _ _ _).1 (hfin _ _ _ _ _).2
end Go.Proofs.Ytlmlffiajgofeaa
