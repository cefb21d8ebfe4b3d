/- Circuits as arguments of a law: copied, measured, compared, marked, opened.
   Conditions: none. -/
import Derived.Test.YtghoaheajgedoaaGts
import Derived.Test.YtghoaheajgedoaaToi
import Derived.Test.YtghoaheajgedoaaOpn
namespace Go.Proofs.Ytghoaheajgedoaa
open Go.ChangeShapes Go.WideShapes Go.ChangeAt Go.RowKit Go.Deep
set_option linter.unusedVariables false
/-- A circuit reads as these gates and outs. -/
structure RdC (w : World) (A : Option Addr) (n c : Nat) (gl : List Gt) (B : Option Addr) (m d : Nat) (ol : List Int) : Prop where
  g : RdG w A n c gl
  o : RdI w B m d ol
theorem RdC.keep {w w' : World} {A B : Option Addr} {n c m d : Nat} {gl : List Gt} {ol : List Int} (h : RdC w A n c gl B m d ol) (hb : Bl w w') : RdC w' A n c gl B m d ol := ⟨h.g.keep hb, h.o.keep hb⟩
theorem ne_of_lt_le {A : Option Addr} {b : Nat} {B : Option Addr} (h1 : ∀ k, A.map (·.block) = some k → k < b) (h2 : ∀ k, B.map (·.block) = some k → b ≤ k) : ∀ a, A = some a → some a.block ≠ B.map (·.block) := by
  rintro a rfl he
  have e1 := h1 a.block rfl
  have e2 := h2 a.block he.symm
  omega
theorem RdG.grown {w w' : World} {n c : Nat} {A : Option Addr} {l : List Gt} {row : Option Nat} (h : RdG w A n c l) (hg : w.grownBy w' row) (hne : ∀ a, A = some a → some a.block ≠ row) : RdG w' A n c l :=
  ⟨⟨h.1.len, h.1.cap, h.1.max, fun hn => by
    obtain ⟨ad, e, hl, hc⟩ := h.1.at0 hn
    exact ⟨ad, e, Nat.lt_of_lt_of_le hl hg.size, fun j u hu => hg.cell (hc j u hu) (by rw [block_of_add]; exact hne ad e)⟩⟩, h.2⟩
theorem OwnI.grown {w w' : World} {base n c : Nat} {A : Option Addr} {l : List Int} {row : Option Nat} (h : OwnI base w A n c l) (hg : w.grownBy w' row) (hne : ∀ a, A = some a → some a.block ≠ row) : OwnI base w' A n c l := by
  refine World.ownsRow.kept h hg ?_
  rw [ownBlock_slice]
  cases A with
  | none => exact .inl rfl
  | some a => exact .inr (hne a rfl)
theorem OwnG.grown {w w' : World} {base n c : Nat} {A : Option Addr} {l : List Gt} {row : Option Nat} (h : OwnG base w A n c l) (hg : w.grownBy w' row) (hne : ∀ a, A = some a → some a.block ≠ row) : OwnG base w' A n c l := by
  refine ⟨OwnV.grown h.1 hg ?_, h.2⟩
  cases A with
  | none => exact .inl rfl
  | some a => exact .inr (hne a rfl)
theorem OwnG.mono {base base' n c : Nat} {w : World} {A : Option Addr} {l : List Gt} (h : OwnG base' w A n c l) (hb : base ≤ base') : OwnG base w A n c l := ⟨OwnV.mono h.1 hb, h.2⟩
theorem OwnG.low {base n c g i : Nat} {w : World} {A : Option Addr} {l : List Gt} (h : OwnG base w A n c l) (hg : g < base) (u : Value) : OwnG base (w.setCell ⟨g, i, none⟩ u) A n c l :=
  h.grown (grownBy_setCell w g i u) (by rintro a rfl he; injection he with he; have := (h.blk a.block rfl).1; omega)
theorem OwnI.low {base n c g i : Nat} {w : World} {A : Option Addr} {l : List Int} (h : OwnI base w A n c l) (hg : g < base) (u : Value) : OwnI base (w.setCell ⟨g, i, none⟩ u) A n c l :=
  h.grown (grownBy_setCell w g i u) (by rintro a rfl he; injection he with he; have := (h.blk a.block rfl).1; omega)
/-- What toCircuit leaves: both lists in blocks of their own, the second behind the first. -/
def OwnC (base : Nat) (w : World) (A : Option Addr) (n c : Nat) (gl : List Gt) (B : Option Addr) (m d : Nat) (ol : List Int) : Prop :=
  OwnG base w A n c gl ∧ OwnI base w B m d ol ∧ ∀ a, A = some a → some a.block ≠ B.map (·.block)
theorem OwnC.rd {base : Nat} {w : World} {A B : Option Addr} {n c m d : Nat} {gl : List Gt} {ol : List Int} (h : OwnC base w A n c gl B m d ol) : RdC w A n c gl B m d ol := ⟨h.1.rd, h.2.1.rd⟩
theorem OwnC.keep {base : Nat} {w w' : World} {A B : Option Addr} {n c m d : Nat} {gl : List Gt} {ol : List Int} (h : OwnC base w A n c gl B m d ol) (hb : Bl w w') : OwnC base w' A n c gl B m d ol := ⟨h.1.keep hb, h.2.1.keep hb, h.2.2⟩
theorem OwnC.grown {base : Nat} {w w' : World} {A B : Option Addr} {n c m d : Nat} {gl : List Gt} {ol : List Int} {row : Option Nat} (h : OwnC base w A n c gl B m d ol) (hg : w.grownBy w' row)
    (h1 : ∀ a, A = some a → some a.block ≠ row) (h2 : ∀ a, B = some a → some a.block ≠ row) : OwnC base w' A n c gl B m d ol := ⟨h.1.grown hg h1, h.2.1.grown hg h2, h.2.2⟩
set_option maxHeartbeats 2000000 in
theorem laws_toCircuit (a b : Int) (A B : Option Addr) (n c m d : Nat) (gl : List Gt) (ol : List Int) (w : World) (h : RdC w A n c gl B m d ol) (hn : n ≤ 7036874417766) (hm : m ≤ 7036874417766) :
    Calls Try.prog 16 #[.agg #[.int .i64 a, .int .i64 b, .slice A n c, .slice B m d]] w fun e w' => ∃ A' c' B' d', e = .returned (.agg #[.int .i64 a, .int .i64 b, .slice A' n c', .slice B' m d']) ∧ OwnC w.heap.size w' A' n c' gl B' m d' ol ∧ Bl w w' := by
  go_enter Try.func16, Try.ntmps16
  go_wp2_with fail
  refine (laws_toGateS A n c gl _ (h.g.keep ?_) (by omega)).mono ?_
  · (repeat (first | assumption | with_reducible exact Bl.refl _ | with_reducible refine Bl.drewN ?_ _ | with_reducible refine Bl.drew ?_ | with_reducible refine Bl.alloc ?_ _ | (with_reducible refine Bl.call ?_ (by assumption))))
  rintro e w1 ⟨A1, c1, rfl, hG, hb1⟩
  have hW1 : Bl w w1 := Bl.call (by (repeat (first | assumption | with_reducible exact Bl.refl _ | with_reducible refine Bl.drewN ?_ _ | with_reducible refine Bl.drew ?_ | with_reducible refine Bl.alloc ?_ _ | (with_reducible refine Bl.call ?_ (by assumption))))) hb1
  have hG0 := hG.blk
  have x0 := hb1.cells (p := ⟨w.heap.size, 0, none⟩) (v := .int .i64 a) (by go_simp)
  have x1 := hb1.cells (p := ⟨w.heap.size, 1, none⟩) (v := .int .i64 b) (by go_simp)
  have x2 := hb1.cells (p := ⟨w.heap.size, 2, none⟩) (v := .slice A n c) (by go_simp)
  have x3 := hb1.cells (p := ⟨w.heap.size, 3, none⟩) (v := .slice B m d) (by go_simp)
  have y0 := hb1.cells (p := ⟨w.heap.size + 1 + 1, 0, none⟩) (v := .int .i64 a) (by go_simp)
  have y1 := hb1.cells (p := ⟨w.heap.size + 1 + 1, 1, none⟩) (v := .int .i64 b) (by go_simp)
  have y2 := hb1.cells (p := ⟨w.heap.size + 1 + 1, 2, none⟩) (v := .slice none 0 0) (by go_simp)
  have y3 := hb1.cells (p := ⟨w.heap.size + 1 + 1, 3, none⟩) (v := .slice none 0 0) (by go_simp)
  have yf : ∀ i, w1.frozen? ⟨w.heap.size + 1 + 1, i, none⟩ = false := fun i => by
    rw [hb1.froz0 _ _ (by simp)]
    go_simp
  have z0 := hb1.cells (p := ⟨w.heap.size + 1, 0, none⟩) (v := .int .i64 0) (by go_simp)
  have zf : ∀ i, w1.frozen? ⟨w.heap.size + 1, i, none⟩ = false := fun i => by
    rw [hb1.froz0 _ _ (by simp)]
    go_simp
  go_wp2_with fail
  have hS1 : Bl w (w1.setCell ⟨w.heap.size + 1 + 1, 2, none⟩ (.slice A1 n c1)) := hW1.setCell (by show w.heap.size ≤ w.heap.size + 1 + 1; omega) _
  refine (laws_toIntS B m d ol _ (h.o.keep hS1) (by omega)).mono ?_
  rintro e w2 ⟨B1, d1, rfl, hO, hb2⟩
  have hW2 := hS1.call hb2
  have v0 := hb2.cells (p := ⟨w.heap.size + 1 + 1, 0, none⟩) (v := .int .i64 a) (by go_simp)
  have v1 := hb2.cells (p := ⟨w.heap.size + 1 + 1, 1, none⟩) (v := .int .i64 b) (by go_simp)
  have v2 := hb2.cells (p := ⟨w.heap.size + 1 + 1, 2, none⟩) (v := .slice A1 n c1) (by go_simp)
  have hl2 : w.heap.size + 1 + 1 < w1.heap.size := World.block_lt_of_cell? w1 _ y0
  have vf : ∀ i, w2.frozen? ⟨w.heap.size + 1 + 1, i, none⟩ = false := fun i => by
    rw [hb2.froz0 _ _ (by simpa using hl2)]
    go_simp
  have uf : ∀ i, w2.frozen? ⟨w.heap.size + 1, i, none⟩ = false := fun i => by
    rw [hb2.froz0 _ _ (by simp; omega)]
    go_simp
  have u0 : ∀ i u, w1.cell? ⟨w.heap.size + 1, i, none⟩ = some u → w2.cell? ⟨w.heap.size + 1, i, none⟩ = some u := fun i u hu => hb2.cells (by go_simp)
  have t0 := u0 0 _ (hb1.cells (v := .int .i64 0) (by go_simp))
  have t1 := u0 1 _ (hb1.cells (v := .int .i64 0) (by go_simp))
  have t2 := u0 2 _ (hb1.cells (v := .slice none 0 0) (by go_simp))
  have t3 := u0 3 _ (hb1.cells (v := .slice none 0 0) (by go_simp))
  have v3 := hb2.cells (p := ⟨w.heap.size + 1 + 1, 3, none⟩) (v := .slice none 0 0) (by go_simp)
  have hG2 : OwnG (w.heap.size + 1 + 1 + 1) w2 A1 n c1 gl := (OwnG.low (OwnG.mono hG (by simp)) (by omega) _).keep hb2
  have hO2 : OwnI w1.heap.size w2 B1 m d1 ol := OwnI.mono hO (by simp)
  have hap := ne_of_lt_le (fun k hk => (hG0 k hk).2) (fun k hk => (hO2.blk k hk).1)
  clear x0 x1 x2 x3 y0 y1 y2 y3 yf z0 zf u0 hG hO hG0
  go_wp2_with fail
  refine bodyPost_ret (v := .agg #[.int .i64 a, .int .i64 b, .slice A1 n c1, .slice B1 m d1]) (by simp only [results, Try.results16]; go_simp) rfl ⟨A1, c1, B1, d1, rfl, ⟨?_, ?_, hap⟩, ?_⟩
  · refine OwnG.mono (base' := w.heap.size + 1 + 1 + 1) ?_ (by omega)
    repeat (first | with_reducible exact hG2 | (refine OwnG.low ?_ (by omega) _))
  · refine OwnI.mono (base := w1.heap.size) ?_ (by omega)
    repeat (first | with_reducible exact hO2 | (refine OwnI.low ?_ (by omega) _))
  · repeat (first | with_reducible exact hW2 | (refine Bl.setCell ?_ (by dsimp only; omega) _))
theorem laws_szCircuit (a b : Int) (A B : Option Addr) (n c m d : Nat) (w : World) (hn : n ≤ c) (hc : c ≤ 9223372036854775807) (hm : m ≤ d) (hd : d ≤ 9223372036854775807) :
    Calls Try.prog 14 #[.agg #[.int .i64 a, .int .i64 b, .slice A n c, .slice B m d], .int .i64 1048576] w fun e w' => ∃ r : Int, e = .returned (.int .i64 r) ∧ (r = -1 ∨ (0 ≤ r ∧ n ≤ 1048576 ∧ m ≤ 1048576)) ∧ Bl w w' := by
  by_cases h1 : (1048576 : Int) - n < 0
  · have e1 : (if (1048576 : Int) - n < 0 then (-1 : Int) else 1048576 - n) = -1 := if_pos h1
    go_enter Try.func14, Try.ntmps14
    go_wp2_with fail
    refine (laws_szGateS A n c 1048576 _ hn hc (by omega) (by omega)).mono ?_
    rintro e w1 ⟨rfl, rfl⟩
    rw [e1]
    go_wp2
    go_ret
    exact ⟨-1, rfl, .inl rfl, (by (repeat (first | assumption | with_reducible exact Bl.refl _ | with_reducible refine Bl.drewN ?_ _ | with_reducible refine Bl.drew ?_ | with_reducible refine Bl.alloc ?_ _ | (with_reducible refine Bl.call ?_ (by assumption)))))⟩
  · have e1 : (if (1048576 : Int) - n < 0 then (-1 : Int) else 1048576 - n) = 1048576 - n := if_neg h1
    by_cases h2 : (1048576 : Int) - n - m < 0
    · have e2 : (if (1048576 : Int) - n - m < 0 then (-1 : Int) else 1048576 - n - m) = -1 := if_pos h2
      go_enter Try.func14, Try.ntmps14
      go_wp2_with fail
      refine (laws_szGateS A n c 1048576 _ hn hc (by omega) (by omega)).mono ?_
      rintro e w1 ⟨rfl, rfl⟩
      rw [e1]
      go_wp2_with fail
      refine (laws_szIntS B m d (1048576 - n) _ hm hd (by omega) (by omega)).mono ?_
      rintro e w1 ⟨rfl, rfl⟩
      rw [e2]
      go_wp2
      go_ret
      exact ⟨-1, rfl, .inl rfl, (by (repeat (first | assumption | with_reducible exact Bl.refl _ | with_reducible refine Bl.drewN ?_ _ | with_reducible refine Bl.drew ?_ | with_reducible refine Bl.alloc ?_ _ | (with_reducible refine Bl.call ?_ (by assumption)))))⟩
    · have e2 : (if (1048576 : Int) - n - m < 0 then (-1 : Int) else 1048576 - n - m) = 1048576 - n - m := if_neg h2
      go_enter Try.func14, Try.ntmps14
      go_wp2_with fail
      refine (laws_szGateS A n c 1048576 _ hn hc (by omega) (by omega)).mono ?_
      rintro e w1 ⟨rfl, rfl⟩
      rw [e1]
      go_wp2_with fail
      refine (laws_szIntS B m d (1048576 - n) _ hm hd (by omega) (by omega)).mono ?_
      rintro e w1 ⟨rfl, rfl⟩
      rw [e2]
      go_wp2
      go_ret
      exact ⟨1048576 - n - m, rfl, .inr ⟨by omega, by omega, by omega⟩, (by (repeat (first | assumption | with_reducible exact Bl.refl _ | with_reducible refine Bl.drewN ?_ _ | with_reducible refine Bl.drew ?_ | with_reducible refine Bl.alloc ?_ _ | (with_reducible refine Bl.call ?_ (by assumption)))))⟩
set_option maxHeartbeats 1000000 in
theorem laws_eqCircuit (a b : Int) (A B A' B' : Option Addr) (n c m d c' d' : Nat) (gl : List Gt) (ol : List Int) (w : World) (h : RdC w A n c gl B m d ol) (h' : RdC w A' n c' gl B' m d' ol) :
    Calls Try.prog 18 #[.agg #[.int .i64 a, .int .i64 b, .slice A n c, .slice B m d], .agg #[.int .i64 a, .int .i64 b, .slice A' n c', .slice B' m d']] w fun e w' => e = .returned (.bool true) ∧ Bl w w' := by
  go_enter Try.func18, Try.ntmps18
  go_wp2_with fail
  refine (laws_eqGateS A A' n c n c' gl _ (h.g.keep (by (repeat (first | assumption | with_reducible exact Bl.refl _ | with_reducible refine Bl.drewN ?_ _ | with_reducible refine Bl.drew ?_ | with_reducible refine Bl.alloc ?_ _ | (with_reducible refine Bl.call ?_ (by assumption)))))) (h'.g.keep (by (repeat (first | assumption | with_reducible exact Bl.refl _ | with_reducible refine Bl.drewN ?_ _ | with_reducible refine Bl.drew ?_ | with_reducible refine Bl.alloc ?_ _ | (with_reducible refine Bl.call ?_ (by assumption))))))).mono ?_
  rintro e w1 ⟨rfl, hb1⟩
  have k2 := hb1.cells (p := ⟨w.heap.size, 3, none⟩) (v := .slice B m d) (by go_simp)
  have k3 := hb1.cells (p := ⟨w.heap.size + 1, 3, none⟩) (v := .slice B' m d') (by go_simp)
  go_wp2_with fail
  refine (laws_eqIntS B B' m d m d' ol ol _ (h.o.keep (by (repeat (first | assumption | with_reducible exact Bl.refl _ | with_reducible refine Bl.drewN ?_ _ | with_reducible refine Bl.drew ?_ | with_reducible refine Bl.alloc ?_ _ | (with_reducible refine Bl.call ?_ (by assumption)))))) (h'.o.keep (by (repeat (first | assumption | with_reducible exact Bl.refl _ | with_reducible refine Bl.drewN ?_ _ | with_reducible refine Bl.drew ?_ | with_reducible refine Bl.alloc ?_ _ | (with_reducible refine Bl.call ?_ (by assumption))))))).mono ?_
  rintro e w2 ⟨rfl, hb2⟩
  go_wp2
  all_goals go_ret
  all_goals exact ⟨by first | rfl | simp_all, (by (repeat (first | assumption | with_reducible exact Bl.refl _ | with_reducible refine Bl.drewN ?_ _ | with_reducible refine Bl.drew ?_ | with_reducible refine Bl.alloc ?_ _ | (with_reducible refine Bl.call ?_ (by assumption)))))⟩
set_option maxHeartbeats 1000000 in
theorem laws_markCircuit (a b : Int) (A B : Option Addr) (n c m d base : Nat) (gl : List Gt) (ol : List Int) (w : World) (h : OwnC base w A n c gl B m d ol) (hn : n ≤ 7036874417766) (hm : m ≤ 7036874417766) :
    Calls Try.prog 22 #[.agg #[.int .i64 a, .int .i64 b, .slice A n c, .slice B m d], .int .i64 1] w fun e w' => ∃ (r : Int) (wa wb wc : World), e = .returned (.int .i64 r) ∧ 0 ≤ r ∧ Bl w wa ∧ wa.grownBy wb (A.map (·.block)) ∧ wb.grownBy w' (B.map (·.block)) := by
  obtain ⟨hG, hO, hap⟩ := h
  go_enter Try.func22, Try.ntmps22
  go_wp2_with fail
  refine (laws_markGateS A n c base gl 1 _ (hG.keep (by (repeat (first | assumption | with_reducible exact Bl.refl _ | with_reducible refine Bl.drewN ?_ _ | with_reducible refine Bl.drew ?_ | with_reducible refine Bl.alloc ?_ _ | (with_reducible refine Bl.call ?_ (by assumption)))))) (by omega) (by omega)).mono ?_
  rintro e w1 ⟨rfl, hm1, hg1⟩
  have k2 : w1.cell? ⟨w.heap.size, 3, none⟩ = some (.slice B m d) := hg1.cell (by go_simp) (by intro he; have := (hG.blk _ he.symm).2; simp at this)
  have hO1 : OwnI base w1 B m d ol := OwnI.grown (hO.keep (by (repeat (first | assumption | with_reducible exact Bl.refl _ | with_reducible refine Bl.drewN ?_ _ | with_reducible refine Bl.drew ?_ | with_reducible refine Bl.alloc ?_ _ | (with_reducible refine Bl.call ?_ (by assumption)))))) hg1 (by
    rintro x rfl he
    cases A with
    | none => cases he
    | some y => exact hap y rfl he.symm)
  go_wp2_with fail
  refine (laws_markIntS B m d base ol (1 + 3 * n) _ hO1 (by omega) (by omega)).mono ?_
  rintro e w2 ⟨rfl, hm2, hg2⟩
  go_wp2
  go_ret
  exact ⟨_, _, w1, w1, rfl, by omega, (by (repeat (first | assumption | with_reducible exact Bl.refl _ | with_reducible refine Bl.drewN ?_ _ | with_reducible refine Bl.drew ?_ | with_reducible refine Bl.alloc ?_ _ | (with_reducible refine Bl.call ?_ (by assumption))))), hg1, hg2⟩
theorem open_gates {H : Type} {enc : TypeId × Value → H} {w : World} {base : Nat} {spare : Nat → Bool} {held : Bool} {v : Value} {y : DataW H × List MemPlace} {fuel : Nat}
    (hf : DataW.trod enc Try.prog w base spare held fuel 22 [v] = some y) : ∃ A n c l, v = .slice A n c ∧ RdG w A n c l := by
  rcases open_slice_fields Try.underlying22 Try.underlying83 (by kernel_rfl) (by kernel_rfl) hf with hcs | ⟨a, len, cap, hcs, hl, hm, he⟩
  · simp at hcs
    exact ⟨none, 0, 0, [], hcs, Rd.nil w 3, rfl⟩
  · simp at hcs
    obtain ⟨l, hll, hp⟩ := choose_list (p := fun i (x : Gt) => ∀ j u, x.enc[j]? = some u → w.cell? (a.add (i * 3 + j)) = some u) len (by
      intro i hi
      obtain ⟨v0, y0, n0, c0, t0⟩ := he i hi 0 _ rfl
      obtain ⟨v1, y1, n1, c1, t1⟩ := he i hi 1 _ rfl
      obtain ⟨v2, y2, n2, c2, t2⟩ := he i hi 2 _ rfl
      obtain ⟨x0, q0, _, _⟩ := DataW.trod_int Try.underlying3 t0
      obtain ⟨x1, q1, _, _⟩ := DataW.trod_int Try.underlying3 t1
      obtain ⟨x2, q2, _, _⟩ := DataW.trod_int Try.underlying3 t2
      simp at q0 q1 q2
      subst q0 q1 q2
      refine ⟨⟨x0, x1, x2⟩, fun j u hu => ?_⟩
      match j, hu with
      | 0, hu => simp [Gt.enc] at hu; subst hu; exact c0
      | 1, hu => simp [Gt.enc] at hu; subst hu; exact c1
      | 2, hu => simp [Gt.enc] at hu; subst hu; exact c2
      | j + 3, hu => simp [Gt.enc] at hu)
    exact ⟨some a, len, cap, l, hcs, rd_of_elems Gt.enc_len (by omega) hll hl hm hp, hll⟩
theorem open_ints_f {H : Type} {enc : TypeId × Value → H} {w : World} {base : Nat} {spare : Nat → Bool} {held : Bool} {v : Value} {y : DataW H × List MemPlace} {fuel : Nat}
    (hf : DataW.trod enc Try.prog w base spare held fuel 23 [v] = some y) : ∃ A n c l, v = .slice A n c ∧ RdI w A n c l := by
  rcases open_ints Try.underlying23 Try.underlying3 (by kernel_rfl) hf with ⟨hcs, hx⟩ | ⟨a, len', cap', zs, hcs, _, hl, hm, hz, hx, hcell, hwz⟩
  · simp at hcs
    exact ⟨none, 0, 0, [], hcs, RdI.nil w⟩
  · simp at hcs
    have hlz : len' ≤ zs.length := by rw [hz]; split <;> omega
    have hlt : (zs.take len').length = len' := by rw [List.length_take]; omega
    have hc2 : ∀ (j : Nat) (u : Value), (ints (zs.take len'))[j]? = some u → w.cell? (a.add j) = some u := by
      intro j u hu
      rw [ints_get] at hu
      obtain ⟨y, hy, rfl⟩ := Option.map_eq_some_iff.1 hu
      rw [List.getElem?_take] at hy
      split at hy
      · have hj : j < zs.length := by omega
        rw [hcell j hj, List.getD_eq_getElem?_getD, hy]; rfl
      · cases hy
    refine ⟨some a, len', cap', zs.take len', hcs, ⟨by simp [hlt], hl, hm, fun hn => ⟨a, rfl, ?_, hc2⟩⟩⟩
    have h0 : (ints (zs.take len'))[0]? = some ((ints (zs.take len'))[0]'(by rw [ints_length, hlt]; exact hn)) := List.getElem?_eq_getElem _
    have := World.block_lt_of_cell? w _ (hc2 0 _ h0)
    rwa [block_of_add] at this
theorem open_circuit {H : Type} {enc : TypeId × Value → H} {w : World} {base : Nat} {spare : Nat → Bool} {held : Bool} {r : Reach} {b0 : Nat} {v : Value} {d : DataW H} {p : List MemPlace}
    (hv : Value.okWide Try.prog w r b0 25 v) (h : DataW.Trod enc Try.prog w base spare held 25 v d p) :
    ∃ (a b : Int) (A : Option Addr) (n c : Nat) (gl : List Gt) (B : Option Addr) (m d : Nat) (ol : List Int), v = .agg #[.int .i64 a, .int .i64 b, .slice A n c, .slice B m d] ∧ RdC w A n c gl B m d ol := by
  obtain ⟨cs, rfl, hl, hf⟩ := open_cells Try.underlying25 (by kernel_rfl) (by kernel_rfl) hv h
  match cs, hl with
  | [c0, c1, c2, c3], _ =>
    obtain ⟨u0, y0, n0, e0, t0⟩ := hf 0 _ rfl
    obtain ⟨u1, y1, n1, e1, t1⟩ := hf 1 _ rfl
    obtain ⟨u2, y2, n2, e2, t2⟩ := hf 2 _ rfl
    obtain ⟨u3, y3, n3, e3, t3⟩ := hf 3 _ rfl
    obtain ⟨a, q0, _, _⟩ := DataW.trod_int Try.underlying3 t0
    obtain ⟨b, q1, _, _⟩ := DataW.trod_int Try.underlying3 t1
    obtain ⟨A, n, c, gl, rfl, hG⟩ := open_gates t2
    obtain ⟨B, m, d, ol, rfl, hO⟩ := open_ints_f t3
    simp at e0 e1 e2 e3 q0 q1
    subst e0 e1 e2 e3 q0 q1
    exact ⟨a, b, A, n, c, gl, B, m, d, ol, rfl, hG, hO⟩
end Go.Proofs.Ytghoaheajgedoaa
