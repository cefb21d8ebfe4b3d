/- Contracts of FaultsOf.
   Conditions: none beyond the calls' own tests. -/
import Derived.Test.YtglgaicbcackbaaSls
import Derived.Test.YtglgaicbcackbaaSee
import Derived.Test.YtglgaicbcackbaaMak
namespace Go.Proofs.Ytglgaicbcackbaa
open Go.RowKit
set_option linter.unusedVariables false
def Sea.good (x : Sea) : Bool := goodB x.p x.m x.v x.b x.o
def Sea.fault (x : Sea) : Int := faultN x.p x.m x.v x.b x.o
theorem Sea.fault_bd (x : Sea) : 0 ≤ x.fault ∧ x.fault ≤ 1 := by unfold Sea.fault faultN; split <;> omega
/-- Both counters. -/
def tallyS (l : List Sea) : List Int := l.foldl (fun t x => if x.p = 0 then [t[0]?.getD 0 + x.fault, t[1]?.getD 0] else [t[0]?.getD 0, t[1]?.getD 0 + x.fault]) [0, 0]
def foB (l : List Sea) : Bool := decide (l.length ≤ 20) && l.all Sea.good
def foR (l : List Sea) : List Int := if foB l then tallyS l else []
theorem tallyS_two (l : List Sea) : ∃ a b, tallyS l = [a, b] ∧ 0 ≤ a ∧ a ≤ l.length ∧ 0 ≤ b ∧ b ≤ l.length := by
  unfold tallyS
  suffices H : ∀ (l : List Sea) (a b : Int), 0 ≤ a → 0 ≤ b → ∃ a' b', l.foldl (fun t x => if x.p = 0 then [t[0]?.getD 0 + x.fault, t[1]?.getD 0] else [t[0]?.getD 0, t[1]?.getD 0 + x.fault]) [a, b] = [a', b'] ∧ 0 ≤ a' ∧ a' ≤ a + l.length ∧ 0 ≤ b' ∧ b' ≤ b + l.length by
    obtain ⟨a, b, h, h1, h2, h3, h4⟩ := H l 0 0 (by omega) (by omega)
    exact ⟨a, b, h, h1, by omega, h3, by omega⟩
  intro l
  induction l with
  | nil => intro a b ha hb; exact ⟨a, b, rfl, ha, by simp, hb, by simp⟩
  | cons x l ih =>
    intro a b ha hb
    have hf := x.fault_bd
    simp only [List.foldl_cons, List.length_cons]
    split
    · obtain ⟨a', b', h, h1, h2, h3, h4⟩ := ih (a + x.fault) b (by omega) hb
      exact ⟨a', b', h, h1, by omega, h3, by omega⟩
    · obtain ⟨a', b', h, h1, h2, h3, h4⟩ := ih a (b + x.fault) ha (by omega)
      exact ⟨a', b', h, h1, by omega, h3, by omega⟩
theorem tallyS_0 {l : List Sea} {k : Nat} {x : Sea} {a b : Int} (hx : l[k]? = some x) (h : tallyS (l.take k) = [a, b]) (hp : x.p = 0) : tallyS (l.take (k + 1)) = [a + x.fault, b] := by
  unfold tallyS at *
  rw [foldl_snoc _ _ _ _ _ hx, h]; simp [hp]
theorem tallyS_1 {l : List Sea} {k : Nat} {x : Sea} {a b : Int} (hx : l[k]? = some x) (h : tallyS (l.take k) = [a, b]) (hp : x.p = 1) : tallyS (l.take (k + 1)) = [a, b + x.fault] := by
  unfold tallyS at *
  rw [foldl_snoc _ _ _ _ _ hx, h]; simp [hp]
theorem all_step {l : List Sea} {k : Nat} {x : Sea} (h : (l.take k).all Sea.good = true) (hx : l[k]? = some x) (hg : x.good = true) : (l.take (k + 1)).all Sea.good = true := by
  rw [List.take_add_one, hx, List.all_append, h]; simp [hg]
theorem not_all {l : List Sea} {k : Nat} {x : Sea} (hx : l[k]? = some x) (hg : x.good = false) : l.all Sea.good = false := by
  rw [Bool.eq_false_iff]; intro h
  have := List.all_eq_true.1 h x (List.mem_of_getElem? hx)
  rw [hg] at this; cases this
theorem foR_len (l : List Sea) : (foR l).length ≤ 2 := by
  unfold foR; split
  · obtain ⟨a, b, h, _⟩ := tallyS_two l; rw [h]; simp
  · simp
theorem own_pair (w : World) : OwnI w.heap.size (w.alloc (.cells #[.int .i64 0, .int .i64 0] 3)) (some ⟨w.heap.size, 0, none⟩) 2 2 [0, 0] :=
  ⟨by simp, .inr ⟨w.heap.size, 2, _, rfl, Nat.le_refl _, heap_alloc_new w _, Nat.le_refl _, by simp [maxLen], by simp, by simp [ints]⟩⟩
theorem RdI.two {w : World} {g c : Nat} {base : Nat} {a b : Int} (h : OwnI base w (some ⟨g, 0, none⟩) 2 c [a, b]) : w.cell? ⟨g, 0, none⟩ = some (.int .i64 a) ∧ w.cell? ⟨g, 1, none⟩ = some (.int .i64 b) ∧ (∀ i, w.frozen? ⟨g, i, none⟩ = false) ∧ g < w.heap.size := by
  obtain ⟨g', hg, _, hlt, hc, hf⟩ := h.form (by omega)
  injection hg with hg
  injection hg with hg
  subst hg
  exact ⟨hc 0 _ rfl, hc 1 _ rfl, hf, hlt⟩
set_option maxHeartbeats 8000000 in
theorem spec_FaultsOf (A : Option Addr) (n c : Nat) (l : List Sea) (w : World) (h : RdS w A n c l) :
    Calls Try.prog 37 #[.slice A n c] w fun e w' => ∃ A' n' c', e = .returned (.tuple #[.slice A' n' c', .bool (foB l)]) ∧ OwnI w.heap.size w' A' n' c' (foR l) ∧ Bl w w' := by
  obtain ⟨hle1, hle2⟩ := h.le
  have hl := Lib.hid h.2
  by_cases hn : n ≤ 20
  case neg =>
    have hB := Lib.hid (show foB l = false by unfold foB; rw [h.2]; simp; intro h; omega)
    have hR := Lib.hid (show foR l = [] by unfold foR; rw [hB.out]; rfl)
    have i0 : (20 : Int) < n := by omega
    go_enter Try.func37, Try.ntmps37
    go_wp2
    go_ret2
    exact ⟨none, 0, 0, by rw [hB.out]; rfl, by rw [hR.out]; exact OwnI.nil _ _, Bl.refl _⟩
  have hmk : ∀ w : World, (Instr.makeSlice 26 (.int .i64 2) (.int .i64 2)).run Try.prog w = .ok (.slice (some ⟨w.heap.size, 0, none⟩) 2 2) (w.alloc (.cells (madeCells #[.int .i64 0] 2) 3)) := make_ints 2 (by omega)
  have hown0 : OwnI w.heap.size (w.alloc (.cells (madeCells #[.int .i64 0] 2) 3)) (some ⟨w.heap.size, 0, none⟩) 2 2 [0, 0] := own_zeros w 2 (by omega)
  have hW0 := (Bl.refl w).alloc (.cells (madeCells #[.int .i64 0] 2) 3)
  go_enter Try.func37, Try.ntmps37
  go_wp2
  go_loopw [13] (fun i wr => ∃ k, k ≤ n ∧ i = .int .i64 (k : Nat) ∧ Hid ((l.take k).all Sea.good = true) ∧ OwnI w.heap.size wr (some ⟨w.heap.size, 0, none⟩) 2 2 (tallyS (l.take k)) ∧ Bl w wr) (fun i _ => n - (intOf i).toNat)
  case atStart => exact ⟨0, by omega, rfl, Lib.hid (by simp), hown0, hW0⟩
  case round =>
    obtain ⟨k, hk, rfl, hall, hown, hW⟩ := hrel
    clear hown0 hW0
    by_cases hlt : k < n
    · obtain ⟨ad, p, m, v, b, o, rfl, hx, q0, q1, q2, q3, q4⟩ := (h.keep hW).at_ hlt
      have HX := Lib.hid hx
      clear hx
      have i1 : (k : Int) < n := by omega
      obtain ⟨a, d, hT, ha0, ha1, hd0, hd1⟩ := tallyS_two (l.take k)
      have hTl : (l.take k).length ≤ 20 := by rw [List.length_take]; omega
      have ha2 : a ≤ 20 := by omega
      have hd2 : d ≤ 20 := by omega
      clear ha1 hd1 hTl
      have HT := Lib.hid hT
      rw [hT] at hown
      clear hT
      rcases hgd : goodB p m v b o
      · have hB := Lib.hid (show foB l = false by unfold foB; rw [not_all HX.out hgd]; simp)
        have hR := Lib.hid (show foR l = [] by unfold foR; rw [hB.out]; rfl)
        go_wp2_with (first | (go_at_call 90; refine (spec_cmGood _ _ _ _ _ _).mono ?_; rintro e w2 ⟨rfl, hb2⟩; rw [hgd]; replace hW := (hW.alloc _).call hb2))
        go_ret2
        exact ⟨none, 0, 0, by rw [hB.out]; rfl, by rw [hR.out]; exact OwnI.nil _ _, hW⟩
      · have hgo : Hid ((l.take (k + 1)).all Sea.good = true) := all_step hall.out HX.out hgd
        have hfb := Sea.fault_bd ⟨p, m, v, b, o⟩
        have hp : p = 0 ∨ p = 1 := by
          have : inR p 0 1 = true := by simp only [goodB, Bool.and_eq_true] at hgd; exact hgd.1.1.1.1
          have := inR_iff.1 this
          omega
        rcases hp with rfl | rfl
        · obtain ⟨F, hFe⟩ : ∃ F, Sea.fault ⟨0, m, v, b, o⟩ = F := ⟨_, rfl⟩
          have hF := Lib.hid hFe
          rw [hFe] at hfb
          clear hFe
          have hst := Lib.hid (tallyS_0 HX.out HT.out rfl)
          have hs1 : IntKind.i64.wrap (a + F) = a + F := IntWalk.i64_in _ (by omega)
          go_wp2_with (first | (go_at_call 90; refine (spec_cmGood _ _ _ _ _ _).mono ?_; rintro e w2 ⟨rfl, hb2⟩; rw [hgd]; replace hown := (hown.alloc _).keep hb2; have hBk := (Blk.new wr 38 #[.int .i64 0, .int .i64 m, .int .i64 v, .int .i64 b, .bool o]).keep hb2; replace hW := (hW.alloc _).call hb2; obtain ⟨t0, t1, tf, tl⟩ := RdI.two hown; have b0 := hBk.cell 0 _ rfl; have b1 := hBk.cell 1 _ rfl; have b2 := hBk.cell 2 _ rfl; have b3 := hBk.cell 3 _ rfl; have b4 := hBk.cell 4 _ rfl))
          refine region_G (fun w' => w'.cell? ⟨w.heap.size, 0, none⟩ = some (.int .i64 a) ∧ w'.cell? ⟨w.heap.size, 1, none⟩ = some (.int .i64 d) ∧ (∀ i, w'.frozen? ⟨w.heap.size, i, none⟩ = false) ∧ w'.cell? ⟨wr.heap.size, 0, none⟩ = some (.int .i64 0) ∧ w'.cell? ⟨wr.heap.size, 1, none⟩ = some (.int .i64 m) ∧ w'.cell? ⟨wr.heap.size, 2, none⟩ = some (.int .i64 v) ∧ w'.cell? ⟨wr.heap.size, 3, none⟩ = some (.int .i64 b) ∧ w'.cell? ⟨wr.heap.size, 4, none⟩ = some (.bool o)) 9 (by kernel_rfl) ?_ (fun hHeld => ?_)
          · (try dsimp only); exact ⟨t0, t1, tf, b0, b1, b2, b3, b4⟩
          refine g_take (i := 0) (d := 20) (v := ?_) [0] rfl rfl (by kernel_rfl) (by kernel_rfl) (by kernel_rfl) (by kernel_rfl) (by kernel_rfl) (by kernel_rfl) (fun _ _ _ h => h) (by decide) (by kernel_rfl) (Or.inl ⟨by rfl, ?_⟩) (by assumption) ?_
          rotate_left
          · (intro w hSw; (try dsimp only at hSw); go_simp; (try with_reducible rfl))
          simp only [List.set_cons_zero, List.set_cons_succ]
          refine g_take (i := 1) (d := 21) (v := ?_) [1] rfl rfl (by kernel_rfl) (by kernel_rfl) (by kernel_rfl) (by kernel_rfl) (by kernel_rfl) (by kernel_rfl) (fun _ _ _ h => h) (by decide) (by kernel_rfl) (Or.inl ⟨by rfl, ?_⟩) (by assumption) ?_
          rotate_left
          · (intro w hSw; (try dsimp only at hSw); go_simp; (try with_reducible rfl))
          simp only [List.set_cons_zero, List.set_cons_succ]
          refine g_take (i := 2) (d := 22) (v := ?_) [2] rfl rfl (by kernel_rfl) (by kernel_rfl) (by kernel_rfl) (by kernel_rfl) (by kernel_rfl) (by kernel_rfl) (fun _ _ _ h => h) (by decide) (by kernel_rfl) (Or.inl ⟨by rfl, ?_⟩) (by assumption) ?_
          rotate_left
          · (intro w hSw; (try dsimp only at hSw); go_simp; (try with_reducible rfl))
          simp only [List.set_cons_zero, List.set_cons_succ]
          refine g_take (i := 3) (d := 23) (v := ?_) [3] rfl rfl (by kernel_rfl) (by kernel_rfl) (by kernel_rfl) (by kernel_rfl) (by kernel_rfl) (by kernel_rfl) (fun _ _ _ h => h) (by decide) (by kernel_rfl) (Or.inl ⟨by rfl, ?_⟩) (by assumption) ?_
          rotate_left
          · (intro w hSw; (try dsimp only at hSw); go_simp; (try with_reducible rfl))
          simp only [List.set_cons_zero, List.set_cons_succ]
          refine g_take (i := 4) (d := 24) (v := ?_) [4] rfl rfl (by kernel_rfl) (by kernel_rfl) (by kernel_rfl) (by kernel_rfl) (by kernel_rfl) (by kernel_rfl) (fun _ _ _ h => h) (by decide) (by kernel_rfl) (Or.inl ⟨by rfl, ?_⟩) (by assumption) ?_
          rotate_left
          · (intro w hSw; (try dsimp only at hSw); go_simp; (try with_reducible rfl))
          simp only [List.set_cons_zero, List.set_cons_succ]
          refine g_take (i := 5) (d := 25) (v := ?_) [5] rfl rfl (by kernel_rfl) (by kernel_rfl) (by kernel_rfl) (by kernel_rfl) (by kernel_rfl) (by kernel_rfl) (fun _ _ _ h => h) (by decide) (by kernel_rfl) (Or.inl ⟨by rfl, ?_⟩) (by assumption) ?_
          rotate_left
          · (intro w hSw; (try dsimp only at hSw); go_simp; (try with_reducible rfl))
          simp only [List.set_cons_zero, List.set_cons_succ]
          refine g_step (i := 6) (by kernel_rfl) rfl (fun K hK => ?_)
          go_simp
          (first | (go_at_call 95; refine (spec_cmFault _ _ _ _ _ _ hgd).mono ?_; rintro e w3 ⟨rfl, hb3⟩; rw [show faultN 0 m v b o = F from hF.out]; replace hown := (by first | exact OwnI.keep (w := w2) hown hb3 | exact hown.keep ((Bl.refl w2).drew.call hb3)); replace hBk := (by first | exact Blk.keep (w := w2) hBk hb3 | exact hBk.keep ((Bl.refl w2).drew.call hb3)); replace hW := (by first | exact hW.drew.call hb3 | exact hW.call hb3); obtain ⟨t0, t1, tf, tl⟩ := RdI.two hown; have b0 := hBk.cell 0 _ rfl; have b1 := hBk.cell 1 _ rfl; have b2 := hBk.cell 2 _ rfl; have b3 := hBk.cell 3 _ rfl; have b4 := hBk.cell 4 _ rfl))
          go_wp2_with fail
          refine hK.out _ _ ?_ (fun hHeld => ?_)
          · (try dsimp only); exact ⟨t0, t1, tf, b0, b1, b2, b3, b4⟩
          clear hK K
          try simp only [List.set_cons_zero, List.set_cons_succ]
          refine g_take (i := 7) (d := 27) (v := ?_) [7] rfl rfl (by kernel_rfl) (by kernel_rfl) (by kernel_rfl) (by kernel_rfl) (by kernel_rfl) (by kernel_rfl) (fun _ _ _ h => h) (by decide) (by kernel_rfl) (Or.inl ⟨by rfl, ?_⟩) (by assumption) ?_
          rotate_left
          · (intro w hSw; (try dsimp only at hSw); go_simp; (try with_reducible rfl))
          simp only [List.set_cons_zero, List.set_cons_succ]
          refine g_take (i := 8) (d := 28) (v := ?_) [8] rfl rfl (by kernel_rfl) (by kernel_rfl) (by kernel_rfl) (by kernel_rfl) (by kernel_rfl) (by kernel_rfl) (fun _ _ _ h => h) (by decide) (by kernel_rfl) (Or.inl ⟨by rfl, ?_⟩) (by assumption) ?_
          rotate_left
          · (intro w hSw; (try dsimp only at hSw); go_simp; (try with_reducible rfl))
          simp only [List.set_cons_zero, List.set_cons_succ]
          refine g_last (by kernel_rfl) rfl (by simp) (fun K hK => ?_)
          go_simp
          refine hK.out _ _ ?_
          clear hK K
          refine g_done (by kernel_rfl) ?_ _
          go_wp2
          go_roundw
          case rel => exact ⟨k + 1, by omega, by go_num, hgo, by rw [hst.out, hF.out]; exact hown.set_ 0 _ (by omega), hW.setCell (Nat.le_refl _) _⟩
          case measure => simp [intOf]; omega
        · obtain ⟨F, hFe⟩ : ∃ F, Sea.fault ⟨1, m, v, b, o⟩ = F := ⟨_, rfl⟩
          have hF := Lib.hid hFe
          rw [hFe] at hfb
          clear hFe
          have hst := Lib.hid (tallyS_1 HX.out HT.out rfl)
          have hs1 : IntKind.i64.wrap (d + F) = d + F := IntWalk.i64_in _ (by omega)
          go_wp2_with (first | (go_at_call 90; refine (spec_cmGood _ _ _ _ _ _).mono ?_; rintro e w2 ⟨rfl, hb2⟩; rw [hgd]; replace hown := (hown.alloc _).keep hb2; have hBk := (Blk.new wr 38 #[.int .i64 1, .int .i64 m, .int .i64 v, .int .i64 b, .bool o]).keep hb2; replace hW := (hW.alloc _).call hb2; obtain ⟨t0, t1, tf, tl⟩ := RdI.two hown; have b0 := hBk.cell 0 _ rfl; have b1 := hBk.cell 1 _ rfl; have b2 := hBk.cell 2 _ rfl; have b3 := hBk.cell 3 _ rfl; have b4 := hBk.cell 4 _ rfl))
          refine region_G (fun w' => w'.cell? ⟨w.heap.size, 0, none⟩ = some (.int .i64 a) ∧ w'.cell? ⟨w.heap.size, 1, none⟩ = some (.int .i64 d) ∧ (∀ i, w'.frozen? ⟨w.heap.size, i, none⟩ = false) ∧ w'.cell? ⟨wr.heap.size, 0, none⟩ = some (.int .i64 1) ∧ w'.cell? ⟨wr.heap.size, 1, none⟩ = some (.int .i64 m) ∧ w'.cell? ⟨wr.heap.size, 2, none⟩ = some (.int .i64 v) ∧ w'.cell? ⟨wr.heap.size, 3, none⟩ = some (.int .i64 b) ∧ w'.cell? ⟨wr.heap.size, 4, none⟩ = some (.bool o)) 9 (by kernel_rfl) ?_ (fun hHeld => ?_)
          · (try dsimp only); exact ⟨t0, t1, tf, b0, b1, b2, b3, b4⟩
          refine g_take (i := 0) (d := 20) (v := ?_) [0] rfl rfl (by kernel_rfl) (by kernel_rfl) (by kernel_rfl) (by kernel_rfl) (by kernel_rfl) (by kernel_rfl) (fun _ _ _ h => h) (by decide) (by kernel_rfl) (Or.inl ⟨by rfl, ?_⟩) (by assumption) ?_
          rotate_left
          · (intro w hSw; (try dsimp only at hSw); go_simp; (try with_reducible rfl))
          simp only [List.set_cons_zero, List.set_cons_succ]
          refine g_take (i := 1) (d := 21) (v := ?_) [1] rfl rfl (by kernel_rfl) (by kernel_rfl) (by kernel_rfl) (by kernel_rfl) (by kernel_rfl) (by kernel_rfl) (fun _ _ _ h => h) (by decide) (by kernel_rfl) (Or.inl ⟨by rfl, ?_⟩) (by assumption) ?_
          rotate_left
          · (intro w hSw; (try dsimp only at hSw); go_simp; (try with_reducible rfl))
          simp only [List.set_cons_zero, List.set_cons_succ]
          refine g_take (i := 2) (d := 22) (v := ?_) [2] rfl rfl (by kernel_rfl) (by kernel_rfl) (by kernel_rfl) (by kernel_rfl) (by kernel_rfl) (by kernel_rfl) (fun _ _ _ h => h) (by decide) (by kernel_rfl) (Or.inl ⟨by rfl, ?_⟩) (by assumption) ?_
          rotate_left
          · (intro w hSw; (try dsimp only at hSw); go_simp; (try with_reducible rfl))
          simp only [List.set_cons_zero, List.set_cons_succ]
          refine g_take (i := 3) (d := 23) (v := ?_) [3] rfl rfl (by kernel_rfl) (by kernel_rfl) (by kernel_rfl) (by kernel_rfl) (by kernel_rfl) (by kernel_rfl) (fun _ _ _ h => h) (by decide) (by kernel_rfl) (Or.inl ⟨by rfl, ?_⟩) (by assumption) ?_
          rotate_left
          · (intro w hSw; (try dsimp only at hSw); go_simp; (try with_reducible rfl))
          simp only [List.set_cons_zero, List.set_cons_succ]
          refine g_take (i := 4) (d := 24) (v := ?_) [4] rfl rfl (by kernel_rfl) (by kernel_rfl) (by kernel_rfl) (by kernel_rfl) (by kernel_rfl) (by kernel_rfl) (fun _ _ _ h => h) (by decide) (by kernel_rfl) (Or.inl ⟨by rfl, ?_⟩) (by assumption) ?_
          rotate_left
          · (intro w hSw; (try dsimp only at hSw); go_simp; (try with_reducible rfl))
          simp only [List.set_cons_zero, List.set_cons_succ]
          refine g_take (i := 5) (d := 25) (v := ?_) [5] rfl rfl (by kernel_rfl) (by kernel_rfl) (by kernel_rfl) (by kernel_rfl) (by kernel_rfl) (by kernel_rfl) (fun _ _ _ h => h) (by decide) (by kernel_rfl) (Or.inl ⟨by rfl, ?_⟩) (by assumption) ?_
          rotate_left
          · (intro w hSw; (try dsimp only at hSw); go_simp; (try with_reducible rfl))
          simp only [List.set_cons_zero, List.set_cons_succ]
          refine g_step (i := 6) (by kernel_rfl) rfl (fun K hK => ?_)
          go_simp
          (first | (go_at_call 95; refine (spec_cmFault _ _ _ _ _ _ hgd).mono ?_; rintro e w3 ⟨rfl, hb3⟩; rw [show faultN 1 m v b o = F from hF.out]; replace hown := (by first | exact OwnI.keep (w := w2) hown hb3 | exact hown.keep ((Bl.refl w2).drew.call hb3)); replace hBk := (by first | exact Blk.keep (w := w2) hBk hb3 | exact hBk.keep ((Bl.refl w2).drew.call hb3)); replace hW := (by first | exact hW.drew.call hb3 | exact hW.call hb3); obtain ⟨t0, t1, tf, tl⟩ := RdI.two hown; have b0 := hBk.cell 0 _ rfl; have b1 := hBk.cell 1 _ rfl; have b2 := hBk.cell 2 _ rfl; have b3 := hBk.cell 3 _ rfl; have b4 := hBk.cell 4 _ rfl))
          go_wp2_with fail
          refine hK.out _ _ ?_ (fun hHeld => ?_)
          · (try dsimp only); exact ⟨t0, t1, tf, b0, b1, b2, b3, b4⟩
          clear hK K
          try simp only [List.set_cons_zero, List.set_cons_succ]
          refine g_take (i := 7) (d := 27) (v := ?_) [7] rfl rfl (by kernel_rfl) (by kernel_rfl) (by kernel_rfl) (by kernel_rfl) (by kernel_rfl) (by kernel_rfl) (fun _ _ _ h => h) (by decide) (by kernel_rfl) (Or.inl ⟨by rfl, ?_⟩) (by assumption) ?_
          rotate_left
          · (intro w hSw; (try dsimp only at hSw); go_simp; (try with_reducible rfl))
          simp only [List.set_cons_zero, List.set_cons_succ]
          refine g_take (i := 8) (d := 28) (v := ?_) [8] rfl rfl (by kernel_rfl) (by kernel_rfl) (by kernel_rfl) (by kernel_rfl) (by kernel_rfl) (by kernel_rfl) (fun _ _ _ h => h) (by decide) (by kernel_rfl) (Or.inl ⟨by rfl, ?_⟩) (by assumption) ?_
          rotate_left
          · (intro w hSw; (try dsimp only at hSw); go_simp; (try with_reducible rfl))
          simp only [List.set_cons_zero, List.set_cons_succ]
          refine g_last (by kernel_rfl) rfl (by simp) (fun K hK => ?_)
          go_simp
          refine hK.out _ _ ?_
          clear hK K
          refine g_done (by kernel_rfl) ?_ _
          go_wp2
          go_roundw
          case rel => exact ⟨k + 1, by omega, by go_num, hgo, by rw [hst.out, hF.out]; exact hown.set_ 1 _ (by omega), hW.setCell (Nat.le_refl _) _⟩
          case measure => simp [intOf]; omega
    · have he : k = n := by omega
      subst he
      have hla : l.take k = l := List.take_of_length_le (by rw [hl.out]; omega)
      have hB := Lib.hid (show foB l = true by unfold foB; rw [← hla, hall.out, hla, hl.out]; simp; omega)
      have hR := Lib.hid (show foR l = tallyS (l.take k) by unfold foR; rw [hB.out, hla]; rfl)
      clear hla
      go_wp2
      go_ret2
      exact ⟨_, 2, 2, by rw [hB.out]; rfl, by rw [hR.out]; exact hown, hW⟩
set_option maxHeartbeats 8000000 in
theorem impl_FaultsOf (A : Option Addr) (n c : Nat) (l : List Sea) (w : World) (h : RdS w A n c l) :
    Calls Try.prog 31 #[.slice A n c] w fun e w' => ∃ A' n' c', e = .returned (.tuple #[.slice A' n' c', .bool (foB l)]) ∧ OwnI w.heap.size w' A' n' c' (foR l) ∧ Bl w w' := by
  obtain ⟨hle1, hle2⟩ := h.le
  have hl := Lib.hid h.2
  by_cases hn : n ≤ 20
  case neg =>
    have hB := Lib.hid (show foB l = false by unfold foB; rw [h.2]; simp; intro h; omega)
    have hR := Lib.hid (show foR l = [] by unfold foR; rw [hB.out]; rfl)
    have i0 : (20 : Int) < n := by omega
    go_enter Try.func31, Try.ntmps31
    go_wp2
    go_ret2
    exact ⟨none, 0, 0, by rw [hB.out]; rfl, by rw [hR.out]; exact OwnI.nil _ _, Bl.refl _⟩
  have hown0 : OwnI w.heap.size (w.alloc (.cells #[.int .i64 0, .int .i64 0] 3)) (some ⟨w.heap.size, 0, none⟩) 2 2 [0, 0] := own_pair w
  have hW0 := (Bl.refl w).alloc (.cells (#[.int .i64 0, .int .i64 0]) 3)
  go_enter Try.func31, Try.ntmps31
  go_wp2
  go_loopw [13] (fun i wr => ∃ k, k ≤ n ∧ i = .int .i64 (k : Nat) ∧ Hid ((l.take k).all Sea.good = true) ∧ OwnI w.heap.size wr (some ⟨w.heap.size, 0, none⟩) 2 2 (tallyS (l.take k)) ∧ Bl w wr) (fun i _ => n - (intOf i).toNat)
  case atStart => exact ⟨0, by omega, rfl, Lib.hid (by simp), hown0, hW0⟩
  case round =>
    obtain ⟨k, hk, rfl, hall, hown, hW⟩ := hrel
    clear hown0 hW0
    by_cases hlt : k < n
    · obtain ⟨ad, p, m, v, b, o, rfl, hx, q0, q1, q2, q3, q4⟩ := (h.keep hW).at_ hlt
      have HX := Lib.hid hx
      clear hx
      have i1 : (k : Int) < n := by omega
      obtain ⟨a, d, hT, ha0, ha1, hd0, hd1⟩ := tallyS_two (l.take k)
      have hTl : (l.take k).length ≤ 20 := by rw [List.length_take]; omega
      have ha2 : a ≤ 20 := by omega
      have hd2 : d ≤ 20 := by omega
      clear ha1 hd1 hTl
      have HT := Lib.hid hT
      rw [hT] at hown
      clear hT
      rcases hgd : goodB p m v b o
      · have hB := Lib.hid (show foB l = false by unfold foB; rw [not_all HX.out hgd]; simp)
        have hR := Lib.hid (show foR l = [] by unfold foR; rw [hB.out]; rfl)
        go_wp2_with (first | (go_at_call 88; refine (impl_isSealed _ _ _ _ _ _).mono ?_; rintro e w2 ⟨rfl, hb2⟩; rw [hgd]; replace hW := (hW.alloc _).call hb2))
        go_ret2
        exact ⟨none, 0, 0, by rw [hB.out]; rfl, by rw [hR.out]; exact OwnI.nil _ _, hW⟩
      · have hgo : Hid ((l.take (k + 1)).all Sea.good = true) := all_step hall.out HX.out hgd
        have hfb := Sea.fault_bd ⟨p, m, v, b, o⟩
        have hp : p = 0 ∨ p = 1 := by
          have : inR p 0 1 = true := by simp only [goodB, Bool.and_eq_true] at hgd; exact hgd.1.1.1.1
          have := inR_iff.1 this
          omega
        rcases hp with rfl | rfl
        · obtain ⟨F, hFe⟩ : ∃ F, Sea.fault ⟨0, m, v, b, o⟩ = F := ⟨_, rfl⟩
          have hF := Lib.hid hFe
          rw [hFe] at hfb
          clear hFe
          have hst := Lib.hid (tallyS_0 HX.out HT.out rfl)
          have hs1 : IntKind.i64.wrap (a + F) = a + F := IntWalk.i64_in _ (by omega)
          go_wp2_with (first | (go_at_call 88; refine (impl_isSealed _ _ _ _ _ _).mono ?_; rintro e w2 ⟨rfl, hb2⟩; rw [hgd]; replace hown := (hown.alloc _).keep hb2; have hBk := (Blk.new wr 38 #[.int .i64 0, .int .i64 m, .int .i64 v, .int .i64 b, .bool o]).keep hb2; replace hW := (hW.alloc _).call hb2; obtain ⟨t0, t1, tf, tl⟩ := RdI.two hown; have b0 := hBk.cell 0 _ rfl; have b1 := hBk.cell 1 _ rfl; have b2 := hBk.cell 2 _ rfl; have b3 := hBk.cell 3 _ rfl; have b4 := hBk.cell 4 _ rfl))
          refine region_G (fun w' => w'.cell? ⟨w.heap.size, 0, none⟩ = some (.int .i64 a) ∧ w'.cell? ⟨w.heap.size, 1, none⟩ = some (.int .i64 d) ∧ (∀ i, w'.frozen? ⟨w.heap.size, i, none⟩ = false) ∧ w'.cell? ⟨wr.heap.size, 0, none⟩ = some (.int .i64 0) ∧ w'.cell? ⟨wr.heap.size, 1, none⟩ = some (.int .i64 m) ∧ w'.cell? ⟨wr.heap.size, 2, none⟩ = some (.int .i64 v) ∧ w'.cell? ⟨wr.heap.size, 3, none⟩ = some (.int .i64 b) ∧ w'.cell? ⟨wr.heap.size, 4, none⟩ = some (.bool o)) 10 (by kernel_rfl) ?_ (fun hHeld => ?_)
          · (try dsimp only); exact ⟨t0, t1, tf, b0, b1, b2, b3, b4⟩
          refine g_take (i := 0) (d := 20) (v := ?_) [0] rfl rfl (by kernel_rfl) (by kernel_rfl) (by kernel_rfl) (by kernel_rfl) (by kernel_rfl) (by kernel_rfl) (fun _ _ _ h => h) (by decide) (by kernel_rfl) (Or.inl ⟨by rfl, ?_⟩) (by assumption) ?_
          rotate_left
          · (intro w hSw; (try dsimp only at hSw); go_simp; (try with_reducible rfl))
          simp only [List.set_cons_zero, List.set_cons_succ]
          refine g_take (i := 1) (d := 21) (v := ?_) [1] rfl rfl (by kernel_rfl) (by kernel_rfl) (by kernel_rfl) (by kernel_rfl) (by kernel_rfl) (by kernel_rfl) (fun _ _ _ h => h) (by decide) (by kernel_rfl) (Or.inl ⟨by rfl, ?_⟩) (by assumption) ?_
          rotate_left
          · (intro w hSw; (try dsimp only at hSw); go_simp; (try with_reducible rfl))
          simp only [List.set_cons_zero, List.set_cons_succ]
          refine g_take (i := 2) (d := 22) (v := ?_) [2] rfl rfl (by kernel_rfl) (by kernel_rfl) (by kernel_rfl) (by kernel_rfl) (by kernel_rfl) (by kernel_rfl) (fun _ _ _ h => h) (by decide) (by kernel_rfl) (Or.inl ⟨by rfl, ?_⟩) (by assumption) ?_
          rotate_left
          · (intro w hSw; (try dsimp only at hSw); go_simp; (try with_reducible rfl))
          simp only [List.set_cons_zero, List.set_cons_succ]
          refine g_take (i := 3) (d := 23) (v := ?_) [3] rfl rfl (by kernel_rfl) (by kernel_rfl) (by kernel_rfl) (by kernel_rfl) (by kernel_rfl) (by kernel_rfl) (fun _ _ _ h => h) (by decide) (by kernel_rfl) (Or.inl ⟨by rfl, ?_⟩) (by assumption) ?_
          rotate_left
          · (intro w hSw; (try dsimp only at hSw); go_simp; (try with_reducible rfl))
          simp only [List.set_cons_zero, List.set_cons_succ]
          refine g_take (i := 4) (d := 24) (v := ?_) [4] rfl rfl (by kernel_rfl) (by kernel_rfl) (by kernel_rfl) (by kernel_rfl) (by kernel_rfl) (by kernel_rfl) (fun _ _ _ h => h) (by decide) (by kernel_rfl) (Or.inl ⟨by rfl, ?_⟩) (by assumption) ?_
          rotate_left
          · (intro w hSw; (try dsimp only at hSw); go_simp; (try with_reducible rfl))
          simp only [List.set_cons_zero, List.set_cons_succ]
          refine g_take (i := 5) (d := 25) (v := ?_) [5] rfl rfl (by kernel_rfl) (by kernel_rfl) (by kernel_rfl) (by kernel_rfl) (by kernel_rfl) (by kernel_rfl) (fun _ _ _ h => h) (by decide) (by kernel_rfl) (Or.inl ⟨by rfl, ?_⟩) (by assumption) ?_
          rotate_left
          · (intro w hSw; (try dsimp only at hSw); go_simp; (try with_reducible rfl))
          simp only [List.set_cons_zero, List.set_cons_succ]
          refine g_step (i := 6) (by kernel_rfl) rfl (fun K hK => ?_)
          go_simp
          (first | (go_at_call 93; refine (impl_isFaulty _ _ _ _ _ _ hgd).mono ?_; rintro e w3 ⟨rfl, hb3⟩; replace hown := (by first | exact OwnI.keep (w := w2) hown hb3 | exact hown.keep ((Bl.refl w2).drew.call hb3)); replace hBk := (by first | exact Blk.keep (w := w2) hBk hb3 | exact hBk.keep ((Bl.refl w2).drew.call hb3)); replace hW := (by first | exact hW.drew.call hb3 | exact hW.call hb3); obtain ⟨t0, t1, tf, tl⟩ := RdI.two hown; have b0 := hBk.cell 0 _ rfl; have b1 := hBk.cell 1 _ rfl; have b2 := hBk.cell 2 _ rfl; have b3 := hBk.cell 3 _ rfl; have b4 := hBk.cell 4 _ rfl) | (go_at_call 96; refine (impl_bit _ _).mono ?_; rintro e w' ⟨rfl, rfl⟩; rw [show (if faultB 0 m v b o = true then (1 : Int) else 0) = F from hF.out]))
          go_wp2_with fail
          refine hK.out _ _ ?_ (fun hHeld => ?_)
          · (try dsimp only); exact ⟨t0, t1, tf, b0, b1, b2, b3, b4⟩
          clear hK K
          try simp only [List.set_cons_zero, List.set_cons_succ]
          refine g_step (i := 7) (by kernel_rfl) rfl (fun K hK => ?_)
          go_simp
          (first | (go_at_call 93; refine (impl_isFaulty _ _ _ _ _ _ hgd).mono ?_; rintro e w3 ⟨rfl, hb3⟩; replace hown := (by first | exact OwnI.keep (w := w2) hown hb3 | exact hown.keep ((Bl.refl w2).drew.call hb3)); replace hBk := (by first | exact Blk.keep (w := w2) hBk hb3 | exact hBk.keep ((Bl.refl w2).drew.call hb3)); replace hW := (by first | exact hW.drew.call hb3 | exact hW.call hb3); obtain ⟨t0, t1, tf, tl⟩ := RdI.two hown; have b0 := hBk.cell 0 _ rfl; have b1 := hBk.cell 1 _ rfl; have b2 := hBk.cell 2 _ rfl; have b3 := hBk.cell 3 _ rfl; have b4 := hBk.cell 4 _ rfl) | (go_at_call 96; refine (impl_bit _ _).mono ?_; rintro e w' ⟨rfl, rfl⟩; rw [show (if faultB 0 m v b o = true then (1 : Int) else 0) = F from hF.out]))
          go_wp2_with fail
          refine hK.out _ _ ?_ (fun hHeld => ?_)
          · (try dsimp only); exact ⟨t0, t1, tf, b0, b1, b2, b3, b4⟩
          clear hK K
          try simp only [List.set_cons_zero, List.set_cons_succ]
          refine g_take (i := 8) (d := 28) (v := ?_) [8] rfl rfl (by kernel_rfl) (by kernel_rfl) (by kernel_rfl) (by kernel_rfl) (by kernel_rfl) (by kernel_rfl) (fun _ _ _ h => h) (by decide) (by kernel_rfl) (Or.inl ⟨by rfl, ?_⟩) (by assumption) ?_
          rotate_left
          · (intro w hSw; (try dsimp only at hSw); go_simp; (try with_reducible rfl))
          simp only [List.set_cons_zero, List.set_cons_succ]
          refine g_take (i := 9) (d := 29) (v := ?_) [9] rfl rfl (by kernel_rfl) (by kernel_rfl) (by kernel_rfl) (by kernel_rfl) (by kernel_rfl) (by kernel_rfl) (fun _ _ _ h => h) (by decide) (by kernel_rfl) (Or.inl ⟨by rfl, ?_⟩) (by assumption) ?_
          rotate_left
          · (intro w hSw; (try dsimp only at hSw); go_simp; (try with_reducible rfl))
          simp only [List.set_cons_zero, List.set_cons_succ]
          refine g_last (by kernel_rfl) rfl (by simp) (fun K hK => ?_)
          go_simp
          refine hK.out _ _ ?_
          clear hK K
          refine g_done (by kernel_rfl) ?_ _
          go_wp2
          go_roundw
          case rel => exact ⟨k + 1, by omega, by go_num, hgo, by rw [hst.out, hF.out]; exact hown.set_ 0 _ (by omega), hW.setCell (Nat.le_refl _) _⟩
          case measure => simp [intOf]; omega
        · obtain ⟨F, hFe⟩ : ∃ F, Sea.fault ⟨1, m, v, b, o⟩ = F := ⟨_, rfl⟩
          have hF := Lib.hid hFe
          rw [hFe] at hfb
          clear hFe
          have hst := Lib.hid (tallyS_1 HX.out HT.out rfl)
          have hs1 : IntKind.i64.wrap (d + F) = d + F := IntWalk.i64_in _ (by omega)
          go_wp2_with (first | (go_at_call 88; refine (impl_isSealed _ _ _ _ _ _).mono ?_; rintro e w2 ⟨rfl, hb2⟩; rw [hgd]; replace hown := (hown.alloc _).keep hb2; have hBk := (Blk.new wr 38 #[.int .i64 1, .int .i64 m, .int .i64 v, .int .i64 b, .bool o]).keep hb2; replace hW := (hW.alloc _).call hb2; obtain ⟨t0, t1, tf, tl⟩ := RdI.two hown; have b0 := hBk.cell 0 _ rfl; have b1 := hBk.cell 1 _ rfl; have b2 := hBk.cell 2 _ rfl; have b3 := hBk.cell 3 _ rfl; have b4 := hBk.cell 4 _ rfl))
          refine region_G (fun w' => w'.cell? ⟨w.heap.size, 0, none⟩ = some (.int .i64 a) ∧ w'.cell? ⟨w.heap.size, 1, none⟩ = some (.int .i64 d) ∧ (∀ i, w'.frozen? ⟨w.heap.size, i, none⟩ = false) ∧ w'.cell? ⟨wr.heap.size, 0, none⟩ = some (.int .i64 1) ∧ w'.cell? ⟨wr.heap.size, 1, none⟩ = some (.int .i64 m) ∧ w'.cell? ⟨wr.heap.size, 2, none⟩ = some (.int .i64 v) ∧ w'.cell? ⟨wr.heap.size, 3, none⟩ = some (.int .i64 b) ∧ w'.cell? ⟨wr.heap.size, 4, none⟩ = some (.bool o)) 10 (by kernel_rfl) ?_ (fun hHeld => ?_)
          · (try dsimp only); exact ⟨t0, t1, tf, b0, b1, b2, b3, b4⟩
          refine g_take (i := 0) (d := 20) (v := ?_) [0] rfl rfl (by kernel_rfl) (by kernel_rfl) (by kernel_rfl) (by kernel_rfl) (by kernel_rfl) (by kernel_rfl) (fun _ _ _ h => h) (by decide) (by kernel_rfl) (Or.inl ⟨by rfl, ?_⟩) (by assumption) ?_
          rotate_left
          · (intro w hSw; (try dsimp only at hSw); go_simp; (try with_reducible rfl))
          simp only [List.set_cons_zero, List.set_cons_succ]
          refine g_take (i := 1) (d := 21) (v := ?_) [1] rfl rfl (by kernel_rfl) (by kernel_rfl) (by kernel_rfl) (by kernel_rfl) (by kernel_rfl) (by kernel_rfl) (fun _ _ _ h => h) (by decide) (by kernel_rfl) (Or.inl ⟨by rfl, ?_⟩) (by assumption) ?_
          rotate_left
          · (intro w hSw; (try dsimp only at hSw); go_simp; (try with_reducible rfl))
          simp only [List.set_cons_zero, List.set_cons_succ]
          refine g_take (i := 2) (d := 22) (v := ?_) [2] rfl rfl (by kernel_rfl) (by kernel_rfl) (by kernel_rfl) (by kernel_rfl) (by kernel_rfl) (by kernel_rfl) (fun _ _ _ h => h) (by decide) (by kernel_rfl) (Or.inl ⟨by rfl, ?_⟩) (by assumption) ?_
          rotate_left
          · (intro w hSw; (try dsimp only at hSw); go_simp; (try with_reducible rfl))
          simp only [List.set_cons_zero, List.set_cons_succ]
          refine g_take (i := 3) (d := 23) (v := ?_) [3] rfl rfl (by kernel_rfl) (by kernel_rfl) (by kernel_rfl) (by kernel_rfl) (by kernel_rfl) (by kernel_rfl) (fun _ _ _ h => h) (by decide) (by kernel_rfl) (Or.inl ⟨by rfl, ?_⟩) (by assumption) ?_
          rotate_left
          · (intro w hSw; (try dsimp only at hSw); go_simp; (try with_reducible rfl))
          simp only [List.set_cons_zero, List.set_cons_succ]
          refine g_take (i := 4) (d := 24) (v := ?_) [4] rfl rfl (by kernel_rfl) (by kernel_rfl) (by kernel_rfl) (by kernel_rfl) (by kernel_rfl) (by kernel_rfl) (fun _ _ _ h => h) (by decide) (by kernel_rfl) (Or.inl ⟨by rfl, ?_⟩) (by assumption) ?_
          rotate_left
          · (intro w hSw; (try dsimp only at hSw); go_simp; (try with_reducible rfl))
          simp only [List.set_cons_zero, List.set_cons_succ]
          refine g_take (i := 5) (d := 25) (v := ?_) [5] rfl rfl (by kernel_rfl) (by kernel_rfl) (by kernel_rfl) (by kernel_rfl) (by kernel_rfl) (by kernel_rfl) (fun _ _ _ h => h) (by decide) (by kernel_rfl) (Or.inl ⟨by rfl, ?_⟩) (by assumption) ?_
          rotate_left
          · (intro w hSw; (try dsimp only at hSw); go_simp; (try with_reducible rfl))
          simp only [List.set_cons_zero, List.set_cons_succ]
          refine g_step (i := 6) (by kernel_rfl) rfl (fun K hK => ?_)
          go_simp
          (first | (go_at_call 93; refine (impl_isFaulty _ _ _ _ _ _ hgd).mono ?_; rintro e w3 ⟨rfl, hb3⟩; replace hown := (by first | exact OwnI.keep (w := w2) hown hb3 | exact hown.keep ((Bl.refl w2).drew.call hb3)); replace hBk := (by first | exact Blk.keep (w := w2) hBk hb3 | exact hBk.keep ((Bl.refl w2).drew.call hb3)); replace hW := (by first | exact hW.drew.call hb3 | exact hW.call hb3); obtain ⟨t0, t1, tf, tl⟩ := RdI.two hown; have b0 := hBk.cell 0 _ rfl; have b1 := hBk.cell 1 _ rfl; have b2 := hBk.cell 2 _ rfl; have b3 := hBk.cell 3 _ rfl; have b4 := hBk.cell 4 _ rfl) | (go_at_call 96; refine (impl_bit _ _).mono ?_; rintro e w' ⟨rfl, rfl⟩; rw [show (if faultB 1 m v b o = true then (1 : Int) else 0) = F from hF.out]))
          go_wp2_with fail
          refine hK.out _ _ ?_ (fun hHeld => ?_)
          · (try dsimp only); exact ⟨t0, t1, tf, b0, b1, b2, b3, b4⟩
          clear hK K
          try simp only [List.set_cons_zero, List.set_cons_succ]
          refine g_step (i := 7) (by kernel_rfl) rfl (fun K hK => ?_)
          go_simp
          (first | (go_at_call 93; refine (impl_isFaulty _ _ _ _ _ _ hgd).mono ?_; rintro e w3 ⟨rfl, hb3⟩; replace hown := (by first | exact OwnI.keep (w := w2) hown hb3 | exact hown.keep ((Bl.refl w2).drew.call hb3)); replace hBk := (by first | exact Blk.keep (w := w2) hBk hb3 | exact hBk.keep ((Bl.refl w2).drew.call hb3)); replace hW := (by first | exact hW.drew.call hb3 | exact hW.call hb3); obtain ⟨t0, t1, tf, tl⟩ := RdI.two hown; have b0 := hBk.cell 0 _ rfl; have b1 := hBk.cell 1 _ rfl; have b2 := hBk.cell 2 _ rfl; have b3 := hBk.cell 3 _ rfl; have b4 := hBk.cell 4 _ rfl) | (go_at_call 96; refine (impl_bit _ _).mono ?_; rintro e w' ⟨rfl, rfl⟩; rw [show (if faultB 1 m v b o = true then (1 : Int) else 0) = F from hF.out]))
          go_wp2_with fail
          refine hK.out _ _ ?_ (fun hHeld => ?_)
          · (try dsimp only); exact ⟨t0, t1, tf, b0, b1, b2, b3, b4⟩
          clear hK K
          try simp only [List.set_cons_zero, List.set_cons_succ]
          refine g_take (i := 8) (d := 28) (v := ?_) [8] rfl rfl (by kernel_rfl) (by kernel_rfl) (by kernel_rfl) (by kernel_rfl) (by kernel_rfl) (by kernel_rfl) (fun _ _ _ h => h) (by decide) (by kernel_rfl) (Or.inl ⟨by rfl, ?_⟩) (by assumption) ?_
          rotate_left
          · (intro w hSw; (try dsimp only at hSw); go_simp; (try with_reducible rfl))
          simp only [List.set_cons_zero, List.set_cons_succ]
          refine g_take (i := 9) (d := 29) (v := ?_) [9] rfl rfl (by kernel_rfl) (by kernel_rfl) (by kernel_rfl) (by kernel_rfl) (by kernel_rfl) (by kernel_rfl) (fun _ _ _ h => h) (by decide) (by kernel_rfl) (Or.inl ⟨by rfl, ?_⟩) (by assumption) ?_
          rotate_left
          · (intro w hSw; (try dsimp only at hSw); go_simp; (try with_reducible rfl))
          simp only [List.set_cons_zero, List.set_cons_succ]
          refine g_last (by kernel_rfl) rfl (by simp) (fun K hK => ?_)
          go_simp
          refine hK.out _ _ ?_
          clear hK K
          refine g_done (by kernel_rfl) ?_ _
          go_wp2
          go_roundw
          case rel => exact ⟨k + 1, by omega, by go_num, hgo, by rw [hst.out, hF.out]; exact hown.set_ 1 _ (by omega), hW.setCell (Nat.le_refl _) _⟩
          case measure => simp [intOf]; omega
    · have he : k = n := by omega
      subst he
      have hla : l.take k = l := List.take_of_length_le (by rw [hl.out]; omega)
      have hB := Lib.hid (show foB l = true by unfold foB; rw [← hla, hall.out, hla, hl.out]; simp; omega)
      have hR := Lib.hid (show foR l = tallyS (l.take k) by unfold foR; rw [hB.out, hla]; rfl)
      clear hla
      go_wp2
      go_ret2
      exact ⟨_, 2, 2, by rw [hB.out]; rfl, by rw [hR.out]; exact hown, hW⟩
end Go.Proofs.Ytglgaicbcackbaa
