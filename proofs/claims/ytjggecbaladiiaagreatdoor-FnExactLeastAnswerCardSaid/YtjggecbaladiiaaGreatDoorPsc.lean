/- Contracts of the program's widths of all lines, of the inputs' widths, and of the test of inputs.
   Conditions: valid programs. -/
import Derived.Test.YtjggecbaladiiaaGreatDoorPsb
namespace Go.Proofs.YtjggecbaladiiaaGreatDoor
open Go.RowKit
set_option linter.unusedVariables false
theorem OwnV.far_ {e size base n c : Nat} {w w' : World} {A : Option Addr} {xs : List Value} {row : Option Nat} (h : OwnV e size base w A n c xs) (hg : w.grownBy w' row) (hne : ∀ k, A.map (·.block) = some k → row ≠ some k) : OwnV e size base w' A n c xs := by
  refine h.grown hg ?_
  rcases hA : A.map (·.block) with _ | k
  · exact .inl hA
  · exact .inr fun e => hne k hA (by rw [← e, hA])
theorem OwnI.far_ {base n c : Nat} {w w' : World} {A : Option Addr} {l : List Int} {row : Option Nat} (h : OwnI base w A n c l) (hg : w.grownBy w' row) (hne : ∀ k, A.map (·.block) = some k → row ≠ some k) : OwnI base w' A n c l := OwnV.far_ h hg hne
theorem goodB_at {L : List Ln} (h : goodB L = true) : ∃ ws, wdsL L = some ws ∧ L.length ≤ 30 ∧ allR ws 1 10 = true ∧ (outL L ws).length ≤ 10 ∧ (allR (insL L 0) 0 1000 = true ∧ (insL L 0).sum ≤ 20) ∧ (allR (insL L 1) 0 1000 = true ∧ (insL L 1).sum ≤ 20) := by
  unfold goodB at h
  simp only [Bool.and_eq_true, decide_eq_true_eq] at h
  obtain ⟨⟨⟨h1, h2⟩, h3⟩, h4⟩ := h
  split at h2
  · cases h2
  · rename_i ws hws
    rw [Bool.and_eq_true, decide_eq_true_eq] at h2
    exact ⟨ws, hws, h1, h2.1, h2.2, h3, h4⟩
theorem wdO_nm {l : List Ln} {ws : List Int} {x : Ln} {v : Int} (h : wdO l ws x = some v) : (x.k = 6 → x.nm = ⟨#[]⟩) ∧ (¬ x.k = 6 → ¬ x.nm = ⟨#[]⟩) ∧ (x.k = 1 → x.pt = 0 ∨ x.pt = 1) := by
  obtain ⟨k, nm, op, ps, pt, wd, vl⟩ := x
  unfold wdO at h
  dsimp only at h ⊢
  split at h
  · split at h
    · rename_i h1; exact ⟨fun e => by omega, fun _ => nm_ne h1.2.2.2.1, fun _ => by have := inR_iff.1 h1.2.2.2.2.2.1; omega⟩
    · split at h
      · rename_i h1; exact ⟨fun e => by omega, fun _ => nm_ne h1.2.2.2.1, fun e => by omega⟩
      · cases h
  · split at h
    · rename_i h1; exact ⟨fun e => by omega, fun _ => nm_ne h1.2.1, fun e => by omega⟩
    · split at h
      · rename_i h1; exact ⟨fun _ => h1.2.1, fun e => by omega, fun e => by omega⟩
      · cases h
  · split at h
    · rename_i h1; exact ⟨fun e => by omega, fun _ => nm_ne h1.2.1, fun e => by omega⟩
    · cases h
  · split at h
    · rename_i h1; exact ⟨fun e => by omega, fun _ => nm_ne h1.2.1, fun e => by omega⟩
    · cases h
  · cases h
theorem wdO_len {l : List Ln} {ws : List Int} {x : Ln} {v : Int} (h : wdO l ws x = some v) : x.ps.length ≤ 3 := by
  obtain ⟨k, nm, op, ps, pt, wd, vl⟩ := x
  unfold wdO at h
  dsimp only at h ⊢
  split at h
  · simp
  · simp
  · simp
  · simp
  · cases h
theorem map_take_ {l : List (Hd × Ln)} {k : Nat} : (l.map (·.2)).take k = (l.take k).map (·.2) := List.map_take.symm
theorem ins_all {l : List (Hd × Ln)} {p : Int} {k : Nat} (h : allR (insL (l.map (·.2)) p) 0 1000 = true) : 0 ≤ (insL ((l.take k).map (·.2)) p).sum ∧ (insL ((l.take k).map (·.2)) p).sum ≤ 1000 * k := by
  induction k with
  | zero => simp [insL]
  | succ k ih =>
    rcases hx : l[k]? with _ | x
    · rw [List.take_add_one, hx]; simp only [Option.toList, List.append_nil]; omega
    · by_cases e : x.2.k = 1 ∧ x.2.pt = p
      · rw [ins_yes hx e, List.sum_append]
        have hm : x.2.wd ∈ insL (l.map (·.2)) p := by
          unfold insL
          rw [List.mem_filterMap]
          exact ⟨x.2, List.mem_map.2 ⟨x, List.mem_of_getElem? hx, rfl⟩, by rw [if_pos e]⟩
        have := inR_iff.1 (List.all_eq_true.1 h _ hm)
        simp only [List.sum_cons, List.sum_nil]
        omega
      · rw [ins_no hx e]; omega
/-- In the middle of widths: the row of widths, the sums of the inputs' widths. -/
structure Wq (w wr : World) (bB : Nat) (b0 b1 : Int) (A : Option Addr) (n c : Nat) (l : List Int) : Prop where
  own : OwnI w.heap.size wr A n c l
  bb : Blk wr bB 118 #[.int .i64 b0, .int .i64 b1]
  ne : ∀ q, A.map (·.block) = some q → q ≠ bB
  lo : w.heap.size ≤ bB
  bl : Bl w wr
section
variable {w wr wx w' : World} {bB : Nat} {b0 b1 : Int} {A : Option Addr} {n c : Nat} {l : List Int}
theorem Wq.grown {row : Option Nat} {bX : Nat} (h : Wq w wr bB b0 b1 A n c l) (hA : ∀ q, A.map (·.block) = some q → q < bX) (hB : bB < bX) (hg : wr.grownBy w' row) (hr : ∀ q, row = some q → bX ≤ q) (hlo : w.heap.size ≤ bX) : Wq w w' bB b0 b1 A n c l :=
  ⟨h.own.far_ hg (fun k hk e => by have := hA k hk; have := hr k e; omega), h.bb.grown hg (fun e => by have := hr _ e.symm; omega), h.ne, h.lo, Bl.grown h.bl hg (fun q hq => by have := hr q hq; omega)⟩
theorem Wq.next {A' : Option Addr} {c' : Nat} {l' : List Int} (h : Wq w wr bB b0 b1 A n c l) (ho : OwnI w.heap.size w' A' (n + 1) c' l') (hg : wr.grownBy w' (A.map (·.block))) (hat : A'.map (·.block) = A.map (·.block) ∨ A'.map (·.block) = some wr.heap.size) : Wq w w' bB b0 b1 A' (n + 1) c' l' := by
  refine ⟨ho, h.bb.grown hg (fun e => h.ne _ e.symm rfl), fun q hq => ?_, h.lo, Bl.grown h.bl hg (fun q hq => (h.own.blk q hq).1)⟩
  rcases hat with e | e
  · exact h.ne q (e.symm.trans hq)
  · have h2 := e.symm.trans hq
    injection h2 with h2
    have := h.bb.lt
    omega
theorem Wq.set0 (h : Wq w wr bB b0 b1 A n c l) (b : Int) : Wq w (wr.setCell ⟨bB, 0, none⟩ (.int .i64 b)) bB b b1 A n c l :=
  ⟨h.own.far_ (grownBy_setCell _ _ _ _) (fun k hk e => by injection e with e; exact h.ne k hk e.symm), h.bb.set_ 0 _, h.ne, h.lo, h.bl.setCell (p := ⟨bB, 0, none⟩) h.lo _⟩
theorem Wq.set1 (h : Wq w wr bB b0 b1 A n c l) (b : Int) : Wq w (wr.setCell ⟨bB, 1, none⟩ (.int .i64 b)) bB b0 b A n c l :=
  ⟨h.own.far_ (grownBy_setCell _ _ _ _) (fun k hk e => by injection e with e; exact h.ne k hk e.symm), h.bb.set_ 1 _, h.ne, h.lo, h.bl.setCell (p := ⟨bB, 1, none⟩) h.lo _⟩
theorem Wq.keep (h : Wq w wr bB b0 b1 A n c l) (hb : Bl wr wx) : Wq w wx bB b0 b1 A n c l := ⟨h.own.keep hb, h.bb.keep hb, h.ne, h.lo, h.bl.call hb⟩
end
set_option maxRecDepth 20000 in
set_option maxHeartbeats 4000000 in
theorem impl_widths (A : Option Addr) (n c : Nat) (l : List (Hd × Ln)) (ws : List Int) (w : World) (h : RdL w A n c l) (hg : goodB (l.map (·.2)) = true) (hws : wdsL (l.map (·.2)) = some ws) (hok : okI (l.map (·.2)) = true) (ht : Tm w) :
    Calls Tryz.prog 74 #[.slice A n c] w fun e w' => ∃ A' c', e = .returned (.tuple #[.slice A' n c', .bool true]) ∧ OwnI w.heap.size w' A' n c' ws ∧ Bl w w' := by
  obtain ⟨hle1, hle2⟩ := h.le
  have hlen := Lib.hid h.len
  obtain ⟨ws', hws', g1, g2, g3, ⟨g4, g5⟩, ⟨g6, g7⟩⟩ := goodB_at hg
  obtain rfl : ws = ws' := by rw [hws] at hws'; injection hws'
  clear hws'
  obtain ⟨i1, i2⟩ := wdsL_in hws
  rw [List.length_map, h.len] at i1 g1
  have HI := Lib.hid i2
  have HG := Lib.hid g2
  have HOK := Lib.hid (fun (i : Nat) x => okI_at hok (i := i) (x := x))
  have S0 := Lib.hid (fun k => ins_all (k := k) g4)
  have S1 := Lib.hid (fun k => ins_all (k := k) g6)
  have HO := Lib.hid g3
  clear g2 g3 g4 g6 i2 hg hws hok
  go_enter Tryz.func74, Tryz.ntmps74
  have hP : Wq w ((w.alloc (.cells #[] 3)).alloc (.cells #[.int .i64 0, .int .i64 0] 118)) (w.heap.size + 1) 0 0 (some ⟨w.heap.size, 0, none⟩) 0 0 [] :=
    ⟨OwnI.keep (own_made w) ((Bl.refl _).alloc _), Blk.new _ _ _, fun q hq => by injection hq with hq; dsimp only at hq; omega, by omega, ((Bl.refl w).alloc _).alloc _⟩
  go_wp2_with fail
  generalize (w.alloc (.cells #[] 3)).alloc (.cells #[.int .i64 0, .int .i64 0] 118) = u0 at hP ⊢
  generalize w.heap.size + 1 = bB at hP ⊢
  go_loopw [4, 6, 21] (fun o u i wr => ∃ (k c2 oc : Nat) (b0 b1 : Int) (A2 : Option Addr), k ≤ n ∧ i = .int .i64 (k : Nat) ∧ o = .slice A2 k c2 ∧ u = .int .i64 (oc : Nat) ∧ oc ≤ k ∧ Hid ((outL ((l.take k).map (·.2)) (ws.take k)).length = oc) ∧ Hid ((insL ((l.take k).map (·.2)) 0).sum = b0) ∧ Hid ((insL ((l.take k).map (·.2)) 1).sum = b1) ∧ Wq w wr bB b0 b1 A2 k c2 (ws.take k)) (fun _ _ i _ => n - (intOf i).toNat)
  case atStart => exact ⟨0, 0, 0, 0, 0, _, by omega, rfl, rfl, rfl, by omega, Lib.hid rfl, Lib.hid rfl, Lib.hid rfl, hP⟩
  case round =>
    clear hP
    obtain ⟨k, c2, oc, b0, b1, A2, hk, rfl, rfl, rfl, hoc, HOC, HB0, HB1, hP⟩ := hrel
    have s0 := S0.out k
    have s1 := S1.out k
    rw [HB0.out] at s0
    rw [HB1.out] at s1
    have hl := h.keep hP.bl
    by_cases hlt : k < n
    · obtain ⟨ad, p, rfl, hadb, hx, hps, c0, c1, c2_, c3_, c4, c5, c6⟩ := hl.at_ hlt
      obtain ⟨⟨C, m, cc⟩, x⟩ := p
      dsimp only at hps c0 c1 c2_ c3_ c4 c5 c6
      obtain ⟨v, hv, HV0⟩ := HI.out k x (by rw [List.getElem?_map, hx]; rfl)
      rw [map_take_] at HV0
      have HV := Lib.hid HV0
      have hvr := inR_iff.1 (List.all_eq_true.1 HG.out v (List.mem_of_getElem? hv))
      obtain ⟨k1w, hfn⟩ := wdO_in HV0
      obtain ⟨nm6, nm7, ptk⟩ := wdO_nm HV0
      obtain ⟨ho1, ho2⟩ := HOK.out k x (by rw [List.getElem?_map, hx]; rfl)
      rw [map_take_] at ho1 ho2
      have hm3 := wdO_len HV0
      rw [hps.length] at hm3
      have HF := Lib.hid hfn
      have HO1 := Lib.hid ho1
      have HST := Lib.hid (out_step hx hv)
      have HWS := Lib.hid (show ws.take k ++ [v] = ws.take (k + 1) by rw [List.take_add_one, hv]; rfl)
      have HX := Lib.hid hx
      clear HV0 hfn ho1 hx
      have HNM6 := Lib.hid nm6; have HNM7 := Lib.hid nm7; have HPT := Lib.hid ptk; have HK1 := Lib.hid k1w; have HO2 := Lib.hid ho2
      clear nm6 nm7 ptk k1w ho2 hv
      have j1 : (k : Int) < n := by omega
      have hkc : k ≤ c := by omega
      have hX := (Blk.new wr 92 #[.int .i64 x.k, .string x.nm, .string x.op, .slice C m cc, .int .i64 x.pt, .int .i64 x.wd, .int .i64 x.vl] (g := wr.heap.size)).alloc (.cells #[] 3)
      have hV := ((Bl.refl wr).alloc (.cells #[.int .i64 x.k, .string x.nm, .string x.op, .slice C m cc, .int .i64 x.pt, .int .i64 x.wd, .int .i64 x.vl] 92)).alloc (.cells #[] 3)
      have hQ0 := own_made (wr.alloc (.cells #[.int .i64 x.k, .string x.nm, .string x.op, .slice C m cc, .int .i64 x.pt, .int .i64 x.wd, .int .i64 x.vl] 92)) (g := wr.heap.size + 1) (by simp)
      have hsz0 : (wr.alloc (.cells #[.int .i64 x.k, .string x.nm, .string x.op, .slice C m cc, .int .i64 x.pt, .int .i64 x.wd, .int .i64 x.vl] 92)).heap.size = wr.heap.size + 1 := by simp
      rw [hsz0] at hQ0
      clear hsz0
      go_wp2_with fail
      generalize (wr.alloc (.cells #[.int .i64 x.k, .string x.nm, .string x.op, .slice C m cc, .int .i64 x.pt, .int .i64 x.wd, .int .i64 x.vl] 92)).alloc (.cells #[] 3) = u1 at hX hV hQ0 ⊢
      generalize hbX : wr.heap.size = bX at hX hQ0 ⊢
      have hPu := hP.keep hV
      have hpn := hps.length
      have hXl0 := hX.lt
      have hgX : w.heap.size ≤ bX := by rw [← hbX]; exact hP.bl.sz
      have hbBX : bB < bX := by rw [← hbX]; exact hP.bb.lt
      have hA2 : ∀ q, A2.map (·.block) = some q → q < bX := fun q hq => by rw [← hbX]; exact (hP.own.blk q hq).2
      have hU1 := hV.sz
      have hB1x : Bl wr u1 := hV
      go_loopw [9, 30] (fun o i wq => ∃ (j c3 : Nat) (A3 : Option Addr), j ≤ m ∧ i = .int .i64 (j : Nat) ∧ o = .slice A3 j c3 ∧ OwnI (bX + 1) wq A3 j c3 ((pws ((l.take k).map (·.2)) (ws.take k) x.ps).take j) ∧ Blk wq bX 92 #[.int .i64 x.k, .string x.nm, .string x.op, .slice C m cc, .int .i64 x.pt, .int .i64 x.wd, .int .i64 x.vl] ∧ Wq w wq bB b0 b1 A2 k c2 (ws.take k) ∧ Bl wr wq) (fun _ i _ => m - (intOf i).toNat)
      case atStart => exact ⟨0, 0, _, by omega, rfl, rfl, hQ0, hX, hPu, hV⟩
      case round =>
        clear hQ0 hX hPu
        obtain ⟨j, c3, A3, hj, rfl, rfl, hQ, hX, hPu, hB1⟩ := hrel
        by_cases hlt2 : j < m
        · obtain ⟨ap, s, rfl, hasb, hsx, hsc⟩ := (hps.keep hB1).at_ hlt2
          have hs2 := List.mem_of_getElem? hsx
          have hf0 := HF.out s hs2
          have hfe := HO1.out s hs2
          have hfl := fndL_lt ((l.take k).map (·.2)) s
          rw [List.length_map, List.length_take, hlen.out, Nat.min_eq_left hk] at hfl
          obtain ⟨q, hq⟩ : ∃ q : Nat, fndL ((l.take k).map (·.2)) s = (q : Int) := ⟨(fndL ((l.take k).map (·.2)) s).toNat, by omega⟩
          have hqk : q < k := by omega
          rw [hq] at hfe
          obtain ⟨bd, v9, rfl, hbdb, hx9, hc9⟩ := hPu.own.rd.at_ hqk
          have HPS := Lib.hid (pws_step hsx hq hx9)
          have HFE := Lib.hid hfe
          clear hsx hs2 hf0 hfe hfl hq hx9
          have hX_l := hX.lt
          have hX_3 := hX.cell 3 _ rfl
          have j2 : (j : Int) < m := by omega
          go_wp2_with fail
          refine (impl_lineOf s _ k c (l.take k) _ ((hl.keep hB1).take hk)).mono ?_
          rintro e v5 ⟨rfl, hb5⟩
          rw [HFE.out]
          have hPu5 := hPu.keep hb5
          have hQ5 := hQ.keep hb5
          have hX5 := hX.keep hb5
          have hbd5 := Nat.lt_of_lt_of_le hbdb hb5.sz
          have hc5 := Bl.cells hb5 hc9
          go_wp2_with (at_builtin; refine ap_int rfl rfl rfl (hQ5.alloc _) rfl (rd_new1 _ _ _) (by omega) (by have := hX5.lt; simp; omega) ?_; intro A4 c4 w8 hown4 hg4 hat4)
          go_roundw
          case rel =>
            have hne4 : ∀ q, A3.map (·.block) = some q → bX + 1 ≤ q := fun q hq => (hQ5.blk q hq).1
            exact ⟨j + 1, c4, A4, by omega, by go_num, rfl, by rw [← HPS.out]; exact hown4, (hX5.alloc _).grown hg4 (fun e => by have := hne4 _ e.symm; omega), (hPu5.keep ((Bl.refl _).alloc _)).grown hA2 hbBX hg4 (fun q hq => by have := hne4 q hq; omega) hgX, Bl.grown ((hB1.call hb5).alloc _) hg4 (fun q hq => by have := hne4 q hq; omega)⟩
          case measure => simp [intOf]; omega
        · obtain rfl : j = m := by omega
          rw [List.take_of_length_le (by unfold pws; rw [List.length_map, hpn]; exact Nat.le_refl _)] at hQ
          have hX_l := hX.lt
          have hX_0 := hX.cell 0 _ rfl
          have hX_1 := hX.cell 1 _ rfl
          have hX_2 := hX.cell 2 _ rfl
          have hX_3 := hX.cell 3 _ rfl
          have hX_4 := hX.cell 4 _ rfl
          have hX_5 := hX.cell 5 _ rfl
          have hX_6 := hX.cell 6 _ rfl
          have j2 : ¬ (j : Int) < j := by omega
          go_wp2_with fail
          refine (impl_lineWidth A3 c3 ((l.take k).map (·.2)) (ws.take k) ⟨C, j, cc⟩ x v _ hQ.rd hpn.symm (ht.keep (hP.bl.call hB1)) HV.out).mono ?_
          rintro e v6 ⟨rfl, hb6⟩
          have hX6 := hX.keep hb6
          have hPu6 := hPu.keep hb6
          have hB6 := hB1.call hb6
          clear hX_l hX_0 hX_1 hX_2 hX_3 hX_4 hX_5 hX_6
          have hv0 : (v == 0) = false := by rw [beq_eq_false_iff_ne]; omega
          go_wp2_with fail
          by_cases h6 : x.k = 6
          · have q1 : v6.cell? ⟨bX, 1, none⟩ = some (.string ⟨#[]⟩) := by rw [← HNM6.out h6]; exact hX6.cell 1 _ rfl
            refine wp_region_held_drew (S := (fun w' => w'.cell? ⟨bX, 1, none⟩ = some (.string ⟨#[]⟩))) (by kernel_rfl) ?_ (fun hHeld => ?_)
            · (try dsimp only); exact q1
            have hPu6 := hPu6.keep ((Bl.refl _).drew)
            have hX6 := hX6.drew
            have hB6 := hB6.drew
            replace q1 := Bl.cells ((Bl.refl _).drew) q1
            generalize v6.drew = vd at hPu6 hX6 hB6 q1 hHeld ⊢
            refine held_take (i := 0) (d := 52) (v := ?_) rfl rfl (by kernel_rfl) (by kernel_rfl) (by kernel_rfl) (fun _ _ _ h => h) (Or.inl ⟨by rfl, ?_⟩) (by assumption) ?_
            rotate_left
            · (intro w hSw; (try dsimp only at hSw); go_simp; (try with_reducible rfl))
            (try simp only [List.set_cons_zero, List.set_cons_succ])
            refine held_take (i := 1) (d := 53) (v := ?_) rfl rfl (by kernel_rfl) (by kernel_rfl) (by kernel_rfl) (fun _ _ _ h => h) (Or.inl ⟨by rfl, ?_⟩) (by assumption) ?_
            rotate_left
            · (intro w hSw; (try dsimp only at hSw); go_simp; (try with_reducible rfl))
            (try simp only [List.set_cons_zero, List.set_cons_succ])
            refine held_take (i := 2) (d := 54) (v := ?_) rfl rfl (by kernel_rfl) (by kernel_rfl) (by kernel_rfl) (fun _ _ _ h => h) (Or.inl ⟨by rfl, ?_⟩) (by assumption) ?_
            rotate_left
            · (intro w hSw; (try dsimp only at hSw); go_simp; (try with_reducible rfl))
            (try simp only [List.set_cons_zero, List.set_cons_succ])
            refine held_take (i := 3) (d := 55) (v := ?_) rfl rfl (by kernel_rfl) (by kernel_rfl) (by kernel_rfl) (fun _ _ _ h => h) (Or.inl ⟨by rfl, ?_⟩) (by assumption) ?_
            rotate_left
            · (intro w hSw; (try dsimp only at hSw); go_simp; (try with_reducible rfl))
            (try simp only [List.set_cons_zero, List.set_cons_succ])
            refine held_take (i := 4) (d := 56) (v := ?_) rfl rfl (by kernel_rfl) (by kernel_rfl) (by kernel_rfl) (fun _ _ _ h => h) (Or.inl ⟨by rfl, ?_⟩) (by assumption) ?_
            rotate_left
            · (intro w hSw; (try dsimp only at hSw); go_simp; (try with_reducible rfl))
            (try simp only [List.set_cons_zero, List.set_cons_succ])
            refine held_take (i := 5) (d := 57) (v := ?_) rfl rfl (by kernel_rfl) (by kernel_rfl) (by kernel_rfl) (fun _ _ _ h => h) (Or.inl ⟨by rfl, ?_⟩) (by assumption) ?_
            rotate_left
            · (intro w hSw; (try dsimp only at hSw); go_simp; (try with_reducible rfl))
            (try simp only [List.set_cons_zero, List.set_cons_succ])
            refine held_take (i := 6) (d := 58) (v := ?_) rfl rfl (by kernel_rfl) (by kernel_rfl) (by kernel_rfl) (fun _ _ _ h => h) (Or.inl ⟨by rfl, ?_⟩) (by assumption) ?_
            rotate_left
            · (intro w hSw; (try dsimp only at hSw); go_simp; (try with_reducible rfl))
            (try simp only [List.set_cons_zero, List.set_cons_succ])
            refine held_take (i := 7) (d := 59) (v := undef) rfl rfl (by kernel_rfl) (by kernel_rfl) (by kernel_rfl) (fun _ _ _ h => h) (Or.inr ⟨by rfl, rfl⟩) (by assumption) ?_
            (try simp only [List.set_cons_zero, List.set_cons_succ])
            refine held_take (i := 8) (d := 60) (v := undef) rfl rfl (by kernel_rfl) (by kernel_rfl) (by kernel_rfl) (fun _ _ _ h => h) (Or.inr ⟨by rfl, rfl⟩) (by assumption) ?_
            (try simp only [List.set_cons_zero, List.set_cons_succ])
            refine held_take (i := 9) (d := 61) (v := undef) rfl rfl (by kernel_rfl) (by kernel_rfl) (by kernel_rfl) (fun _ _ _ h => h) (Or.inr ⟨by rfl, rfl⟩) (by assumption) ?_
            (try simp only [List.set_cons_zero, List.set_cons_succ])
            refine held_take (i := 10) (d := 62) (v := undef) rfl rfl (by kernel_rfl) (by kernel_rfl) (by kernel_rfl) (fun _ _ _ h => h) (Or.inr ⟨by rfl, rfl⟩) (by assumption) ?_
            (try simp only [List.set_cons_zero, List.set_cons_succ])
            refine held_take (i := 11) (d := 63) (v := undef) rfl rfl (by kernel_rfl) (by kernel_rfl) (by kernel_rfl) (fun _ _ _ h => h) (Or.inr ⟨by rfl, rfl⟩) (by assumption) ?_
            (try simp only [List.set_cons_zero, List.set_cons_succ])
            refine held_take (i := 12) (d := 64) (v := undef) rfl rfl (by kernel_rfl) (by kernel_rfl) (by kernel_rfl) (fun _ _ _ h => h) (Or.inr ⟨by rfl, rfl⟩) (by assumption) ?_
            (try simp only [List.set_cons_zero, List.set_cons_succ])
            refine held_take (i := 13) (d := 65) (v := undef) rfl rfl (by kernel_rfl) (by kernel_rfl) (by kernel_rfl) (fun _ _ _ h => h) (Or.inr ⟨by rfl, rfl⟩) (by assumption) ?_
            (try simp only [List.set_cons_zero, List.set_cons_succ])
            refine held_take (i := 14) (d := 66) (v := ?_) rfl rfl (by kernel_rfl) (by kernel_rfl) (by kernel_rfl) (fun _ _ _ h => h) (Or.inl ⟨by rfl, ?_⟩) (by assumption) ?_
            rotate_left
            · (intro w hSw; (try dsimp only at hSw); go_simp; (try with_reducible rfl))
            (try simp only [List.set_cons_zero, List.set_cons_succ])
            refine held_take (i := 15) (d := 67) (v := ?_) rfl rfl (by kernel_rfl) (by kernel_rfl) (by kernel_rfl) (fun _ _ _ h => h) (Or.inl ⟨by rfl, ?_⟩) (by assumption) ?_
            rotate_left
            · (intro w hSw; (try dsimp only at hSw); go_simp; (try with_reducible rfl))
            (try simp only [List.set_cons_zero, List.set_cons_succ])
            refine wpAnyH_done (by kernel_rfl) ?_ _
            have hPv := hPu6.keep (Bl.refl _)
            have hXv := hX6.keep (Bl.refl _)
            have hX_l := hXv.lt
            have hX_0 := hXv.cell 0 _ rfl
            rw [h6] at hX_0
            go_wp2_with (at_builtin; refine ap_int rfl rfl rfl (((hPv).keep ((Bl.refl _).alloc (.cells #[.int .i64 v] 3))).own) rfl (rd_new1 _ _ _) (by omega) (by have := hPv.bl.sz; simp; omega) ?_; intro A5 c5 w9 hown5 hg5 hat5)
            go_roundw
            case rel => exact ⟨k + 1, c5, oc + 1, b0, b1, A5, by omega, by go_num, rfl, by go_num, by omega, Lib.hid (by rw [HST.out, List.length_append, HOC.out, if_pos h6]; rfl), Lib.hid (by rw [ins_no HX.out (fun e => by have := e.1; dsimp only at this; omega)]; exact HB0.out), Lib.hid (by rw [ins_no HX.out (fun e => by have := e.1; dsimp only at this; omega)]; exact HB1.out), by rw [← HWS.out]; exact ((hPv).keep ((Bl.refl _).alloc (.cells #[.int .i64 v] 3))).next hown5 hg5 hat5⟩
            case measure => simp [intOf]; omega
          · by_cases h1 : x.k = 1
            · rcases HPT.out h1 with hpt | hpt
              · have q1 : v6.cell? ⟨bX, 1, none⟩ = some (.string x.nm) := by exact hX6.cell 1 _ rfl
                have hn1 : (x.nm.toList == []) = false := by rw [sb_nil]; exact decide_eq_false (HNM7.out h6)
                have hn2 : (x.nm.toList == (⟨#[]⟩ : ByteArray).toList) = false := by rw [← nil_list]; exact hn1
                obtain ⟨z, hz⟩ : ∃ z, lnF ((l.take k).map (·.2)) x.nm = z := ⟨_, rfl⟩
                have hzn : z < 0 := by have := (HO2.out).resolve_left (HNM7.out h6); rw [hz] at this; exact this
                have hzm : ¬ (0 : Int) ≤ z := by omega
                have HLN := Lib.hid hz
                clear hz
                refine wp_region_held_drew (S := (fun w' => w'.cell? ⟨bX, 1, none⟩ = some (.string x.nm))) (by kernel_rfl) ?_ (fun hHeld => ?_)
                · (try dsimp only); exact q1
                have hPu6 := hPu6.keep ((Bl.refl _).drew)
                have hX6 := hX6.drew
                have hB6 := hB6.drew
                replace q1 := Bl.cells ((Bl.refl _).drew) q1
                generalize v6.drew = vd at hPu6 hX6 hB6 q1 hHeld ⊢
                refine held_take (i := 0) (d := 52) (v := ?_) rfl rfl (by kernel_rfl) (by kernel_rfl) (by kernel_rfl) (fun _ _ _ h => h) (Or.inl ⟨by rfl, ?_⟩) (by assumption) ?_
                rotate_left
                · (intro w hSw; (try dsimp only at hSw); go_simp; (try with_reducible rfl))
                (try simp only [List.set_cons_zero, List.set_cons_succ])
                refine held_take (i := 1) (d := 53) (v := ?_) rfl rfl (by kernel_rfl) (by kernel_rfl) (by kernel_rfl) (fun _ _ _ h => h) (Or.inl ⟨by rfl, ?_⟩) (by assumption) ?_
                rotate_left
                · (intro w hSw; (try dsimp only at hSw); go_simp; (try with_reducible rfl))
                (try simp only [List.set_cons_zero, List.set_cons_succ])
                refine held_take (i := 2) (d := 54) (v := ?_) rfl rfl (by kernel_rfl) (by kernel_rfl) (by kernel_rfl) (fun _ _ _ h => h) (Or.inl ⟨by rfl, ?_⟩) (by assumption) ?_
                rotate_left
                · (intro w hSw; (try dsimp only at hSw); go_simp; (try with_reducible rfl))
                (try simp only [List.set_cons_zero, List.set_cons_succ])
                refine held_take (i := 3) (d := 55) (v := ?_) rfl rfl (by kernel_rfl) (by kernel_rfl) (by kernel_rfl) (fun _ _ _ h => h) (Or.inl ⟨by rfl, ?_⟩) (by assumption) ?_
                rotate_left
                · (intro w hSw; (try dsimp only at hSw); go_simp; (try with_reducible rfl))
                (try simp only [List.set_cons_zero, List.set_cons_succ])
                refine held_take (i := 4) (d := 56) (v := ?_) rfl rfl (by kernel_rfl) (by kernel_rfl) (by kernel_rfl) (fun _ _ _ h => h) (Or.inl ⟨by rfl, ?_⟩) (by assumption) ?_
                rotate_left
                · (intro w hSw; (try dsimp only at hSw); go_simp; (try with_reducible rfl))
                (try simp only [List.set_cons_zero, List.set_cons_succ])
                refine held_take (i := 5) (d := 57) (v := ?_) rfl rfl (by kernel_rfl) (by kernel_rfl) (by kernel_rfl) (fun _ _ _ h => h) (Or.inl ⟨by rfl, ?_⟩) (by assumption) ?_
                rotate_left
                · (intro w hSw; (try dsimp only at hSw); go_simp; (try with_reducible rfl))
                (try simp only [List.set_cons_zero, List.set_cons_succ])
                refine held_take (i := 6) (d := 58) (v := ?_) rfl rfl (by kernel_rfl) (by kernel_rfl) (by kernel_rfl) (fun _ _ _ h => h) (Or.inl ⟨by rfl, ?_⟩) (by assumption) ?_
                rotate_left
                · (intro w hSw; (try dsimp only at hSw); go_simp; (try with_reducible rfl))
                (try simp only [List.set_cons_zero, List.set_cons_succ])
                refine held_take (i := 7) (d := 59) (v := ?_) rfl rfl (by kernel_rfl) (by kernel_rfl) (by kernel_rfl) (fun _ _ _ h => h) (Or.inl ⟨by rfl, ?_⟩) (by assumption) ?_
                rotate_left
                · (intro w hSw; (try dsimp only at hSw); go_simp; (try with_reducible rfl))
                (try simp only [List.set_cons_zero, List.set_cons_succ])
                refine held_take (i := 8) (d := 60) (v := ?_) rfl rfl (by kernel_rfl) (by kernel_rfl) (by kernel_rfl) (fun _ _ _ h => h) (Or.inl ⟨by rfl, ?_⟩) (by assumption) ?_
                rotate_left
                · (intro w hSw; (try dsimp only at hSw); go_simp; (try with_reducible rfl))
                (try simp only [List.set_cons_zero, List.set_cons_succ])
                refine held_take (i := 9) (d := 61) (v := ?_) rfl rfl (by kernel_rfl) (by kernel_rfl) (by kernel_rfl) (fun _ _ _ h => h) (Or.inl ⟨by rfl, ?_⟩) (by assumption) ?_
                rotate_left
                · (intro w hSw; (try dsimp only at hSw); go_simp; (try with_reducible rfl))
                (try simp only [List.set_cons_zero, List.set_cons_succ])
                refine held_take (i := 10) (d := 62) (v := ?_) rfl rfl (by kernel_rfl) (by kernel_rfl) (by kernel_rfl) (fun _ _ _ h => h) (Or.inl ⟨by rfl, ?_⟩) (by assumption) ?_
                rotate_left
                · (intro w hSw; (try dsimp only at hSw); go_simp; (try with_reducible rfl))
                (try simp only [List.set_cons_zero, List.set_cons_succ])
                refine held_take (i := 11) (d := 63) (v := ?_) rfl rfl (by kernel_rfl) (by kernel_rfl) (by kernel_rfl) (fun _ _ _ h => h) (Or.inl ⟨by rfl, ?_⟩) (by assumption) ?_
                rotate_left
                · (intro w hSw; (try dsimp only at hSw); go_simp; (try with_reducible rfl))
                (try simp only [List.set_cons_zero, List.set_cons_succ])
                refine wpAnyH_ready (rs := [12]) (by kernel_rfl) (by simp) ?_
                refine AllReadyH.cons rfl (fun K hK => ?_) AllReadyH.nil
                go_simp
                refine (impl_lineOf x.nm (some ad) k c (l.take k) _ ((hl.keep hB6).take hk)).mono ?_; rintro e v7 ⟨rfl, hb7⟩; rw [HLN.out]
                go_wp2_with fail
                refine hK.out _ _ ?_ (fun hHeld => ?_)
                · (try dsimp only); exact Bl.cells hb7 q1
                clear hK K
                (try simp only [Act.put]); (try simp only [List.setIfInBounds_toArray]); (try simp only [List.set_cons_succ]); (try simp only [List.set_cons_zero])
                refine held_take (i := 13) (d := 65) (v := ?_) rfl rfl (by kernel_rfl) (by kernel_rfl) (by kernel_rfl) (fun _ _ _ h => h) (Or.inl ⟨by rfl, ?_⟩) (by assumption) ?_
                rotate_left
                · (intro w hSw; (try dsimp only at hSw); go_simp; (try with_reducible rfl))
                (try simp only [List.set_cons_zero, List.set_cons_succ])
                refine held_take (i := 14) (d := 66) (v := ?_) rfl rfl (by kernel_rfl) (by kernel_rfl) (by kernel_rfl) (fun _ _ _ h => h) (Or.inl ⟨by rfl, ?_⟩) (by assumption) ?_
                rotate_left
                · (intro w hSw; (try dsimp only at hSw); go_simp; (try with_reducible rfl))
                (try simp only [List.set_cons_zero, List.set_cons_succ])
                refine held_take (i := 15) (d := 67) (v := ?_) rfl rfl (by kernel_rfl) (by kernel_rfl) (by kernel_rfl) (fun _ _ _ h => h) (Or.inl ⟨by rfl, ?_⟩) (by assumption) ?_
                rotate_left
                · (intro w hSw; (try dsimp only at hSw); go_simp; (try with_reducible rfl))
                (try simp only [List.set_cons_zero, List.set_cons_succ])
                refine wpAnyH_done (by kernel_rfl) ?_ _
                have hPv := hPu6.keep hb7
                have hXv := hX6.keep hb7
                have hX_l := hXv.lt
                have hX_0 := hXv.cell 0 _ rfl
                rw [h1] at hX_0
                have hX_4 := hXv.cell 4 _ rfl
                rw [hpt] at hX_4
                have hb_l := hPv.bb.lt
                have hb_f := hPv.bb.frozen
                have hb_0 := hPv.bb.cell 0 _ rfl
                have hb_1 := hPv.bb.cell 1 _ rfl
                go_wp2_with (at_builtin; refine ap_int rfl rfl rfl (((hPv.set0 (b0 + v)).keep ((Bl.refl _).alloc (.cells #[.int .i64 v] 3))).own) rfl (rd_new1 _ _ _) (by omega) (by have := hPv.bl.sz; simp; omega) ?_; intro A5 c5 w9 hown5 hg5 hat5)
                go_roundw
                case rel => exact ⟨k + 1, c5, oc, b0 + v, b1, A5, by omega, by go_num, rfl, by go_num, by omega, Lib.hid (by rw [HST.out, List.length_append, HOC.out, if_neg h6]; rfl), Lib.hid (by rw [ins_yes HX.out ⟨h1, hpt⟩, List.sum_append, HB0.out, (HK1.out h1).1]; simp), Lib.hid (by rw [ins_no HX.out (fun e => by have := e.2; dsimp only at this; omega)]; exact HB1.out), by rw [← HWS.out]; exact ((hPv.set0 (b0 + v)).keep ((Bl.refl _).alloc (.cells #[.int .i64 v] 3))).next hown5 hg5 hat5⟩
                case measure => simp [intOf]; omega
              · have q1 : v6.cell? ⟨bX, 1, none⟩ = some (.string x.nm) := by exact hX6.cell 1 _ rfl
                have hn1 : (x.nm.toList == []) = false := by rw [sb_nil]; exact decide_eq_false (HNM7.out h6)
                have hn2 : (x.nm.toList == (⟨#[]⟩ : ByteArray).toList) = false := by rw [← nil_list]; exact hn1
                obtain ⟨z, hz⟩ : ∃ z, lnF ((l.take k).map (·.2)) x.nm = z := ⟨_, rfl⟩
                have hzn : z < 0 := by have := (HO2.out).resolve_left (HNM7.out h6); rw [hz] at this; exact this
                have hzm : ¬ (0 : Int) ≤ z := by omega
                have HLN := Lib.hid hz
                clear hz
                refine wp_region_held_drew (S := (fun w' => w'.cell? ⟨bX, 1, none⟩ = some (.string x.nm))) (by kernel_rfl) ?_ (fun hHeld => ?_)
                · (try dsimp only); exact q1
                have hPu6 := hPu6.keep ((Bl.refl _).drew)
                have hX6 := hX6.drew
                have hB6 := hB6.drew
                replace q1 := Bl.cells ((Bl.refl _).drew) q1
                generalize v6.drew = vd at hPu6 hX6 hB6 q1 hHeld ⊢
                refine held_take (i := 0) (d := 52) (v := ?_) rfl rfl (by kernel_rfl) (by kernel_rfl) (by kernel_rfl) (fun _ _ _ h => h) (Or.inl ⟨by rfl, ?_⟩) (by assumption) ?_
                rotate_left
                · (intro w hSw; (try dsimp only at hSw); go_simp; (try with_reducible rfl))
                (try simp only [List.set_cons_zero, List.set_cons_succ])
                refine held_take (i := 1) (d := 53) (v := ?_) rfl rfl (by kernel_rfl) (by kernel_rfl) (by kernel_rfl) (fun _ _ _ h => h) (Or.inl ⟨by rfl, ?_⟩) (by assumption) ?_
                rotate_left
                · (intro w hSw; (try dsimp only at hSw); go_simp; (try with_reducible rfl))
                (try simp only [List.set_cons_zero, List.set_cons_succ])
                refine held_take (i := 2) (d := 54) (v := ?_) rfl rfl (by kernel_rfl) (by kernel_rfl) (by kernel_rfl) (fun _ _ _ h => h) (Or.inl ⟨by rfl, ?_⟩) (by assumption) ?_
                rotate_left
                · (intro w hSw; (try dsimp only at hSw); go_simp; (try with_reducible rfl))
                (try simp only [List.set_cons_zero, List.set_cons_succ])
                refine held_take (i := 3) (d := 55) (v := ?_) rfl rfl (by kernel_rfl) (by kernel_rfl) (by kernel_rfl) (fun _ _ _ h => h) (Or.inl ⟨by rfl, ?_⟩) (by assumption) ?_
                rotate_left
                · (intro w hSw; (try dsimp only at hSw); go_simp; (try with_reducible rfl))
                (try simp only [List.set_cons_zero, List.set_cons_succ])
                refine held_take (i := 4) (d := 56) (v := ?_) rfl rfl (by kernel_rfl) (by kernel_rfl) (by kernel_rfl) (fun _ _ _ h => h) (Or.inl ⟨by rfl, ?_⟩) (by assumption) ?_
                rotate_left
                · (intro w hSw; (try dsimp only at hSw); go_simp; (try with_reducible rfl))
                (try simp only [List.set_cons_zero, List.set_cons_succ])
                refine held_take (i := 5) (d := 57) (v := ?_) rfl rfl (by kernel_rfl) (by kernel_rfl) (by kernel_rfl) (fun _ _ _ h => h) (Or.inl ⟨by rfl, ?_⟩) (by assumption) ?_
                rotate_left
                · (intro w hSw; (try dsimp only at hSw); go_simp; (try with_reducible rfl))
                (try simp only [List.set_cons_zero, List.set_cons_succ])
                refine held_take (i := 6) (d := 58) (v := ?_) rfl rfl (by kernel_rfl) (by kernel_rfl) (by kernel_rfl) (fun _ _ _ h => h) (Or.inl ⟨by rfl, ?_⟩) (by assumption) ?_
                rotate_left
                · (intro w hSw; (try dsimp only at hSw); go_simp; (try with_reducible rfl))
                (try simp only [List.set_cons_zero, List.set_cons_succ])
                refine held_take (i := 7) (d := 59) (v := ?_) rfl rfl (by kernel_rfl) (by kernel_rfl) (by kernel_rfl) (fun _ _ _ h => h) (Or.inl ⟨by rfl, ?_⟩) (by assumption) ?_
                rotate_left
                · (intro w hSw; (try dsimp only at hSw); go_simp; (try with_reducible rfl))
                (try simp only [List.set_cons_zero, List.set_cons_succ])
                refine held_take (i := 8) (d := 60) (v := ?_) rfl rfl (by kernel_rfl) (by kernel_rfl) (by kernel_rfl) (fun _ _ _ h => h) (Or.inl ⟨by rfl, ?_⟩) (by assumption) ?_
                rotate_left
                · (intro w hSw; (try dsimp only at hSw); go_simp; (try with_reducible rfl))
                (try simp only [List.set_cons_zero, List.set_cons_succ])
                refine held_take (i := 9) (d := 61) (v := ?_) rfl rfl (by kernel_rfl) (by kernel_rfl) (by kernel_rfl) (fun _ _ _ h => h) (Or.inl ⟨by rfl, ?_⟩) (by assumption) ?_
                rotate_left
                · (intro w hSw; (try dsimp only at hSw); go_simp; (try with_reducible rfl))
                (try simp only [List.set_cons_zero, List.set_cons_succ])
                refine held_take (i := 10) (d := 62) (v := ?_) rfl rfl (by kernel_rfl) (by kernel_rfl) (by kernel_rfl) (fun _ _ _ h => h) (Or.inl ⟨by rfl, ?_⟩) (by assumption) ?_
                rotate_left
                · (intro w hSw; (try dsimp only at hSw); go_simp; (try with_reducible rfl))
                (try simp only [List.set_cons_zero, List.set_cons_succ])
                refine held_take (i := 11) (d := 63) (v := ?_) rfl rfl (by kernel_rfl) (by kernel_rfl) (by kernel_rfl) (fun _ _ _ h => h) (Or.inl ⟨by rfl, ?_⟩) (by assumption) ?_
                rotate_left
                · (intro w hSw; (try dsimp only at hSw); go_simp; (try with_reducible rfl))
                (try simp only [List.set_cons_zero, List.set_cons_succ])
                refine wpAnyH_ready (rs := [12]) (by kernel_rfl) (by simp) ?_
                refine AllReadyH.cons rfl (fun K hK => ?_) AllReadyH.nil
                go_simp
                refine (impl_lineOf x.nm (some ad) k c (l.take k) _ ((hl.keep hB6).take hk)).mono ?_; rintro e v7 ⟨rfl, hb7⟩; rw [HLN.out]
                go_wp2_with fail
                refine hK.out _ _ ?_ (fun hHeld => ?_)
                · (try dsimp only); exact Bl.cells hb7 q1
                clear hK K
                (try simp only [Act.put]); (try simp only [List.setIfInBounds_toArray]); (try simp only [List.set_cons_succ]); (try simp only [List.set_cons_zero])
                refine held_take (i := 13) (d := 65) (v := ?_) rfl rfl (by kernel_rfl) (by kernel_rfl) (by kernel_rfl) (fun _ _ _ h => h) (Or.inl ⟨by rfl, ?_⟩) (by assumption) ?_
                rotate_left
                · (intro w hSw; (try dsimp only at hSw); go_simp; (try with_reducible rfl))
                (try simp only [List.set_cons_zero, List.set_cons_succ])
                refine held_take (i := 14) (d := 66) (v := ?_) rfl rfl (by kernel_rfl) (by kernel_rfl) (by kernel_rfl) (fun _ _ _ h => h) (Or.inl ⟨by rfl, ?_⟩) (by assumption) ?_
                rotate_left
                · (intro w hSw; (try dsimp only at hSw); go_simp; (try with_reducible rfl))
                (try simp only [List.set_cons_zero, List.set_cons_succ])
                refine held_take (i := 15) (d := 67) (v := ?_) rfl rfl (by kernel_rfl) (by kernel_rfl) (by kernel_rfl) (fun _ _ _ h => h) (Or.inl ⟨by rfl, ?_⟩) (by assumption) ?_
                rotate_left
                · (intro w hSw; (try dsimp only at hSw); go_simp; (try with_reducible rfl))
                (try simp only [List.set_cons_zero, List.set_cons_succ])
                refine wpAnyH_done (by kernel_rfl) ?_ _
                have hPv := hPu6.keep hb7
                have hXv := hX6.keep hb7
                have hX_l := hXv.lt
                have hX_0 := hXv.cell 0 _ rfl
                rw [h1] at hX_0
                have hX_4 := hXv.cell 4 _ rfl
                rw [hpt] at hX_4
                have hb_l := hPv.bb.lt
                have hb_f := hPv.bb.frozen
                have hb_0 := hPv.bb.cell 0 _ rfl
                have hb_1 := hPv.bb.cell 1 _ rfl
                go_wp2_with (at_builtin; refine ap_int rfl rfl rfl (((hPv.set1 (b1 + v)).keep ((Bl.refl _).alloc (.cells #[.int .i64 v] 3))).own) rfl (rd_new1 _ _ _) (by omega) (by have := hPv.bl.sz; simp; omega) ?_; intro A5 c5 w9 hown5 hg5 hat5)
                go_roundw
                case rel => exact ⟨k + 1, c5, oc, b0, b1 + v, A5, by omega, by go_num, rfl, by go_num, by omega, Lib.hid (by rw [HST.out, List.length_append, HOC.out, if_neg h6]; rfl), Lib.hid (by rw [ins_no HX.out (fun e => by have := e.2; dsimp only at this; omega)]; exact HB0.out), Lib.hid (by rw [ins_yes HX.out ⟨h1, hpt⟩, List.sum_append, HB1.out, (HK1.out h1).1]; simp), by rw [← HWS.out]; exact ((hPv.set1 (b1 + v)).keep ((Bl.refl _).alloc (.cells #[.int .i64 v] 3))).next hown5 hg5 hat5⟩
                case measure => simp [intOf]; omega
            · have q1 : v6.cell? ⟨bX, 1, none⟩ = some (.string x.nm) := by exact hX6.cell 1 _ rfl
              have hn1 : (x.nm.toList == []) = false := by rw [sb_nil]; exact decide_eq_false (HNM7.out h6)
              have hn2 : (x.nm.toList == (⟨#[]⟩ : ByteArray).toList) = false := by rw [← nil_list]; exact hn1
              obtain ⟨z, hz⟩ : ∃ z, lnF ((l.take k).map (·.2)) x.nm = z := ⟨_, rfl⟩
              have hzn : z < 0 := by have := (HO2.out).resolve_left (HNM7.out h6); rw [hz] at this; exact this
              have hzm : ¬ (0 : Int) ≤ z := by omega
              have HLN := Lib.hid hz
              clear hz
              refine wp_region_held_drew (S := (fun w' => w'.cell? ⟨bX, 1, none⟩ = some (.string x.nm))) (by kernel_rfl) ?_ (fun hHeld => ?_)
              · (try dsimp only); exact q1
              have hPu6 := hPu6.keep ((Bl.refl _).drew)
              have hX6 := hX6.drew
              have hB6 := hB6.drew
              replace q1 := Bl.cells ((Bl.refl _).drew) q1
              generalize v6.drew = vd at hPu6 hX6 hB6 q1 hHeld ⊢
              refine held_take (i := 0) (d := 52) (v := ?_) rfl rfl (by kernel_rfl) (by kernel_rfl) (by kernel_rfl) (fun _ _ _ h => h) (Or.inl ⟨by rfl, ?_⟩) (by assumption) ?_
              rotate_left
              · (intro w hSw; (try dsimp only at hSw); go_simp; (try with_reducible rfl))
              (try simp only [List.set_cons_zero, List.set_cons_succ])
              refine held_take (i := 1) (d := 53) (v := ?_) rfl rfl (by kernel_rfl) (by kernel_rfl) (by kernel_rfl) (fun _ _ _ h => h) (Or.inl ⟨by rfl, ?_⟩) (by assumption) ?_
              rotate_left
              · (intro w hSw; (try dsimp only at hSw); go_simp; (try with_reducible rfl))
              (try simp only [List.set_cons_zero, List.set_cons_succ])
              refine held_take (i := 2) (d := 54) (v := ?_) rfl rfl (by kernel_rfl) (by kernel_rfl) (by kernel_rfl) (fun _ _ _ h => h) (Or.inl ⟨by rfl, ?_⟩) (by assumption) ?_
              rotate_left
              · (intro w hSw; (try dsimp only at hSw); go_simp; (try with_reducible rfl))
              (try simp only [List.set_cons_zero, List.set_cons_succ])
              refine held_take (i := 3) (d := 55) (v := ?_) rfl rfl (by kernel_rfl) (by kernel_rfl) (by kernel_rfl) (fun _ _ _ h => h) (Or.inl ⟨by rfl, ?_⟩) (by assumption) ?_
              rotate_left
              · (intro w hSw; (try dsimp only at hSw); go_simp; (try with_reducible rfl))
              (try simp only [List.set_cons_zero, List.set_cons_succ])
              refine held_take (i := 4) (d := 56) (v := ?_) rfl rfl (by kernel_rfl) (by kernel_rfl) (by kernel_rfl) (fun _ _ _ h => h) (Or.inl ⟨by rfl, ?_⟩) (by assumption) ?_
              rotate_left
              · (intro w hSw; (try dsimp only at hSw); go_simp; (try with_reducible rfl))
              (try simp only [List.set_cons_zero, List.set_cons_succ])
              refine held_take (i := 5) (d := 57) (v := ?_) rfl rfl (by kernel_rfl) (by kernel_rfl) (by kernel_rfl) (fun _ _ _ h => h) (Or.inl ⟨by rfl, ?_⟩) (by assumption) ?_
              rotate_left
              · (intro w hSw; (try dsimp only at hSw); go_simp; (try with_reducible rfl))
              (try simp only [List.set_cons_zero, List.set_cons_succ])
              refine held_take (i := 6) (d := 58) (v := ?_) rfl rfl (by kernel_rfl) (by kernel_rfl) (by kernel_rfl) (fun _ _ _ h => h) (Or.inl ⟨by rfl, ?_⟩) (by assumption) ?_
              rotate_left
              · (intro w hSw; (try dsimp only at hSw); go_simp; (try with_reducible rfl))
              (try simp only [List.set_cons_zero, List.set_cons_succ])
              refine held_take (i := 7) (d := 59) (v := ?_) rfl rfl (by kernel_rfl) (by kernel_rfl) (by kernel_rfl) (fun _ _ _ h => h) (Or.inl ⟨by rfl, ?_⟩) (by assumption) ?_
              rotate_left
              · (intro w hSw; (try dsimp only at hSw); go_simp; (try with_reducible rfl))
              (try simp only [List.set_cons_zero, List.set_cons_succ])
              refine held_take (i := 8) (d := 60) (v := ?_) rfl rfl (by kernel_rfl) (by kernel_rfl) (by kernel_rfl) (fun _ _ _ h => h) (Or.inl ⟨by rfl, ?_⟩) (by assumption) ?_
              rotate_left
              · (intro w hSw; (try dsimp only at hSw); go_simp; (try with_reducible rfl))
              (try simp only [List.set_cons_zero, List.set_cons_succ])
              refine held_take (i := 9) (d := 61) (v := ?_) rfl rfl (by kernel_rfl) (by kernel_rfl) (by kernel_rfl) (fun _ _ _ h => h) (Or.inl ⟨by rfl, ?_⟩) (by assumption) ?_
              rotate_left
              · (intro w hSw; (try dsimp only at hSw); go_simp; (try with_reducible rfl))
              (try simp only [List.set_cons_zero, List.set_cons_succ])
              refine held_take (i := 10) (d := 62) (v := ?_) rfl rfl (by kernel_rfl) (by kernel_rfl) (by kernel_rfl) (fun _ _ _ h => h) (Or.inl ⟨by rfl, ?_⟩) (by assumption) ?_
              rotate_left
              · (intro w hSw; (try dsimp only at hSw); go_simp; (try with_reducible rfl))
              (try simp only [List.set_cons_zero, List.set_cons_succ])
              refine held_take (i := 11) (d := 63) (v := ?_) rfl rfl (by kernel_rfl) (by kernel_rfl) (by kernel_rfl) (fun _ _ _ h => h) (Or.inl ⟨by rfl, ?_⟩) (by assumption) ?_
              rotate_left
              · (intro w hSw; (try dsimp only at hSw); go_simp; (try with_reducible rfl))
              (try simp only [List.set_cons_zero, List.set_cons_succ])
              refine wpAnyH_ready (rs := [12]) (by kernel_rfl) (by simp) ?_
              refine AllReadyH.cons rfl (fun K hK => ?_) AllReadyH.nil
              go_simp
              refine (impl_lineOf x.nm (some ad) k c (l.take k) _ ((hl.keep hB6).take hk)).mono ?_; rintro e v7 ⟨rfl, hb7⟩; rw [HLN.out]
              go_wp2_with fail
              refine hK.out _ _ ?_ (fun hHeld => ?_)
              · (try dsimp only); exact Bl.cells hb7 q1
              clear hK K
              (try simp only [Act.put]); (try simp only [List.setIfInBounds_toArray]); (try simp only [List.set_cons_succ]); (try simp only [List.set_cons_zero])
              refine held_take (i := 13) (d := 65) (v := ?_) rfl rfl (by kernel_rfl) (by kernel_rfl) (by kernel_rfl) (fun _ _ _ h => h) (Or.inl ⟨by rfl, ?_⟩) (by assumption) ?_
              rotate_left
              · (intro w hSw; (try dsimp only at hSw); go_simp; (try with_reducible rfl))
              (try simp only [List.set_cons_zero, List.set_cons_succ])
              refine held_take (i := 14) (d := 66) (v := ?_) rfl rfl (by kernel_rfl) (by kernel_rfl) (by kernel_rfl) (fun _ _ _ h => h) (Or.inl ⟨by rfl, ?_⟩) (by assumption) ?_
              rotate_left
              · (intro w hSw; (try dsimp only at hSw); go_simp; (try with_reducible rfl))
              (try simp only [List.set_cons_zero, List.set_cons_succ])
              refine held_take (i := 15) (d := 67) (v := ?_) rfl rfl (by kernel_rfl) (by kernel_rfl) (by kernel_rfl) (fun _ _ _ h => h) (Or.inl ⟨by rfl, ?_⟩) (by assumption) ?_
              rotate_left
              · (intro w hSw; (try dsimp only at hSw); go_simp; (try with_reducible rfl))
              (try simp only [List.set_cons_zero, List.set_cons_succ])
              refine wpAnyH_done (by kernel_rfl) ?_ _
              have hPv := hPu6.keep hb7
              have hXv := hX6.keep hb7
              have hX_l := hXv.lt
              have hX_0 := hXv.cell 0 _ rfl
              go_wp2_with (at_builtin; refine ap_int rfl rfl rfl (((hPv).keep ((Bl.refl _).alloc (.cells #[.int .i64 v] 3))).own) rfl (rd_new1 _ _ _) (by omega) (by have := hPv.bl.sz; simp; omega) ?_; intro A5 c5 w9 hown5 hg5 hat5)
              go_roundw
              case rel => exact ⟨k + 1, c5, oc, b0, b1, A5, by omega, by go_num, rfl, by go_num, by omega, Lib.hid (by rw [HST.out, List.length_append, HOC.out, if_neg h6]; rfl), Lib.hid (by rw [ins_no HX.out (fun e => h1 e.1)]; exact HB0.out), Lib.hid (by rw [ins_no HX.out (fun e => h1 e.1)]; exact HB1.out), by rw [← HWS.out]; exact ((hPv).keep ((Bl.refl _).alloc (.cells #[.int .i64 v] 3))).next hown5 hg5 hat5⟩
              case measure => simp [intOf]; omega
    · obtain rfl : k = n := by omega
      have j1 : ¬ (k : Int) < k := by omega
      have hall : l.take k = l := List.take_of_length_le (by rw [hlen.out]; exact Nat.le_refl _)
      have t0 : b0 ≤ 20 := by rw [← HB0.out, hall]; exact g5
      have t1 : b1 ≤ 20 := by rw [← HB1.out, hall]; exact g7
      have t2 : (oc : Int) ≤ 10 := by have := HO.out; rw [← HOC.out, hall, List.take_of_length_le (by omega)]; omega
      have hb_l := hP.bb.lt
      have hb_0 := hP.bb.cell 0 _ rfl
      have hb_1 := hP.bb.cell 1 _ rfl
      go_wp2_with fail
      go_ret2
      exact ⟨A2, c2, rfl, by have := hP.own; rw [List.take_of_length_le (by omega)] at this; exact this, hP.bl⟩
end Go.Proofs.YtjggecbaladiiaaGreatDoor
