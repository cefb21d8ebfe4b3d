/- Contracts of the program's values of all lines of a valid program.
   Conditions: inputs of the program. -/
import Derived.Test.YtdndkkaacfbkkaaGreatDoorPsi
namespace Go.Proofs.YtdndkkaacfbkkaaGreatDoor
open Go.RowKit
set_option linter.unusedVariables false
theorem lnF_take {L : List Ln} {k : Nat} {s : ByteArray} (h : 0 ≤ lnF (L.take k) s) : lnF L s = lnF (L.take k) s := by
  unfold lnF at h ⊢
  by_cases hs : s = ⟨#[]⟩
  · rw [if_pos hs, if_pos hs]
  · rw [if_neg hs] at h
    rw [if_neg hs, if_neg hs]
    unfold lnV at h ⊢
    rcases hi : lnI (L.take k) s with _ | q
    · rw [hi] at h; exact absurd h (by decide)
    · have : lnI L s = some q := by
        unfold lnI at hi ⊢
        obtain ⟨h1, h2, h3⟩ := List.findIdx?_eq_some_iff_getElem.1 hi
        rw [List.length_take] at h1
        refine List.findIdx?_eq_some_iff_getElem.2 ⟨by omega, ?_, fun j hj => ?_⟩
        · rw [List.getElem_take] at h2; exact h2
        · have := h3 j hj; rw [List.getElem_take] at this; exact this
      rw [this]
theorem wr_sub {M u : Int} (h1 : 0 ≤ u) (h2 : u ≤ M) (h3 : M ≤ 1023) : wrap64 (M - u) = M - u := by unfold wrap64; omega
theorem add0_cell {w : World} {a : Addr} {v : Value} (h : w.cell? (a.add 0) = some v) : w.cell? a = some v := h
theorem add1_cell {w : World} {a : Addr} {v : Value} (h : w.cell? (a.add 1) = some v) : w.cell? ⟨a.block, a.off + 1, none⟩ = some v := h
theorem add2_cell {w : World} {a : Addr} {v : Value} (h : w.cell? (a.add 2) = some v) : w.cell? ⟨a.block, a.off + 2, none⟩ = some v := h
/-- The rows of a line's parts: their values and their widths. -/
structure Vi (wq : World) (bR : Nat) (A3 : Option Addr) (n3 c3 : Nat) (P : List Int) (A4 : Option Addr) (n4 c4 : Nat) (W : List Int) : Prop where
  pr : OwnI bR wq A3 n3 c3 P
  wi : OwnI bR wq A4 n4 c4 W
  ap : ∀ q, A3.map (·.block) = some q → A4.map (·.block) ≠ some q
section
variable {wq w' : World} {bR n3 c3 n4 c4 : Nat} {A3 A4 : Option Addr} {P W : List Int}
theorem Vi.keep (h : Vi wq bR A3 n3 c3 P A4 n4 c4 W) (hb : Bl wq w') : Vi w' bR A3 n3 c3 P A4 n4 c4 W := ⟨h.pr.keep hb, h.wi.keep hb, h.ap⟩
theorem Vi.pushP {A5 : Option Addr} {n5 c5 : Nat} {P' : List Int} (h : Vi wq bR A3 n3 c3 P A4 n4 c4 W) (ho : OwnI bR w' A5 n5 c5 P') (hg : wq.grownBy w' (A3.map (·.block))) (hat : A5.map (·.block) = A3.map (·.block) ∨ A5.map (·.block) = some wq.heap.size) : Vi w' bR A5 n5 c5 P' A4 n4 c4 W := by
  refine ⟨ho, h.wi.far_ hg (fun k hk e => h.ap k e hk), fun q hq e => ?_⟩
  rcases hat with h1 | h1
  · exact h.ap q (h1.symm.trans hq) e
  · have h2 := h1.symm.trans hq
    injection h2 with h2
    have := (h.wi.blk q e).2
    omega
theorem Vi.pushW {A5 : Option Addr} {n5 c5 : Nat} {W' : List Int} (h : Vi wq bR A3 n3 c3 P A4 n4 c4 W) (ho : OwnI bR w' A5 n5 c5 W') (hg : wq.grownBy w' (A4.map (·.block))) (hat : A5.map (·.block) = A4.map (·.block) ∨ A5.map (·.block) = some wq.heap.size) : Vi w' bR A3 n3 c3 P A5 n5 c5 W' := by
  refine ⟨h.pr.far_ hg (fun k hk e => h.ap k hk e), ho, fun q hq e => ?_⟩
  rcases hat with h1 | h1
  · exact h.ap q hq (h1.symm.trans e)
  · have h2 := h1.symm.trans e
    injection h2 with h2
    have := (h.pr.blk q hq).2
    omega
end
theorem RdI.grownF {w w' : World} {g n c : Nat} {l : List Int} {row : Option Nat} (h : RdI w (some ⟨g, 0, none⟩) n c l) (hg : w.grownBy w' row) (hne : row ≠ some g) : RdI w' (some ⟨g, 0, none⟩) n c l :=
  RdI.grown h hg (fun a ha e => by injection ha with ha; subst ha; exact hne e.symm)
set_option maxRecDepth 20000 in
set_option maxHeartbeats 4000000 in
theorem impl_valuesIn (A : Option Addr) (n c : Nat) (l : List (Hd × Ln)) (ws : List Int) (Aa Ab : Option Addr) (na ca nb cb : Nat) (a b : List Int) (w : World) (h : RdL w A n c l) (hg : goodB (l.map (·.2)) = true) (hws : wdsL (l.map (·.2)) = some ws) (hok : okI (l.map (·.2)) = true) (hw4 : okW (l.map (·.2)) ws = true) (hq : askR (l.map (·.2)) a b = true) (ht : Tm w) (ha : RdI w Aa na ca a) (hb : RdI w Ab nb cb b) :
    Calls Tryz.prog 84 #[.slice A n c, .slice Aa na ca, .slice Ab nb cb] w fun e w' => ∃ A' c', e = .returned (.slice A' n c') ∧ OwnI w.heap.size w' A' n c' (evL ws (l.map (·.2)) a b) ∧ Bl w w' := by
  obtain ⟨hle1, hle2⟩ := h.le
  have hlen := Lib.hid h.len
  have IW := Lib.hid (fun w h ht => impl_widths A n c l ws w h hg hws hok ht)
  obtain ⟨ws', hws', g1, g2, _⟩ := goodB_at hg
  obtain rfl : ws = ws' := by rw [hws] at hws'; injection hws'
  obtain ⟨i1, i2⟩ := wdsL_in hws
  obtain ⟨e1, e2⟩ := evL_in ws (l.map (·.2)) a b
  have hbd := evL_bd hg hws hw4 hq
  rw [List.length_map, h.len] at i1 g1 e1 hbd
  have HI := Lib.hid i2
  have HE := Lib.hid e2
  have HG := Lib.hid g2
  have HBD := Lib.hid (hbd n (Nat.le_refl _))
  have HOK := Lib.hid (fun (i : Nat) x => okI_at hok (i := i) (x := x))
  have HOW := Lib.hid (fun (i : Nat) x => okW_at hw4 (i := i) (x := x))
  unfold askR at hq
  rw [Bool.and_eq_true] at hq
  have HQA := Lib.hid (fun (k : Nat) (x : Ln) (h1 : (l.map (·.2))[k]? = some x) (h2 : x.k = 1) (h3 : x.pt = 0) => fitR_at hq.1 _ _ (insL_at h1 h2 h3))
  have HQB := Lib.hid (fun (k : Nat) (x : Ln) (h1 : (l.map (·.2))[k]? = some x) (h2 : x.k = 1) (h3 : x.pt = 1) => fitR_at hq.2 _ _ (insL_at h1 h2 h3))
  obtain ⟨V, hV⟩ : ∃ V, evL ws (l.map (·.2)) a b = V := ⟨_, rfl⟩
  rw [hV] at HE HBD e1 ⊢
  clear hV g2 i2 e2 hbd hg hws hok hw4 hq hws'
  go_enter Tryz.func84, Tryz.ntmps84
  go_wp2_with fail
  refine (IW.out _ h ht).mono ?_
  rintro e w1 ⟨D, d, rfl, hwsO, hb1⟩
  have hD := hwsO.rd
  have hDle := hD.le
  have hP : Wq w1 ((w1.alloc (.cells #[] 3)).alloc (.cells #[.int .i64 0, .int .i64 0] 91)) (w1.heap.size + 1) 0 0 (some ⟨w1.heap.size, 0, none⟩) 0 0 [] :=
    ⟨OwnI.keep (own_made w1) ((Bl.refl _).alloc _), Blk.new _ _ _, fun q hq => by injection hq with hq; dsimp only at hq; omega, by omega, ((Bl.refl w1).alloc _).alloc _⟩
  have hw1 := hb1.sz
  go_wp2_with fail
  generalize (w1.alloc (.cells #[] 3)).alloc (.cells #[.int .i64 0, .int .i64 0] 91) = u0 at hP ⊢
  generalize w1.heap.size + 1 = bT at hP ⊢
  go_loopw [9, 29] (fun o i wr => ∃ (k c2 t0 t1 : Nat) (A2 : Option Addr), k ≤ n ∧ i = .int .i64 (k : Nat) ∧ o = .slice A2 k c2 ∧ t0 ≤ k ∧ t1 ≤ k ∧ Hid ((insL ((l.take k).map (·.2)) 0).length = t0) ∧ Hid ((insL ((l.take k).map (·.2)) 1).length = t1) ∧ Wq w1 wr bT t0 t1 A2 k c2 (V.take k)) (fun _ i _ => n - (intOf i).toNat)
  case atStart => exact ⟨0, 0, 0, 0, _, by omega, rfl, rfl, by omega, by omega, Lib.hid rfl, Lib.hid rfl, hP⟩
  case round =>
    clear hP
    obtain ⟨k, c2, t0, t1, A2, hk, rfl, rfl, ht0, ht1, HT0, HT1, hP⟩ := hrel
    have hbl := hb1.call hP.bl
    have hl := h.keep hbl
    by_cases hlt : k < n
    · obtain ⟨ad, ⟨⟨C, m, cc⟩, x⟩, rfl, hadb, hx, hps, c0, c1, c2_, c3_, c4, c5, c6⟩ := hl.at_ hlt
      dsimp only at hps c0 c1 c2_ c3_ c4 c5 c6
      have hxL : (l.map (·.2))[k]? = some x := by rw [List.getElem?_map, hx]; rfl
      obtain ⟨v, hv, HV0⟩ := HI.out k x hxL
      have hev := HE.out k x hxL
      have hwl : (ws.take k).length = ((l.map (·.2)).take k).length := by rw [List.length_take, List.length_take, i1, List.length_map, hlen.out]
      have hvk := vk_of (vals := V.take k) HV0 hwl (HOW.out k x hxL) (fun u hu => List.all_eq_true.1 HG.out u (List.mem_of_mem_take hu)) (fun r hr => by
        rw [List.length_take, i1] at hr
        rw [getD_take (by omega), getD_take (by omega)]
        exact HBD.out r (by omega))
      have hm3 := wdO_len HV0
      rw [hps.length] at hm3
      obtain ⟨k1w, hfn⟩ := wdO_in HV0
      obtain ⟨ho1, ho2⟩ := HOK.out k x hxL
      have HQA' := Lib.hid (HQA.out k x hxL)
      have HQB' := Lib.hid (HQB.out k x hxL)
      have HF := Lib.hid hfn
      have HO1 := Lib.hid ho1
      have HX := Lib.hid hx
      obtain ⟨val, hval⟩ : ∃ q, valV ((l.map (·.2)).take k) (ws.take k) (V.take k) (inpV a b ((l.map (·.2)).take k) x) x = q := ⟨_, rfl⟩
      rw [hval] at hev
      have HVS := Lib.hid (show V.take k ++ [val] = V.take (k + 1) by rw [List.take_add_one, hev]; rfl)
      have HVAL := Lib.hid hval
      have HVK := Lib.hid hvk
      clear HV0 hfn ho1 ho2 hx hxL hev hval k1w hvk hv hwl
      have hpt0 : ((l.map (·.2)).take k) = ((l.take k).map (·.2)) := map_take_
      rw [hpt0] at HF HO1 HVAL HVK HQA' HQB'
      rw [HT0.out] at HQA'
      rw [HT1.out] at HQB'
      clear hpt0
      have j1 : (k : Int) < n := by omega
      have hX := ((Blk.new wr 70 #[.int .i64 x.k, .string x.nm, .string x.op, .slice C m cc, .int .i64 x.pt, .int .i64 x.wd, .int .i64 x.vl] (g := wr.heap.size)).alloc (.cells #[] 3)).alloc (.cells #[] 3)
      have hV := (((Bl.refl wr).alloc (.cells #[.int .i64 x.k, .string x.nm, .string x.op, .slice C m cc, .int .i64 x.pt, .int .i64 x.wd, .int .i64 x.vl] 70)).alloc (.cells #[] 3)).alloc (.cells #[] 3)
      have hI : Vi (((wr.alloc (.cells #[.int .i64 x.k, .string x.nm, .string x.op, .slice C m cc, .int .i64 x.pt, .int .i64 x.wd, .int .i64 x.vl] 70)).alloc (.cells #[] 3)).alloc (.cells #[] 3)) (wr.heap.size + 1) (some ⟨wr.heap.size + 1, 0, none⟩) 0 0 [] (some ⟨wr.heap.size + 1 + 1, 0, none⟩) 0 0 [] := by
        have q1 := own_made (wr.alloc (.cells #[.int .i64 x.k, .string x.nm, .string x.op, .slice C m cc, .int .i64 x.pt, .int .i64 x.wd, .int .i64 x.vl] 70)) (g := wr.heap.size + 1) (by simp)
        have q2 := own_made ((wr.alloc (.cells #[.int .i64 x.k, .string x.nm, .string x.op, .slice C m cc, .int .i64 x.pt, .int .i64 x.wd, .int .i64 x.vl] 70)).alloc (.cells #[] 3)) (g := wr.heap.size + 1 + 1) (by simp)
        refine ⟨OwnI.mono (q1.keep ((Bl.refl _).alloc _)) (by simp), OwnI.mono q2 (by simp), fun q hq e => ?_⟩
        injection hq with hq; injection e with e; dsimp only at hq e; omega
      go_wp2_with fail
      generalize ((wr.alloc (.cells #[.int .i64 x.k, .string x.nm, .string x.op, .slice C m cc, .int .i64 x.pt, .int .i64 x.wd, .int .i64 x.vl] 70)).alloc (.cells #[] 3)).alloc (.cells #[] 3) = u1 at hX hV hI ⊢
      generalize hbX : wr.heap.size = bX at hX hI ⊢
      have hPu := hP.keep hV
      have hpn := hps.length
      have hgX : w1.heap.size ≤ bX := by rw [← hbX]; exact hP.bl.sz
      have hbTX : bT < bX := by rw [← hbX]; exact hP.bb.lt
      have hA2 : ∀ q, A2.map (·.block) = some q → q < bX := fun q hq => by rw [← hbX]; exact (hP.own.blk q hq).2
      go_loopw [13, 14, 38] (fun o o2 i wq => ∃ (j c3 c4 : Nat) (A3 A4 : Option Addr), j ≤ m ∧ i = .int .i64 (j : Nat) ∧ o = .slice A3 j c3 ∧ o2 = .slice A4 j c4 ∧ Vi wq (bX + 1) A3 j c3 ((pws ((l.take k).map (·.2)) (V.take k) x.ps).take j) A4 j c4 ((pws ((l.take k).map (·.2)) (ws.take k) x.ps).take j) ∧ Blk wq bX 70 #[.int .i64 x.k, .string x.nm, .string x.op, .slice C m cc, .int .i64 x.pt, .int .i64 x.wd, .int .i64 x.vl] ∧ Wq w1 wq bT t0 t1 A2 k c2 (V.take k) ∧ Bl wr wq) (fun _ _ i _ => m - (intOf i).toNat)
      case atStart => exact ⟨0, 0, 0, _, _, by omega, rfl, rfl, rfl, hI, hX, hPu, hV⟩
      case round =>
        clear hI hX hPu
        obtain ⟨j, c3, c4', A3, A4, hj, rfl, rfl, rfl, hI, hX, hPu, hB1⟩ := hrel
        by_cases hlt2 : j < m
        · obtain ⟨ap, s, rfl, hasb, hsx, hsc⟩ := (hps.keep hB1).at_ hlt2
          have hs2 := List.mem_of_getElem? hsx
          have hf0 := HF.out s hs2
          have hfe := HO1.out s hs2
          have hfl := fndL_lt ((l.take k).map (·.2)) s
          rw [List.length_map, List.length_take, hlen.out, Nat.min_eq_left hk] at hfl
          obtain ⟨q, hq⟩ : ∃ q : Nat, fndL ((l.take k).map (·.2)) s = (q : Int) := ⟨(fndL ((l.take k).map (·.2)) s).toNat, by omega⟩
          have hqk : q < k := by omega
          rw [hq] at hfe
          have hfL : lnF (l.map (·.2)) s = (q : Int) := by
            have := lnF_take (L := l.map (·.2)) (k := k) (s := s) (by rw [map_take_, hfe]; omega)
            rw [this, map_take_, hfe]
          obtain ⟨bd, v9, rfl, hbdb, hx9, hco⟩ := hPu.own.rd.at_ hqk
          obtain ⟨ld, u9, rfl, hldb, hy9, hcl⟩ := hD.at_ (k := q) (by omega)
          have hldX : ld.block < bX := by omega
          have hbdX : bd.block < bX := hA2 _ rfl
          replace hcl := Bl.cells hPu.bl hcl
          have HPS := Lib.hid (pws_step hsx hq hx9)
          have HPW := Lib.hid (pws_step hsx hq (show (ws.take k)[q]? = some u9 by rw [List.getElem?_take_of_lt hqk]; exact hy9))
          have HFL := Lib.hid hfL
          clear hsx hs2 hf0 hfe hfl hq hx9 hy9 hfL
          have hX_l := hX.lt
          have hX_3 := hX.cell 3 _ rfl
          have j2 : (j : Int) < m := by omega
          have hqn : (q : Int) < n := by omega
          have hqk2 : (q : Int) < k := by omega
          go_wp2_with fail
          refine (impl_lineOf s _ n c l _ (hl.keep hB1)).mono ?_
          rintro e v5 ⟨rfl, hb5⟩
          rw [HFL.out]
          replace hPu := hPu.keep hb5
          replace hI := hI.keep hb5
          replace hX := hX.keep hb5
          replace hB1 := hB1.call hb5
          replace hco := Bl.cells hb5 hco
          replace hcl := Bl.cells hb5 hcl
          clear hX_l hX_3 hsc hb5
          have hbd5 : bd.block < v5.heap.size := World.block_lt_of_cell? v5 _ hco |> fun h => by rwa [block_of_add] at h
          have hld5 : ld.block < v5.heap.size := World.block_lt_of_cell? v5 _ hcl |> fun h => by rwa [block_of_add] at h
          go_wp2_with fail
          refine wp_region_held_drew (S := (fun w' => w'.cell? (bd.add q) = some (.int .i64 v9) ∧ w'.cell? (ld.add q) = some (.int .i64 u9))) (by kernel_rfl) ?_ (fun hHeld => ?_)
          · (try dsimp only); exact ⟨hco, hcl⟩
          replace hI := hI.keep ((Bl.refl _).drew)
          replace hPu := hPu.keep ((Bl.refl _).drew)
          replace hX := hX.drew
          replace hB1 := hB1.drew
          replace hco := Bl.cells ((Bl.refl _).drew) hco
          replace hcl := Bl.cells ((Bl.refl _).drew) hcl
          generalize v5.drew = y0 at hI hX hPu hB1 hco hcl hHeld ⊢
          refine held_take (i := 0) (d := 45) (v := ?_) rfl rfl (by kernel_rfl) (by kernel_rfl) (by kernel_rfl) (fun _ _ _ h => h) (Or.inl ⟨by rfl, ?_⟩) (by assumption) ?_
          rotate_left
          · (intro w hSw; (try dsimp only at hSw); go_simp; (try with_reducible rfl))
          (try simp only [List.set_cons_zero, List.set_cons_succ])
          refine held_take (i := 1) (d := 46) (v := ?_) rfl rfl (by kernel_rfl) (by kernel_rfl) (by kernel_rfl) (fun _ _ _ h => h) (Or.inl ⟨by rfl, ?_⟩) (by assumption) ?_
          rotate_left
          · (intro w hSw; (try dsimp only at hSw); go_simp; (try with_reducible rfl))
          (try simp only [List.set_cons_zero, List.set_cons_succ])
          refine held_take (i := 2) (d := 47) (v := ?_) rfl rfl (by kernel_rfl) (by kernel_rfl) (by kernel_rfl) (fun _ _ _ h => h) (Or.inl ⟨by rfl, ?_⟩) (by assumption) ?_
          rotate_left
          · (intro w hSw; (try dsimp only at hSw); go_simp; (try with_reducible rfl))
          (try simp only [List.set_cons_zero, List.set_cons_succ])
          refine held_take (i := 3) (d := 48) (v := ?_) rfl rfl (by kernel_rfl) (by kernel_rfl) (by kernel_rfl) (fun _ _ _ h => h) (Or.inl ⟨by rfl, ?_⟩) (by assumption) ?_
          rotate_left
          · (intro w hSw; (try dsimp only at hSw); go_simp; (try with_reducible rfl))
          (try simp only [List.set_cons_zero, List.set_cons_succ])
          refine held_take (i := 4) (d := 49) (v := ?_) rfl rfl (by kernel_rfl) (by kernel_rfl) (by kernel_rfl) (fun _ _ _ h => h) (Or.inl ⟨by rfl, ?_⟩) (by assumption) ?_
          rotate_left
          · (intro w hSw; (try dsimp only at hSw); go_simp; (try with_reducible rfl))
          (try simp only [List.set_cons_zero, List.set_cons_succ])
          refine held_take (i := 7) (d := 52) (v := ?_) rfl rfl (by kernel_rfl) (by kernel_rfl) (by kernel_rfl) (fun _ _ _ h => h) (Or.inl ⟨by rfl, ?_⟩) (by assumption) ?_
          rotate_left
          · (intro w hSw; (try dsimp only at hSw); go_simp; (try with_reducible rfl))
          (try simp only [List.set_cons_zero, List.set_cons_succ])
          refine held_take (i := 8) (d := 53) (v := ?_) rfl rfl (by kernel_rfl) (by kernel_rfl) (by kernel_rfl) (fun _ _ _ h => h) (Or.inl ⟨by rfl, ?_⟩) (by assumption) ?_
          rotate_left
          · (intro w hSw; (try dsimp only at hSw); go_simp; (try with_reducible rfl))
          (try simp only [List.set_cons_zero, List.set_cons_succ])
          refine held_take (i := 9) (d := 54) (v := ?_) rfl rfl (by kernel_rfl) (by kernel_rfl) (by kernel_rfl) (fun _ _ _ h => h) (Or.inl ⟨by rfl, ?_⟩) (by assumption) ?_
          rotate_left
          · (intro w hSw; (try dsimp only at hSw); go_simp; (try with_reducible rfl))
          (try simp only [List.set_cons_zero, List.set_cons_succ])
          refine held_take (i := 10) (d := 55) (v := ?_) rfl rfl (by kernel_rfl) (by kernel_rfl) (by kernel_rfl) (fun _ _ _ h => h) (Or.inl ⟨by rfl, ?_⟩) (by assumption) ?_
          rotate_left
          · (intro w hSw; (try dsimp only at hSw); go_simp; (try with_reducible rfl))
          (try simp only [List.set_cons_zero, List.set_cons_succ])
          refine held_take (i := 11) (d := 56) (v := ?_) rfl rfl (by kernel_rfl) (by kernel_rfl) (by kernel_rfl) (fun _ _ _ h => h) (Or.inl ⟨by rfl, ?_⟩) (by assumption) ?_
          rotate_left
          · (intro w hSw; (try dsimp only at hSw); go_simp; (try with_reducible rfl))
          (try simp only [List.set_cons_zero, List.set_cons_succ])
          refine wpAnyH_ready (rs := [5, 12]) (by kernel_rfl) (by simp) ?_
          refine AllReadyH.cons rfl (fun K hK => ?_) (AllReadyH.cons rfl (fun K hK => ?_) AllReadyH.nil)
          · go_simp
            have hS5 := rd_new1 y0 3 v9
            have hlP5 : ∀ q, A3.map (·.block) = some q → q < y0.heap.size := fun q hq => (hI.pr.blk q hq).2
            have hlW5 : ∀ q, A4.map (·.block) = some q → q < y0.heap.size := fun q hq => (hI.wi.blk q hq).2
            replace hI := hI.keep ((Bl.refl _).alloc (.cells #[.int .i64 v9] 3))
            replace hPu := hPu.keep ((Bl.refl _).alloc (.cells #[.int .i64 v9] 3))
            replace hX := hX.alloc (.cells #[.int .i64 v9] 3)
            replace hB1 := hB1.alloc (.cells #[.int .i64 v9] 3)
            replace hco := Bl.cells ((Bl.refl _).alloc (.cells #[.int .i64 v9] 3)) hco
            replace hcl := Bl.cells ((Bl.refl _).alloc (.cells #[.int .i64 v9] 3)) hcl
            generalize y0.alloc (.cells #[.int .i64 v9] 3) = y5 at hI hX hPu hB1 hco hcl hS5 ⊢
            generalize y0.heap.size = z5 at hS5 hlP5 hlW5 ⊢
            refine hK.out _ _ ?_ (fun hHeld => ?_)
            · (try dsimp only); exact ⟨hco, hcl⟩
            clear hK K
            (try simp only [Act.put]); (try simp only [List.setIfInBounds_toArray]); (try simp only [List.set_cons_succ]); (try simp only [List.set_cons_zero])
            refine wpAnyH_ready (rs := [6, 12]) (by kernel_rfl) (by simp) ?_
            refine AllReadyH.cons rfl (fun K hK => ?_) (AllReadyH.cons rfl (fun K hK => ?_) AllReadyH.nil)
            · refine ap_int_step rfl rfl rfl (hI.pr) rfl hS5 (by omega) (by have := hX.lt; omega) ?_; intro A5 c5 y6 hown6 hg6 hat6; have hge6 : ∀ q, A3.map (·.block) = some q → bX + 1 ≤ q := fun q hq => (hI.pr.blk q hq).1; replace hX := hX.grown hg6 (fun e => by have := hge6 _ e.symm; omega); replace hPu := hPu.grown hA2 hbTX hg6 (fun q hq => by have := hge6 q hq; omega) hgX; replace hB1 := Bl.grown hB1 hg6 (fun q hq => by have := hge6 q hq; omega); replace hco := hg6.cell hco (fun e => by have := hge6 _ e.symm; rw [block_of_add] at this; omega); replace hcl := hg6.cell hcl (fun e => by have := hge6 _ e.symm; rw [block_of_add] at this; omega); replace hI := hI.pushP hown6 hg6 hat6
              refine hK.out _ _ ?_ (fun hHeld => ?_)
              · (try dsimp only); exact ⟨hco, hcl⟩
              clear hK K
              (try simp only [Act.put]); (try simp only [List.setIfInBounds_toArray]); (try simp only [List.set_cons_succ]); (try simp only [List.set_cons_zero])
              refine wpAnyH_ready (rs := [12]) (by kernel_rfl) (by simp) ?_
              refine AllReadyH.cons rfl (fun K hK => ?_) AllReadyH.nil
              go_simp
              have hS12 := rd_new1 y6 3 u9
              skip
              have hlW12 : ∀ q, A4.map (·.block) = some q → q < y6.heap.size := fun q hq => (hI.wi.blk q hq).2
              replace hI := hI.keep ((Bl.refl _).alloc (.cells #[.int .i64 u9] 3))
              replace hPu := hPu.keep ((Bl.refl _).alloc (.cells #[.int .i64 u9] 3))
              replace hS5 := hS5.keep ((Bl.refl _).alloc (.cells #[.int .i64 u9] 3))
              replace hX := hX.alloc (.cells #[.int .i64 u9] 3)
              replace hB1 := hB1.alloc (.cells #[.int .i64 u9] 3)
              replace hco := Bl.cells ((Bl.refl _).alloc (.cells #[.int .i64 u9] 3)) hco
              replace hcl := Bl.cells ((Bl.refl _).alloc (.cells #[.int .i64 u9] 3)) hcl
              generalize y6.alloc (.cells #[.int .i64 u9] 3) = y12 at hI hX hPu hB1 hco hcl hS12 hS5 ⊢
              generalize y6.heap.size = z12 at hS12 hlW12 ⊢
              refine hK.out _ _ ?_ (fun hHeld => ?_)
              · (try dsimp only); exact ⟨hco, hcl⟩
              clear hK K
              (try simp only [Act.put]); (try simp only [List.setIfInBounds_toArray]); (try simp only [List.set_cons_succ]); (try simp only [List.set_cons_zero])
              refine wpAnyH_ready (rs := [13]) (by kernel_rfl) (by simp) ?_
              refine AllReadyH.cons rfl (fun K hK => ?_) AllReadyH.nil
              refine ap_int_step rfl rfl rfl (hI.wi) rfl hS12 (by omega) (by have := hX.lt; omega) ?_; intro A6 c6 y13 hown13 hg13 hat13; have hge13 : ∀ q, A4.map (·.block) = some q → bX + 1 ≤ q := fun q hq => (hI.wi.blk q hq).1; replace hX := hX.grown hg13 (fun e => by have := hge13 _ e.symm; omega); replace hPu := hPu.grown hA2 hbTX hg13 (fun q hq => by have := hge13 q hq; omega) hgX; replace hB1 := Bl.grown hB1 hg13 (fun q hq => by have := hge13 q hq; omega); replace hco := hg13.cell hco (fun e => by have := hge13 _ e.symm; rw [block_of_add] at this; omega); replace hcl := hg13.cell hcl (fun e => by have := hge13 _ e.symm; rw [block_of_add] at this; omega); replace hI := hI.pushW hown13 hg13 hat13
              refine hK.out _ _ ?_ (fun hHeld => ?_)
              · (try dsimp only); exact ⟨hco, hcl⟩
              clear hK K
              (try simp only [Act.put]); (try simp only [List.setIfInBounds_toArray]); (try simp only [List.set_cons_succ]); (try simp only [List.set_cons_zero])
              refine held_take (i := 14) (d := 13) (v := ?_) rfl rfl (by kernel_rfl) (by kernel_rfl) (by kernel_rfl) (fun _ _ _ h => h) (Or.inl ⟨by rfl, ?_⟩) (by assumption) ?_
              rotate_left
              · (intro w hSw; (try dsimp only at hSw); go_simp; (try with_reducible rfl))
              (try simp only [List.set_cons_zero, List.set_cons_succ])
              refine held_take (i := 15) (d := 14) (v := ?_) rfl rfl (by kernel_rfl) (by kernel_rfl) (by kernel_rfl) (fun _ _ _ h => h) (Or.inl ⟨by rfl, ?_⟩) (by assumption) ?_
              rotate_left
              · (intro w hSw; (try dsimp only at hSw); go_simp; (try with_reducible rfl))
              (try simp only [List.set_cons_zero, List.set_cons_succ])
              refine wpAnyH_done (by kernel_rfl) ?_ _
              go_wp2_with fail
              go_roundw
              case rel => exact ⟨j + 1, c5, c6, A5, A6, by omega, by go_num, rfl, rfl, by rw [← HPS.out, ← HPW.out]; exact hI, hX, hPu, hB1⟩
              case measure => simp [intOf]; omega
            · go_simp
              have hS12 := rd_new1 y5 3 u9
              have hlP12 : ∀ q, A3.map (·.block) = some q → q < y5.heap.size := fun q hq => (hI.pr.blk q hq).2
              have hlW12 : ∀ q, A4.map (·.block) = some q → q < y5.heap.size := fun q hq => (hI.wi.blk q hq).2
              replace hI := hI.keep ((Bl.refl _).alloc (.cells #[.int .i64 u9] 3))
              replace hPu := hPu.keep ((Bl.refl _).alloc (.cells #[.int .i64 u9] 3))
              replace hS5 := hS5.keep ((Bl.refl _).alloc (.cells #[.int .i64 u9] 3))
              replace hX := hX.alloc (.cells #[.int .i64 u9] 3)
              replace hB1 := hB1.alloc (.cells #[.int .i64 u9] 3)
              replace hco := Bl.cells ((Bl.refl _).alloc (.cells #[.int .i64 u9] 3)) hco
              replace hcl := Bl.cells ((Bl.refl _).alloc (.cells #[.int .i64 u9] 3)) hcl
              generalize y5.alloc (.cells #[.int .i64 u9] 3) = y12 at hI hX hPu hB1 hco hcl hS12 hS5 ⊢
              generalize y5.heap.size = z12 at hS12 hlP12 hlW12 ⊢
              refine hK.out _ _ ?_ (fun hHeld => ?_)
              · (try dsimp only); exact ⟨hco, hcl⟩
              clear hK K
              (try simp only [Act.put]); (try simp only [List.setIfInBounds_toArray]); (try simp only [List.set_cons_succ]); (try simp only [List.set_cons_zero])
              refine wpAnyH_ready (rs := [6]) (by kernel_rfl) (by simp) ?_
              refine AllReadyH.cons rfl (fun K hK => ?_) AllReadyH.nil
              refine ap_int_step rfl rfl rfl (hI.pr) rfl hS5 (by omega) (by have := hX.lt; omega) ?_; intro A5 c5 y6 hown6 hg6 hat6; have hge6 : ∀ q, A3.map (·.block) = some q → bX + 1 ≤ q := fun q hq => (hI.pr.blk q hq).1; replace hS12 := hS12.grownF hg6 (fun e => by have := hlP12 _ e; omega); replace hX := hX.grown hg6 (fun e => by have := hge6 _ e.symm; omega); replace hPu := hPu.grown hA2 hbTX hg6 (fun q hq => by have := hge6 q hq; omega) hgX; replace hB1 := Bl.grown hB1 hg6 (fun q hq => by have := hge6 q hq; omega); replace hco := hg6.cell hco (fun e => by have := hge6 _ e.symm; rw [block_of_add] at this; omega); replace hcl := hg6.cell hcl (fun e => by have := hge6 _ e.symm; rw [block_of_add] at this; omega); replace hI := hI.pushP hown6 hg6 hat6
              refine hK.out _ _ ?_ (fun hHeld => ?_)
              · (try dsimp only); exact ⟨hco, hcl⟩
              clear hK K
              (try simp only [Act.put]); (try simp only [List.setIfInBounds_toArray]); (try simp only [List.set_cons_succ]); (try simp only [List.set_cons_zero])
              refine wpAnyH_ready (rs := [13]) (by kernel_rfl) (by simp) ?_
              refine AllReadyH.cons rfl (fun K hK => ?_) AllReadyH.nil
              refine ap_int_step rfl rfl rfl (hI.wi) rfl hS12 (by omega) (by have := hX.lt; omega) ?_; intro A6 c6 y13 hown13 hg13 hat13; have hge13 : ∀ q, A4.map (·.block) = some q → bX + 1 ≤ q := fun q hq => (hI.wi.blk q hq).1; replace hX := hX.grown hg13 (fun e => by have := hge13 _ e.symm; omega); replace hPu := hPu.grown hA2 hbTX hg13 (fun q hq => by have := hge13 q hq; omega) hgX; replace hB1 := Bl.grown hB1 hg13 (fun q hq => by have := hge13 q hq; omega); replace hco := hg13.cell hco (fun e => by have := hge13 _ e.symm; rw [block_of_add] at this; omega); replace hcl := hg13.cell hcl (fun e => by have := hge13 _ e.symm; rw [block_of_add] at this; omega); replace hI := hI.pushW hown13 hg13 hat13
              refine hK.out _ _ ?_ (fun hHeld => ?_)
              · (try dsimp only); exact ⟨hco, hcl⟩
              clear hK K
              (try simp only [Act.put]); (try simp only [List.setIfInBounds_toArray]); (try simp only [List.set_cons_succ]); (try simp only [List.set_cons_zero])
              refine held_take (i := 14) (d := 13) (v := ?_) rfl rfl (by kernel_rfl) (by kernel_rfl) (by kernel_rfl) (fun _ _ _ h => h) (Or.inl ⟨by rfl, ?_⟩) (by assumption) ?_
              rotate_left
              · (intro w hSw; (try dsimp only at hSw); go_simp; (try with_reducible rfl))
              (try simp only [List.set_cons_zero, List.set_cons_succ])
              refine held_take (i := 15) (d := 14) (v := ?_) rfl rfl (by kernel_rfl) (by kernel_rfl) (by kernel_rfl) (fun _ _ _ h => h) (Or.inl ⟨by rfl, ?_⟩) (by assumption) ?_
              rotate_left
              · (intro w hSw; (try dsimp only at hSw); go_simp; (try with_reducible rfl))
              (try simp only [List.set_cons_zero, List.set_cons_succ])
              refine wpAnyH_done (by kernel_rfl) ?_ _
              go_wp2_with fail
              go_roundw
              case rel => exact ⟨j + 1, c5, c6, A5, A6, by omega, by go_num, rfl, rfl, by rw [← HPS.out, ← HPW.out]; exact hI, hX, hPu, hB1⟩
              case measure => simp [intOf]; omega
          · go_simp
            have hS12 := rd_new1 y0 3 u9
            have hlP12 : ∀ q, A3.map (·.block) = some q → q < y0.heap.size := fun q hq => (hI.pr.blk q hq).2
            have hlW12 : ∀ q, A4.map (·.block) = some q → q < y0.heap.size := fun q hq => (hI.wi.blk q hq).2
            replace hI := hI.keep ((Bl.refl _).alloc (.cells #[.int .i64 u9] 3))
            replace hPu := hPu.keep ((Bl.refl _).alloc (.cells #[.int .i64 u9] 3))
            replace hX := hX.alloc (.cells #[.int .i64 u9] 3)
            replace hB1 := hB1.alloc (.cells #[.int .i64 u9] 3)
            replace hco := Bl.cells ((Bl.refl _).alloc (.cells #[.int .i64 u9] 3)) hco
            replace hcl := Bl.cells ((Bl.refl _).alloc (.cells #[.int .i64 u9] 3)) hcl
            generalize y0.alloc (.cells #[.int .i64 u9] 3) = y12 at hI hX hPu hB1 hco hcl hS12 ⊢
            generalize y0.heap.size = z12 at hS12 hlP12 hlW12 ⊢
            refine hK.out _ _ ?_ (fun hHeld => ?_)
            · (try dsimp only); exact ⟨hco, hcl⟩
            clear hK K
            (try simp only [Act.put]); (try simp only [List.setIfInBounds_toArray]); (try simp only [List.set_cons_succ]); (try simp only [List.set_cons_zero])
            refine wpAnyH_ready (rs := [5]) (by kernel_rfl) (by simp) ?_
            refine AllReadyH.cons rfl (fun K hK => ?_) AllReadyH.nil
            go_simp
            have hS5 := rd_new1 y12 3 v9
            have hlP5 : ∀ q, A3.map (·.block) = some q → q < y12.heap.size := fun q hq => (hI.pr.blk q hq).2
            have hlW5 : ∀ q, A4.map (·.block) = some q → q < y12.heap.size := fun q hq => (hI.wi.blk q hq).2
            replace hI := hI.keep ((Bl.refl _).alloc (.cells #[.int .i64 v9] 3))
            replace hPu := hPu.keep ((Bl.refl _).alloc (.cells #[.int .i64 v9] 3))
            replace hS12 := hS12.keep ((Bl.refl _).alloc (.cells #[.int .i64 v9] 3))
            replace hX := hX.alloc (.cells #[.int .i64 v9] 3)
            replace hB1 := hB1.alloc (.cells #[.int .i64 v9] 3)
            replace hco := Bl.cells ((Bl.refl _).alloc (.cells #[.int .i64 v9] 3)) hco
            replace hcl := Bl.cells ((Bl.refl _).alloc (.cells #[.int .i64 v9] 3)) hcl
            generalize y12.alloc (.cells #[.int .i64 v9] 3) = y5 at hI hX hPu hB1 hco hcl hS5 hS12 ⊢
            generalize y12.heap.size = z5 at hS5 hlP5 hlW5 ⊢
            refine hK.out _ _ ?_ (fun hHeld => ?_)
            · (try dsimp only); exact ⟨hco, hcl⟩
            clear hK K
            (try simp only [Act.put]); (try simp only [List.setIfInBounds_toArray]); (try simp only [List.set_cons_succ]); (try simp only [List.set_cons_zero])
            refine wpAnyH_ready (rs := [6]) (by kernel_rfl) (by simp) ?_
            refine AllReadyH.cons rfl (fun K hK => ?_) AllReadyH.nil
            refine ap_int_step rfl rfl rfl (hI.pr) rfl hS5 (by omega) (by have := hX.lt; omega) ?_; intro A5 c5 y6 hown6 hg6 hat6; have hge6 : ∀ q, A3.map (·.block) = some q → bX + 1 ≤ q := fun q hq => (hI.pr.blk q hq).1; replace hS12 := hS12.grownF hg6 (fun e => by have := hlP12 _ e; omega); replace hX := hX.grown hg6 (fun e => by have := hge6 _ e.symm; omega); replace hPu := hPu.grown hA2 hbTX hg6 (fun q hq => by have := hge6 q hq; omega) hgX; replace hB1 := Bl.grown hB1 hg6 (fun q hq => by have := hge6 q hq; omega); replace hco := hg6.cell hco (fun e => by have := hge6 _ e.symm; rw [block_of_add] at this; omega); replace hcl := hg6.cell hcl (fun e => by have := hge6 _ e.symm; rw [block_of_add] at this; omega); replace hI := hI.pushP hown6 hg6 hat6
            refine hK.out _ _ ?_ (fun hHeld => ?_)
            · (try dsimp only); exact ⟨hco, hcl⟩
            clear hK K
            (try simp only [Act.put]); (try simp only [List.setIfInBounds_toArray]); (try simp only [List.set_cons_succ]); (try simp only [List.set_cons_zero])
            refine wpAnyH_ready (rs := [13]) (by kernel_rfl) (by simp) ?_
            refine AllReadyH.cons rfl (fun K hK => ?_) AllReadyH.nil
            refine ap_int_step rfl rfl rfl (hI.wi) rfl hS12 (by omega) (by have := hX.lt; omega) ?_; intro A6 c6 y13 hown13 hg13 hat13; have hge13 : ∀ q, A4.map (·.block) = some q → bX + 1 ≤ q := fun q hq => (hI.wi.blk q hq).1; replace hX := hX.grown hg13 (fun e => by have := hge13 _ e.symm; omega); replace hPu := hPu.grown hA2 hbTX hg13 (fun q hq => by have := hge13 q hq; omega) hgX; replace hB1 := Bl.grown hB1 hg13 (fun q hq => by have := hge13 q hq; omega); replace hco := hg13.cell hco (fun e => by have := hge13 _ e.symm; rw [block_of_add] at this; omega); replace hcl := hg13.cell hcl (fun e => by have := hge13 _ e.symm; rw [block_of_add] at this; omega); replace hI := hI.pushW hown13 hg13 hat13
            refine hK.out _ _ ?_ (fun hHeld => ?_)
            · (try dsimp only); exact ⟨hco, hcl⟩
            clear hK K
            (try simp only [Act.put]); (try simp only [List.setIfInBounds_toArray]); (try simp only [List.set_cons_succ]); (try simp only [List.set_cons_zero])
            refine held_take (i := 14) (d := 13) (v := ?_) rfl rfl (by kernel_rfl) (by kernel_rfl) (by kernel_rfl) (fun _ _ _ h => h) (Or.inl ⟨by rfl, ?_⟩) (by assumption) ?_
            rotate_left
            · (intro w hSw; (try dsimp only at hSw); go_simp; (try with_reducible rfl))
            (try simp only [List.set_cons_zero, List.set_cons_succ])
            refine held_take (i := 15) (d := 14) (v := ?_) rfl rfl (by kernel_rfl) (by kernel_rfl) (by kernel_rfl) (fun _ _ _ h => h) (Or.inl ⟨by rfl, ?_⟩) (by assumption) ?_
            rotate_left
            · (intro w hSw; (try dsimp only at hSw); go_simp; (try with_reducible rfl))
            (try simp only [List.set_cons_zero, List.set_cons_succ])
            refine wpAnyH_done (by kernel_rfl) ?_ _
            go_wp2_with fail
            go_roundw
            case rel => exact ⟨j + 1, c5, c6, A5, A6, by omega, by go_num, rfl, rfl, by rw [← HPS.out, ← HPW.out]; exact hI, hX, hPu, hB1⟩
            case measure => simp [intOf]; omega
        · obtain rfl : j = m := by omega
          have tP : (pws ((l.take k).map (·.2)) (V.take k) x.ps).take j = pws ((l.take k).map (·.2)) (V.take k) x.ps := List.take_of_length_le (by unfold pws; rw [List.length_map, hpn]; exact Nat.le_refl _)
          have tW : (pws ((l.take k).map (·.2)) (ws.take k) x.ps).take j = pws ((l.take k).map (·.2)) (ws.take k) x.ps := List.take_of_length_le (by unfold pws; rw [List.length_map, hpn]; exact Nat.le_refl _)
          rw [tP, tW] at hI
          clear tP tW
          have hX_l := hX.lt
          have hX_0 := hX.cell 0 _ rfl
          have hX_2 := hX.cell 2 _ rfl
          have hX_4 := hX.cell 4 _ rfl
          have hX_6 := hX.cell 6 _ rfl
          have j2 : ¬ (j : Int) < j := by omega
          have hk1 : k + 1 ≤ 17592186044415 := by omega
          rcases HVK.out.k with hkk | hkk | hkk | hkk | hkk | hkk
          · rcases HVK.out.k1 hkk with hpt | hpt
            · obtain ⟨yv, hy1, hy2⟩ := HQA'.out hkk hpt
              have hlt3 := (List.getElem?_eq_some_iff.1 hy1).1
              rw [ha.length] at hlt3
              have HVE := Lib.hid (show yv = val from by rw [← HVAL.out]; unfold valV inpV; rw [if_pos hkk, if_pos hpt, HT0.out, List.getD_eq_getElem?_getD, hy1]; rfl)
              obtain ⟨ia, iv, rfl, hib, hix, hic⟩ := (ha.keep (hbl.call hB1)).at_ hlt3
              obtain rfl := Option.some.inj (hy1.symm.trans hix)
              rw [hkk] at hX_0
              rw [hpt] at hX_4
              have hb_l := hPu.bb.lt
              have hb_f := hPu.bb.frozen
              have hb_0 := hPu.bb.cell 0 _ rfl
              have hb_1 := hPu.bb.cell 1 _ rfl
              have jt : (t0 : Int) < na := by omega
              clear hix hy1 hy2
              go_wp2_with (at_builtin; refine ap_int rfl rfl rfl (((hPu.set0 (t0 + 1)).keep ((Bl.refl _).alloc (.cells #[.int .i64 yv] 3))).own) rfl (rd_new1 _ _ _) hk1 (Nat.le_trans hPu.bl.sz (by simp)) ?_; intro A7 c7 w9 hown7 hg7 hat7)
              go_roundw
              case rel => exact ⟨k + 1, c7, t0 + 1, t1, A7, by omega, by go_num, rfl, by omega, by omega, Lib.hid (by rw [ins_yes HX.out ⟨hkk, hpt⟩, List.length_append, HT0.out]; rfl), Lib.hid (by rw [ins_no HX.out (fun e => by have := e.2; dsimp only at this; omega)]; exact HT1.out), by rw [← HVS.out, ← HVE.out]; exact ((hPu.set0 (t0 + 1)).keep ((Bl.refl _).alloc (.cells #[.int .i64 yv] 3))).next hown7 hg7 hat7⟩
              case measure => simp [intOf]; omega
            · obtain ⟨yv, hy1, hy2⟩ := HQB'.out hkk hpt
              have hlt3 := (List.getElem?_eq_some_iff.1 hy1).1
              rw [hb.length] at hlt3
              have HVE := Lib.hid (show yv = val from by rw [← HVAL.out]; unfold valV inpV; rw [if_pos hkk, if_neg (by omega), HT1.out, List.getD_eq_getElem?_getD, hy1]; rfl)
              obtain ⟨ia, iv, rfl, hib, hix, hic⟩ := (hb.keep (hbl.call hB1)).at_ hlt3
              obtain rfl := Option.some.inj (hy1.symm.trans hix)
              rw [hkk] at hX_0
              rw [hpt] at hX_4
              have hb_l := hPu.bb.lt
              have hb_f := hPu.bb.frozen
              have hb_0 := hPu.bb.cell 0 _ rfl
              have hb_1 := hPu.bb.cell 1 _ rfl
              have jt : (t1 : Int) < nb := by omega
              clear hix hy1 hy2
              go_wp2_with (at_builtin; refine ap_int rfl rfl rfl (((hPu.set1 (t1 + 1)).keep ((Bl.refl _).alloc (.cells #[.int .i64 yv] 3))).own) rfl (rd_new1 _ _ _) hk1 (Nat.le_trans hPu.bl.sz (by simp)) ?_; intro A7 c7 w9 hown7 hg7 hat7)
              go_roundw
              case rel => exact ⟨k + 1, c7, t0, t1 + 1, A7, by omega, by go_num, rfl, by omega, by omega, Lib.hid (by rw [ins_no HX.out (fun e => by have := e.2; dsimp only at this; omega)]; exact HT0.out), Lib.hid (by rw [ins_yes HX.out ⟨hkk, hpt⟩, List.length_append, HT1.out]; rfl), by rw [← HVS.out, ← HVE.out]; exact ((hPu.set1 (t1 + 1)).keep ((Bl.refl _).alloc (.cells #[.int .i64 yv] 3))).next hown7 hg7 hat7⟩
              case measure => simp [intOf]; omega
          · rw [hkk] at hX_0
            have HVE := Lib.hid (show x.vl = val from by rw [← HVAL.out]; unfold valV; rw [if_neg (by omega), if_pos hkk])
            go_wp2_with (at_builtin; refine ap_int rfl rfl rfl (((hPu).keep ((Bl.refl _).alloc (.cells #[.int .i64 x.vl] 3))).own) rfl (rd_new1 _ _ _) hk1 (Nat.le_trans hPu.bl.sz (by simp)) ?_; intro A7 c7 w9 hown7 hg7 hat7)
            go_roundw
            case rel => exact ⟨k + 1, c7, t0, t1, A7, by omega, by go_num, rfl, by omega, by omega, Lib.hid (by rw [ins_no HX.out (fun e => by have := e.1; dsimp only at this; omega)]; exact HT0.out), Lib.hid (by rw [ins_no HX.out (fun e => by have := e.1; dsimp only at this; omega)]; exact HT1.out), by rw [← HVS.out, ← HVE.out]; exact ((hPu).keep ((Bl.refl _).alloc (.cells #[.int .i64 x.vl] 3))).next hown7 hg7 hat7⟩
            case measure => simp [intOf]; omega
          · rw [hkk] at hX_0
            obtain ⟨w3, u, v, hu1, hu2, hop, hw3, hur, hvr⟩ := HVK.out.k3 hkk
            have p4 := pow_4 hw3
            have HVE := Lib.hid (show opV x.op w3 u v = val from by rw [← HVAL.out]; unfold valV; rw [if_neg (by omega), if_neg (by omega), if_pos hkk, hu1, hu2]; rfl)
            have hPr := hI.pr.rd
            rw [hu2] at hPr
            have hWr := hI.wi.rd
            rw [hu1] at hWr
            obtain rfl : j = 2 := hPr.length.symm
            obtain ⟨pa, pv0, rfl, pb0, px0, pc0⟩ := hPr.at_ (k := 0) (by omega)
            obtain rfl := Option.some.inj px0
            obtain ⟨p1a, pv1, pe1, pb1, px1, pc1⟩ := hPr.at_ (k := 1) (by omega)
            injection pe1 with pe1; subst pe1
            obtain rfl := Option.some.inj px1
            obtain ⟨qa, qv0, rfl, qb0, qx0, qc0⟩ := hWr.at_ (k := 0) (by omega)
            obtain rfl := Option.some.inj qx0
            replace pc0 := add0_cell pc0
            replace pc1 := add1_cell pc1
            replace qc0 := add0_cell qc0
            go_wp2_with fail
            refine wp_region_held_drew (S := (fun w' => w'.cell? ⟨bX, 2, none⟩ = some (.string x.op) ∧ w'.cell? qa = some (.int .i64 w3) ∧ w'.cell? pa = some (.int .i64 u) ∧ w'.cell? ⟨pa.block, pa.off + 1, none⟩ = some (.int .i64 v))) (by kernel_rfl) ?_ (fun hHeld => ?_)
            · (try dsimp only); exact ⟨hX_2, qc0, pc0, pc1⟩
            replace hPu := hPu.keep ((Bl.refl _).drew)
            replace hX_2 := Bl.cells ((Bl.refl _).drew) hX_2
            replace qc0 := Bl.cells ((Bl.refl _).drew) qc0
            replace pc0 := Bl.cells ((Bl.refl _).drew) pc0
            replace pc1 := Bl.cells ((Bl.refl _).drew) pc1
            generalize wr.drew = y0 at hPu hX_2 qc0 pc0 pc1 hHeld ⊢
            refine held_take (i := 0) (d := 91) (v := ?_) rfl rfl (by kernel_rfl) (by kernel_rfl) (by kernel_rfl) (fun _ _ _ h => h) (Or.inl ⟨by rfl, ?_⟩) (by assumption) ?_
            rotate_left
            · (intro w hSw; (try dsimp only at hSw); go_simp; (try with_reducible rfl))
            (try simp only [List.set_cons_zero, List.set_cons_succ])
            refine held_take (i := 1) (d := 92) (v := ?_) rfl rfl (by kernel_rfl) (by kernel_rfl) (by kernel_rfl) (fun _ _ _ h => h) (Or.inl ⟨by rfl, ?_⟩) (by assumption) ?_
            rotate_left
            · (intro w hSw; (try dsimp only at hSw); go_simp; (try with_reducible rfl))
            (try simp only [List.set_cons_zero, List.set_cons_succ])
            refine held_take (i := 2) (d := 93) (v := ?_) rfl rfl (by kernel_rfl) (by kernel_rfl) (by kernel_rfl) (fun _ _ _ h => h) (Or.inl ⟨by rfl, ?_⟩) (by assumption) ?_
            rotate_left
            · (intro w hSw; (try dsimp only at hSw); go_simp; (try with_reducible rfl))
            (try simp only [List.set_cons_zero, List.set_cons_succ])
            refine held_take (i := 3) (d := 94) (v := ?_) rfl rfl (by kernel_rfl) (by kernel_rfl) (by kernel_rfl) (fun _ _ _ h => h) (Or.inl ⟨by rfl, ?_⟩) (by assumption) ?_
            rotate_left
            · (intro w hSw; (try dsimp only at hSw); go_simp; (try with_reducible rfl))
            (try simp only [List.set_cons_zero, List.set_cons_succ])
            refine held_take (i := 4) (d := 95) (v := ?_) rfl rfl (by kernel_rfl) (by kernel_rfl) (by kernel_rfl) (fun _ _ _ h => h) (Or.inl ⟨by rfl, ?_⟩) (by assumption) ?_
            rotate_left
            · (intro w hSw; (try dsimp only at hSw); go_simp; (try with_reducible rfl))
            (try simp only [List.set_cons_zero, List.set_cons_succ])
            refine held_take (i := 5) (d := 96) (v := ?_) rfl rfl (by kernel_rfl) (by kernel_rfl) (by kernel_rfl) (fun _ _ _ h => h) (Or.inl ⟨by rfl, ?_⟩) (by assumption) ?_
            rotate_left
            · (intro w hSw; (try dsimp only at hSw); go_simp; (try with_reducible rfl))
            (try simp only [List.set_cons_zero, List.set_cons_succ])
            refine held_take (i := 6) (d := 97) (v := ?_) rfl rfl (by kernel_rfl) (by kernel_rfl) (by kernel_rfl) (fun _ _ _ h => h) (Or.inl ⟨by rfl, ?_⟩) (by assumption) ?_
            rotate_left
            · (intro w hSw; (try dsimp only at hSw); go_simp; (try with_reducible rfl))
            (try simp only [List.set_cons_zero, List.set_cons_succ])
            refine held_take (i := 7) (d := 98) (v := ?_) rfl rfl (by kernel_rfl) (by kernel_rfl) (by kernel_rfl) (fun _ _ _ h => h) (Or.inl ⟨by rfl, ?_⟩) (by assumption) ?_
            rotate_left
            · (intro w hSw; (try dsimp only at hSw); go_simp; (try with_reducible rfl))
            (try simp only [List.set_cons_zero, List.set_cons_succ])
            refine held_take (i := 8) (d := 99) (v := ?_) rfl rfl (by kernel_rfl) (by kernel_rfl) (by kernel_rfl) (fun _ _ _ h => h) (Or.inl ⟨by rfl, ?_⟩) (by assumption) ?_
            rotate_left
            · (intro w hSw; (try dsimp only at hSw); go_simp; (try with_reducible rfl))
            (try simp only [List.set_cons_zero, List.set_cons_succ])
            refine held_take (i := 9) (d := 100) (v := ?_) rfl rfl (by kernel_rfl) (by kernel_rfl) (by kernel_rfl) (fun _ _ _ h => h) (Or.inl ⟨by rfl, ?_⟩) (by assumption) ?_
            rotate_left
            · (intro w hSw; (try dsimp only at hSw); go_simp; (try with_reducible rfl))
            (try simp only [List.set_cons_zero, List.set_cons_succ])
            refine held_take (i := 10) (d := 101) (v := ?_) rfl rfl (by kernel_rfl) (by kernel_rfl) (by kernel_rfl) (fun _ _ _ h => h) (Or.inl ⟨by rfl, ?_⟩) (by assumption) ?_
            rotate_left
            · (intro w hSw; (try dsimp only at hSw); go_simp; (try with_reducible rfl))
            (try simp only [List.set_cons_zero, List.set_cons_succ])
            refine wpAnyH_ready (rs := [11]) (by kernel_rfl) (by simp) ?_
            refine AllReadyH.cons rfl (fun K hK => ?_) AllReadyH.nil
            go_simp
            refine (impl_operate x.op hop w3 u v hw3 (by omega) (by omega) _).mono ?_; rintro e v8 ⟨rfl, rfl⟩
            go_wp2_with fail
            refine hK.out _ _ ?_ (fun hHeld => ?_)
            · (try dsimp only); exact ⟨hX_2, qc0, pc0, pc1⟩
            clear hK K
            (try simp only [Act.put]); (try simp only [List.setIfInBounds_toArray]); (try simp only [List.set_cons_succ]); (try simp only [List.set_cons_zero])
            refine held_take (i := 12) (d := 18) (v := ?_) rfl rfl (by kernel_rfl) (by kernel_rfl) (by kernel_rfl) (fun _ _ _ h => h) (Or.inl ⟨by rfl, ?_⟩) (by assumption) ?_
            rotate_left
            · (intro w hSw; (try dsimp only at hSw); go_simp; (try with_reducible rfl))
            (try simp only [List.set_cons_zero, List.set_cons_succ])
            refine wpAnyH_done (by kernel_rfl) ?_ _
            go_wp2_with (at_builtin; refine ap_int rfl rfl rfl (((hPu).keep ((Bl.refl _).alloc (.cells #[.int .i64 (opV x.op w3 u v)] 3))).own) rfl (rd_new1 _ _ _) hk1 (Nat.le_trans hPu.bl.sz (by simp)) ?_; intro A7 c7 w9 hown7 hg7 hat7)
            go_roundw
            case rel => exact ⟨k + 1, c7, t0, t1, A7, by omega, by go_num, rfl, by omega, by omega, Lib.hid (by rw [ins_no HX.out (fun e => by have := e.1; dsimp only at this; omega)]; exact HT0.out), Lib.hid (by rw [ins_no HX.out (fun e => by have := e.1; dsimp only at this; omega)]; exact HT1.out), by rw [← HVS.out, ← HVE.out]; exact ((hPu).keep ((Bl.refl _).alloc (.cells #[.int .i64 (opV x.op w3 u v)] 3))).next hown7 hg7 hat7⟩
            case measure => simp [intOf]; omega
          · rw [hkk] at hX_0
            obtain ⟨w3, u, hu1, hu2, hw3, hur⟩ := HVK.out.k4 hkk
            have HSH := shW hw3
            obtain ⟨M, hM⟩ : ∃ M, (2 : Int) ^ w3.toNat - 1 = M := ⟨_, rfl⟩
            rw [hM] at HSH hur
            have HVE := Lib.hid (show M - u = val from by rw [← HVAL.out]; unfold valV; rw [if_neg (by omega), if_neg (by omega), if_neg (by omega), if_pos hkk, hu1, hu2, ← hM]; rfl)
            have hM10 : M ≤ 1023 := by have h1 := inR_iff.1 hw3; rw [← hM]; rcases (by omega : w3 = 1 ∨ w3 = 2 ∨ w3 = 3 ∨ w3 = 4 ∨ w3 = 5 ∨ w3 = 6 ∨ w3 = 7 ∨ w3 = 8 ∨ w3 = 9 ∨ w3 = 10) with e | e | e | e | e | e | e | e | e | e <;> rw [e] <;> decide
            have hPr := hI.pr.rd
            rw [hu2] at hPr
            have hWr := hI.wi.rd
            rw [hu1] at hWr
            obtain rfl : j = 1 := hPr.length.symm
            obtain ⟨pa, pv0, rfl, pb0, px0, pc0⟩ := hPr.at_ (k := 0) (by omega)
            obtain rfl := Option.some.inj px0
            obtain ⟨qa, qv0, rfl, qb0, qx0, qc0⟩ := hWr.at_ (k := 0) (by omega)
            obtain rfl := Option.some.inj qx0
            replace pc0 := add0_cell pc0
            replace qc0 := add0_cell qc0
            clear hM
            have hwr := wr_sub hur.1 hur.2 hM10
            go_wp2_with fail
            refine wp_region_held_drew (S := (fun w' => w'.cell? qa = some (.int .i64 w3) ∧ w'.cell? pa = some (.int .i64 u))) (by kernel_rfl) ?_ (fun hHeld => ?_)
            · (try dsimp only); exact ⟨qc0, pc0⟩
            replace hPu := hPu.keep ((Bl.refl _).drew)
            replace qc0 := Bl.cells ((Bl.refl _).drew) qc0
            replace pc0 := Bl.cells ((Bl.refl _).drew) pc0
            generalize wr.drew = y0 at hPu qc0 pc0 hHeld ⊢
            refine held_take (i := 0) (d := 105) (v := ?_) rfl rfl (by kernel_rfl) (by kernel_rfl) (by kernel_rfl) (fun _ _ _ h => h) (Or.inl ⟨by rfl, ?_⟩) (by assumption) ?_
            rotate_left
            · (intro w hSw; (try dsimp only at hSw); go_simp; (try with_reducible rfl))
            (try simp only [List.set_cons_zero, List.set_cons_succ])
            refine held_take (i := 1) (d := 106) (v := ?_) rfl rfl (by kernel_rfl) (by kernel_rfl) (by kernel_rfl) (fun _ _ _ h => h) (Or.inl ⟨by rfl, ?_⟩) (by assumption) ?_
            rotate_left
            · (intro w hSw; (try dsimp only at hSw); go_simp; (try with_reducible rfl))
            (try simp only [List.set_cons_zero, List.set_cons_succ])
            refine held_take (i := 2) (d := 107) (v := ?_) rfl rfl (by kernel_rfl) (by kernel_rfl) (by kernel_rfl) (fun _ _ _ h => h) (Or.inl ⟨by rfl, ?_⟩) (by assumption) ?_
            rotate_left
            · (intro w hSw; (try dsimp only at hSw); go_simp; (try with_reducible rfl))
            (try simp only [List.set_cons_zero, List.set_cons_succ])
            refine held_take (i := 3) (d := 108) (v := ?_) rfl rfl (by kernel_rfl) (by kernel_rfl) (by kernel_rfl) (fun _ _ _ h => h) (Or.inl ⟨by rfl, ?_⟩) (by assumption) ?_
            rotate_left
            · (intro w hSw; (try dsimp only at hSw); go_simp; (try with_reducible rfl))
            (try simp only [List.set_cons_zero, List.set_cons_succ])
            refine held_take (i := 4) (d := 109) (v := ?_) rfl rfl (by kernel_rfl) (by kernel_rfl) (by kernel_rfl) (fun _ _ _ h => h) (Or.inl ⟨by rfl, ?_⟩) (by assumption) ?_
            rotate_left
            · (intro w hSw; (try dsimp only at hSw); go_simp; (try with_reducible rfl))
            (try simp only [List.set_cons_zero, List.set_cons_succ])
            refine held_take (i := 5) (d := 110) (v := ?_) rfl rfl (by kernel_rfl) (by kernel_rfl) (by kernel_rfl) (fun _ _ _ h => h) (Or.inl ⟨by rfl, ?_⟩) (by assumption) ?_
            rotate_left
            · (intro w hSw; (try dsimp only at hSw); go_simp; (try with_reducible rfl))
            (try simp only [List.set_cons_zero, List.set_cons_succ])
            refine held_take (i := 6) (d := 111) (v := ?_) rfl rfl (by kernel_rfl) (by kernel_rfl) (by kernel_rfl) (fun _ _ _ h => h) (Or.inl ⟨by rfl, ?_⟩) (by assumption) ?_
            rotate_left
            · (intro w hSw; (try dsimp only at hSw); go_simp; (try with_reducible rfl))
            (try simp only [List.set_cons_zero, List.set_cons_succ])
            refine held_take (i := 7) (d := 112) (v := ?_) rfl rfl (by kernel_rfl) (by kernel_rfl) (by kernel_rfl) (fun _ _ _ h => h) (Or.inl ⟨by rfl, ?_⟩) (by assumption) ?_
            rotate_left
            · (intro w hSw; (try dsimp only at hSw); go_simp; (try with_reducible rfl))
            (try simp only [List.set_cons_zero, List.set_cons_succ])
            refine held_take (i := 8) (d := 113) (v := ?_) rfl rfl (by kernel_rfl) (by kernel_rfl) (by kernel_rfl) (fun _ _ _ h => h) (Or.inl ⟨by rfl, ?_⟩) (by assumption) ?_
            rotate_left
            · (intro w hSw; (try dsimp only at hSw); go_simp; (try with_reducible rfl))
            (try simp only [List.set_cons_zero, List.set_cons_succ])
            refine held_take (i := 9) (d := 114) (v := ?_) rfl rfl (by kernel_rfl) (by kernel_rfl) (by kernel_rfl) (fun _ _ _ h => h) (Or.inl ⟨by rfl, ?_⟩) (by assumption) ?_
            rotate_left
            · (intro w hSw; (try dsimp only at hSw); go_simp; (try with_reducible rfl))
            (try simp only [List.set_cons_zero, List.set_cons_succ])
            refine held_take (i := 10) (d := 18) (v := ?_) rfl rfl (by kernel_rfl) (by kernel_rfl) (by kernel_rfl) (fun _ _ _ h => h) (Or.inl ⟨by rfl, ?_⟩) (by assumption) ?_
            rotate_left
            · (intro w hSw; (try dsimp only at hSw); go_simp; (try with_reducible rfl))
            (try simp only [List.set_cons_zero, List.set_cons_succ])
            refine wpAnyH_done (by kernel_rfl) ?_ _
            go_wp2_with (at_builtin; refine ap_int rfl rfl rfl (((hPu).keep ((Bl.refl _).alloc _)).own) rfl (rd_new1 _ _ _) hk1 (Nat.le_trans hPu.bl.sz (by simp)) ?_; intro A7 c7 w9 hown7 hg7 hat7; (try simp only [HSH, hwr] at hown7 hg7 hat7))
            go_roundw
            case rel => clear HSH hwr hM10 hur; exact ⟨k + 1, c7, t0, t1, A7, by omega, by go_num, rfl, by omega, by omega, Lib.hid (by rw [ins_no HX.out (fun e => by have := e.1; dsimp only at this; omega)]; exact HT0.out), Lib.hid (by rw [ins_no HX.out (fun e => by have := e.1; dsimp only at this; omega)]; exact HT1.out), by rw [← HVS.out, ← HVE.out]; exact ((hPu).keep ((Bl.refl _).alloc (.cells #[.int .i64 (M - u)] 3))).next hown7 hg7 hat7⟩
            case measure => clear HSH hwr hM10 hur; simp [intOf]; omega
          · rw [hkk] at hX_0
            obtain ⟨s5, u, v, hu, hs5⟩ := HVK.out.k5 hkk
            have hPr := hI.pr.rd
            rw [hu] at hPr
            obtain rfl : j = 3 := hPr.length.symm
            obtain ⟨pa, pv0, rfl, pb0, px0, pc0⟩ := hPr.at_ (k := 0) (by omega)
            obtain rfl := Option.some.inj px0
            obtain ⟨p1a, pv1, pe1, pb1, px1, pc1⟩ := hPr.at_ (k := 1) (by omega)
            injection pe1 with pe1; subst pe1
            obtain rfl := Option.some.inj px1
            obtain ⟨p2a, pv2, pe2, pb2, px2, pc2⟩ := hPr.at_ (k := 2) (by omega)
            injection pe2 with pe2; subst pe2
            obtain rfl := Option.some.inj px2
            replace pc0 := add0_cell pc0
            replace pc1 := add1_cell pc1
            replace pc2 := add2_cell pc2
            rcases hs5 with rfl | rfl
            · have HVE := Lib.hid (show v = val from by rw [← HVAL.out]; unfold valV; rw [if_neg (by omega), if_neg (by omega), if_neg (by omega), if_neg (by omega), if_pos hkk, hu]; rfl)
              go_wp2_with (at_builtin; refine ap_int rfl rfl rfl (((hPu).keep ((Bl.refl _).alloc (.cells #[.int .i64 v] 3))).own) rfl (rd_new1 _ _ _) hk1 (Nat.le_trans hPu.bl.sz (by simp)) ?_; intro A7 c7 w9 hown7 hg7 hat7)
              go_roundw
              case rel => exact ⟨k + 1, c7, t0, t1, A7, by omega, by go_num, rfl, by omega, by omega, Lib.hid (by rw [ins_no HX.out (fun e => by have := e.1; dsimp only at this; omega)]; exact HT0.out), Lib.hid (by rw [ins_no HX.out (fun e => by have := e.1; dsimp only at this; omega)]; exact HT1.out), by rw [← HVS.out, ← HVE.out]; exact ((hPu).keep ((Bl.refl _).alloc (.cells #[.int .i64 v] 3))).next hown7 hg7 hat7⟩
              case measure => simp [intOf]; omega
            · have HVE := Lib.hid (show u = val from by rw [← HVAL.out]; unfold valV; rw [if_neg (by omega), if_neg (by omega), if_neg (by omega), if_neg (by omega), if_pos hkk, hu]; rfl)
              go_wp2_with (at_builtin; refine ap_int rfl rfl rfl (((hPu).keep ((Bl.refl _).alloc (.cells #[.int .i64 u] 3))).own) rfl (rd_new1 _ _ _) hk1 (Nat.le_trans hPu.bl.sz (by simp)) ?_; intro A7 c7 w9 hown7 hg7 hat7)
              go_roundw
              case rel => exact ⟨k + 1, c7, t0, t1, A7, by omega, by go_num, rfl, by omega, by omega, Lib.hid (by rw [ins_no HX.out (fun e => by have := e.1; dsimp only at this; omega)]; exact HT0.out), Lib.hid (by rw [ins_no HX.out (fun e => by have := e.1; dsimp only at this; omega)]; exact HT1.out), by rw [← HVS.out, ← HVE.out]; exact ((hPu).keep ((Bl.refl _).alloc (.cells #[.int .i64 u] 3))).next hown7 hg7 hat7⟩
              case measure => simp [intOf]; omega
          · rw [hkk] at hX_0
            obtain ⟨u, hu⟩ := HVK.out.k6 hkk
            have HVE := Lib.hid (show u = val from by rw [← HVAL.out]; unfold valV; rw [if_neg (by omega), if_neg (by omega), if_neg (by omega), if_neg (by omega), if_neg (by omega), hu]; rfl)
            have hPr := hI.pr.rd
            rw [hu] at hPr
            obtain rfl : j = 1 := hPr.length.symm
            obtain ⟨pa, pv0, rfl, pb0, px0, pc0⟩ := hPr.at_ (k := 0) (by omega)
            obtain rfl := Option.some.inj px0
            replace pc0 := add0_cell pc0
            go_wp2_with (at_builtin; refine ap_int rfl rfl rfl (((hPu).keep ((Bl.refl _).alloc (.cells #[.int .i64 u] 3))).own) rfl (rd_new1 _ _ _) hk1 (Nat.le_trans hPu.bl.sz (by simp)) ?_; intro A7 c7 w9 hown7 hg7 hat7)
            go_roundw
            case rel => exact ⟨k + 1, c7, t0, t1, A7, by omega, by go_num, rfl, by omega, by omega, Lib.hid (by rw [ins_no HX.out (fun e => by have := e.1; dsimp only at this; omega)]; exact HT0.out), Lib.hid (by rw [ins_no HX.out (fun e => by have := e.1; dsimp only at this; omega)]; exact HT1.out), by rw [← HVS.out, ← HVE.out]; exact ((hPu).keep ((Bl.refl _).alloc (.cells #[.int .i64 u] 3))).next hown7 hg7 hat7⟩
            case measure => simp [intOf]; omega
    · obtain rfl : k = n := by omega
      have j1 : ¬ (k : Int) < k := by omega
      go_wp2_with fail
      go_ret
      exact ⟨A2, c2, rfl, by have := hP.own; rw [List.take_of_length_le (by omega)] at this; exact OwnI.mono this hb1.sz, hbl⟩
end Go.Proofs.YtdndkkaacfbkkaaGreatDoor
