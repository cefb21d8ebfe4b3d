/- Contracts of the reference's values of all lines of a valid program.
   Conditions: inputs of the program. -/
import Derived.Test.YtdndkkaacfbkkaaGreatDoorPsj
namespace Go.Proofs.YtdndkkaacfbkkaaGreatDoor
open Go.RowKit
set_option linter.unusedVariables false
theorem fnd_take {s : ByteArray} : ∀ {L : List Ln} {k i : Nat}, 0 ≤ fnd s (L.take k) i → fnd s L i = fnd s (L.take k) i
  | [], k, i, _ => by simp
  | x :: r, 0, i, h => by simp [fnd] at h
  | x :: r, k + 1, i, h => by
    rw [List.take_succ_cons] at h ⊢
    rw [fnd] at h
    rw [fnd, fnd]
    split
    · rfl
    · rename_i hn
      rw [if_neg hn] at h
      exact fnd_take h
theorem fndL_take {L : List Ln} {k : Nat} {s : ByteArray} (h : 0 ≤ fndL (L.take k) s) : fndL L s = fndL (L.take k) s := fnd_take h
/-- The rest of a row behind its first number. -/
theorem RdI.rest {w : World} {ad : Addr} {n c : Nat} {l : List Int} (h : RdI w (some ad) n c l) (h1 : 1 ≤ n) : RdI w (if c = 1 then some ad else some (ad.add 1)) (n - 1) (c - 1) (l.drop 1) := by
  have hl := h.length
  refine ⟨by simp [hl], by have := h.cap; omega, by have := h.max; unfold maxLen at *; omega, fun hn => ?_⟩
  obtain ⟨ad', e, hb, hc⟩ := h.at0 (by omega)
  injection e with e; subst e
  have hcn := h.cap
  rw [if_neg (by omega)]
  refine ⟨ad.add 1, rfl, by rw [block_of_add]; exact hb, fun j u hu => ?_⟩
  have hadd : (ad.add 1).add j = ad.add (1 + j) := by cases j with | zero => rfl | succ j => unfold Addr.add; simp; omega
  rw [hadd]
  refine hc (1 + j) u ?_
  rw [← hu]
  simp [ints, Nat.add_comm]
set_option maxRecDepth 20000 in
set_option maxHeartbeats 4000000 in
theorem spec_laValues (A : Option Addr) (n c : Nat) (l : List (Hd × Ln)) (ws : List Int) (Aa Ab : Option Addr) (na ca nb cb : Nat) (a b : List Int) (w : World) (h : RdL w A n c l) (hg : goodB (l.map (·.2)) = true) (hws : wdsL (l.map (·.2)) = some ws) (hw4 : okW (l.map (·.2)) ws = true) (hq : askR (l.map (·.2)) a b = true) (ha : RdI w Aa na ca a) (hb : RdI w Ab nb cb b) :
    Calls Tryz.prog 58 #[.slice A n c, .slice Aa na ca, .slice Ab nb cb] w fun e w' => ∃ A' c', e = .returned (.slice A' n c') ∧ OwnI w.heap.size w' A' n c' (evL ws (l.map (·.2)) a b) ∧ Bl w w' := by
  obtain ⟨hle1, hle2⟩ := h.le
  have hlen := Lib.hid h.len
  obtain ⟨ws', hws', g1, g2, _⟩ := goodB_at hg
  obtain rfl : ws = ws' := by rw [hws] at hws'; injection hws'
  obtain ⟨i1, i2⟩ := wdsL_in hws
  obtain ⟨e1, e2⟩ := evL_in ws (l.map (·.2)) a b
  have hbd := evL_bd hg hws hw4 hq
  rw [List.length_map, h.len] at i1 g1 e1 hbd
  have IW := Lib.hid (fun w h => spec_laWidths A n c l ws w h (by omega) hws)
  have HI := Lib.hid i2
  have HE := Lib.hid e2
  have HG := Lib.hid g2
  have HBD := Lib.hid (hbd n (Nat.le_refl _))
  have HOW := Lib.hid (fun (i : Nat) x => okW_at hw4 (i := i) (x := x))
  unfold askR at hq
  rw [Bool.and_eq_true] at hq
  have HQA := Lib.hid (fun (k : Nat) (x : Ln) (h1 : (l.map (·.2))[k]? = some x) (h2 : x.k = 1) (h3 : x.pt = 0) => fitR_at hq.1 _ _ (insL_at h1 h2 h3))
  have HQB := Lib.hid (fun (k : Nat) (x : Ln) (h1 : (l.map (·.2))[k]? = some x) (h2 : x.k = 1) (h3 : x.pt = 1) => fitR_at hq.2 _ _ (insL_at h1 h2 h3))
  obtain ⟨V, hV⟩ : ∃ V, evL ws (l.map (·.2)) a b = V := ⟨_, rfl⟩
  rw [hV] at HE HBD e1 ⊢
  clear hV g2 i2 e2 hbd hg hws hw4 hq hws'
  go_enter Tryz.func58, Tryz.ntmps58
  go_wp2_with fail
  refine (IW.out _ h).mono ?_
  rintro e w1 ⟨D, d, rfl, hwsO, hb1⟩
  have hD := hwsO.rd
  have hDle := hD.le
  have hw1 := hb1.sz
  have hown0 := OwnI.nil w1.heap.size w1
  go_wp2_with fail
  go_loopw [1, 2, 8, 20] (fun av bv o i wr => ∃ (k c2 t0 t1 n0 q0 n1 q1 : Nat) (A2 B0 B1 : Option Addr), k ≤ n ∧ i = .int .i64 (k : Nat) ∧ o = .slice A2 k c2 ∧ av = .slice B0 n0 q0 ∧ bv = .slice B1 n1 q1 ∧ RdI w B0 n0 q0 (a.drop t0) ∧ RdI w B1 n1 q1 (b.drop t1) ∧ Hid ((insL ((l.take k).map (·.2)) 0).length = t0) ∧ Hid ((insL ((l.take k).map (·.2)) 1).length = t1) ∧ OwnI w1.heap.size wr A2 k c2 (V.take k) ∧ Bl w1 wr) (fun _ _ _ i _ => n - (intOf i).toNat)
  case atStart => exact ⟨0, 0, 0, 0, _, _, _, _, _, _, _, by omega, rfl, rfl, rfl, rfl, ha, hb, Lib.hid rfl, Lib.hid rfl, hown0, Bl.refl _⟩
  case round =>
    clear hown0
    obtain ⟨k, c2, t0, t1, n0, q0, n1, q1, A2, B0, B1, hk, rfl, rfl, rfl, rfl, hra, hrb, HT0, HT1, hown, hB⟩ := hrel
    have hbl := hb1.call hB
    have hl := h.keep hbl
    by_cases hlt : k < n
    · obtain ⟨ad, ⟨⟨C, m, cc⟩, x⟩, rfl, hadb, hx, hps, c0, c1, c2_, c3_, c4, c5, c6⟩ := hl.at_ hlt
      dsimp only at hps c0 c1 c2_ c3_ c4 c5 c6
      have hxL : (l.map (·.2))[k]? = some x := by rw [List.getElem?_map, hx]; rfl
      obtain ⟨v, hv, HV0⟩ := HI.out k x hxL
      have hev := HE.out k x hxL
      have hwl : (ws.take k).length = ((l.map (·.2)).take k).length := by rw [List.length_take, List.length_take, i1, List.length_map, hlen.out]
      have hvk := vk_of (vals := V.take k) HV0 hwl (HOW.out k x hxL) (fun u hu => List.all_eq_true.1 HG.out u (List.mem_of_mem_take hu)) (fun r hr => by
        rw [List.length_take, i1] at hr
        rw [getD_take (by omega), getD_take (by omega)]
        exact HBD.out r (by omega))
      have hm3 := wdO_len HV0
      rw [hps.length] at hm3
      obtain ⟨k1w, hfn⟩ := wdO_in HV0
      have HQA' := Lib.hid (HQA.out k x hxL)
      have HQB' := Lib.hid (HQB.out k x hxL)
      have HF := Lib.hid hfn
      have HX := Lib.hid hx
      obtain ⟨val, hval⟩ : ∃ q, valV ((l.map (·.2)).take k) (ws.take k) (V.take k) (inpV a b ((l.map (·.2)).take k) x) x = q := ⟨_, rfl⟩
      rw [hval] at hev
      have HVS := Lib.hid (show V.take k ++ [val] = V.take (k + 1) by rw [List.take_add_one, hev]; rfl)
      have HVAL := Lib.hid hval
      have HVK := Lib.hid hvk
      clear HV0 hfn hx hxL hev hval k1w hvk hv hwl
      have hpt0 : ((l.map (·.2)).take k) = ((l.take k).map (·.2)) := map_take_
      rw [hpt0] at HF HVAL HVK HQA' HQB'
      rw [HT0.out] at HQA'
      rw [HT1.out] at HQB'
      clear hpt0
      have j1 : (k : Int) < n := by omega
      have hX := Blk.new wr 70 #[.int .i64 x.k, .string x.nm, .string x.op, .slice C m cc, .int .i64 x.pt, .int .i64 x.wd, .int .i64 x.vl] (g := wr.heap.size)
      have hV := (Bl.refl wr).alloc (.cells #[.int .i64 x.k, .string x.nm, .string x.op, .slice C m cc, .int .i64 x.pt, .int .i64 x.wd, .int .i64 x.vl] 70)
      go_wp2_with fail
      generalize wr.alloc (.cells #[.int .i64 x.k, .string x.nm, .string x.op, .slice C m cc, .int .i64 x.pt, .int .i64 x.wd, .int .i64 x.vl] 70) = u1 at hX hV ⊢
      generalize hbX : wr.heap.size = bX at hX ⊢
      have hpn := hps.length
      have hgX : w1.heap.size ≤ bX := by rw [← hbX]; exact hB.sz
      have hA2 : ∀ q, A2.map (·.block) = some q → q < bX := fun q hq => by rw [← hbX]; exact (hown.blk q hq).2
      have hP0 := OwnI.nil (bX + 1) u1
      go_loopw [11, 12, 27] (fun o wv i wq => ∃ (j c3 : Nat) (z : Int) (A3 : Option Addr), j ≤ m ∧ i = .int .i64 (j : Nat) ∧ o = .slice A3 j c3 ∧ wv = .int .i64 z ∧ Hid (j = 0 ∨ z = (pws ((l.take k).map (·.2)) (ws.take k) x.ps).getD (j - 1) 0) ∧ OwnI (bX + 1) wq A3 j c3 ((pws ((l.take k).map (·.2)) (V.take k) x.ps).take j) ∧ Blk wq bX 70 #[.int .i64 x.k, .string x.nm, .string x.op, .slice C m cc, .int .i64 x.pt, .int .i64 x.wd, .int .i64 x.vl] ∧ Bl wr wq) (fun _ _ i _ => m - (intOf i).toNat)
      case atStart => exact ⟨0, 0, 0, _, by omega, rfl, rfl, rfl, Lib.hid (.inl rfl), hP0, hX, hV⟩
      case round =>
        clear hP0 hX
        obtain ⟨j, c3, z, A3, hj, rfl, rfl, rfl, HZ, hP, hX, hB1⟩ := hrel
        by_cases hlt2 : j < m
        · obtain ⟨ap, s, rfl, hasb, hsx, hsc⟩ := (hps.keep hB1).at_ hlt2
          have hs2 := List.mem_of_getElem? hsx
          have hf0 := HF.out s hs2
          have hfl := fndL_lt ((l.take k).map (·.2)) s
          rw [List.length_map, List.length_take, hlen.out, Nat.min_eq_left hk] at hfl
          obtain ⟨q, hq⟩ : ∃ q : Nat, fndL ((l.take k).map (·.2)) s = (q : Int) := ⟨(fndL ((l.take k).map (·.2)) s).toNat, by omega⟩
          have hqk : q < k := by omega
          have hfL : fndL (l.map (·.2)) s = (q : Int) := by
            have := fndL_take (L := l.map (·.2)) (k := k) (s := s) (by rw [map_take_]; exact hf0)
            rw [this, map_take_, hq]
          obtain ⟨bd, v9, rfl, hbdb, hx9, hco⟩ := (hown.rd.keep hB1).at_ hqk
          obtain ⟨ld, u9, rfl, hldb, hy9, hcl⟩ := hD.at_ (k := q) (by omega)
          have hldX : ld.block < bX := by omega
          replace hcl := Bl.cells (hB.call hB1) hcl
          have HPS := Lib.hid (pws_step hsx hq hx9)
          have HPW := Lib.hid (show (pws ((l.take k).map (·.2)) (ws.take k) x.ps).getD j 0 = u9 by
            have := pws_step hsx hq (show (ws.take k)[q]? = some u9 by rw [List.getElem?_take_of_lt hqk]; exact hy9)
            have h2 := congrArg (fun t => t[j]?) this
            have hjl : j < (pws ((l.take k).map (·.2)) (ws.take k) x.ps).length := by unfold pws; rw [List.length_map, hpn]; exact hlt2
            rw [List.getElem?_append_right (by rw [List.length_take]; omega), List.length_take, Nat.min_eq_left (by omega), Nat.sub_self, List.getElem?_take_of_lt (by omega)] at h2
            rw [List.getD_eq_getElem?_getD, ← h2]; rfl)
          have HFL := Lib.hid hfL
          clear hsx hs2 hf0 hfl hq hx9 hy9 hfL
          have hX_l := hX.lt
          have hX_3 := hX.cell 3 _ rfl
          have j2 : (j : Int) < m := by omega
          have hqn : (q : Int) < n := by omega
          have hqk2 : (q : Int) < k := by omega
          go_wp2_with fail
          refine (spec_laFind (some ad) n c l s _ (hl.keep hB1)).mono ?_
          rintro e v5 ⟨rfl, hb5⟩
          rw [HFL.out]
          replace hP := hP.keep hb5
          replace hX := hX.keep hb5
          replace hB1 := hB1.call hb5
          replace hco := Bl.cells hb5 hco
          replace hcl := Bl.cells hb5 hcl
          clear hX_l hX_3 hsc hb5
          have hbd5 : bd.block < v5.heap.size := World.block_lt_of_cell? v5 _ hco |> fun h => by rwa [block_of_add] at h
          go_wp2_with (at_builtin; refine ap_int rfl rfl rfl (hP.keep ((Bl.refl _).alloc (.cells #[.int .i64 v9] 3))) rfl (rd_new1 _ _ _) (by omega) (by have := hX.lt; simp; omega) ?_; intro A4 c4 w8 hown4 hg4 hat4)
          have hne4 : ∀ q, A3.map (·.block) = some q → bX + 1 ≤ q := fun q hq => (hP.blk q hq).1
          have hX8 := (hX.alloc (.cells #[.int .i64 v9] 3)).grown hg4 (fun e => by have := hne4 _ e.symm; omega)
          have hB8 := Bl.grown (hB1.alloc (.cells #[.int .i64 v9] 3)) hg4 (fun q hq => by have := hne4 q hq; omega)
          refine (spec_laFind (some ad) n c l s _ (hl.keep hB8)).mono ?_
          rintro e v9' ⟨rfl, hb9⟩
          rw [HFL.out]
          have hcl9 := Bl.cells hb9 (hg4.cell (Bl.cells ((Bl.refl _).alloc (.cells #[.int .i64 v9] 3)) hcl) (fun e => by have := hne4 _ e.symm; rw [block_of_add] at this; omega))
          have hld9 : ld.block < v9'.heap.size := World.block_lt_of_cell? v9' _ hcl9 |> fun h => by rwa [block_of_add] at h
          have hX_l := (hX8.keep hb9).lt
          go_wp2_with fail
          go_roundw
          case rel => exact ⟨j + 1, c4, u9, A4, by omega, by go_num, rfl, rfl, Lib.hid (.inr (by rw [Nat.add_sub_cancel, HPW.out])), by rw [← HPS.out]; exact hown4.keep hb9, hX8.keep hb9, hB8.call hb9⟩
          case measure => simp [intOf]; omega
        · obtain rfl : j = m := by omega
          have tP : (pws ((l.take k).map (·.2)) (V.take k) x.ps).take j = pws ((l.take k).map (·.2)) (V.take k) x.ps := List.take_of_length_le (by unfold pws; rw [List.length_map, hpn]; exact Nat.le_refl _)
          rw [tP] at hP
          clear tP
          have hO := hown.keep hB1
          have hOb := hB.call hB1
          have hX_l := hX.lt
          have hX_0 := hX.cell 0 _ rfl
          have hX_2 := hX.cell 2 _ rfl
          have hX_4 := hX.cell 4 _ rfl
          have hX_6 := hX.cell 6 _ rfl
          have j2 : ¬ (j : Int) < j := by omega
          have hk1 : k + 1 ≤ 17592186044415 := by omega
          rcases HVK.out.k with hkk | hkk | hkk | hkk | hkk | hkk
          · rcases HVK.out.k1 hkk with hpt | hpt
            · obtain ⟨yv, hy1, hy2⟩ := HQA'.out hkk hpt
              have hlt3 := (List.getElem?_eq_some_iff.1 hy1).1
              have hn1 : 1 ≤ n0 := by have := hra.length; rw [List.length_drop] at this; omega
              have hcq := hra.le.1
              have HVE := Lib.hid (show yv = val from by rw [← HVAL.out]; unfold valV inpV; rw [if_pos hkk, if_pos hpt, HT0.out, List.getD_eq_getElem?_getD, hy1]; rfl)
              obtain ⟨ia, iv, rfl, hib, hix, hic⟩ := hra.at_ (k := 0) (by omega)
              rw [List.getElem?_drop, Nat.add_zero] at hix
              obtain rfl := Option.some.inj (hy1.symm.trans hix)
              replace hic := Bl.cells (hbl.call hB1) (add0_cell hic)
              have hib2 := Nat.lt_of_lt_of_le hib (hbl.call hB1).sz
              have hrest := RdI.rest hra hn1
              rw [List.drop_drop] at hrest
              rw [hkk] at hX_0
              rw [hpt] at hX_4
              clear hix hy1 hy2 hib
              go_wp2_with (at_builtin; refine ap_int rfl rfl rfl (hO.keep ((Bl.refl _).alloc (.cells #[.int .i64 yv] 3))) rfl (rd_new1 _ _ _) hk1 (Nat.le_trans hOb.sz (by simp)) ?_; intro A7 c7 w9 hown7 hg7 hat7)
              go_roundw
              case rel => exact ⟨k + 1, c7, t0 + 1, t1, _, _, _, _, A7, _, _, by omega, by go_num, rfl, rfl, rfl, hrest, hrb, Lib.hid (by rw [ins_yes HX.out ⟨hkk, hpt⟩, List.length_append, HT0.out]; rfl), Lib.hid (by rw [ins_no HX.out (fun e => by have := e.2; dsimp only at this; omega)]; exact HT1.out), by rw [← HVS.out, ← HVE.out]; exact hown7, Bl.grown (hOb.alloc (.cells #[.int .i64 yv] 3)) hg7 (fun q hq => (hown.blk q hq).1)⟩
              case measure => simp [intOf]; omega
            · obtain ⟨yv, hy1, hy2⟩ := HQB'.out hkk hpt
              have hlt3 := (List.getElem?_eq_some_iff.1 hy1).1
              have hn1 : 1 ≤ n1 := by have := hrb.length; rw [List.length_drop] at this; omega
              have hcq := hrb.le.1
              have HVE := Lib.hid (show yv = val from by rw [← HVAL.out]; unfold valV inpV; rw [if_pos hkk, if_neg (by omega), HT1.out, List.getD_eq_getElem?_getD, hy1]; rfl)
              obtain ⟨ia, iv, rfl, hib, hix, hic⟩ := hrb.at_ (k := 0) (by omega)
              rw [List.getElem?_drop, Nat.add_zero] at hix
              obtain rfl := Option.some.inj (hy1.symm.trans hix)
              replace hic := Bl.cells (hbl.call hB1) (add0_cell hic)
              have hib2 := Nat.lt_of_lt_of_le hib (hbl.call hB1).sz
              have hrest := RdI.rest hrb hn1
              rw [List.drop_drop] at hrest
              rw [hkk] at hX_0
              rw [hpt] at hX_4
              clear hix hy1 hy2 hib
              go_wp2_with (at_builtin; refine ap_int rfl rfl rfl (hO.keep ((Bl.refl _).alloc (.cells #[.int .i64 yv] 3))) rfl (rd_new1 _ _ _) hk1 (Nat.le_trans hOb.sz (by simp)) ?_; intro A7 c7 w9 hown7 hg7 hat7)
              go_roundw
              case rel => exact ⟨k + 1, c7, t0, t1 + 1, _, _, _, _, A7, _, _, by omega, by go_num, rfl, rfl, rfl, hra, hrest, Lib.hid (by rw [ins_no HX.out (fun e => by have := e.2; dsimp only at this; omega)]; exact HT0.out), Lib.hid (by rw [ins_yes HX.out ⟨hkk, hpt⟩, List.length_append, HT1.out]; rfl), by rw [← HVS.out, ← HVE.out]; exact hown7, Bl.grown (hOb.alloc (.cells #[.int .i64 yv] 3)) hg7 (fun q hq => (hown.blk q hq).1)⟩
              case measure => simp [intOf]; omega
          · rw [hkk] at hX_0
            have HVE := Lib.hid (show x.vl = val from by rw [← HVAL.out]; unfold valV; rw [if_neg (by omega), if_pos hkk])
            go_wp2_with (at_builtin; refine ap_int rfl rfl rfl (hO.keep ((Bl.refl _).alloc (.cells #[.int .i64 x.vl] 3))) rfl (rd_new1 _ _ _) hk1 (Nat.le_trans hOb.sz (by simp)) ?_; intro A7 c7 w9 hown7 hg7 hat7)
            go_roundw
            case rel => exact ⟨k + 1, c7, t0, t1, _, _, _, _, A7, _, _, by omega, by go_num, rfl, rfl, rfl, hra, hrb, Lib.hid (by rw [ins_no HX.out (fun e => by have := e.1; dsimp only at this; omega)]; exact HT0.out), Lib.hid (by rw [ins_no HX.out (fun e => by have := e.1; dsimp only at this; omega)]; exact HT1.out), by rw [← HVS.out, ← HVE.out]; exact hown7, Bl.grown (hOb.alloc (.cells #[.int .i64 x.vl] 3)) hg7 (fun q hq => (hown.blk q hq).1)⟩
            case measure => simp [intOf]; omega
          · rw [hkk] at hX_0
            obtain ⟨w3, u, v, hu1, hu2, hop, hw3, hur, hvr⟩ := HVK.out.k3 hkk
            have p4 := pow_4 hw3
            have HVE := Lib.hid (show opV x.op w3 u v = val from by rw [← HVAL.out]; unfold valV; rw [if_neg (by omega), if_neg (by omega), if_pos hkk, hu1, hu2]; rfl)
            have hPr := hP.rd
            rw [hu2] at hPr
            obtain rfl : j = 2 := hPr.length.symm
            obtain rfl : z = w3 := by have := (HZ.out).resolve_left (by omega); rw [hu1] at this; exact this
            obtain ⟨pa, pv0, rfl, pb0, px0, pc0⟩ := hPr.at_ (k := 0) (by omega)
            obtain rfl := Option.some.inj px0
            replace pc0 := add0_cell pc0
            obtain ⟨pa1, pv1, pe1, pb1, px1, pc1⟩ := hPr.at_ (k := 1) (by omega)
            injection pe1 with pe1; subst pe1
            obtain rfl := Option.some.inj px1
            replace pc1 := add1_cell pc1
            go_wp2_with fail
            refine wp_region_held_drew (S := (fun w' => w'.cell? ⟨bX, 2, none⟩ = some (.string x.op) ∧ w'.cell? pa = some (.int .i64 u) ∧ w'.cell? ⟨pa.block, pa.off + 1, none⟩ = some (.int .i64 v))) (by kernel_rfl) ?_ (fun hHeld => ?_)
            · (try dsimp only); exact ⟨hX_2, pc0, pc1⟩
            replace hO := hO.keep ((Bl.refl _).drew)
            replace hOb := hOb.drew
            replace hX_2 := Bl.cells ((Bl.refl _).drew) hX_2
            replace pc0 := Bl.cells ((Bl.refl _).drew) pc0
            replace pc1 := Bl.cells ((Bl.refl _).drew) pc1
            generalize wr.drew = y0 at hO hOb hX_2 pc0 pc1 hHeld ⊢
            refine held_take (i := 0) (d := 76) (v := ?_) rfl rfl (by kernel_rfl) (by kernel_rfl) (by kernel_rfl) (fun _ _ _ h => h) (Or.inl ⟨by rfl, ?_⟩) (by assumption) ?_
            rotate_left
            · (intro w hSw; (try dsimp only at hSw); go_simp; (try with_reducible rfl))
            (try simp only [List.set_cons_zero, List.set_cons_succ])
            refine held_take (i := 1) (d := 77) (v := ?_) rfl rfl (by kernel_rfl) (by kernel_rfl) (by kernel_rfl) (fun _ _ _ h => h) (Or.inl ⟨by rfl, ?_⟩) (by assumption) ?_
            rotate_left
            · (intro w hSw; (try dsimp only at hSw); go_simp; (try with_reducible rfl))
            (try simp only [List.set_cons_zero, List.set_cons_succ])
            refine held_take (i := 2) (d := 78) (v := ?_) rfl rfl (by kernel_rfl) (by kernel_rfl) (by kernel_rfl) (fun _ _ _ h => h) (Or.inl ⟨by rfl, ?_⟩) (by assumption) ?_
            rotate_left
            · (intro w hSw; (try dsimp only at hSw); go_simp; (try with_reducible rfl))
            (try simp only [List.set_cons_zero, List.set_cons_succ])
            refine held_take (i := 3) (d := 79) (v := ?_) rfl rfl (by kernel_rfl) (by kernel_rfl) (by kernel_rfl) (fun _ _ _ h => h) (Or.inl ⟨by rfl, ?_⟩) (by assumption) ?_
            rotate_left
            · (intro w hSw; (try dsimp only at hSw); go_simp; (try with_reducible rfl))
            (try simp only [List.set_cons_zero, List.set_cons_succ])
            refine held_take (i := 4) (d := 80) (v := ?_) rfl rfl (by kernel_rfl) (by kernel_rfl) (by kernel_rfl) (fun _ _ _ h => h) (Or.inl ⟨by rfl, ?_⟩) (by assumption) ?_
            rotate_left
            · (intro w hSw; (try dsimp only at hSw); go_simp; (try with_reducible rfl))
            (try simp only [List.set_cons_zero, List.set_cons_succ])
            refine held_take (i := 5) (d := 81) (v := ?_) rfl rfl (by kernel_rfl) (by kernel_rfl) (by kernel_rfl) (fun _ _ _ h => h) (Or.inl ⟨by rfl, ?_⟩) (by assumption) ?_
            rotate_left
            · (intro w hSw; (try dsimp only at hSw); go_simp; (try with_reducible rfl))
            (try simp only [List.set_cons_zero, List.set_cons_succ])
            refine held_take (i := 6) (d := 82) (v := ?_) rfl rfl (by kernel_rfl) (by kernel_rfl) (by kernel_rfl) (fun _ _ _ h => h) (Or.inl ⟨by rfl, ?_⟩) (by assumption) ?_
            rotate_left
            · (intro w hSw; (try dsimp only at hSw); go_simp; (try with_reducible rfl))
            (try simp only [List.set_cons_zero, List.set_cons_succ])
            refine held_take (i := 7) (d := 83) (v := ?_) rfl rfl (by kernel_rfl) (by kernel_rfl) (by kernel_rfl) (fun _ _ _ h => h) (Or.inl ⟨by rfl, ?_⟩) (by assumption) ?_
            rotate_left
            · (intro w hSw; (try dsimp only at hSw); go_simp; (try with_reducible rfl))
            (try simp only [List.set_cons_zero, List.set_cons_succ])
            refine held_take (i := 8) (d := 84) (v := ?_) rfl rfl (by kernel_rfl) (by kernel_rfl) (by kernel_rfl) (fun _ _ _ h => h) (Or.inl ⟨by rfl, ?_⟩) (by assumption) ?_
            rotate_left
            · (intro w hSw; (try dsimp only at hSw); go_simp; (try with_reducible rfl))
            (try simp only [List.set_cons_zero, List.set_cons_succ])
            refine wpAnyH_ready (rs := [9]) (by kernel_rfl) (by simp) ?_
            refine AllReadyH.cons rfl (fun K hK => ?_) AllReadyH.nil
            go_simp
            refine (spec_laApply x.op hop z u v hw3 (by omega) (by omega) _).mono ?_; rintro e v8 ⟨rfl, rfl⟩
            go_wp2_with fail
            refine hK.out _ _ ?_ (fun hHeld => ?_)
            · (try dsimp only); exact ⟨hX_2, pc0, pc1⟩
            clear hK K
            (try simp only [Act.put]); (try simp only [List.setIfInBounds_toArray]); (try simp only [List.set_cons_succ]); (try simp only [List.set_cons_zero])
            refine held_take (i := 10) (d := 15) (v := ?_) rfl rfl (by kernel_rfl) (by kernel_rfl) (by kernel_rfl) (fun _ _ _ h => h) (Or.inl ⟨by rfl, ?_⟩) (by assumption) ?_
            rotate_left
            · (intro w hSw; (try dsimp only at hSw); go_simp; (try with_reducible rfl))
            (try simp only [List.set_cons_zero, List.set_cons_succ])
            refine wpAnyH_done (by kernel_rfl) ?_ _
            go_wp2_with (at_builtin; refine ap_int rfl rfl rfl (hO.keep ((Bl.refl _).alloc (.cells #[.int .i64 (opV x.op z u v)] 3))) rfl (rd_new1 _ _ _) hk1 (Nat.le_trans hOb.sz (by simp)) ?_; intro A7 c7 w9 hown7 hg7 hat7)
            go_roundw
            case rel => exact ⟨k + 1, c7, t0, t1, _, _, _, _, A7, _, _, by omega, by go_num, rfl, rfl, rfl, hra, hrb, Lib.hid (by rw [ins_no HX.out (fun e => by have := e.1; dsimp only at this; omega)]; exact HT0.out), Lib.hid (by rw [ins_no HX.out (fun e => by have := e.1; dsimp only at this; omega)]; exact HT1.out), by rw [← HVS.out, ← HVE.out]; exact hown7, Bl.grown (hOb.alloc (.cells #[.int .i64 (opV x.op z u v)] 3)) hg7 (fun q hq => (hown.blk q hq).1)⟩
            case measure => simp [intOf]; omega
          · rw [hkk] at hX_0
            obtain ⟨w3, u, hu1, hu2, hw3, hur⟩ := HVK.out.k4 hkk
            have HSH := shW hw3
            obtain ⟨M, hM⟩ : ∃ M, (2 : Int) ^ w3.toNat - 1 = M := ⟨_, rfl⟩
            rw [hM] at HSH hur
            have HVE := Lib.hid (show M - u = val from by rw [← HVAL.out]; unfold valV; rw [if_neg (by omega), if_neg (by omega), if_neg (by omega), if_pos hkk, hu1, hu2, ← hM]; rfl)
            have hM10 : M ≤ 1023 := by have h1 := inR_iff.1 hw3; rw [← hM]; rcases (by omega : w3 = 1 ∨ w3 = 2 ∨ w3 = 3 ∨ w3 = 4 ∨ w3 = 5 ∨ w3 = 6 ∨ w3 = 7 ∨ w3 = 8 ∨ w3 = 9 ∨ w3 = 10) with e | e | e | e | e | e | e | e | e | e <;> rw [e] <;> decide
            have hPr := hP.rd
            rw [hu2] at hPr
            obtain rfl : j = 1 := hPr.length.symm
            obtain rfl : z = w3 := by have := (HZ.out).resolve_left (by omega); rw [hu1] at this; exact this
            obtain ⟨pa, pv0, rfl, pb0, px0, pc0⟩ := hPr.at_ (k := 0) (by omega)
            obtain rfl := Option.some.inj px0
            replace pc0 := add0_cell pc0
            clear hM
            have hwr := wr_sub hur.1 hur.2 hM10
            go_wp2_with (at_builtin; refine ap_int rfl rfl rfl (hO.keep ((Bl.refl _).alloc _)) rfl (rd_new1 _ _ _) hk1 (Nat.le_trans hOb.sz (by simp)) ?_; intro A7 c7 w9 hown7 hg7 hat7)
            go_roundw
            case rel => clear HSH hwr hM10 hur; exact ⟨k + 1, c7, t0, t1, _, _, _, _, A7, _, _, by omega, by go_num, rfl, rfl, rfl, hra, hrb, Lib.hid (by rw [ins_no HX.out (fun e => by have := e.1; dsimp only at this; omega)]; exact HT0.out), Lib.hid (by rw [ins_no HX.out (fun e => by have := e.1; dsimp only at this; omega)]; exact HT1.out), by rw [← HVS.out, ← HVE.out]; exact hown7, Bl.grown (hOb.alloc (.cells #[.int .i64 (M - u)] 3)) hg7 (fun q hq => (hown.blk q hq).1)⟩
            case measure => clear HSH hwr hM10 hur; simp [intOf]; omega
          · rw [hkk] at hX_0
            obtain ⟨s5, u, v, hu, hs5⟩ := HVK.out.k5 hkk
            have hPr := hP.rd
            rw [hu] at hPr
            obtain rfl : j = 3 := hPr.length.symm
            obtain ⟨pa, pv0, rfl, pb0, px0, pc0⟩ := hPr.at_ (k := 0) (by omega)
            obtain rfl := Option.some.inj px0
            replace pc0 := add0_cell pc0
            obtain ⟨pa1, pv1, pe1, pb1, px1, pc1⟩ := hPr.at_ (k := 1) (by omega)
            injection pe1 with pe1; subst pe1
            obtain rfl := Option.some.inj px1
            replace pc1 := add1_cell pc1
            obtain ⟨pa2, pv2, pe2, pb2, px2, pc2⟩ := hPr.at_ (k := 2) (by omega)
            injection pe2 with pe2; subst pe2
            obtain rfl := Option.some.inj px2
            replace pc2 := add2_cell pc2
            rcases hs5 with rfl | rfl
            · have HVE := Lib.hid (show v = val from by rw [← HVAL.out]; unfold valV; rw [if_neg (by omega), if_neg (by omega), if_neg (by omega), if_neg (by omega), if_pos hkk, hu]; rfl)
              go_wp2_with (at_builtin; refine ap_int rfl rfl rfl (hO.keep ((Bl.refl _).alloc (.cells #[.int .i64 v] 3))) rfl (rd_new1 _ _ _) hk1 (Nat.le_trans hOb.sz (by simp)) ?_; intro A7 c7 w9 hown7 hg7 hat7)
              go_roundw
              case rel => exact ⟨k + 1, c7, t0, t1, _, _, _, _, A7, _, _, by omega, by go_num, rfl, rfl, rfl, hra, hrb, Lib.hid (by rw [ins_no HX.out (fun e => by have := e.1; dsimp only at this; omega)]; exact HT0.out), Lib.hid (by rw [ins_no HX.out (fun e => by have := e.1; dsimp only at this; omega)]; exact HT1.out), by rw [← HVS.out, ← HVE.out]; exact hown7, Bl.grown (hOb.alloc (.cells #[.int .i64 v] 3)) hg7 (fun q hq => (hown.blk q hq).1)⟩
              case measure => simp [intOf]; omega
            · have HVE := Lib.hid (show u = val from by rw [← HVAL.out]; unfold valV; rw [if_neg (by omega), if_neg (by omega), if_neg (by omega), if_neg (by omega), if_pos hkk, hu]; rfl)
              go_wp2_with (at_builtin; refine ap_int rfl rfl rfl (hO.keep ((Bl.refl _).alloc (.cells #[.int .i64 u] 3))) rfl (rd_new1 _ _ _) hk1 (Nat.le_trans hOb.sz (by simp)) ?_; intro A7 c7 w9 hown7 hg7 hat7)
              go_roundw
              case rel => exact ⟨k + 1, c7, t0, t1, _, _, _, _, A7, _, _, by omega, by go_num, rfl, rfl, rfl, hra, hrb, Lib.hid (by rw [ins_no HX.out (fun e => by have := e.1; dsimp only at this; omega)]; exact HT0.out), Lib.hid (by rw [ins_no HX.out (fun e => by have := e.1; dsimp only at this; omega)]; exact HT1.out), by rw [← HVS.out, ← HVE.out]; exact hown7, Bl.grown (hOb.alloc (.cells #[.int .i64 u] 3)) hg7 (fun q hq => (hown.blk q hq).1)⟩
              case measure => simp [intOf]; omega
          · rw [hkk] at hX_0
            obtain ⟨u, hu⟩ := HVK.out.k6 hkk
            have HVE := Lib.hid (show u = val from by rw [← HVAL.out]; unfold valV; rw [if_neg (by omega), if_neg (by omega), if_neg (by omega), if_neg (by omega), if_neg (by omega), hu]; rfl)
            have hPr := hP.rd
            rw [hu] at hPr
            obtain rfl : j = 1 := hPr.length.symm
            obtain ⟨pa, pv0, rfl, pb0, px0, pc0⟩ := hPr.at_ (k := 0) (by omega)
            obtain rfl := Option.some.inj px0
            replace pc0 := add0_cell pc0
            go_wp2_with (at_builtin; refine ap_int rfl rfl rfl (hO.keep ((Bl.refl _).alloc (.cells #[.int .i64 u] 3))) rfl (rd_new1 _ _ _) hk1 (Nat.le_trans hOb.sz (by simp)) ?_; intro A7 c7 w9 hown7 hg7 hat7)
            go_roundw
            case rel => exact ⟨k + 1, c7, t0, t1, _, _, _, _, A7, _, _, by omega, by go_num, rfl, rfl, rfl, hra, hrb, Lib.hid (by rw [ins_no HX.out (fun e => by have := e.1; dsimp only at this; omega)]; exact HT0.out), Lib.hid (by rw [ins_no HX.out (fun e => by have := e.1; dsimp only at this; omega)]; exact HT1.out), by rw [← HVS.out, ← HVE.out]; exact hown7, Bl.grown (hOb.alloc (.cells #[.int .i64 u] 3)) hg7 (fun q hq => (hown.blk q hq).1)⟩
            case measure => simp [intOf]; omega
    · obtain rfl : k = n := by omega
      have j1 : ¬ (k : Int) < k := by omega
      go_wp2_with fail
      go_ret
      exact ⟨A2, c2, rfl, by have := hown; rw [List.take_of_length_le (by omega)] at this; exact OwnI.mono this hb1.sz, hbl⟩
end Go.Proofs.YtdndkkaacfbkkaaGreatDoor
