/- Contracts of the program's compiler: the circuit of a valid program.
   Conditions: a valid program whose circuit is small. -/
import Derived.Test.YtjggecbaladiiaaGreatDoorCmp
namespace Go.Proofs.YtjggecbaladiiaaGreatDoor
open Go.RowKit
set_option linter.unusedVariables false
set_option maxHeartbeats 1000000 in
theorem impl_sumOf (A : Option Addr) (n c : Nat) (l : List Int) (w : World) (h : RdI w A n c l) (hn : n ≤ 1000) (hb : allR l 0 1000 = true) :
    Calls Tryz.prog 56 #[.slice A n c] w fun e w' => e = .returned (.int .i64 l.sum) ∧ w = w' := by
  obtain ⟨hle1, hle2⟩ := h.le
  have hl := Lib.hid h.length
  have HB := Lib.hid (sum_bd hb)
  clear hb
  go_enter Tryz.func56, Tryz.ntmps56
  go_wp2
  go_loop [3, 8] (fun o i => ∃ k : Nat, k ≤ n ∧ i = .int .i64 k ∧ o = .int .i64 (l.take k).sum) (fun _ i => n - (intOf i).toNat)
  case atStart => exact ⟨0, by omega, rfl, by simp⟩
  case round =>
    obtain ⟨k, hk, rfl, rfl⟩ := hrel
    by_cases hlt : k < n
    · obtain ⟨ad, x, rfl, hadb, hx, hcell⟩ := h.at_ hlt
      have HS := Lib.hid (sum_step hx)
      have h1 := HB.out k
      have h2 := HB.out (k + 1)
      rw [HS.out] at h2
      clear hx
      generalize (l.take k).sum = S at h1 h2 HS
      go_wp2_with fail
      go_round
      case rel => exact ⟨k + 1, by omega, by go_num, by rw [HS.out]⟩
      case measure => simp [intOf]; omega
    · obtain rfl : k = n := by omega
      have HT := Lib.hid (show l.take k = l from List.take_of_length_le (by rw [hl.out]; omega))
      go_wp2_with fail
      go_ret
      exact ⟨by rw [HT.out]; rfl, rfl⟩
set_option maxRecDepth 20000 in
set_option maxHeartbeats 8000000 in
theorem impl_compile (A : Option Addr) (n c : Nat) (l : List (Hd × Ln)) (ws : List Int) (w : World) (h : RdL w A n c l) (hg : goodB (l.map (·.2)) = true) (hws : wdsL (l.map (·.2)) = some ws) (hok : okI (l.map (·.2)) = true) (hw4 : okW (l.map (·.2)) ws = true) (hC : okC mulI (l.map (·.2)) ws = true) (hS : okS (l.map (·.2)) = true) (ht : Tm w) :
    Calls Tryz.prog 41 #[.slice A n c] w fun e w' => ∃ Ag cg Ao co WA wc EA ec, e = .returned (.agg #[.int .i64 (in0 (l.map (·.2))), .int .i64 (in1 (l.map (·.2))), .slice Ag (cpL mulI (l.map (·.2)) n).g.length cg, .slice Ao (cpL mulI (l.map (·.2)) n).ol.length co, .slice WA n wc, .slice EA n ec]) ∧ RdG w' Ag (cpL mulI (l.map (·.2)) n).g.length cg (cpL mulI (l.map (·.2)) n).g ∧ RdI w' Ao (cpL mulI (l.map (·.2)) n).ol.length co (cpL mulI (l.map (·.2)) n).ol ∧ Bl w w' := by
  obtain ⟨hle1, hle2⟩ := h.le
  have hlen := Lib.hid h.len
  have IW := Lib.hid (fun p hp w h ht => impl_InputWidths p hp A n c l ws w h hg hws hok ht)
  obtain ⟨hS0, hS1⟩ := okS_at hS
  have HS0 := Lib.hid hS0
  have HS1 := Lib.hid hS1
  obtain ⟨hc0, hc1⟩ := okC_in hC
  obtain ⟨ws', hws', g1, g2, _⟩ := goodB_at hg
  obtain rfl : ws = ws' := by rw [hws] at hws'; injection hws'
  obtain ⟨i1, i2⟩ := wdsL_in hws
  rw [List.length_map, h.len] at i1 g1
  have HI := Lib.hid i2
  have HG := Lib.hid g2
  have HOK := Lib.hid (fun (i : Nat) x => okI_at hok (i := i) (x := x))
  have HOW := Lib.hid (fun (i : Nat) x => okW_at hw4 (i := i) (x := x))
  have HOC := Lib.hid (fun (k : Nat) (hk : k ≤ n) => okC_at hC (k := k) (by rw [List.length_map, hlen.out]; exact hk))
  have HST := Lib.hid (fun (k : Nat) (x : Ln) (hx : (l.map (·.2))[k]? = some x) => cpL_step (mul := mulI) hx)
  have H0 := Lib.hid (show cpL mulI (l.map (·.2)) 0 = ⟨[], [], [], 0, in0 (l.map (·.2))⟩ from rfl)
  obtain ⟨a, ha⟩ : ∃ a, in0 (l.map (·.2)) = a := ⟨_, rfl⟩
  obtain ⟨b, hb⟩ : ∃ b, in1 (l.map (·.2)) = b := ⟨_, rfl⟩
  have HA := Lib.hid (show (insL (l.map (·.2)) 0).sum = a from ha)
  have HB := Lib.hid (show (insL (l.map (·.2)) 1).sum = b from hb)
  rw [ha, hb] at HST
  rw [ha] at H0 hc0 ⊢
  rw [hb] at hc1 ⊢
  obtain ⟨cp, hcp⟩ : ∃ cp : Nat → Cp, (fun k => cpL mulI (l.map (·.2)) k) = cp := ⟨_, rfl⟩
  have HCP := Lib.hid (fun k => congrFun hcp k)
  rw [show cpL mulI (l.map (·.2)) n = cp n from HCP.out n]
  have HF := Lib.hid (show cp 0 = ⟨[], [], [], 0, a⟩ from (HCP.out 0).symm.trans H0.out)
  clear hg hws hok hw4 hC hS ha hb hws' i2 g2 hS0 hS1 hcp H0
  go_enter Tryz.func41, Tryz.ntmps41
  go_wp2_with fail
  refine (IW.out 0 (by decide) _ (h.keep ((Bl.refl w).alloc _)) (ht.keep ((Bl.refl w).alloc _))).mono ?_
  rintro e w2 ⟨F0, m0, c0, rfl, hm0, ho0, hb2⟩
  have hB2 := ((Bl.refl w).alloc (.cells #[.int .i64 0, .int .i64 0, .slice none 0 0, .slice none 0 0, .slice none 0 0, .slice none 0 0] 59)).call hb2
  have hR2 := (Blk.new w 59 #[.int .i64 0, .int .i64 0, .slice none 0 0, .slice none 0 0, .slice none 0 0, .slice none 0 0] (g := w.heap.size)).keep hb2
  go_wp2_with fail
  refine (IW.out 1 (by decide) _ (h.keep hB2) (ht.keep hB2)).mono ?_
  rintro e w3 ⟨F1, m1, c1, rfl, hm1, ho1, hb3⟩
  replace hR2 := hR2.keep hb3
  replace hB2 := hB2.call hb3
  have hr0 := ho0.rd.keep hb3
  have hr1 := ho1.rd
  clear hb2 hb3 ho0 ho1
  have HQ := Lib.hid (Bl.refl w3)
  go_wp2_with fail
  refine (impl_sumOf F0 m0 c0 _ w3 hr0 (by omega) HS0.out).mono ?_
  rintro e w9 ⟨rfl, rfl⟩
  rw [HA.out]
  go_wp2_with fail
  refine (impl_sumOf F1 m1 c1 _ w3 hr1 (by omega) HS1.out).mono ?_
  rintro e w9 ⟨rfl, rfl⟩
  rw [HB.out]
  have hM3 := Blk.new w3 117 #[.int .i64 a, .int .i64 b, .slice none 0 0, .slice none 0 0] (g := w3.heap.size)
  have hW4 := (Bl.refl w3).alloc (.cells #[.int .i64 a, .int .i64 b, .slice none 0 0, .slice none 0 0] 117)
  have hr4 := hr0.keep hW4
  go_wp2_with fail
  refine (impl_sumOf F0 m0 c0 _ _ hr4 (by omega) HS0.out).mono ?_
  rintro e w9 ⟨rfl, rfl⟩
  rw [HA.out]
  clear hr0 hr1 hr4
  go_wp2_with fail
  have hC0 := Cs.init (T := 117) (TB := 118) (TO := 59) (w3 := w3) (oc := #[.int .i64 0, .int .i64 0, .slice none 0 0, .slice none 0 0, .slice none 0 0, .slice none 0 0]) hc0 hc1
  generalize (((w3.alloc (.cells #[.int .i64 a, .int .i64 b, .slice none 0 0, .slice none 0 0] 117)).alloc (.cells #[.int .i64 0, .int .i64 0, .slice none 0 0, .slice none 0 0, .slice none 0 0, .slice none 0 0] 59)).alloc (.cells #[.int .i64 0, .int .i64 a] 118)) = u0 at hC0 ⊢
  obtain ⟨Q, hQ⟩ : ∃ Q : Cq, Q = ⟨117, 118, 59, w3, w3.heap.size, w3.heap.size + 1, w3.heap.size + 1 + 1, w3.heap.size + 1, a, b⟩ := ⟨_, rfl⟩
  rw [← hQ] at hC0
  have eT : Q.T = 117 := by rw [hQ]
  have eW : Q.w0 = w3 := by rw [hQ]
  have exx : Q.x = w3.heap.size := by rw [hQ]
  have ebO : Q.bO = w3.heap.size + 1 := by rw [hQ]
  have ebT : Q.bT = w3.heap.size + 1 + 1 := by rw [hQ]
  have eA : Q.a = a := by rw [hQ]
  have eB : Q.b = b := by rw [hQ]
  rw [← ebT, ← ebO, ← exx]
  have HW := Lib.hid eW
  have HT := Lib.hid eT
  have HAB := Lib.hid (show Q.a = a ∧ Q.b = b from ⟨eA, eB⟩)
  clear hQ eT eW exx ebO ebT eA eB hM3 hW4
  go_loopw [39] (fun i wr => ∃ (k nG d wc ec Tm : Nat) (A1 B1 WA EA : Option Addr) (hs : List Hd) (el : List Int) (rs : List (Hd × List Int)), k ≤ n ∧ i = .int .i64 (k : Nat) ∧ RS hs (cp k).W rs ∧ Cs Q wr Tm (cp k).g (cp k).ol (cp k).n0 (cp k).n1 nG A1 B1 d WA wc hs EA k ec el #[.int .i64 0, .int .i64 0, .slice none 0 0, .slice none 0 0, .slice WA k wc, .slice EA k ec] rs) (fun i _ => n - (intOf i).toNat)
  case atStart => exact ⟨0, 0, 0, 0, 0, _, none, none, none, none, [], [], [], by omega, rfl, by rw [HF.out]; exact ⟨rfl, by simp⟩, by rw [HF.out]; exact hC0⟩
  case round =>
    clear hC0
    obtain ⟨k, nG, d, wc, ec, Tm, A1, B1, WA, EA, hs, el, rs, hk, rfl, hRS, hC⟩ := hrel
    obtain ⟨wh, hwh⟩ : ∃ u, u = wr := ⟨_, rfl⟩
    subst hwh
    have hbl : Bl w3 wh := by rw [← HW.out]; exact hC.bl
    have hl := h.keep (hB2.call hbl)
    have hwl : (cp k).W.length = k := by have := (HOC.out k hk).wl (by rw [List.length_map, hlen.out]; exact i1) (by rw [List.length_map, hlen.out]; exact hk); rw [HCP.out k] at this; exact this
    by_cases hlt : k < n
    · obtain ⟨ad, ⟨⟨C, m, cc⟩, x⟩, rfl, hadb, hx, hps, c0, c1, c2_, c3_, c4, c5, c6⟩ := hl.at_ hlt
      dsimp only at hps c0 c1 c2_ c3_ c4 c5 c6
      have hxL : (l.map (·.2))[k]? = some x := by rw [List.getElem?_map, hx]; rfl
      obtain ⟨v, hv, HV0⟩ := HI.out k x hxL
      have hwl2 : (ws.take k).length = ((l.map (·.2)).take k).length := by rw [List.length_take, List.length_take, i1, List.length_map, hlen.out]
      have hwk := wk_of HV0 hwl2 (HOW.out k x hxL) (fun u hu => List.all_eq_true.1 HG.out u (List.mem_of_mem_take hu))
      have hnx : cp (k + 1) = cpN mulI (a + b) ((l.map (·.2)).take k) (cp k) x := by rw [← HCP.out, ← HCP.out]; exact HST.out k x hxL
      have hoc := HOC.out k hk
      have hok2 := HOK.out k x hxL
      have hlenW : ∀ s, 0 ≤ fndL ((l.map (·.2)).take k) s → ∃ q r, fndL ((l.map (·.2)).take k) s = (q : Nat) ∧ q < k ∧ (cp k).W[q]? = some r ∧ (cp k).W.getD (fndL ((l.map (·.2)).take k) s).toNat [] = r ∧ (r.length : Int) = wsA ((l.map (·.2)).take k) (ws.take k) s := fun s hs0 => by
        have := part_at hoc (by rw [List.length_map, hlen.out]; exact i1) (by rw [List.length_map, hlen.out]; exact hk) hs0
        rw [HCP.out k] at this
        exact this
      have hln : ∀ s ∈ x.ps, lnF (l.map (·.2)) s = fndL ((l.map (·.2)).take k) s := fun s hs => (lnF_take (by rw [hok2.1 s hs]; exact hwk.f s hs)).trans (hok2.1 s hs)
      have hG3 := hoc.g
      have hO3 := hoc.o
      have hN03 := hoc.n0
      have hN13 := hoc.n1
      rw [HCP.out k] at hG3 hO3 hN03 hN13
      have hm3 := wdO_len HV0
      rw [hps.length] at hm3
      obtain ⟨pre, hpre⟩ : ∃ pre, (l.map (·.2)).take k = pre := ⟨_, rfl⟩
      rw [hpre] at hwk hnx hln hlenW
      obtain ⟨⟨g, ol, W, n0, n1⟩, hS⟩ : ∃ s, cp k = s := ⟨_, rfl⟩
      rw [hS] at hnx hlenW hG3 hO3 hN03 hN13 hRS hC hwl
      dsimp only at hlenW hG3 hO3 hN03 hN13 hRS hC hwl
      have hnG := hC.me.len
      have hsl : hs.length = k := hRS.1.trans hwl
      obtain ⟨P, hP⟩ : ∃ P, prtW pre W x.ps = P := ⟨_, rfl⟩
      have HP := Lib.hid hP
      have HNX := Lib.hid hnx
      have HSL := Lib.hid hsl
      have HRS := Lib.hid hRS
      have HWK := Lib.hid hwk
      have HLW := Lib.hid hlenW
      have HLN := Lib.hid hln
      have HNG := Lib.hid hnG
      have HPRE := Lib.hid hpre
      have HPL := Lib.hid (show x.ps.length = m from hps.length)
      clear hx hxL HV0 hv hwl2 hwk hnx hoc hok2 hln hlenW hS hP hsl hRS hnG hpre hwl
      have j1 : (k : Int) < n := by omega
      have hou := hC.ou
      have hou_l := hou.lt
      have hou_f := hou.frozen
      have hou_4 := hou.cell 4 _ rfl
      have hou_5 := hou.cell 5 _ rfl
      have hTm := hC.tm
      have hX := (Blk.new wh 92 #[.int .i64 x.k, .string x.nm, .string x.op, .slice C m cc, .int .i64 x.pt, .int .i64 x.wd, .int .i64 x.vl] (g := wh.heap.size)).alloc (.cells #[] 27)
      have hV := ((Bl.refl wh).alloc (.cells #[.int .i64 x.k, .string x.nm, .string x.op, .slice C m cc, .int .i64 x.pt, .int .i64 x.wd, .int .i64 x.vl] 92)).alloc (.cells #[] 27)
      have hPP : OwnV 27 1 (wh.heap.size + 1) ((wh.alloc (.cells #[.int .i64 x.k, .string x.nm, .string x.op, .slice C m cc, .int .i64 x.pt, .int .i64 x.wd, .int .i64 x.vl] 92)).alloc (.cells #[] 27)) (some ⟨wh.heap.size + 1, 0, none⟩) 0 0 (([] : List Hd).map Hd.vl) := own_madeV (wh.alloc (.cells #[.int .i64 x.k, .string x.nm, .string x.op, .slice C m cc, .int .i64 x.pt, .int .i64 x.wd, .int .i64 x.vl] 92)) (by simp)
      go_wp2_with fail
      generalize (wh.alloc (.cells #[.int .i64 x.k, .string x.nm, .string x.op, .slice C m cc, .int .i64 x.pt, .int .i64 x.wd, .int .i64 x.vl] 92)).alloc (.cells #[] 27) = u1 at hX hV hPP ⊢
      generalize hbX : wh.heap.size = bX at hX hPP ⊢
      have HBX := Lib.hid hbX
      clear hbX
      go_loopw [12, 47] (fun o i wq => ∃ (j c3 : Nat) (PA : Option Addr) (hp : List Hd), j ≤ m ∧ i = .int .i64 (j : Nat) ∧ o = .slice PA j c3 ∧ PR hp P rs j ∧ OwnV 27 1 (bX + 1) wq PA j c3 (hp.map Hd.vl) ∧ Blk wq bX 92 #[.int .i64 x.k, .string x.nm, .string x.op, .slice C m cc, .int .i64 x.pt, .int .i64 x.wd, .int .i64 x.vl] ∧ Bl wh wq) (fun _ i _ => m - (intOf i).toNat)
      case atStart => exact ⟨0, 0, _, [], by omega, rfl, rfl, ⟨rfl, fun i hi => absurd hi (by omega)⟩, hPP, hX, hV⟩
      case round =>
        clear hPP hX hV
        obtain ⟨j, c3, PA, hp, hj, rfl, rfl, hPR, hPP, hX, hB1⟩ := hrel
        by_cases hlt2 : j < m
        · obtain ⟨ap, s, rfl, hasb, hsx, hsc⟩ := (hps.keep hB1).at_ hlt2
          have hs2 := List.mem_of_getElem? hsx
          have hf0 := HWK.out.f s hs2
          have hfL := HLN.out s hs2
          obtain ⟨q, r, hq, hqk, hWq, hWg, _⟩ := HLW.out s hf0
          rw [hq] at hfL
          obtain ⟨y, hy⟩ : ∃ y, hs[q]? = some y := ⟨_, List.getElem?_eq_getElem (by rw [HSL.out]; exact hqk)⟩
          have hmem := HRS.out.2 q y r hy hWq
          have HPR := Lib.hid (hPR.push (l := r) (by rw [← HP.out]; unfold prtW; rw [List.getElem?_map, hsx]; exact congrArg some hWg) hmem)
          obtain ⟨wd, hwe, hwb, hwcell⟩ := hC.wi.rd.at0 (by rw [HSL.out]; omega)
          have hco := hou_4
          rw [hwe] at hco
          have hcw : wh.cell? (wd.add q) = some (.slice y.A y.n y.c) := hwcell q _ (by rw [List.getElem?_map, hy]; rfl)
          have hKP := Lib.hid (fun w' (hb : Bl wh w') => (⟨Bl.cells hb hco, Bl.cells hb hcw⟩ : w'.cell? ⟨Q.bO, 4, none⟩ = some (.slice (some wd) k wc) ∧ w'.cell? (wd.add q) = some (.slice y.A y.n y.c)))
          have hwle := hC.wi.rd.cap
          rw [HSL.out] at hwle
          have HFL := Lib.hid hfL
          have hX_l := hX.lt
          have hX_3 := hX.cell 3 _ rfl
          have j2 : (j : Int) < m := by omega
          have hqk2 : (q : Int) < k := by omega
          have hlow : ∀ t, PA.map (·.block) = some t → bX + 1 ≤ t := fun t ht => (hPP.blk t ht).1
          clear hsx hs2 hf0 hq hWq hWg hfL hy hmem hwe hwb hwcell hco hcw
          go_wp2_with fail
          refine wp_region_held_drew (S := (fun w' => w'.cell? ⟨Q.bO, 4, none⟩ = some (.slice (some wd) k wc) ∧ w'.cell? (wd.add q) = some (.slice y.A y.n y.c))) (by kernel_rfl) ?_ (fun hHeld => ?_)
          · (try dsimp only); exact hKP.out _ (by first | exact hB1 | exact hB1.drew)
          replace hPP := hPP.keep ((Bl.refl _).drew)
          replace hX := hX.drew
          replace hB1 := hB1.drew
          clear hX_l hX_3
          refine held_take (i := 0) (d := 51) (v := ?_) rfl rfl (by kernel_rfl) (by kernel_rfl) (by kernel_rfl) (fun _ _ _ h => h) (Or.inl ⟨by rfl, ?_⟩) (by assumption) ?_
          rotate_left
          · (intro w hSw; (try dsimp only at hSw); go_simp; (try with_reducible rfl))
          (try simp only [List.set_cons_zero, List.set_cons_succ])
          refine held_take (i := 1) (d := 52) (v := ?_) rfl rfl (by kernel_rfl) (by kernel_rfl) (by kernel_rfl) (fun _ _ _ h => h) (Or.inl ⟨by rfl, ?_⟩) (by assumption) ?_
          rotate_left
          · (intro w hSw; (try dsimp only at hSw); go_simp; (try with_reducible rfl))
          (try simp only [List.set_cons_zero, List.set_cons_succ])
          refine held_take (i := 2) (d := 53) (v := ?_) rfl rfl (by kernel_rfl) (by kernel_rfl) (by kernel_rfl) (fun _ _ _ h => h) (Or.inl ⟨by rfl, ?_⟩) (by assumption) ?_
          rotate_left
          · (intro w hSw; (try dsimp only at hSw); go_simp; (try with_reducible rfl))
          (try simp only [List.set_cons_zero, List.set_cons_succ])
          refine held_take (i := 3) (d := 54) (v := ?_) rfl rfl (by kernel_rfl) (by kernel_rfl) (by kernel_rfl) (fun _ _ _ h => h) (Or.inl ⟨by rfl, ?_⟩) (by assumption) ?_
          rotate_left
          · (intro w hSw; (try dsimp only at hSw); go_simp; (try with_reducible rfl))
          (try simp only [List.set_cons_zero, List.set_cons_succ])
          refine held_take (i := 4) (d := 55) (v := ?_) rfl rfl (by kernel_rfl) (by kernel_rfl) (by kernel_rfl) (fun _ _ _ h => h) (Or.inl ⟨by rfl, ?_⟩) (by assumption) ?_
          rotate_left
          · (intro w hSw; (try dsimp only at hSw); go_simp; (try with_reducible rfl))
          (try simp only [List.set_cons_zero, List.set_cons_succ])
          refine wpAnyH_ready (rs := [5]) (by kernel_rfl) (by simp) ?_
          refine AllReadyH.cons rfl (fun K hK => ?_) AllReadyH.nil
          go_simp
          refine (impl_lineOf s _ n c l _ (hl.keep hB1)).mono ?_; rintro e w5 ⟨rfl, hb5⟩; rw [HFL.out]; replace hPP := hPP.keep hb5; replace hX := hX.keep hb5; replace hB1 := hB1.call hb5
          go_wp2_with fail
          refine hK.out _ _ ?_ (fun hHeld => ?_)
          · (try dsimp only); exact hKP.out _ (by first | exact hB1 | exact hB1.drew)
          clear hK K
          (try simp only [Act.put]); (try simp only [List.setIfInBounds_toArray]); (try simp only [List.set_cons_succ]); (try simp only [List.set_cons_zero])
          refine held_take (i := 6) (d := 57) (v := ?_) rfl rfl (by kernel_rfl) (by kernel_rfl) (by kernel_rfl) (fun _ _ _ h => h) (Or.inl ⟨by rfl, ?_⟩) (by assumption) ?_
          rotate_left
          · (intro w hSw; (try dsimp only at hSw); go_simp; (try with_reducible rfl))
          (try simp only [List.set_cons_zero, List.set_cons_succ])
          refine held_take (i := 7) (d := 58) (v := ?_) rfl rfl (by kernel_rfl) (by kernel_rfl) (by kernel_rfl) (fun _ _ _ h => h) (Or.inl ⟨by rfl, ?_⟩) (by assumption) ?_
          rotate_left
          · (intro w hSw; (try dsimp only at hSw); go_simp; (try with_reducible rfl))
          (try simp only [List.set_cons_zero, List.set_cons_succ])
          refine wpAnyH_ready (rs := [8]) (by kernel_rfl) (by simp) ?_
          refine AllReadyH.cons rfl (fun K hK => ?_) AllReadyH.nil
          go_simp
          replace hPP := hPP.alloc (.cells #[.slice y.A y.n y.c] 27)
          replace hX := hX.alloc (.cells #[.slice y.A y.n y.c] 27)
          replace hB1 := hB1.alloc (.cells #[.slice y.A y.n y.c] 27)
          refine hK.out _ _ ?_ (fun hHeld => ?_)
          · (try dsimp only); exact hKP.out _ (by first | exact hB1 | exact hB1.drew)
          clear hK K
          (try simp only [Act.put]); (try simp only [List.setIfInBounds_toArray]); (try simp only [List.set_cons_succ]); (try simp only [List.set_cons_zero])
          refine wpAnyH_ready (rs := [9]) (by kernel_rfl) (by simp) ?_
          refine AllReadyH.cons rfl (fun K hK => ?_) AllReadyH.nil
          refine ap_hdv_step rfl rfl rfl hPP rfl (rd_hd1 _ y) (by omega) (by have := hX.lt; omega) ?_; intro PA9 c9 w9 ho9 hg9 hat9; replace hX := hX.grown hg9 (fun e => by have := hlow _ e.symm; omega); replace hB1 := Bl.grown hB1 hg9 (fun t ht => by have := hlow t ht; have := HBX.out; omega)
          refine hK.out _ _ ?_ (fun hHeld => ?_)
          · (try dsimp only); exact hKP.out _ (by first | exact hB1 | exact hB1.drew)
          clear hK K
          (try simp only [Act.put]); (try simp only [List.setIfInBounds_toArray]); (try simp only [List.set_cons_succ]); (try simp only [List.set_cons_zero])
          refine held_take (i := 10) (d := 12) (v := ?_) rfl rfl (by kernel_rfl) (by kernel_rfl) (by kernel_rfl) (fun _ _ _ h => h) (Or.inl ⟨by rfl, ?_⟩) (by assumption) ?_
          rotate_left
          · (intro w hSw; (try dsimp only at hSw); go_simp; (try with_reducible rfl))
          (try simp only [List.set_cons_zero, List.set_cons_succ])
          refine wpAnyH_done (by kernel_rfl) ?_ _
          go_wp2_with fail
          go_roundw
          case rel => exact ⟨j + 1, c9, PA9, hp ++ [y], by omega, by go_num, rfl, HPR.out, by rw [List.map_append]; exact ho9, hX, hB1⟩
          case measure => simp [intOf]; omega
        · obtain rfl : j = m := by omega
          have j2 : ¬ (j : Int) < j := by omega
          obtain ⟨wq, hwq⟩ : ∃ u, u = wr := ⟨_, rfl⟩
          subst hwq
          have hC1 := hC.keep hB1
          have HCX := Lib.hid (show Q.x < bX ∧ Q.bT < bX ∧ Q.bO < bX from by have := hC.xlt; have := HBX.out; omega)
          have hX_l := hX.lt
          have hX_0 := hX.cell 0 _ rfl
          have hX_1 := hX.cell 1 _ rfl
          have hX_2 := hX.cell 2 _ rfl
          have hX_3 := hX.cell 3 _ rfl
          have hX_4 := hX.cell 4 _ rfl
          have hX_5 := hX.cell 5 _ rfl
          have hX_6 := hX.cell 6 _ rfl
          rcases HWK.out.k with hk1 | hk1 | hk1 | hk1 | hk1 | hk1
          · rw [hk1] at hX_0
            obtain ⟨hpt, hwd1, hwd2⟩ := HWK.out.k1 hk1
            obtain ⟨N, hN⟩ : ∃ N : Nat, x.wd = (N : Nat) := ⟨x.wd.toNat, by omega⟩
            rw [hN] at hX_5
            rcases hpt with hpt | hpt
            · as_aux_lemma =>
                rw [hpt] at hX_4
                have HFIN := Lib.hid (show cp (k + 1) = ⟨g, ol, W ++ [rngL n0 N], n0 + (N : Nat), n1⟩ by rw [HNX.out]; unfold cpN; rw [if_pos hk1, if_pos hpt, hN]; rfl)
                have hC2 := hC1.raise.keep ((Bl.refl wq).alloc (.cells #[] 3))
                have hX2 := hX.alloc (.cells #[] 3)
                have hown0 : OwnI wq.heap.size (wq.alloc (.cells #[] 3)) (some ⟨wq.heap.size, 0, none⟩) 0 0 (rngL n0 0) := own_made wq
                have hbW : bX < wq.heap.size := hX.lt
                have HPT := Lib.hid hpt
                clear hC1 hC hPP hPR
                go_wp2_with fail
                generalize wq.alloc (.cells #[] 3) = u2 at hC2 hX2 hown0 ⊢
                generalize wq.heap.size = bW at hC2 hown0 hbW ⊢
                go_loopw [15, 68] (fun o i wy => ∃ (t c5 : Nat) (S : Option Addr), t ≤ N ∧ i = .int .i64 (t : Nat) ∧ o = .slice S t c5 ∧ OwnI bW wy S t c5 (rngL n0 t) ∧ Blk wy bX 92 #[.int .i64 x.k, .string x.nm, .string x.op, .slice C j cc, .int .i64 x.pt, .int .i64 x.wd, .int .i64 x.vl] ∧ Cs Q wy bW g ol (n0 + (t : Nat)) n1 nG A1 B1 d WA wc hs EA k ec el #[.int .i64 0, .int .i64 0, .slice none 0 0, .slice none 0 0, .slice WA k wc, .slice EA k ec] rs) (fun _ i _ => N - (intOf i).toNat)
                case atStart => exact ⟨0, 0, _, by omega, rfl, rfl, hown0, hX2, by rw [show n0 + ((0 : Nat) : Int) = n0 by omega]; exact hC2⟩
                case round =>
                  clear hown0 hX2 hC2 hX
                  obtain ⟨t, c5, S, ht, rfl, rfl, hown, hX, hC⟩ := hrel
                  have hxlt := hC.xlt
                  have hX_l := hX.lt
                  have hX_0 := hX.cell 0 _ rfl
                  rw [hk1] at hX_0
                  by_cases hlt3 : t < N
                  · have i3 : (t : Int) < N := by omega
                    have hX_4 := hX.cell 4 _ rfl
                    rw [HPT.out] at hX_4
                    have hnx := hC.nx
                    have hnx_l := hnx.lt
                    have hnx_0 := hnx.cell 0 _ rfl
                    have HRG := Lib.hid (rngL_step n0 t)
                    have hrow : ∀ q, S.map (·.block) = some q → bW ≤ q := fun q hq => (hown.blk q hq).1
                    go_wp2_with (at_builtin; refine ap_int rfl rfl rfl (hown.alloc _) rfl (rd_new1 _ _ _) (by omega) (by have := hC.tm; simp; omega) ?_; intro S9 c9 w9 ho9 hg9 hat9; replace hC := (hC.keep ((Bl.refl _).alloc (.cells #[.int .i64 (n0 + (t : Nat))] 3))).other hg9 hrow; replace hX := (hX.alloc (.cells #[.int .i64 (n0 + (t : Nat))] 3)).grown hg9 (fun e => by have := hrow _ e.symm; omega); clear hX_l hX_0 hX_4 hnx_l hnx_0 hnx hg9; have hX_l := hX.lt; have hX_4 := hX.cell 4 _ rfl; rw [HPT.out] at hX_4; have hnx := hC.nx; have hnx_l := hnx.lt; have hnx_f := hnx.frozen; have hnx_0 := hnx.cell 0 _ rfl)
                    have hs9 := hC.next0 (n0 + ((t : Nat) : Int) + 1)
                    have hX9 := hX.far (p := ⟨Q.bT, 0, none⟩) (by show bX ≠ Q.bT; have := HBX.out; have := HCX.out; omega) (.int .i64 (n0 + ((t : Nat) : Int) + 1))
                    have ho10 := own_blk ho9 (w' := w9.setCell ⟨Q.bT, 0, none⟩ (.int .i64 (n0 + ((t : Nat) : Int) + 1))) (fun q e hq => (grownBy_setCell w9 Q.bT 0 _).block q hq (fun e2 => by injection e2 with e2; have := (ho9.blk q e).1; omega))
                    clear hnx_f hnx_l hnx hnx_0 hX_4 hX_l
                    go_roundw
                    case rel => exact ⟨t + 1, c9, S9, by omega, by go_num, rfl, by rw [HRG.out]; first | exact ho10 | (rw [Int.add_assoc] at ho10; exact ho10), by first | exact hX9 | (rw [Int.add_assoc] at hX9; exact hX9), by rw [show n0 + ((t + 1 : Nat) : Int) = n0 + (t : Int) + 1 by omega]; first | exact hs9 | (rw [Int.add_assoc] at hs9 ⊢; exact hs9)⟩
                    case measure => simp [intOf]; omega
                  · have i3 : ¬ (t : Int) < N := by omega
                    have hkn3 : t = N := by omega
                    subst hkn3
                    have HMEM := Lib.hid (show ((⟨S, t, c5⟩ : Hd), rngL n0 t) ∈ rs ++ [((⟨S, t, c5⟩ : Hd), rngL n0 t)] by simp)
                    have HRS2 := Lib.hid (HRS.out.mono (rs' := rs ++ [((⟨S, t, c5⟩ : Hd), rngL n0 t)]) (fun p hp => List.mem_append.2 (.inl hp)))
                    replace hC := hC.fresh hown
                    clear hown
                    go_wp2_with fail
                    generalize hWZ : wr.heap.size = tz at hC
                    clear hWZ
                    obtain ⟨cG, hMk, _⟩ := hC.mkr
                    have hgc := hMk.cell 2 _ rfl
                    have hMk_l := hMk.lt
                    clear hMk
                    have hkn1 : k + 1 ≤ 3000000 := by omega
                    refine region_F (fun _ => True) (fun w' => w'.cell? ⟨Q.bO, 4, none⟩ = some (.slice WA k wc) ∧ w'.cell? ⟨Q.bO, 5, none⟩ = some (.slice EA k ec) ∧ w'.cell? ⟨Q.x, 2, none⟩ = some (.slice A1 nG cG)) 16 (by kernel_rfl) ?_ (fun hHeld => ?_)
                    · (try dsimp only); exact ⟨trivial, hC.ou.cell 4 _ rfl, hC.ou.cell 5 _ rfl, hgc⟩
                    replace hC := hC.keep ((Bl.refl _).drew)
                    replace hgc := Bl.cells ((Bl.refl _).drew) hgc
                    generalize wr.drew = y0 at hC hgc hHeld ⊢
                    refine f_takeC (i := 0) (d := 102) (v := ?_) [0] rfl rfl (by kernel_rfl) (by kernel_rfl) (by kernel_rfl) (by kernel_rfl) (by kernel_rfl) (by kernel_rfl) (fun _ _ _ h => h) (by decide) (Or.inl ⟨by rfl, ?_⟩) hHeld ?_
                    rotate_left
                    · (intro w hSw; (try dsimp only at hSw); go_simp; (try with_reducible rfl))
                    simp only [List.set_cons_zero, List.set_cons_succ]
                    refine f_takeC (i := 1) (d := 103) (v := ?_) [1] rfl rfl (by kernel_rfl) (by kernel_rfl) (by kernel_rfl) (by kernel_rfl) (by kernel_rfl) (by kernel_rfl) (fun _ _ _ h => h) (by decide) (Or.inl ⟨by rfl, ?_⟩) hHeld ?_
                    rotate_left
                    · (intro w hSw; (try dsimp only at hSw); go_simp; (try with_reducible rfl))
                    simp only [List.set_cons_zero, List.set_cons_succ]
                    refine f_takeC (i := 2) (d := 104) (v := ?_) [2] rfl rfl (by kernel_rfl) (by kernel_rfl) (by kernel_rfl) (by kernel_rfl) (by kernel_rfl) (by kernel_rfl) (fun _ _ _ h => h) (by decide) (Or.inl ⟨by rfl, ?_⟩) hHeld ?_
                    rotate_left
                    · (intro w hSw; (try dsimp only at hSw); go_simp; (try with_reducible rfl))
                    simp only [List.set_cons_zero, List.set_cons_succ]
                    refine f_takeC (i := 5) (d := 107) (v := ?_) [5] rfl rfl (by kernel_rfl) (by kernel_rfl) (by kernel_rfl) (by kernel_rfl) (by kernel_rfl) (by kernel_rfl) (fun _ _ _ h => h) (by decide) (Or.inl ⟨by rfl, ?_⟩) hHeld ?_
                    rotate_left
                    · (intro w hSw; (try dsimp only at hSw); go_simp; (try with_reducible rfl))
                    simp only [List.set_cons_zero, List.set_cons_succ]
                    refine f_takeC (i := 6) (d := 108) (v := ?_) [6] rfl rfl (by kernel_rfl) (by kernel_rfl) (by kernel_rfl) (by kernel_rfl) (by kernel_rfl) (by kernel_rfl) (fun _ _ _ h => h) (by decide) (Or.inl ⟨by rfl, ?_⟩) hHeld ?_
                    rotate_left
                    · (intro w hSw; (try dsimp only at hSw); go_simp; (try with_reducible rfl))
                    simp only [List.set_cons_zero, List.set_cons_succ]
                    refine f_takeC (i := 7) (d := 109) (v := ?_) [14, 13, 12, 11, 10, 9, 8, 7] rfl rfl (by kernel_rfl) (by kernel_rfl) (by kernel_rfl) (by kernel_rfl) (by kernel_rfl) (by kernel_rfl) (fun _ _ _ h => h) (by decide) (Or.inl ⟨by rfl, ?_⟩) hHeld ?_
                    rotate_left
                    · (intro w hSw; (try dsimp only at hSw); go_simp; (try with_reducible rfl))
                    simp only [List.set_cons_zero, List.set_cons_succ]
                    refine f_takeC (i := 8) (d := 110) (v := ?_) [14, 13, 12, 11, 10, 9, 8] rfl rfl (by kernel_rfl) (by kernel_rfl) (by kernel_rfl) (by kernel_rfl) (by kernel_rfl) (by kernel_rfl) (fun _ _ _ h => h) (by decide) (Or.inl ⟨by rfl, ?_⟩) hHeld ?_
                    rotate_left
                    · (intro w hSw; (try dsimp only at hSw); go_simp; (try with_reducible rfl))
                    simp only [List.set_cons_zero, List.set_cons_succ]
                    refine f_takeC (i := 9) (d := 111) (v := ?_) [14, 13, 12, 11, 10, 9] rfl rfl (by kernel_rfl) (by kernel_rfl) (by kernel_rfl) (by kernel_rfl) (by kernel_rfl) (by kernel_rfl) (fun _ _ _ h => h) (by decide) (Or.inl ⟨by rfl, ?_⟩) hHeld ?_
                    rotate_left
                    · (intro w hSw; (try dsimp only at hSw); go_simp; (try with_reducible rfl))
                    simp only [List.set_cons_zero, List.set_cons_succ]
                    refine f_takeC (i := 10) (d := 112) (v := ?_) [14, 13, 12, 11, 10] rfl rfl (by kernel_rfl) (by kernel_rfl) (by kernel_rfl) (by kernel_rfl) (by kernel_rfl) (by kernel_rfl) (fun _ _ _ h => h) (by decide) (Or.inl ⟨by rfl, ?_⟩) hHeld ?_
                    rotate_left
                    · (intro w hSw; (try dsimp only at hSw); go_simp; (try with_reducible rfl))
                    simp only [List.set_cons_zero, List.set_cons_succ]
                    refine f_takeC (i := 11) (d := 113) (v := ?_) [14, 13, 12, 11] rfl rfl (by kernel_rfl) (by kernel_rfl) (by kernel_rfl) (by kernel_rfl) (by kernel_rfl) (by kernel_rfl) (fun _ _ _ h => h) (by decide) (Or.inl ⟨by rfl, ?_⟩) hHeld ?_
                    rotate_left
                    · (intro w hSw; (try dsimp only at hSw); go_simp; (try with_reducible rfl))
                    simp only [List.set_cons_zero, List.set_cons_succ]
                    refine f_takeC (i := 12) (d := 114) (v := ?_) [14, 13, 12] rfl rfl (by kernel_rfl) (by kernel_rfl) (by kernel_rfl) (by kernel_rfl) (by kernel_rfl) (by kernel_rfl) (fun _ _ _ h => h) (by decide) (Or.inl ⟨by rfl, ?_⟩) hHeld ?_
                    rotate_left
                    · (intro w hSw; (try dsimp only at hSw); go_simp; (try with_reducible rfl))
                    simp only [List.set_cons_zero, List.set_cons_succ]
                    refine f_all (rs := [3, 13]) (by kernel_rfl) (by simp) ?_
                    intro qr hqr
                    simp only [List.mem_cons, List.not_mem_nil, or_false] at hqr
                    rcases hqr with rfl | rfl
                    · refine ⟨_, rfl, fun K hK => ?_⟩
                      go_simp
                      have hHL := rd_hd1 y0 (⟨S, t, c5⟩ : Hd)
                      replace hC := hC.keep ((Bl.refl _).alloc (.cells #[.slice S t c5] 27))
                      replace hgc := Bl.cells ((Bl.refl _).alloc (.cells #[.slice S t c5] 27)) hgc
                      generalize y0.alloc (.cells #[.slice S t c5] 27) = y3 at hC hgc hHL ⊢
                      generalize y0.heap.size = z3 at hHL ⊢
                      refine hK.out _ _ ?_ (fun hHeld => ?_)
                      · (try dsimp only); exact ⟨trivial, hC.ou.cell 4 _ rfl, hC.ou.cell 5 _ rfl, hgc⟩
                      clear hK K
                      (try simp only [Act.put]); (try simp only [List.setIfInBounds_toArray]); (try simp only [List.set_cons_succ]); (try simp only [List.set_cons_zero])
                      refine f_all (rs := [4, 13]) (by kernel_rfl) (by simp) ?_
                      intro qr hqr
                      simp only [List.mem_cons, List.not_mem_nil, or_false] at hqr
                      rcases hqr with rfl | rfl
                      · refine ⟨_, rfl, fun K hK => ?_⟩
                        refine ap_hdv_step (y := (⟨S, t, c5⟩ : Hd)) rfl rfl rfl (by have := hC.wi; rw [HSL.out] at this; exact this) rfl hHL (by omega) hC.bl.sz ?_; intro WA4 c4 y4 ho4 hg4 hat4; replace hgc := hg4.cell hgc (fun e => hC.at_ 3 rfl (j := 0) rfl (by decide) _ e.symm rfl); replace hC := hC.pushW (y := (⟨S, t, c5⟩ : Hd)) (by rw [HSL.out]; exact ho4) hg4 hat4; clear ho4 hg4 hat4 hHL
                        refine hK.out _ _ ?_ (fun hHeld => ?_)
                        · (try dsimp only); exact ⟨trivial, hC.ou.cell 4 _ rfl, hC.ou.cell 5 _ rfl, hgc⟩
                        clear hK K
                        (try simp only [Act.put]); (try simp only [List.setIfInBounds_toArray]); (try simp only [List.set_cons_succ]); (try simp only [List.set_cons_zero])
                        refine f_takeC (i := 15) (d := 117) (v := ?_) [15] rfl rfl (by kernel_rfl) (by kernel_rfl) (by kernel_rfl) (by kernel_rfl) (by kernel_rfl) (by kernel_rfl) (fun _ _ _ h => h) (by decide) (Or.inl ⟨by rfl, ?_⟩) hHeld ?_
                        rotate_left
                        · (intro w hSw; (try dsimp only at hSw); go_simp; (try with_reducible rfl))
                        simp only [List.set_cons_zero, List.set_cons_succ]
                        refine f_step (i := 13) (by kernel_rfl) rfl (fun K hK => ?_)
                        go_simp
                        have hIL := rd_new1 y4 3 ((nG : Nat) : Int)
                        replace hC := hC.keep ((Bl.refl _).alloc (.cells #[.int .i64 (nG : Nat)] 3))
                        replace hgc := Bl.cells ((Bl.refl _).alloc (.cells #[.int .i64 (nG : Nat)] 3)) hgc
                        generalize y4.alloc (.cells #[.int .i64 (nG : Nat)] 3) = y13 at hC hgc hIL ⊢
                        generalize y4.heap.size = z13 at hIL ⊢
                        refine hK.out _ _ ?_ (fun hHeld => ?_)
                        · (try dsimp only); exact ⟨trivial, hC.ou.cell 4 _ rfl, hC.ou.cell 5 _ rfl, hgc⟩
                        clear hK K
                        (try simp only [Act.put]); (try simp only [List.setIfInBounds_toArray]); (try simp only [List.set_cons_succ]); (try simp only [List.set_cons_zero])
                        refine f_step (i := 14) (by kernel_rfl) rfl (fun K hK => ?_)
                        refine ap_int_step rfl rfl rfl hC.en rfl hIL (by omega) hC.bl.sz ?_; intro EA4 c14 y14 ho14 hg14 hat14; replace hgc := hg14.cell hgc (fun e => hC.at_ 4 rfl (j := 0) rfl (by decide) _ e.symm rfl); replace hC := hC.pushE ho14 hg14 hat14; clear ho14 hg14 hat14 hIL
                        refine hK.out _ _ ?_ (fun hHeld => ?_)
                        · (try dsimp only); exact ⟨trivial, hC.ou.cell 4 _ rfl, hC.ou.cell 5 _ rfl, hgc⟩
                        clear hK K
                        (try simp only [Act.put]); (try simp only [List.setIfInBounds_toArray]); (try simp only [List.set_cons_succ]); (try simp only [List.set_cons_zero])
                        refine f_last (i := 16) (by kernel_rfl) rfl (by simp) (fun K hK => ?_)
                        have hof := hC.ou.frozen
                        have hol := hC.ou.lt
                        have hoc := hC.ou.cell 4 _ rfl
                        go_simp
                        replace hC := hC.store 4 (.slice WA4 (k + 1) c4)
                        clear hof hol hoc
                        refine hK.out _ _ ?_ (fun hHeld => ?_)
                        · exact trivial
                        clear hK K
                        (try simp only [Act.put]); (try simp only [List.setIfInBounds_toArray]); (try simp only [List.set_cons_succ]); (try simp only [List.set_cons_zero])
                        refine f_takeS (i := 17) (d := 118) (v := ?_) rfl rfl (by kernel_rfl) (by kernel_rfl) (by kernel_rfl) (by kernel_rfl) (fun _ _ _ h => h) (by decide) (Or.inl ⟨by rfl, ?_⟩) hHeld (fun h => by simp at h) ?_
                        rotate_left
                        · (intro w hSw; (try dsimp only at hSw); go_simp; (try with_reducible rfl))
                        simp only [List.set_cons_zero, List.set_cons_succ]
                        refine f_last (i := 18) (by kernel_rfl) rfl (by simp) (fun K hK => ?_)
                        have hof := hC.ou.frozen
                        have hol := hC.ou.lt
                        have hoc := hC.ou.cell 5 _ rfl
                        go_simp
                        replace hC := hC.store 5 (.slice EA4 (k + 1) c14)
                        clear hof hol hoc
                        refine hK.out _ _ ?_ (fun hHeld => ?_)
                        · exact trivial
                        clear hK K
                        (try simp only [Act.put]); (try simp only [List.setIfInBounds_toArray]); (try simp only [List.set_cons_succ]); (try simp only [List.set_cons_zero])
                        refine f_done (by kernel_rfl) ?_ _
                        go_wp2_with fail
                        go_roundw
                        case rel => exact ⟨k + 1, _, _, c4, c14, _, _, _, WA4, EA4, hs ++ [(⟨S, t, c5⟩ : Hd)], _, _, by omega, by go_num, by rw [HFIN.out]; exact HRS2.out.push HMEM.out, by rw [HFIN.out]; exact hC⟩
                        case measure => simp [intOf]; omega
                      · refine ⟨_, rfl, fun K hK => ?_⟩
                        go_simp
                        have hIL := rd_new1 y3 3 ((nG : Nat) : Int)
                        have hz13 : ∀ q, WA.map (·.block) = some q → q ≠ y3.heap.size := fun q hq => by have := hC.ltA.2.2.1 q hq; have := hC.tm; omega
                        replace hC := hC.keep ((Bl.refl _).alloc (.cells #[.int .i64 (nG : Nat)] 3))
                        replace hgc := Bl.cells ((Bl.refl _).alloc (.cells #[.int .i64 (nG : Nat)] 3)) hgc
                        replace hHL := hHL.keep ((Bl.refl _).alloc (.cells #[.int .i64 (nG : Nat)] 3))
                        generalize y3.alloc (.cells #[.int .i64 (nG : Nat)] 3) = y13 at hC hgc hIL hHL ⊢
                        generalize y3.heap.size = z13 at hIL hz13 ⊢
                        refine hK.out _ _ ?_ (fun hHeld => ?_)
                        · (try dsimp only); exact ⟨trivial, hC.ou.cell 4 _ rfl, hC.ou.cell 5 _ rfl, hgc⟩
                        clear hK K
                        (try simp only [Act.put]); (try simp only [List.setIfInBounds_toArray]); (try simp only [List.set_cons_succ]); (try simp only [List.set_cons_zero])
                        refine f_step (i := 4) (by kernel_rfl) rfl (fun K hK => ?_)
                        refine ap_hdv_step (y := (⟨S, t, c5⟩ : Hd)) rfl rfl rfl (by have := hC.wi; rw [HSL.out] at this; exact this) rfl hHL (by omega) hC.bl.sz ?_; intro WA4 c4 y4 ho4 hg4 hat4; replace hgc := hg4.cell hgc (fun e => hC.at_ 3 rfl (j := 0) rfl (by decide) _ e.symm rfl); replace hIL := hIL.grownF_ hg4 (fun e => hz13 _ e rfl); replace hC := hC.pushW (y := (⟨S, t, c5⟩ : Hd)) (by rw [HSL.out]; exact ho4) hg4 hat4; clear ho4 hg4 hat4 hHL
                        refine hK.out _ _ ?_ (fun hHeld => ?_)
                        · (try dsimp only); exact ⟨trivial, hC.ou.cell 4 _ rfl, hC.ou.cell 5 _ rfl, hgc⟩
                        clear hK K
                        (try simp only [Act.put]); (try simp only [List.setIfInBounds_toArray]); (try simp only [List.set_cons_succ]); (try simp only [List.set_cons_zero])
                        refine f_takeC (i := 15) (d := 117) (v := ?_) [15] rfl rfl (by kernel_rfl) (by kernel_rfl) (by kernel_rfl) (by kernel_rfl) (by kernel_rfl) (by kernel_rfl) (fun _ _ _ h => h) (by decide) (Or.inl ⟨by rfl, ?_⟩) hHeld ?_
                        rotate_left
                        · (intro w hSw; (try dsimp only at hSw); go_simp; (try with_reducible rfl))
                        simp only [List.set_cons_zero, List.set_cons_succ]
                        refine f_step (i := 14) (by kernel_rfl) rfl (fun K hK => ?_)
                        refine ap_int_step rfl rfl rfl hC.en rfl hIL (by omega) hC.bl.sz ?_; intro EA4 c14 y14 ho14 hg14 hat14; replace hgc := hg14.cell hgc (fun e => hC.at_ 4 rfl (j := 0) rfl (by decide) _ e.symm rfl); replace hC := hC.pushE ho14 hg14 hat14; clear ho14 hg14 hat14 hIL
                        refine hK.out _ _ ?_ (fun hHeld => ?_)
                        · (try dsimp only); exact ⟨trivial, hC.ou.cell 4 _ rfl, hC.ou.cell 5 _ rfl, hgc⟩
                        clear hK K
                        (try simp only [Act.put]); (try simp only [List.setIfInBounds_toArray]); (try simp only [List.set_cons_succ]); (try simp only [List.set_cons_zero])
                        refine f_last (i := 16) (by kernel_rfl) rfl (by simp) (fun K hK => ?_)
                        have hof := hC.ou.frozen
                        have hol := hC.ou.lt
                        have hoc := hC.ou.cell 4 _ rfl
                        go_simp
                        replace hC := hC.store 4 (.slice WA4 (k + 1) c4)
                        clear hof hol hoc
                        refine hK.out _ _ ?_ (fun hHeld => ?_)
                        · exact trivial
                        clear hK K
                        (try simp only [Act.put]); (try simp only [List.setIfInBounds_toArray]); (try simp only [List.set_cons_succ]); (try simp only [List.set_cons_zero])
                        refine f_takeS (i := 17) (d := 118) (v := ?_) rfl rfl (by kernel_rfl) (by kernel_rfl) (by kernel_rfl) (by kernel_rfl) (fun _ _ _ h => h) (by decide) (Or.inl ⟨by rfl, ?_⟩) hHeld (fun h => by simp at h) ?_
                        rotate_left
                        · (intro w hSw; (try dsimp only at hSw); go_simp; (try with_reducible rfl))
                        simp only [List.set_cons_zero, List.set_cons_succ]
                        refine f_last (i := 18) (by kernel_rfl) rfl (by simp) (fun K hK => ?_)
                        have hof := hC.ou.frozen
                        have hol := hC.ou.lt
                        have hoc := hC.ou.cell 5 _ rfl
                        go_simp
                        replace hC := hC.store 5 (.slice EA4 (k + 1) c14)
                        clear hof hol hoc
                        refine hK.out _ _ ?_ (fun hHeld => ?_)
                        · exact trivial
                        clear hK K
                        (try simp only [Act.put]); (try simp only [List.setIfInBounds_toArray]); (try simp only [List.set_cons_succ]); (try simp only [List.set_cons_zero])
                        refine f_done (by kernel_rfl) ?_ _
                        go_wp2_with fail
                        go_roundw
                        case rel => exact ⟨k + 1, _, _, c4, c14, _, _, _, WA4, EA4, hs ++ [(⟨S, t, c5⟩ : Hd)], _, _, by omega, by go_num, by rw [HFIN.out]; exact HRS2.out.push HMEM.out, by rw [HFIN.out]; exact hC⟩
                        case measure => simp [intOf]; omega
                    · refine ⟨_, rfl, fun K hK => ?_⟩
                      go_simp
                      have hIL := rd_new1 y0 3 ((nG : Nat) : Int)
                      have hz13 : ∀ q, WA.map (·.block) = some q → q ≠ y0.heap.size := fun q hq => by have := hC.ltA.2.2.1 q hq; have := hC.tm; omega
                      replace hC := hC.keep ((Bl.refl _).alloc (.cells #[.int .i64 (nG : Nat)] 3))
                      replace hgc := Bl.cells ((Bl.refl _).alloc (.cells #[.int .i64 (nG : Nat)] 3)) hgc
                      generalize y0.alloc (.cells #[.int .i64 (nG : Nat)] 3) = y13 at hC hgc hIL ⊢
                      generalize y0.heap.size = z13 at hIL hz13 ⊢
                      refine hK.out _ _ ?_ (fun hHeld => ?_)
                      · (try dsimp only); exact ⟨trivial, hC.ou.cell 4 _ rfl, hC.ou.cell 5 _ rfl, hgc⟩
                      clear hK K
                      (try simp only [Act.put]); (try simp only [List.setIfInBounds_toArray]); (try simp only [List.set_cons_succ]); (try simp only [List.set_cons_zero])
                      refine f_step (i := 3) (by kernel_rfl) rfl (fun K hK => ?_)
                      go_simp
                      have hHL := rd_hd1 y13 (⟨S, t, c5⟩ : Hd)
                      replace hC := hC.keep ((Bl.refl _).alloc (.cells #[.slice S t c5] 27))
                      replace hgc := Bl.cells ((Bl.refl _).alloc (.cells #[.slice S t c5] 27)) hgc
                      replace hIL := hIL.keep ((Bl.refl _).alloc (.cells #[.slice S t c5] 27))
                      generalize y13.alloc (.cells #[.slice S t c5] 27) = y3 at hC hgc hHL hIL ⊢
                      generalize y13.heap.size = z3 at hHL ⊢
                      refine hK.out _ _ ?_ (fun hHeld => ?_)
                      · (try dsimp only); exact ⟨trivial, hC.ou.cell 4 _ rfl, hC.ou.cell 5 _ rfl, hgc⟩
                      clear hK K
                      (try simp only [Act.put]); (try simp only [List.setIfInBounds_toArray]); (try simp only [List.set_cons_succ]); (try simp only [List.set_cons_zero])
                      refine f_step (i := 4) (by kernel_rfl) rfl (fun K hK => ?_)
                      refine ap_hdv_step (y := (⟨S, t, c5⟩ : Hd)) rfl rfl rfl (by have := hC.wi; rw [HSL.out] at this; exact this) rfl hHL (by omega) hC.bl.sz ?_; intro WA4 c4 y4 ho4 hg4 hat4; replace hgc := hg4.cell hgc (fun e => hC.at_ 3 rfl (j := 0) rfl (by decide) _ e.symm rfl); replace hIL := hIL.grownF_ hg4 (fun e => hz13 _ e rfl); replace hC := hC.pushW (y := (⟨S, t, c5⟩ : Hd)) (by rw [HSL.out]; exact ho4) hg4 hat4; clear ho4 hg4 hat4 hHL
                      refine hK.out _ _ ?_ (fun hHeld => ?_)
                      · (try dsimp only); exact ⟨trivial, hC.ou.cell 4 _ rfl, hC.ou.cell 5 _ rfl, hgc⟩
                      clear hK K
                      (try simp only [Act.put]); (try simp only [List.setIfInBounds_toArray]); (try simp only [List.set_cons_succ]); (try simp only [List.set_cons_zero])
                      refine f_takeC (i := 15) (d := 117) (v := ?_) [15] rfl rfl (by kernel_rfl) (by kernel_rfl) (by kernel_rfl) (by kernel_rfl) (by kernel_rfl) (by kernel_rfl) (fun _ _ _ h => h) (by decide) (Or.inl ⟨by rfl, ?_⟩) hHeld ?_
                      rotate_left
                      · (intro w hSw; (try dsimp only at hSw); go_simp; (try with_reducible rfl))
                      simp only [List.set_cons_zero, List.set_cons_succ]
                      refine f_step (i := 14) (by kernel_rfl) rfl (fun K hK => ?_)
                      refine ap_int_step rfl rfl rfl hC.en rfl hIL (by omega) hC.bl.sz ?_; intro EA4 c14 y14 ho14 hg14 hat14; replace hgc := hg14.cell hgc (fun e => hC.at_ 4 rfl (j := 0) rfl (by decide) _ e.symm rfl); replace hC := hC.pushE ho14 hg14 hat14; clear ho14 hg14 hat14 hIL
                      refine hK.out _ _ ?_ (fun hHeld => ?_)
                      · (try dsimp only); exact ⟨trivial, hC.ou.cell 4 _ rfl, hC.ou.cell 5 _ rfl, hgc⟩
                      clear hK K
                      (try simp only [Act.put]); (try simp only [List.setIfInBounds_toArray]); (try simp only [List.set_cons_succ]); (try simp only [List.set_cons_zero])
                      refine f_last (i := 16) (by kernel_rfl) rfl (by simp) (fun K hK => ?_)
                      have hof := hC.ou.frozen
                      have hol := hC.ou.lt
                      have hoc := hC.ou.cell 4 _ rfl
                      go_simp
                      replace hC := hC.store 4 (.slice WA4 (k + 1) c4)
                      clear hof hol hoc
                      refine hK.out _ _ ?_ (fun hHeld => ?_)
                      · exact trivial
                      clear hK K
                      (try simp only [Act.put]); (try simp only [List.setIfInBounds_toArray]); (try simp only [List.set_cons_succ]); (try simp only [List.set_cons_zero])
                      refine f_takeS (i := 17) (d := 118) (v := ?_) rfl rfl (by kernel_rfl) (by kernel_rfl) (by kernel_rfl) (by kernel_rfl) (fun _ _ _ h => h) (by decide) (Or.inl ⟨by rfl, ?_⟩) hHeld (fun h => by simp at h) ?_
                      rotate_left
                      · (intro w hSw; (try dsimp only at hSw); go_simp; (try with_reducible rfl))
                      simp only [List.set_cons_zero, List.set_cons_succ]
                      refine f_last (i := 18) (by kernel_rfl) rfl (by simp) (fun K hK => ?_)
                      have hof := hC.ou.frozen
                      have hol := hC.ou.lt
                      have hoc := hC.ou.cell 5 _ rfl
                      go_simp
                      replace hC := hC.store 5 (.slice EA4 (k + 1) c14)
                      clear hof hol hoc
                      refine hK.out _ _ ?_ (fun hHeld => ?_)
                      · exact trivial
                      clear hK K
                      (try simp only [Act.put]); (try simp only [List.setIfInBounds_toArray]); (try simp only [List.set_cons_succ]); (try simp only [List.set_cons_zero])
                      refine f_done (by kernel_rfl) ?_ _
                      go_wp2_with fail
                      go_roundw
                      case rel => exact ⟨k + 1, _, _, c4, c14, _, _, _, WA4, EA4, hs ++ [(⟨S, t, c5⟩ : Hd)], _, _, by omega, by go_num, by rw [HFIN.out]; exact HRS2.out.push HMEM.out, by rw [HFIN.out]; exact hC⟩
                      case measure => simp [intOf]; omega
            · as_aux_lemma =>
                rw [hpt] at hX_4
                have HFIN := Lib.hid (show cp (k + 1) = ⟨g, ol, W ++ [rngL n1 N], n0, n1 + (N : Nat)⟩ by rw [HNX.out]; unfold cpN; rw [if_pos hk1, if_neg (by rw [hpt]; decide), hN]; rfl)
                have hC2 := hC1.raise.keep ((Bl.refl wq).alloc (.cells #[] 3))
                have hX2 := hX.alloc (.cells #[] 3)
                have hown0 : OwnI wq.heap.size (wq.alloc (.cells #[] 3)) (some ⟨wq.heap.size, 0, none⟩) 0 0 (rngL n1 0) := own_made wq
                have hbW : bX < wq.heap.size := hX.lt
                have HPT := Lib.hid hpt
                clear hC1 hC hPP hPR
                go_wp2_with fail
                generalize wq.alloc (.cells #[] 3) = u2 at hC2 hX2 hown0 ⊢
                generalize wq.heap.size = bW at hC2 hown0 hbW ⊢
                go_loopw [15, 68] (fun o i wy => ∃ (t c5 : Nat) (S : Option Addr), t ≤ N ∧ i = .int .i64 (t : Nat) ∧ o = .slice S t c5 ∧ OwnI bW wy S t c5 (rngL n1 t) ∧ Blk wy bX 92 #[.int .i64 x.k, .string x.nm, .string x.op, .slice C j cc, .int .i64 x.pt, .int .i64 x.wd, .int .i64 x.vl] ∧ Cs Q wy bW g ol n0 (n1 + (t : Nat)) nG A1 B1 d WA wc hs EA k ec el #[.int .i64 0, .int .i64 0, .slice none 0 0, .slice none 0 0, .slice WA k wc, .slice EA k ec] rs) (fun _ i _ => N - (intOf i).toNat)
                case atStart => exact ⟨0, 0, _, by omega, rfl, rfl, hown0, hX2, by rw [show n1 + ((0 : Nat) : Int) = n1 by omega]; exact hC2⟩
                case round =>
                  clear hown0 hX2 hC2 hX
                  obtain ⟨t, c5, S, ht, rfl, rfl, hown, hX, hC⟩ := hrel
                  have hxlt := hC.xlt
                  have hX_l := hX.lt
                  have hX_0 := hX.cell 0 _ rfl
                  rw [hk1] at hX_0
                  by_cases hlt3 : t < N
                  · have i3 : (t : Int) < N := by omega
                    have hX_4 := hX.cell 4 _ rfl
                    rw [HPT.out] at hX_4
                    have hnx := hC.nx
                    have hnx_l := hnx.lt
                    have hnx_1 := hnx.cell 1 _ rfl
                    have HRG := Lib.hid (rngL_step n1 t)
                    have hrow : ∀ q, S.map (·.block) = some q → bW ≤ q := fun q hq => (hown.blk q hq).1
                    go_wp2_with (at_builtin; refine ap_int rfl rfl rfl (hown.alloc _) rfl (rd_new1 _ _ _) (by omega) (by have := hC.tm; simp; omega) ?_; intro S9 c9 w9 ho9 hg9 hat9; replace hC := (hC.keep ((Bl.refl _).alloc (.cells #[.int .i64 (n1 + (t : Nat))] 3))).other hg9 hrow; replace hX := (hX.alloc (.cells #[.int .i64 (n1 + (t : Nat))] 3)).grown hg9 (fun e => by have := hrow _ e.symm; omega); clear hX_l hX_0 hX_4 hnx_l hnx_1 hnx hg9; have hX_l := hX.lt; have hX_4 := hX.cell 4 _ rfl; rw [HPT.out] at hX_4; have hnx := hC.nx; have hnx_l := hnx.lt; have hnx_f := hnx.frozen; have hnx_1 := hnx.cell 1 _ rfl)
                    have hs9 := hC.next1 (n1 + ((t : Nat) : Int) + 1)
                    have hX9 := hX.far (p := ⟨Q.bT, 1, none⟩) (by show bX ≠ Q.bT; have := HBX.out; have := HCX.out; omega) (.int .i64 (n1 + ((t : Nat) : Int) + 1))
                    have ho10 := own_blk ho9 (w' := w9.setCell ⟨Q.bT, 1, none⟩ (.int .i64 (n1 + ((t : Nat) : Int) + 1))) (fun q e hq => (grownBy_setCell w9 Q.bT 1 _).block q hq (fun e2 => by injection e2 with e2; have := (ho9.blk q e).1; omega))
                    clear hnx_f hnx_l hnx hnx_1 hX_4 hX_l
                    go_roundw
                    case rel => exact ⟨t + 1, c9, S9, by omega, by go_num, rfl, by rw [HRG.out]; first | exact ho10 | (rw [Int.add_assoc] at ho10; exact ho10), by first | exact hX9 | (rw [Int.add_assoc] at hX9; exact hX9), by rw [show n1 + ((t + 1 : Nat) : Int) = n1 + (t : Int) + 1 by omega]; first | exact hs9 | (rw [Int.add_assoc] at hs9 ⊢; exact hs9)⟩
                    case measure => simp [intOf]; omega
                  · have i3 : ¬ (t : Int) < N := by omega
                    have hkn3 : t = N := by omega
                    subst hkn3
                    have HMEM := Lib.hid (show ((⟨S, t, c5⟩ : Hd), rngL n1 t) ∈ rs ++ [((⟨S, t, c5⟩ : Hd), rngL n1 t)] by simp)
                    have HRS2 := Lib.hid (HRS.out.mono (rs' := rs ++ [((⟨S, t, c5⟩ : Hd), rngL n1 t)]) (fun p hp => List.mem_append.2 (.inl hp)))
                    replace hC := hC.fresh hown
                    clear hown
                    go_wp2_with fail
                    generalize hWZ : wr.heap.size = tz at hC
                    clear hWZ
                    obtain ⟨cG, hMk, _⟩ := hC.mkr
                    have hgc := hMk.cell 2 _ rfl
                    have hMk_l := hMk.lt
                    clear hMk
                    have hkn1 : k + 1 ≤ 3000000 := by omega
                    refine region_F (fun _ => True) (fun w' => w'.cell? ⟨Q.bO, 4, none⟩ = some (.slice WA k wc) ∧ w'.cell? ⟨Q.bO, 5, none⟩ = some (.slice EA k ec) ∧ w'.cell? ⟨Q.x, 2, none⟩ = some (.slice A1 nG cG)) 16 (by kernel_rfl) ?_ (fun hHeld => ?_)
                    · (try dsimp only); exact ⟨trivial, hC.ou.cell 4 _ rfl, hC.ou.cell 5 _ rfl, hgc⟩
                    replace hC := hC.keep ((Bl.refl _).drew)
                    replace hgc := Bl.cells ((Bl.refl _).drew) hgc
                    generalize wr.drew = y0 at hC hgc hHeld ⊢
                    refine f_takeC (i := 0) (d := 102) (v := ?_) [0] rfl rfl (by kernel_rfl) (by kernel_rfl) (by kernel_rfl) (by kernel_rfl) (by kernel_rfl) (by kernel_rfl) (fun _ _ _ h => h) (by decide) (Or.inl ⟨by rfl, ?_⟩) hHeld ?_
                    rotate_left
                    · (intro w hSw; (try dsimp only at hSw); go_simp; (try with_reducible rfl))
                    simp only [List.set_cons_zero, List.set_cons_succ]
                    refine f_takeC (i := 1) (d := 103) (v := ?_) [1] rfl rfl (by kernel_rfl) (by kernel_rfl) (by kernel_rfl) (by kernel_rfl) (by kernel_rfl) (by kernel_rfl) (fun _ _ _ h => h) (by decide) (Or.inl ⟨by rfl, ?_⟩) hHeld ?_
                    rotate_left
                    · (intro w hSw; (try dsimp only at hSw); go_simp; (try with_reducible rfl))
                    simp only [List.set_cons_zero, List.set_cons_succ]
                    refine f_takeC (i := 2) (d := 104) (v := ?_) [2] rfl rfl (by kernel_rfl) (by kernel_rfl) (by kernel_rfl) (by kernel_rfl) (by kernel_rfl) (by kernel_rfl) (fun _ _ _ h => h) (by decide) (Or.inl ⟨by rfl, ?_⟩) hHeld ?_
                    rotate_left
                    · (intro w hSw; (try dsimp only at hSw); go_simp; (try with_reducible rfl))
                    simp only [List.set_cons_zero, List.set_cons_succ]
                    refine f_takeC (i := 5) (d := 107) (v := ?_) [5] rfl rfl (by kernel_rfl) (by kernel_rfl) (by kernel_rfl) (by kernel_rfl) (by kernel_rfl) (by kernel_rfl) (fun _ _ _ h => h) (by decide) (Or.inl ⟨by rfl, ?_⟩) hHeld ?_
                    rotate_left
                    · (intro w hSw; (try dsimp only at hSw); go_simp; (try with_reducible rfl))
                    simp only [List.set_cons_zero, List.set_cons_succ]
                    refine f_takeC (i := 6) (d := 108) (v := ?_) [6] rfl rfl (by kernel_rfl) (by kernel_rfl) (by kernel_rfl) (by kernel_rfl) (by kernel_rfl) (by kernel_rfl) (fun _ _ _ h => h) (by decide) (Or.inl ⟨by rfl, ?_⟩) hHeld ?_
                    rotate_left
                    · (intro w hSw; (try dsimp only at hSw); go_simp; (try with_reducible rfl))
                    simp only [List.set_cons_zero, List.set_cons_succ]
                    refine f_takeC (i := 7) (d := 109) (v := ?_) [14, 13, 12, 11, 10, 9, 8, 7] rfl rfl (by kernel_rfl) (by kernel_rfl) (by kernel_rfl) (by kernel_rfl) (by kernel_rfl) (by kernel_rfl) (fun _ _ _ h => h) (by decide) (Or.inl ⟨by rfl, ?_⟩) hHeld ?_
                    rotate_left
                    · (intro w hSw; (try dsimp only at hSw); go_simp; (try with_reducible rfl))
                    simp only [List.set_cons_zero, List.set_cons_succ]
                    refine f_takeC (i := 8) (d := 110) (v := ?_) [14, 13, 12, 11, 10, 9, 8] rfl rfl (by kernel_rfl) (by kernel_rfl) (by kernel_rfl) (by kernel_rfl) (by kernel_rfl) (by kernel_rfl) (fun _ _ _ h => h) (by decide) (Or.inl ⟨by rfl, ?_⟩) hHeld ?_
                    rotate_left
                    · (intro w hSw; (try dsimp only at hSw); go_simp; (try with_reducible rfl))
                    simp only [List.set_cons_zero, List.set_cons_succ]
                    refine f_takeC (i := 9) (d := 111) (v := ?_) [14, 13, 12, 11, 10, 9] rfl rfl (by kernel_rfl) (by kernel_rfl) (by kernel_rfl) (by kernel_rfl) (by kernel_rfl) (by kernel_rfl) (fun _ _ _ h => h) (by decide) (Or.inl ⟨by rfl, ?_⟩) hHeld ?_
                    rotate_left
                    · (intro w hSw; (try dsimp only at hSw); go_simp; (try with_reducible rfl))
                    simp only [List.set_cons_zero, List.set_cons_succ]
                    refine f_takeC (i := 10) (d := 112) (v := ?_) [14, 13, 12, 11, 10] rfl rfl (by kernel_rfl) (by kernel_rfl) (by kernel_rfl) (by kernel_rfl) (by kernel_rfl) (by kernel_rfl) (fun _ _ _ h => h) (by decide) (Or.inl ⟨by rfl, ?_⟩) hHeld ?_
                    rotate_left
                    · (intro w hSw; (try dsimp only at hSw); go_simp; (try with_reducible rfl))
                    simp only [List.set_cons_zero, List.set_cons_succ]
                    refine f_takeC (i := 11) (d := 113) (v := ?_) [14, 13, 12, 11] rfl rfl (by kernel_rfl) (by kernel_rfl) (by kernel_rfl) (by kernel_rfl) (by kernel_rfl) (by kernel_rfl) (fun _ _ _ h => h) (by decide) (Or.inl ⟨by rfl, ?_⟩) hHeld ?_
                    rotate_left
                    · (intro w hSw; (try dsimp only at hSw); go_simp; (try with_reducible rfl))
                    simp only [List.set_cons_zero, List.set_cons_succ]
                    refine f_takeC (i := 12) (d := 114) (v := ?_) [14, 13, 12] rfl rfl (by kernel_rfl) (by kernel_rfl) (by kernel_rfl) (by kernel_rfl) (by kernel_rfl) (by kernel_rfl) (fun _ _ _ h => h) (by decide) (Or.inl ⟨by rfl, ?_⟩) hHeld ?_
                    rotate_left
                    · (intro w hSw; (try dsimp only at hSw); go_simp; (try with_reducible rfl))
                    simp only [List.set_cons_zero, List.set_cons_succ]
                    refine f_all (rs := [3, 13]) (by kernel_rfl) (by simp) ?_
                    intro qr hqr
                    simp only [List.mem_cons, List.not_mem_nil, or_false] at hqr
                    rcases hqr with rfl | rfl
                    · refine ⟨_, rfl, fun K hK => ?_⟩
                      go_simp
                      have hHL := rd_hd1 y0 (⟨S, t, c5⟩ : Hd)
                      replace hC := hC.keep ((Bl.refl _).alloc (.cells #[.slice S t c5] 27))
                      replace hgc := Bl.cells ((Bl.refl _).alloc (.cells #[.slice S t c5] 27)) hgc
                      generalize y0.alloc (.cells #[.slice S t c5] 27) = y3 at hC hgc hHL ⊢
                      generalize y0.heap.size = z3 at hHL ⊢
                      refine hK.out _ _ ?_ (fun hHeld => ?_)
                      · (try dsimp only); exact ⟨trivial, hC.ou.cell 4 _ rfl, hC.ou.cell 5 _ rfl, hgc⟩
                      clear hK K
                      (try simp only [Act.put]); (try simp only [List.setIfInBounds_toArray]); (try simp only [List.set_cons_succ]); (try simp only [List.set_cons_zero])
                      refine f_all (rs := [4, 13]) (by kernel_rfl) (by simp) ?_
                      intro qr hqr
                      simp only [List.mem_cons, List.not_mem_nil, or_false] at hqr
                      rcases hqr with rfl | rfl
                      · refine ⟨_, rfl, fun K hK => ?_⟩
                        refine ap_hdv_step (y := (⟨S, t, c5⟩ : Hd)) rfl rfl rfl (by have := hC.wi; rw [HSL.out] at this; exact this) rfl hHL (by omega) hC.bl.sz ?_; intro WA4 c4 y4 ho4 hg4 hat4; replace hgc := hg4.cell hgc (fun e => hC.at_ 3 rfl (j := 0) rfl (by decide) _ e.symm rfl); replace hC := hC.pushW (y := (⟨S, t, c5⟩ : Hd)) (by rw [HSL.out]; exact ho4) hg4 hat4; clear ho4 hg4 hat4 hHL
                        refine hK.out _ _ ?_ (fun hHeld => ?_)
                        · (try dsimp only); exact ⟨trivial, hC.ou.cell 4 _ rfl, hC.ou.cell 5 _ rfl, hgc⟩
                        clear hK K
                        (try simp only [Act.put]); (try simp only [List.setIfInBounds_toArray]); (try simp only [List.set_cons_succ]); (try simp only [List.set_cons_zero])
                        refine f_takeC (i := 15) (d := 117) (v := ?_) [15] rfl rfl (by kernel_rfl) (by kernel_rfl) (by kernel_rfl) (by kernel_rfl) (by kernel_rfl) (by kernel_rfl) (fun _ _ _ h => h) (by decide) (Or.inl ⟨by rfl, ?_⟩) hHeld ?_
                        rotate_left
                        · (intro w hSw; (try dsimp only at hSw); go_simp; (try with_reducible rfl))
                        simp only [List.set_cons_zero, List.set_cons_succ]
                        refine f_step (i := 13) (by kernel_rfl) rfl (fun K hK => ?_)
                        go_simp
                        have hIL := rd_new1 y4 3 ((nG : Nat) : Int)
                        replace hC := hC.keep ((Bl.refl _).alloc (.cells #[.int .i64 (nG : Nat)] 3))
                        replace hgc := Bl.cells ((Bl.refl _).alloc (.cells #[.int .i64 (nG : Nat)] 3)) hgc
                        generalize y4.alloc (.cells #[.int .i64 (nG : Nat)] 3) = y13 at hC hgc hIL ⊢
                        generalize y4.heap.size = z13 at hIL ⊢
                        refine hK.out _ _ ?_ (fun hHeld => ?_)
                        · (try dsimp only); exact ⟨trivial, hC.ou.cell 4 _ rfl, hC.ou.cell 5 _ rfl, hgc⟩
                        clear hK K
                        (try simp only [Act.put]); (try simp only [List.setIfInBounds_toArray]); (try simp only [List.set_cons_succ]); (try simp only [List.set_cons_zero])
                        refine f_step (i := 14) (by kernel_rfl) rfl (fun K hK => ?_)
                        refine ap_int_step rfl rfl rfl hC.en rfl hIL (by omega) hC.bl.sz ?_; intro EA4 c14 y14 ho14 hg14 hat14; replace hgc := hg14.cell hgc (fun e => hC.at_ 4 rfl (j := 0) rfl (by decide) _ e.symm rfl); replace hC := hC.pushE ho14 hg14 hat14; clear ho14 hg14 hat14 hIL
                        refine hK.out _ _ ?_ (fun hHeld => ?_)
                        · (try dsimp only); exact ⟨trivial, hC.ou.cell 4 _ rfl, hC.ou.cell 5 _ rfl, hgc⟩
                        clear hK K
                        (try simp only [Act.put]); (try simp only [List.setIfInBounds_toArray]); (try simp only [List.set_cons_succ]); (try simp only [List.set_cons_zero])
                        refine f_last (i := 16) (by kernel_rfl) rfl (by simp) (fun K hK => ?_)
                        have hof := hC.ou.frozen
                        have hol := hC.ou.lt
                        have hoc := hC.ou.cell 4 _ rfl
                        go_simp
                        replace hC := hC.store 4 (.slice WA4 (k + 1) c4)
                        clear hof hol hoc
                        refine hK.out _ _ ?_ (fun hHeld => ?_)
                        · exact trivial
                        clear hK K
                        (try simp only [Act.put]); (try simp only [List.setIfInBounds_toArray]); (try simp only [List.set_cons_succ]); (try simp only [List.set_cons_zero])
                        refine f_takeS (i := 17) (d := 118) (v := ?_) rfl rfl (by kernel_rfl) (by kernel_rfl) (by kernel_rfl) (by kernel_rfl) (fun _ _ _ h => h) (by decide) (Or.inl ⟨by rfl, ?_⟩) hHeld (fun h => by simp at h) ?_
                        rotate_left
                        · (intro w hSw; (try dsimp only at hSw); go_simp; (try with_reducible rfl))
                        simp only [List.set_cons_zero, List.set_cons_succ]
                        refine f_last (i := 18) (by kernel_rfl) rfl (by simp) (fun K hK => ?_)
                        have hof := hC.ou.frozen
                        have hol := hC.ou.lt
                        have hoc := hC.ou.cell 5 _ rfl
                        go_simp
                        replace hC := hC.store 5 (.slice EA4 (k + 1) c14)
                        clear hof hol hoc
                        refine hK.out _ _ ?_ (fun hHeld => ?_)
                        · exact trivial
                        clear hK K
                        (try simp only [Act.put]); (try simp only [List.setIfInBounds_toArray]); (try simp only [List.set_cons_succ]); (try simp only [List.set_cons_zero])
                        refine f_done (by kernel_rfl) ?_ _
                        go_wp2_with fail
                        go_roundw
                        case rel => exact ⟨k + 1, _, _, c4, c14, _, _, _, WA4, EA4, hs ++ [(⟨S, t, c5⟩ : Hd)], _, _, by omega, by go_num, by rw [HFIN.out]; exact HRS2.out.push HMEM.out, by rw [HFIN.out]; exact hC⟩
                        case measure => simp [intOf]; omega
                      · refine ⟨_, rfl, fun K hK => ?_⟩
                        go_simp
                        have hIL := rd_new1 y3 3 ((nG : Nat) : Int)
                        have hz13 : ∀ q, WA.map (·.block) = some q → q ≠ y3.heap.size := fun q hq => by have := hC.ltA.2.2.1 q hq; have := hC.tm; omega
                        replace hC := hC.keep ((Bl.refl _).alloc (.cells #[.int .i64 (nG : Nat)] 3))
                        replace hgc := Bl.cells ((Bl.refl _).alloc (.cells #[.int .i64 (nG : Nat)] 3)) hgc
                        replace hHL := hHL.keep ((Bl.refl _).alloc (.cells #[.int .i64 (nG : Nat)] 3))
                        generalize y3.alloc (.cells #[.int .i64 (nG : Nat)] 3) = y13 at hC hgc hIL hHL ⊢
                        generalize y3.heap.size = z13 at hIL hz13 ⊢
                        refine hK.out _ _ ?_ (fun hHeld => ?_)
                        · (try dsimp only); exact ⟨trivial, hC.ou.cell 4 _ rfl, hC.ou.cell 5 _ rfl, hgc⟩
                        clear hK K
                        (try simp only [Act.put]); (try simp only [List.setIfInBounds_toArray]); (try simp only [List.set_cons_succ]); (try simp only [List.set_cons_zero])
                        refine f_step (i := 4) (by kernel_rfl) rfl (fun K hK => ?_)
                        refine ap_hdv_step (y := (⟨S, t, c5⟩ : Hd)) rfl rfl rfl (by have := hC.wi; rw [HSL.out] at this; exact this) rfl hHL (by omega) hC.bl.sz ?_; intro WA4 c4 y4 ho4 hg4 hat4; replace hgc := hg4.cell hgc (fun e => hC.at_ 3 rfl (j := 0) rfl (by decide) _ e.symm rfl); replace hIL := hIL.grownF_ hg4 (fun e => hz13 _ e rfl); replace hC := hC.pushW (y := (⟨S, t, c5⟩ : Hd)) (by rw [HSL.out]; exact ho4) hg4 hat4; clear ho4 hg4 hat4 hHL
                        refine hK.out _ _ ?_ (fun hHeld => ?_)
                        · (try dsimp only); exact ⟨trivial, hC.ou.cell 4 _ rfl, hC.ou.cell 5 _ rfl, hgc⟩
                        clear hK K
                        (try simp only [Act.put]); (try simp only [List.setIfInBounds_toArray]); (try simp only [List.set_cons_succ]); (try simp only [List.set_cons_zero])
                        refine f_takeC (i := 15) (d := 117) (v := ?_) [15] rfl rfl (by kernel_rfl) (by kernel_rfl) (by kernel_rfl) (by kernel_rfl) (by kernel_rfl) (by kernel_rfl) (fun _ _ _ h => h) (by decide) (Or.inl ⟨by rfl, ?_⟩) hHeld ?_
                        rotate_left
                        · (intro w hSw; (try dsimp only at hSw); go_simp; (try with_reducible rfl))
                        simp only [List.set_cons_zero, List.set_cons_succ]
                        refine f_step (i := 14) (by kernel_rfl) rfl (fun K hK => ?_)
                        refine ap_int_step rfl rfl rfl hC.en rfl hIL (by omega) hC.bl.sz ?_; intro EA4 c14 y14 ho14 hg14 hat14; replace hgc := hg14.cell hgc (fun e => hC.at_ 4 rfl (j := 0) rfl (by decide) _ e.symm rfl); replace hC := hC.pushE ho14 hg14 hat14; clear ho14 hg14 hat14 hIL
                        refine hK.out _ _ ?_ (fun hHeld => ?_)
                        · (try dsimp only); exact ⟨trivial, hC.ou.cell 4 _ rfl, hC.ou.cell 5 _ rfl, hgc⟩
                        clear hK K
                        (try simp only [Act.put]); (try simp only [List.setIfInBounds_toArray]); (try simp only [List.set_cons_succ]); (try simp only [List.set_cons_zero])
                        refine f_last (i := 16) (by kernel_rfl) rfl (by simp) (fun K hK => ?_)
                        have hof := hC.ou.frozen
                        have hol := hC.ou.lt
                        have hoc := hC.ou.cell 4 _ rfl
                        go_simp
                        replace hC := hC.store 4 (.slice WA4 (k + 1) c4)
                        clear hof hol hoc
                        refine hK.out _ _ ?_ (fun hHeld => ?_)
                        · exact trivial
                        clear hK K
                        (try simp only [Act.put]); (try simp only [List.setIfInBounds_toArray]); (try simp only [List.set_cons_succ]); (try simp only [List.set_cons_zero])
                        refine f_takeS (i := 17) (d := 118) (v := ?_) rfl rfl (by kernel_rfl) (by kernel_rfl) (by kernel_rfl) (by kernel_rfl) (fun _ _ _ h => h) (by decide) (Or.inl ⟨by rfl, ?_⟩) hHeld (fun h => by simp at h) ?_
                        rotate_left
                        · (intro w hSw; (try dsimp only at hSw); go_simp; (try with_reducible rfl))
                        simp only [List.set_cons_zero, List.set_cons_succ]
                        refine f_last (i := 18) (by kernel_rfl) rfl (by simp) (fun K hK => ?_)
                        have hof := hC.ou.frozen
                        have hol := hC.ou.lt
                        have hoc := hC.ou.cell 5 _ rfl
                        go_simp
                        replace hC := hC.store 5 (.slice EA4 (k + 1) c14)
                        clear hof hol hoc
                        refine hK.out _ _ ?_ (fun hHeld => ?_)
                        · exact trivial
                        clear hK K
                        (try simp only [Act.put]); (try simp only [List.setIfInBounds_toArray]); (try simp only [List.set_cons_succ]); (try simp only [List.set_cons_zero])
                        refine f_done (by kernel_rfl) ?_ _
                        go_wp2_with fail
                        go_roundw
                        case rel => exact ⟨k + 1, _, _, c4, c14, _, _, _, WA4, EA4, hs ++ [(⟨S, t, c5⟩ : Hd)], _, _, by omega, by go_num, by rw [HFIN.out]; exact HRS2.out.push HMEM.out, by rw [HFIN.out]; exact hC⟩
                        case measure => simp [intOf]; omega
                    · refine ⟨_, rfl, fun K hK => ?_⟩
                      go_simp
                      have hIL := rd_new1 y0 3 ((nG : Nat) : Int)
                      have hz13 : ∀ q, WA.map (·.block) = some q → q ≠ y0.heap.size := fun q hq => by have := hC.ltA.2.2.1 q hq; have := hC.tm; omega
                      replace hC := hC.keep ((Bl.refl _).alloc (.cells #[.int .i64 (nG : Nat)] 3))
                      replace hgc := Bl.cells ((Bl.refl _).alloc (.cells #[.int .i64 (nG : Nat)] 3)) hgc
                      generalize y0.alloc (.cells #[.int .i64 (nG : Nat)] 3) = y13 at hC hgc hIL ⊢
                      generalize y0.heap.size = z13 at hIL hz13 ⊢
                      refine hK.out _ _ ?_ (fun hHeld => ?_)
                      · (try dsimp only); exact ⟨trivial, hC.ou.cell 4 _ rfl, hC.ou.cell 5 _ rfl, hgc⟩
                      clear hK K
                      (try simp only [Act.put]); (try simp only [List.setIfInBounds_toArray]); (try simp only [List.set_cons_succ]); (try simp only [List.set_cons_zero])
                      refine f_step (i := 3) (by kernel_rfl) rfl (fun K hK => ?_)
                      go_simp
                      have hHL := rd_hd1 y13 (⟨S, t, c5⟩ : Hd)
                      replace hC := hC.keep ((Bl.refl _).alloc (.cells #[.slice S t c5] 27))
                      replace hgc := Bl.cells ((Bl.refl _).alloc (.cells #[.slice S t c5] 27)) hgc
                      replace hIL := hIL.keep ((Bl.refl _).alloc (.cells #[.slice S t c5] 27))
                      generalize y13.alloc (.cells #[.slice S t c5] 27) = y3 at hC hgc hHL hIL ⊢
                      generalize y13.heap.size = z3 at hHL ⊢
                      refine hK.out _ _ ?_ (fun hHeld => ?_)
                      · (try dsimp only); exact ⟨trivial, hC.ou.cell 4 _ rfl, hC.ou.cell 5 _ rfl, hgc⟩
                      clear hK K
                      (try simp only [Act.put]); (try simp only [List.setIfInBounds_toArray]); (try simp only [List.set_cons_succ]); (try simp only [List.set_cons_zero])
                      refine f_step (i := 4) (by kernel_rfl) rfl (fun K hK => ?_)
                      refine ap_hdv_step (y := (⟨S, t, c5⟩ : Hd)) rfl rfl rfl (by have := hC.wi; rw [HSL.out] at this; exact this) rfl hHL (by omega) hC.bl.sz ?_; intro WA4 c4 y4 ho4 hg4 hat4; replace hgc := hg4.cell hgc (fun e => hC.at_ 3 rfl (j := 0) rfl (by decide) _ e.symm rfl); replace hIL := hIL.grownF_ hg4 (fun e => hz13 _ e rfl); replace hC := hC.pushW (y := (⟨S, t, c5⟩ : Hd)) (by rw [HSL.out]; exact ho4) hg4 hat4; clear ho4 hg4 hat4 hHL
                      refine hK.out _ _ ?_ (fun hHeld => ?_)
                      · (try dsimp only); exact ⟨trivial, hC.ou.cell 4 _ rfl, hC.ou.cell 5 _ rfl, hgc⟩
                      clear hK K
                      (try simp only [Act.put]); (try simp only [List.setIfInBounds_toArray]); (try simp only [List.set_cons_succ]); (try simp only [List.set_cons_zero])
                      refine f_takeC (i := 15) (d := 117) (v := ?_) [15] rfl rfl (by kernel_rfl) (by kernel_rfl) (by kernel_rfl) (by kernel_rfl) (by kernel_rfl) (by kernel_rfl) (fun _ _ _ h => h) (by decide) (Or.inl ⟨by rfl, ?_⟩) hHeld ?_
                      rotate_left
                      · (intro w hSw; (try dsimp only at hSw); go_simp; (try with_reducible rfl))
                      simp only [List.set_cons_zero, List.set_cons_succ]
                      refine f_step (i := 14) (by kernel_rfl) rfl (fun K hK => ?_)
                      refine ap_int_step rfl rfl rfl hC.en rfl hIL (by omega) hC.bl.sz ?_; intro EA4 c14 y14 ho14 hg14 hat14; replace hgc := hg14.cell hgc (fun e => hC.at_ 4 rfl (j := 0) rfl (by decide) _ e.symm rfl); replace hC := hC.pushE ho14 hg14 hat14; clear ho14 hg14 hat14 hIL
                      refine hK.out _ _ ?_ (fun hHeld => ?_)
                      · (try dsimp only); exact ⟨trivial, hC.ou.cell 4 _ rfl, hC.ou.cell 5 _ rfl, hgc⟩
                      clear hK K
                      (try simp only [Act.put]); (try simp only [List.setIfInBounds_toArray]); (try simp only [List.set_cons_succ]); (try simp only [List.set_cons_zero])
                      refine f_last (i := 16) (by kernel_rfl) rfl (by simp) (fun K hK => ?_)
                      have hof := hC.ou.frozen
                      have hol := hC.ou.lt
                      have hoc := hC.ou.cell 4 _ rfl
                      go_simp
                      replace hC := hC.store 4 (.slice WA4 (k + 1) c4)
                      clear hof hol hoc
                      refine hK.out _ _ ?_ (fun hHeld => ?_)
                      · exact trivial
                      clear hK K
                      (try simp only [Act.put]); (try simp only [List.setIfInBounds_toArray]); (try simp only [List.set_cons_succ]); (try simp only [List.set_cons_zero])
                      refine f_takeS (i := 17) (d := 118) (v := ?_) rfl rfl (by kernel_rfl) (by kernel_rfl) (by kernel_rfl) (by kernel_rfl) (fun _ _ _ h => h) (by decide) (Or.inl ⟨by rfl, ?_⟩) hHeld (fun h => by simp at h) ?_
                      rotate_left
                      · (intro w hSw; (try dsimp only at hSw); go_simp; (try with_reducible rfl))
                      simp only [List.set_cons_zero, List.set_cons_succ]
                      refine f_last (i := 18) (by kernel_rfl) rfl (by simp) (fun K hK => ?_)
                      have hof := hC.ou.frozen
                      have hol := hC.ou.lt
                      have hoc := hC.ou.cell 5 _ rfl
                      go_simp
                      replace hC := hC.store 5 (.slice EA4 (k + 1) c14)
                      clear hof hol hoc
                      refine hK.out _ _ ?_ (fun hHeld => ?_)
                      · exact trivial
                      clear hK K
                      (try simp only [Act.put]); (try simp only [List.setIfInBounds_toArray]); (try simp only [List.set_cons_succ]); (try simp only [List.set_cons_zero])
                      refine f_done (by kernel_rfl) ?_ _
                      go_wp2_with fail
                      go_roundw
                      case rel => exact ⟨k + 1, _, _, c4, c14, _, _, _, WA4, EA4, hs ++ [(⟨S, t, c5⟩ : Hd)], _, _, by omega, by go_num, by rw [HFIN.out]; exact HRS2.out.push HMEM.out, by rw [HFIN.out]; exact hC⟩
                      case measure => simp [intOf]; omega
          · as_aux_lemma =>
            rw [hk1] at hX_0
            obtain ⟨⟨hw1, hw2⟩, hv1, hv2⟩ := HWK.out.k2 hk1
            obtain ⟨N, hN⟩ : ∃ N : Nat, x.wd = (N : Nat) := ⟨x.wd.toNat, by omega⟩
            have hC2 := hC1.keep ((Bl.refl wq).alloc (.cells #[] 3))
            have hX2 := hX.alloc (.cells #[] 3)
            have hPd := hPP.rd.keep ((Bl.refl wq).alloc (.cells #[] 3))
            have hPq : ∀ t, PA.map (·.block) = some t → t ≠ Q.x ∧ A1.map (·.block) ≠ some t := fun t ht => ⟨by have := (hPP.blk t ht).1; have := HCX.out; omega, fun e => by have := (hPP.blk t ht).1; have := hC.ltA.1 t e; have := HBX.out; omega⟩
            have hAX : A1.map (·.block) ≠ some bX := fun e => by have := hC.ltA.1 _ e; have := HBX.out; omega
            have hng : nG ≤ 300 := by have := HNG.out; omega
            have hme := hC2.me
            rw [HT.out] at hme
            have hcall := impl_line_2 hme x.nm x.op C j cc x.pt x.wd x.vl x (show x = ⟨2, x.nm, x.op, x.ps, x.pt, x.wd, x.vl⟩ by rw [← hk1]) PA j c3 hPq N hN ⟨hv1, hv2⟩ (by omega) P hng
            rw [show Mx.t ⟨Q.x, Q.base, Q.a, Q.b, B1, ol.length, d, ol⟩ = a + b by unfold Mx.t; rw [HAB.out.1, HAB.out.2]] at hcall
            obtain ⟨⟨g2, l2⟩, hgr⟩ : ∃ p, lineS mulI (a + b) x P g = p := ⟨_, rfl⟩
            have HFIN := Lib.hid (show cp (k + 1) = ⟨g2, ol, W ++ [l2], n0, n1⟩ by rw [HNX.out]; unfold cpN; rw [if_neg (by rw [hk1]; decide)]; dsimp only; rw [HP.out, hgr, if_neg (by rw [hk1]; decide)])
            rw [hgr] at hcall
            dsimp only at hcall
            have HCALL := Lib.hid hcall
            clear hcall hgr hme hN hPd hPq hPP hPR hC1 hC hX
            go_wp2_with fail
            refine HCALL.out.mono ?_
            intro e w6 hres
            obtain ⟨A6, nG6, S6, m6, c6, rfl, hm6, hf6, hr6, hq6⟩ := hres
            rw [← HT.out] at hm6
            have hC := hC2.made hm6 hf6 hr6 hq6
            have hX := hX2.fm hf6 (show bX ≠ Q.x by have := HCX.out; omega) hAX
            clear hC2 hX2 hm6 hf6 hq6 hX_l hX_0 hX_1 hX_2 hX_3 hX_4 hX_5 hX_6
            have hX_l := hX.lt
            have hX_0 := hX.cell 0 _ rfl
            rw [hk1] at hX_0
            obtain rfl : l2.length = m6 := hr6.length
            have HMEM := Lib.hid (show ((⟨S6, l2.length, c6⟩ : Hd), l2) ∈ rs ++ [((⟨S6, l2.length, c6⟩ : Hd), l2)] by simp)
            have HRS2 := Lib.hid (HRS.out.mono (rs' := rs ++ [((⟨S6, l2.length, c6⟩ : Hd), l2)]) (fun p hp => List.mem_append.2 (.inl hp)))
            clear hr6
            go_wp2_with fail
            generalize hWZ : w6.heap.size = tz at hC
            clear hWZ
            obtain ⟨cG, hMk, _⟩ := hC.mkr
            have hgc := hMk.cell 2 _ rfl
            have hMk_l := hMk.lt
            clear hMk
            have hkn1 : k + 1 ≤ 3000000 := by omega
            refine region_F (fun _ => True) (fun w' => w'.cell? ⟨Q.bO, 4, none⟩ = some (.slice WA k wc) ∧ w'.cell? ⟨Q.bO, 5, none⟩ = some (.slice EA k ec) ∧ w'.cell? ⟨Q.x, 2, none⟩ = some (.slice A6 nG6 cG)) 16 (by kernel_rfl) ?_ (fun hHeld => ?_)
            · (try dsimp only); exact ⟨trivial, hC.ou.cell 4 _ rfl, hC.ou.cell 5 _ rfl, hgc⟩
            replace hC := hC.keep ((Bl.refl _).drew)
            replace hgc := Bl.cells ((Bl.refl _).drew) hgc
            generalize w6.drew = y0 at hC hgc hHeld ⊢
            refine f_takeC (i := 0) (d := 102) (v := ?_) [0] rfl rfl (by kernel_rfl) (by kernel_rfl) (by kernel_rfl) (by kernel_rfl) (by kernel_rfl) (by kernel_rfl) (fun _ _ _ h => h) (by decide) (Or.inl ⟨by rfl, ?_⟩) hHeld ?_
            rotate_left
            · (intro w hSw; (try dsimp only at hSw); go_simp; (try with_reducible rfl))
            simp only [List.set_cons_zero, List.set_cons_succ]
            refine f_takeC (i := 1) (d := 103) (v := ?_) [1] rfl rfl (by kernel_rfl) (by kernel_rfl) (by kernel_rfl) (by kernel_rfl) (by kernel_rfl) (by kernel_rfl) (fun _ _ _ h => h) (by decide) (Or.inl ⟨by rfl, ?_⟩) hHeld ?_
            rotate_left
            · (intro w hSw; (try dsimp only at hSw); go_simp; (try with_reducible rfl))
            simp only [List.set_cons_zero, List.set_cons_succ]
            refine f_takeC (i := 2) (d := 104) (v := ?_) [2] rfl rfl (by kernel_rfl) (by kernel_rfl) (by kernel_rfl) (by kernel_rfl) (by kernel_rfl) (by kernel_rfl) (fun _ _ _ h => h) (by decide) (Or.inl ⟨by rfl, ?_⟩) hHeld ?_
            rotate_left
            · (intro w hSw; (try dsimp only at hSw); go_simp; (try with_reducible rfl))
            simp only [List.set_cons_zero, List.set_cons_succ]
            refine f_takeC (i := 5) (d := 107) (v := ?_) [5] rfl rfl (by kernel_rfl) (by kernel_rfl) (by kernel_rfl) (by kernel_rfl) (by kernel_rfl) (by kernel_rfl) (fun _ _ _ h => h) (by decide) (Or.inl ⟨by rfl, ?_⟩) hHeld ?_
            rotate_left
            · (intro w hSw; (try dsimp only at hSw); go_simp; (try with_reducible rfl))
            simp only [List.set_cons_zero, List.set_cons_succ]
            refine f_takeC (i := 6) (d := 108) (v := ?_) [6] rfl rfl (by kernel_rfl) (by kernel_rfl) (by kernel_rfl) (by kernel_rfl) (by kernel_rfl) (by kernel_rfl) (fun _ _ _ h => h) (by decide) (Or.inl ⟨by rfl, ?_⟩) hHeld ?_
            rotate_left
            · (intro w hSw; (try dsimp only at hSw); go_simp; (try with_reducible rfl))
            simp only [List.set_cons_zero, List.set_cons_succ]
            refine f_takeC (i := 7) (d := 109) (v := ?_) [14, 13, 12, 11, 10, 9, 8, 7] rfl rfl (by kernel_rfl) (by kernel_rfl) (by kernel_rfl) (by kernel_rfl) (by kernel_rfl) (by kernel_rfl) (fun _ _ _ h => h) (by decide) (Or.inl ⟨by rfl, ?_⟩) hHeld ?_
            rotate_left
            · (intro w hSw; (try dsimp only at hSw); go_simp; (try with_reducible rfl))
            simp only [List.set_cons_zero, List.set_cons_succ]
            refine f_takeC (i := 8) (d := 110) (v := ?_) [14, 13, 12, 11, 10, 9, 8] rfl rfl (by kernel_rfl) (by kernel_rfl) (by kernel_rfl) (by kernel_rfl) (by kernel_rfl) (by kernel_rfl) (fun _ _ _ h => h) (by decide) (Or.inl ⟨by rfl, ?_⟩) hHeld ?_
            rotate_left
            · (intro w hSw; (try dsimp only at hSw); go_simp; (try with_reducible rfl))
            simp only [List.set_cons_zero, List.set_cons_succ]
            refine f_takeC (i := 9) (d := 111) (v := ?_) [14, 13, 12, 11, 10, 9] rfl rfl (by kernel_rfl) (by kernel_rfl) (by kernel_rfl) (by kernel_rfl) (by kernel_rfl) (by kernel_rfl) (fun _ _ _ h => h) (by decide) (Or.inl ⟨by rfl, ?_⟩) hHeld ?_
            rotate_left
            · (intro w hSw; (try dsimp only at hSw); go_simp; (try with_reducible rfl))
            simp only [List.set_cons_zero, List.set_cons_succ]
            refine f_takeC (i := 10) (d := 112) (v := ?_) [14, 13, 12, 11, 10] rfl rfl (by kernel_rfl) (by kernel_rfl) (by kernel_rfl) (by kernel_rfl) (by kernel_rfl) (by kernel_rfl) (fun _ _ _ h => h) (by decide) (Or.inl ⟨by rfl, ?_⟩) hHeld ?_
            rotate_left
            · (intro w hSw; (try dsimp only at hSw); go_simp; (try with_reducible rfl))
            simp only [List.set_cons_zero, List.set_cons_succ]
            refine f_takeC (i := 11) (d := 113) (v := ?_) [14, 13, 12, 11] rfl rfl (by kernel_rfl) (by kernel_rfl) (by kernel_rfl) (by kernel_rfl) (by kernel_rfl) (by kernel_rfl) (fun _ _ _ h => h) (by decide) (Or.inl ⟨by rfl, ?_⟩) hHeld ?_
            rotate_left
            · (intro w hSw; (try dsimp only at hSw); go_simp; (try with_reducible rfl))
            simp only [List.set_cons_zero, List.set_cons_succ]
            refine f_takeC (i := 12) (d := 114) (v := ?_) [14, 13, 12] rfl rfl (by kernel_rfl) (by kernel_rfl) (by kernel_rfl) (by kernel_rfl) (by kernel_rfl) (by kernel_rfl) (fun _ _ _ h => h) (by decide) (Or.inl ⟨by rfl, ?_⟩) hHeld ?_
            rotate_left
            · (intro w hSw; (try dsimp only at hSw); go_simp; (try with_reducible rfl))
            simp only [List.set_cons_zero, List.set_cons_succ]
            refine f_all (rs := [3, 13]) (by kernel_rfl) (by simp) ?_
            intro qr hqr
            simp only [List.mem_cons, List.not_mem_nil, or_false] at hqr
            rcases hqr with rfl | rfl
            · refine ⟨_, rfl, fun K hK => ?_⟩
              go_simp
              have hHL := rd_hd1 y0 (⟨S6, l2.length, c6⟩ : Hd)
              replace hC := hC.keep ((Bl.refl _).alloc (.cells #[.slice S6 l2.length c6] 27))
              replace hgc := Bl.cells ((Bl.refl _).alloc (.cells #[.slice S6 l2.length c6] 27)) hgc
              generalize y0.alloc (.cells #[.slice S6 l2.length c6] 27) = y3 at hC hgc hHL ⊢
              generalize y0.heap.size = z3 at hHL ⊢
              refine hK.out _ _ ?_ (fun hHeld => ?_)
              · (try dsimp only); exact ⟨trivial, hC.ou.cell 4 _ rfl, hC.ou.cell 5 _ rfl, hgc⟩
              clear hK K
              (try simp only [Act.put]); (try simp only [List.setIfInBounds_toArray]); (try simp only [List.set_cons_succ]); (try simp only [List.set_cons_zero])
              refine f_all (rs := [4, 13]) (by kernel_rfl) (by simp) ?_
              intro qr hqr
              simp only [List.mem_cons, List.not_mem_nil, or_false] at hqr
              rcases hqr with rfl | rfl
              · refine ⟨_, rfl, fun K hK => ?_⟩
                refine ap_hdv_step (y := (⟨S6, l2.length, c6⟩ : Hd)) rfl rfl rfl (by have := hC.wi; rw [HSL.out] at this; exact this) rfl hHL (by omega) hC.bl.sz ?_; intro WA4 c4 y4 ho4 hg4 hat4; replace hgc := hg4.cell hgc (fun e => hC.at_ 3 rfl (j := 0) rfl (by decide) _ e.symm rfl); replace hC := hC.pushW (y := (⟨S6, l2.length, c6⟩ : Hd)) (by rw [HSL.out]; exact ho4) hg4 hat4; clear ho4 hg4 hat4 hHL
                refine hK.out _ _ ?_ (fun hHeld => ?_)
                · (try dsimp only); exact ⟨trivial, hC.ou.cell 4 _ rfl, hC.ou.cell 5 _ rfl, hgc⟩
                clear hK K
                (try simp only [Act.put]); (try simp only [List.setIfInBounds_toArray]); (try simp only [List.set_cons_succ]); (try simp only [List.set_cons_zero])
                refine f_takeC (i := 15) (d := 117) (v := ?_) [15] rfl rfl (by kernel_rfl) (by kernel_rfl) (by kernel_rfl) (by kernel_rfl) (by kernel_rfl) (by kernel_rfl) (fun _ _ _ h => h) (by decide) (Or.inl ⟨by rfl, ?_⟩) hHeld ?_
                rotate_left
                · (intro w hSw; (try dsimp only at hSw); go_simp; (try with_reducible rfl))
                simp only [List.set_cons_zero, List.set_cons_succ]
                refine f_step (i := 13) (by kernel_rfl) rfl (fun K hK => ?_)
                go_simp
                have hIL := rd_new1 y4 3 ((nG6 : Nat) : Int)
                replace hC := hC.keep ((Bl.refl _).alloc (.cells #[.int .i64 (nG6 : Nat)] 3))
                replace hgc := Bl.cells ((Bl.refl _).alloc (.cells #[.int .i64 (nG6 : Nat)] 3)) hgc
                generalize y4.alloc (.cells #[.int .i64 (nG6 : Nat)] 3) = y13 at hC hgc hIL ⊢
                generalize y4.heap.size = z13 at hIL ⊢
                refine hK.out _ _ ?_ (fun hHeld => ?_)
                · (try dsimp only); exact ⟨trivial, hC.ou.cell 4 _ rfl, hC.ou.cell 5 _ rfl, hgc⟩
                clear hK K
                (try simp only [Act.put]); (try simp only [List.setIfInBounds_toArray]); (try simp only [List.set_cons_succ]); (try simp only [List.set_cons_zero])
                refine f_step (i := 14) (by kernel_rfl) rfl (fun K hK => ?_)
                refine ap_int_step rfl rfl rfl hC.en rfl hIL (by omega) hC.bl.sz ?_; intro EA4 c14 y14 ho14 hg14 hat14; replace hgc := hg14.cell hgc (fun e => hC.at_ 4 rfl (j := 0) rfl (by decide) _ e.symm rfl); replace hC := hC.pushE ho14 hg14 hat14; clear ho14 hg14 hat14 hIL
                refine hK.out _ _ ?_ (fun hHeld => ?_)
                · (try dsimp only); exact ⟨trivial, hC.ou.cell 4 _ rfl, hC.ou.cell 5 _ rfl, hgc⟩
                clear hK K
                (try simp only [Act.put]); (try simp only [List.setIfInBounds_toArray]); (try simp only [List.set_cons_succ]); (try simp only [List.set_cons_zero])
                refine f_last (i := 16) (by kernel_rfl) rfl (by simp) (fun K hK => ?_)
                have hof := hC.ou.frozen
                have hol := hC.ou.lt
                have hoc := hC.ou.cell 4 _ rfl
                go_simp
                replace hC := hC.store 4 (.slice WA4 (k + 1) c4)
                clear hof hol hoc
                refine hK.out _ _ ?_ (fun hHeld => ?_)
                · exact trivial
                clear hK K
                (try simp only [Act.put]); (try simp only [List.setIfInBounds_toArray]); (try simp only [List.set_cons_succ]); (try simp only [List.set_cons_zero])
                refine f_takeS (i := 17) (d := 118) (v := ?_) rfl rfl (by kernel_rfl) (by kernel_rfl) (by kernel_rfl) (by kernel_rfl) (fun _ _ _ h => h) (by decide) (Or.inl ⟨by rfl, ?_⟩) hHeld (fun h => by simp at h) ?_
                rotate_left
                · (intro w hSw; (try dsimp only at hSw); go_simp; (try with_reducible rfl))
                simp only [List.set_cons_zero, List.set_cons_succ]
                refine f_last (i := 18) (by kernel_rfl) rfl (by simp) (fun K hK => ?_)
                have hof := hC.ou.frozen
                have hol := hC.ou.lt
                have hoc := hC.ou.cell 5 _ rfl
                go_simp
                replace hC := hC.store 5 (.slice EA4 (k + 1) c14)
                clear hof hol hoc
                refine hK.out _ _ ?_ (fun hHeld => ?_)
                · exact trivial
                clear hK K
                (try simp only [Act.put]); (try simp only [List.setIfInBounds_toArray]); (try simp only [List.set_cons_succ]); (try simp only [List.set_cons_zero])
                refine f_done (by kernel_rfl) ?_ _
                go_wp2_with fail
                go_roundw
                case rel => exact ⟨k + 1, _, _, c4, c14, _, _, _, WA4, EA4, hs ++ [(⟨S6, l2.length, c6⟩ : Hd)], _, _, by omega, by go_num, by rw [HFIN.out]; exact HRS2.out.push HMEM.out, by rw [HFIN.out]; exact hC⟩
                case measure => simp [intOf]; omega
              · refine ⟨_, rfl, fun K hK => ?_⟩
                go_simp
                have hIL := rd_new1 y3 3 ((nG6 : Nat) : Int)
                have hz13 : ∀ q, WA.map (·.block) = some q → q ≠ y3.heap.size := fun q hq => by have := hC.ltA.2.2.1 q hq; have := hC.tm; omega
                replace hC := hC.keep ((Bl.refl _).alloc (.cells #[.int .i64 (nG6 : Nat)] 3))
                replace hgc := Bl.cells ((Bl.refl _).alloc (.cells #[.int .i64 (nG6 : Nat)] 3)) hgc
                replace hHL := hHL.keep ((Bl.refl _).alloc (.cells #[.int .i64 (nG6 : Nat)] 3))
                generalize y3.alloc (.cells #[.int .i64 (nG6 : Nat)] 3) = y13 at hC hgc hIL hHL ⊢
                generalize y3.heap.size = z13 at hIL hz13 ⊢
                refine hK.out _ _ ?_ (fun hHeld => ?_)
                · (try dsimp only); exact ⟨trivial, hC.ou.cell 4 _ rfl, hC.ou.cell 5 _ rfl, hgc⟩
                clear hK K
                (try simp only [Act.put]); (try simp only [List.setIfInBounds_toArray]); (try simp only [List.set_cons_succ]); (try simp only [List.set_cons_zero])
                refine f_step (i := 4) (by kernel_rfl) rfl (fun K hK => ?_)
                refine ap_hdv_step (y := (⟨S6, l2.length, c6⟩ : Hd)) rfl rfl rfl (by have := hC.wi; rw [HSL.out] at this; exact this) rfl hHL (by omega) hC.bl.sz ?_; intro WA4 c4 y4 ho4 hg4 hat4; replace hgc := hg4.cell hgc (fun e => hC.at_ 3 rfl (j := 0) rfl (by decide) _ e.symm rfl); replace hIL := hIL.grownF_ hg4 (fun e => hz13 _ e rfl); replace hC := hC.pushW (y := (⟨S6, l2.length, c6⟩ : Hd)) (by rw [HSL.out]; exact ho4) hg4 hat4; clear ho4 hg4 hat4 hHL
                refine hK.out _ _ ?_ (fun hHeld => ?_)
                · (try dsimp only); exact ⟨trivial, hC.ou.cell 4 _ rfl, hC.ou.cell 5 _ rfl, hgc⟩
                clear hK K
                (try simp only [Act.put]); (try simp only [List.setIfInBounds_toArray]); (try simp only [List.set_cons_succ]); (try simp only [List.set_cons_zero])
                refine f_takeC (i := 15) (d := 117) (v := ?_) [15] rfl rfl (by kernel_rfl) (by kernel_rfl) (by kernel_rfl) (by kernel_rfl) (by kernel_rfl) (by kernel_rfl) (fun _ _ _ h => h) (by decide) (Or.inl ⟨by rfl, ?_⟩) hHeld ?_
                rotate_left
                · (intro w hSw; (try dsimp only at hSw); go_simp; (try with_reducible rfl))
                simp only [List.set_cons_zero, List.set_cons_succ]
                refine f_step (i := 14) (by kernel_rfl) rfl (fun K hK => ?_)
                refine ap_int_step rfl rfl rfl hC.en rfl hIL (by omega) hC.bl.sz ?_; intro EA4 c14 y14 ho14 hg14 hat14; replace hgc := hg14.cell hgc (fun e => hC.at_ 4 rfl (j := 0) rfl (by decide) _ e.symm rfl); replace hC := hC.pushE ho14 hg14 hat14; clear ho14 hg14 hat14 hIL
                refine hK.out _ _ ?_ (fun hHeld => ?_)
                · (try dsimp only); exact ⟨trivial, hC.ou.cell 4 _ rfl, hC.ou.cell 5 _ rfl, hgc⟩
                clear hK K
                (try simp only [Act.put]); (try simp only [List.setIfInBounds_toArray]); (try simp only [List.set_cons_succ]); (try simp only [List.set_cons_zero])
                refine f_last (i := 16) (by kernel_rfl) rfl (by simp) (fun K hK => ?_)
                have hof := hC.ou.frozen
                have hol := hC.ou.lt
                have hoc := hC.ou.cell 4 _ rfl
                go_simp
                replace hC := hC.store 4 (.slice WA4 (k + 1) c4)
                clear hof hol hoc
                refine hK.out _ _ ?_ (fun hHeld => ?_)
                · exact trivial
                clear hK K
                (try simp only [Act.put]); (try simp only [List.setIfInBounds_toArray]); (try simp only [List.set_cons_succ]); (try simp only [List.set_cons_zero])
                refine f_takeS (i := 17) (d := 118) (v := ?_) rfl rfl (by kernel_rfl) (by kernel_rfl) (by kernel_rfl) (by kernel_rfl) (fun _ _ _ h => h) (by decide) (Or.inl ⟨by rfl, ?_⟩) hHeld (fun h => by simp at h) ?_
                rotate_left
                · (intro w hSw; (try dsimp only at hSw); go_simp; (try with_reducible rfl))
                simp only [List.set_cons_zero, List.set_cons_succ]
                refine f_last (i := 18) (by kernel_rfl) rfl (by simp) (fun K hK => ?_)
                have hof := hC.ou.frozen
                have hol := hC.ou.lt
                have hoc := hC.ou.cell 5 _ rfl
                go_simp
                replace hC := hC.store 5 (.slice EA4 (k + 1) c14)
                clear hof hol hoc
                refine hK.out _ _ ?_ (fun hHeld => ?_)
                · exact trivial
                clear hK K
                (try simp only [Act.put]); (try simp only [List.setIfInBounds_toArray]); (try simp only [List.set_cons_succ]); (try simp only [List.set_cons_zero])
                refine f_done (by kernel_rfl) ?_ _
                go_wp2_with fail
                go_roundw
                case rel => exact ⟨k + 1, _, _, c4, c14, _, _, _, WA4, EA4, hs ++ [(⟨S6, l2.length, c6⟩ : Hd)], _, _, by omega, by go_num, by rw [HFIN.out]; exact HRS2.out.push HMEM.out, by rw [HFIN.out]; exact hC⟩
                case measure => simp [intOf]; omega
            · refine ⟨_, rfl, fun K hK => ?_⟩
              go_simp
              have hIL := rd_new1 y0 3 ((nG6 : Nat) : Int)
              have hz13 : ∀ q, WA.map (·.block) = some q → q ≠ y0.heap.size := fun q hq => by have := hC.ltA.2.2.1 q hq; have := hC.tm; omega
              replace hC := hC.keep ((Bl.refl _).alloc (.cells #[.int .i64 (nG6 : Nat)] 3))
              replace hgc := Bl.cells ((Bl.refl _).alloc (.cells #[.int .i64 (nG6 : Nat)] 3)) hgc
              generalize y0.alloc (.cells #[.int .i64 (nG6 : Nat)] 3) = y13 at hC hgc hIL ⊢
              generalize y0.heap.size = z13 at hIL hz13 ⊢
              refine hK.out _ _ ?_ (fun hHeld => ?_)
              · (try dsimp only); exact ⟨trivial, hC.ou.cell 4 _ rfl, hC.ou.cell 5 _ rfl, hgc⟩
              clear hK K
              (try simp only [Act.put]); (try simp only [List.setIfInBounds_toArray]); (try simp only [List.set_cons_succ]); (try simp only [List.set_cons_zero])
              refine f_step (i := 3) (by kernel_rfl) rfl (fun K hK => ?_)
              go_simp
              have hHL := rd_hd1 y13 (⟨S6, l2.length, c6⟩ : Hd)
              replace hC := hC.keep ((Bl.refl _).alloc (.cells #[.slice S6 l2.length c6] 27))
              replace hgc := Bl.cells ((Bl.refl _).alloc (.cells #[.slice S6 l2.length c6] 27)) hgc
              replace hIL := hIL.keep ((Bl.refl _).alloc (.cells #[.slice S6 l2.length c6] 27))
              generalize y13.alloc (.cells #[.slice S6 l2.length c6] 27) = y3 at hC hgc hHL hIL ⊢
              generalize y13.heap.size = z3 at hHL ⊢
              refine hK.out _ _ ?_ (fun hHeld => ?_)
              · (try dsimp only); exact ⟨trivial, hC.ou.cell 4 _ rfl, hC.ou.cell 5 _ rfl, hgc⟩
              clear hK K
              (try simp only [Act.put]); (try simp only [List.setIfInBounds_toArray]); (try simp only [List.set_cons_succ]); (try simp only [List.set_cons_zero])
              refine f_step (i := 4) (by kernel_rfl) rfl (fun K hK => ?_)
              refine ap_hdv_step (y := (⟨S6, l2.length, c6⟩ : Hd)) rfl rfl rfl (by have := hC.wi; rw [HSL.out] at this; exact this) rfl hHL (by omega) hC.bl.sz ?_; intro WA4 c4 y4 ho4 hg4 hat4; replace hgc := hg4.cell hgc (fun e => hC.at_ 3 rfl (j := 0) rfl (by decide) _ e.symm rfl); replace hIL := hIL.grownF_ hg4 (fun e => hz13 _ e rfl); replace hC := hC.pushW (y := (⟨S6, l2.length, c6⟩ : Hd)) (by rw [HSL.out]; exact ho4) hg4 hat4; clear ho4 hg4 hat4 hHL
              refine hK.out _ _ ?_ (fun hHeld => ?_)
              · (try dsimp only); exact ⟨trivial, hC.ou.cell 4 _ rfl, hC.ou.cell 5 _ rfl, hgc⟩
              clear hK K
              (try simp only [Act.put]); (try simp only [List.setIfInBounds_toArray]); (try simp only [List.set_cons_succ]); (try simp only [List.set_cons_zero])
              refine f_takeC (i := 15) (d := 117) (v := ?_) [15] rfl rfl (by kernel_rfl) (by kernel_rfl) (by kernel_rfl) (by kernel_rfl) (by kernel_rfl) (by kernel_rfl) (fun _ _ _ h => h) (by decide) (Or.inl ⟨by rfl, ?_⟩) hHeld ?_
              rotate_left
              · (intro w hSw; (try dsimp only at hSw); go_simp; (try with_reducible rfl))
              simp only [List.set_cons_zero, List.set_cons_succ]
              refine f_step (i := 14) (by kernel_rfl) rfl (fun K hK => ?_)
              refine ap_int_step rfl rfl rfl hC.en rfl hIL (by omega) hC.bl.sz ?_; intro EA4 c14 y14 ho14 hg14 hat14; replace hgc := hg14.cell hgc (fun e => hC.at_ 4 rfl (j := 0) rfl (by decide) _ e.symm rfl); replace hC := hC.pushE ho14 hg14 hat14; clear ho14 hg14 hat14 hIL
              refine hK.out _ _ ?_ (fun hHeld => ?_)
              · (try dsimp only); exact ⟨trivial, hC.ou.cell 4 _ rfl, hC.ou.cell 5 _ rfl, hgc⟩
              clear hK K
              (try simp only [Act.put]); (try simp only [List.setIfInBounds_toArray]); (try simp only [List.set_cons_succ]); (try simp only [List.set_cons_zero])
              refine f_last (i := 16) (by kernel_rfl) rfl (by simp) (fun K hK => ?_)
              have hof := hC.ou.frozen
              have hol := hC.ou.lt
              have hoc := hC.ou.cell 4 _ rfl
              go_simp
              replace hC := hC.store 4 (.slice WA4 (k + 1) c4)
              clear hof hol hoc
              refine hK.out _ _ ?_ (fun hHeld => ?_)
              · exact trivial
              clear hK K
              (try simp only [Act.put]); (try simp only [List.setIfInBounds_toArray]); (try simp only [List.set_cons_succ]); (try simp only [List.set_cons_zero])
              refine f_takeS (i := 17) (d := 118) (v := ?_) rfl rfl (by kernel_rfl) (by kernel_rfl) (by kernel_rfl) (by kernel_rfl) (fun _ _ _ h => h) (by decide) (Or.inl ⟨by rfl, ?_⟩) hHeld (fun h => by simp at h) ?_
              rotate_left
              · (intro w hSw; (try dsimp only at hSw); go_simp; (try with_reducible rfl))
              simp only [List.set_cons_zero, List.set_cons_succ]
              refine f_last (i := 18) (by kernel_rfl) rfl (by simp) (fun K hK => ?_)
              have hof := hC.ou.frozen
              have hol := hC.ou.lt
              have hoc := hC.ou.cell 5 _ rfl
              go_simp
              replace hC := hC.store 5 (.slice EA4 (k + 1) c14)
              clear hof hol hoc
              refine hK.out _ _ ?_ (fun hHeld => ?_)
              · exact trivial
              clear hK K
              (try simp only [Act.put]); (try simp only [List.setIfInBounds_toArray]); (try simp only [List.set_cons_succ]); (try simp only [List.set_cons_zero])
              refine f_done (by kernel_rfl) ?_ _
              go_wp2_with fail
              go_roundw
              case rel => exact ⟨k + 1, _, _, c4, c14, _, _, _, WA4, EA4, hs ++ [(⟨S6, l2.length, c6⟩ : Hd)], _, _, by omega, by go_num, by rw [HFIN.out]; exact HRS2.out.push HMEM.out, by rw [HFIN.out]; exact hC⟩
              case measure => simp [intOf]; omega
          · as_aux_lemma =>
            rw [hk1] at hX_0
            obtain ⟨p, q, hps2, hop, hwpq, hwq1, hwq4⟩ := HWK.out.k3 hk1
            obtain ⟨N, hN⟩ : ∃ N : Nat, wsA pre (ws.take k) q = (N : Nat) := ⟨(wsA pre (ws.take k) q).toNat, by omega⟩
            obtain ⟨_, r1, _, _, _, hW1, hr1⟩ := HLW.out p (HWK.out.f p (by rw [hps2]; simp))
            obtain ⟨_, r2, _, _, _, hW2, hr2⟩ := HLW.out q (HWK.out.f q (by rw [hps2]; simp))
            have hPe : P = [r1, r2] := by rw [← HP.out, hps2]; show [W.getD (fndL pre p).toNat [], W.getD (fndL pre q).toNat []] = _; rw [hW1, hW2]
            subst hPe
            obtain rfl : j = 2 := by have := HPL.out; rw [hps2] at this; exact this.symm
            obtain ⟨y1, y2, rfl, m1, m2⟩ := hPR.two
            have hC2 := hC1.keep ((Bl.refl wq).alloc (.cells #[] 3))
            have hX2 := hX.alloc (.cells #[] 3)
            have hPd := hPP.rd.keep ((Bl.refl wq).alloc (.cells #[] 3))
            have hPq : ∀ t, PA.map (·.block) = some t → t ≠ Q.x ∧ A1.map (·.block) ≠ some t := fun t ht => ⟨by have := (hPP.blk t ht).1; have := HCX.out; omega, fun e => by have := (hPP.blk t ht).1; have := hC.ltA.1 t e; have := HBX.out; omega⟩
            have hAX : A1.map (·.block) ≠ some bX := fun e => by have := hC.ltA.1 _ e; have := HBX.out; omega
            have hng : nG ≤ 300 := by have := HNG.out; omega
            have hL1 := hC2.lx m1
            have hle1 := hL1.rd.length
            have hL2 := hC2.lx m2
            have hle2 := hL2.rd.length
            have hme := hC2.me
            rw [HT.out] at hme
            have hcall := impl_line_3 hme x.nm x.op C 2 cc x.pt x.wd x.vl x (show x = ⟨3, x.nm, x.op, x.ps, x.pt, x.wd, x.vl⟩ by rw [← hk1]) PA 2 c3 hPq y1 r1 hL1 y2 r2 hL2 hPd N (by omega) (by omega) hop (by omega) (by omega) hng
            rw [show Mx.t ⟨Q.x, Q.base, Q.a, Q.b, B1, ol.length, d, ol⟩ = a + b by unfold Mx.t; rw [HAB.out.1, HAB.out.2]] at hcall
            obtain ⟨⟨g2, l2⟩, hgr⟩ : ∃ p, lineS mulI (a + b) x [r1, r2] g = p := ⟨_, rfl⟩
            have HFIN := Lib.hid (show cp (k + 1) = ⟨g2, ol, W ++ [l2], n0, n1⟩ by rw [HNX.out]; unfold cpN; rw [if_neg (by rw [hk1]; decide)]; dsimp only; rw [HP.out, hgr, if_neg (by rw [hk1]; decide)])
            rw [hgr] at hcall
            dsimp only at hcall
            have HCALL := Lib.hid hcall
            clear hcall hgr hme hN hPd hPq hPP hPR hC1 hC hX
            go_wp2_with fail
            refine HCALL.out.mono ?_
            intro e w6 hres
            obtain ⟨A6, nG6, S6, m6, c6, rfl, hm6, hf6, hr6, hq6⟩ := hres
            rw [← HT.out] at hm6
            have hC := hC2.made hm6 hf6 hr6 hq6
            have hX := hX2.fm hf6 (show bX ≠ Q.x by have := HCX.out; omega) hAX
            clear hC2 hX2 hm6 hf6 hq6 hX_l hX_0 hX_1 hX_2 hX_3 hX_4 hX_5 hX_6
            have hX_l := hX.lt
            have hX_0 := hX.cell 0 _ rfl
            rw [hk1] at hX_0
            obtain rfl : l2.length = m6 := hr6.length
            have HMEM := Lib.hid (show ((⟨S6, l2.length, c6⟩ : Hd), l2) ∈ rs ++ [((⟨S6, l2.length, c6⟩ : Hd), l2)] by simp)
            have HRS2 := Lib.hid (HRS.out.mono (rs' := rs ++ [((⟨S6, l2.length, c6⟩ : Hd), l2)]) (fun p hp => List.mem_append.2 (.inl hp)))
            clear hr6
            go_wp2_with fail
            generalize hWZ : w6.heap.size = tz at hC
            clear hWZ
            obtain ⟨cG, hMk, _⟩ := hC.mkr
            have hgc := hMk.cell 2 _ rfl
            have hMk_l := hMk.lt
            clear hMk
            have hkn1 : k + 1 ≤ 3000000 := by omega
            refine region_F (fun _ => True) (fun w' => w'.cell? ⟨Q.bO, 4, none⟩ = some (.slice WA k wc) ∧ w'.cell? ⟨Q.bO, 5, none⟩ = some (.slice EA k ec) ∧ w'.cell? ⟨Q.x, 2, none⟩ = some (.slice A6 nG6 cG)) 16 (by kernel_rfl) ?_ (fun hHeld => ?_)
            · (try dsimp only); exact ⟨trivial, hC.ou.cell 4 _ rfl, hC.ou.cell 5 _ rfl, hgc⟩
            replace hC := hC.keep ((Bl.refl _).drew)
            replace hgc := Bl.cells ((Bl.refl _).drew) hgc
            generalize w6.drew = y0 at hC hgc hHeld ⊢
            refine f_takeC (i := 0) (d := 102) (v := ?_) [0] rfl rfl (by kernel_rfl) (by kernel_rfl) (by kernel_rfl) (by kernel_rfl) (by kernel_rfl) (by kernel_rfl) (fun _ _ _ h => h) (by decide) (Or.inl ⟨by rfl, ?_⟩) hHeld ?_
            rotate_left
            · (intro w hSw; (try dsimp only at hSw); go_simp; (try with_reducible rfl))
            simp only [List.set_cons_zero, List.set_cons_succ]
            refine f_takeC (i := 1) (d := 103) (v := ?_) [1] rfl rfl (by kernel_rfl) (by kernel_rfl) (by kernel_rfl) (by kernel_rfl) (by kernel_rfl) (by kernel_rfl) (fun _ _ _ h => h) (by decide) (Or.inl ⟨by rfl, ?_⟩) hHeld ?_
            rotate_left
            · (intro w hSw; (try dsimp only at hSw); go_simp; (try with_reducible rfl))
            simp only [List.set_cons_zero, List.set_cons_succ]
            refine f_takeC (i := 2) (d := 104) (v := ?_) [2] rfl rfl (by kernel_rfl) (by kernel_rfl) (by kernel_rfl) (by kernel_rfl) (by kernel_rfl) (by kernel_rfl) (fun _ _ _ h => h) (by decide) (Or.inl ⟨by rfl, ?_⟩) hHeld ?_
            rotate_left
            · (intro w hSw; (try dsimp only at hSw); go_simp; (try with_reducible rfl))
            simp only [List.set_cons_zero, List.set_cons_succ]
            refine f_takeC (i := 5) (d := 107) (v := ?_) [5] rfl rfl (by kernel_rfl) (by kernel_rfl) (by kernel_rfl) (by kernel_rfl) (by kernel_rfl) (by kernel_rfl) (fun _ _ _ h => h) (by decide) (Or.inl ⟨by rfl, ?_⟩) hHeld ?_
            rotate_left
            · (intro w hSw; (try dsimp only at hSw); go_simp; (try with_reducible rfl))
            simp only [List.set_cons_zero, List.set_cons_succ]
            refine f_takeC (i := 6) (d := 108) (v := ?_) [6] rfl rfl (by kernel_rfl) (by kernel_rfl) (by kernel_rfl) (by kernel_rfl) (by kernel_rfl) (by kernel_rfl) (fun _ _ _ h => h) (by decide) (Or.inl ⟨by rfl, ?_⟩) hHeld ?_
            rotate_left
            · (intro w hSw; (try dsimp only at hSw); go_simp; (try with_reducible rfl))
            simp only [List.set_cons_zero, List.set_cons_succ]
            refine f_takeC (i := 7) (d := 109) (v := ?_) [14, 13, 12, 11, 10, 9, 8, 7] rfl rfl (by kernel_rfl) (by kernel_rfl) (by kernel_rfl) (by kernel_rfl) (by kernel_rfl) (by kernel_rfl) (fun _ _ _ h => h) (by decide) (Or.inl ⟨by rfl, ?_⟩) hHeld ?_
            rotate_left
            · (intro w hSw; (try dsimp only at hSw); go_simp; (try with_reducible rfl))
            simp only [List.set_cons_zero, List.set_cons_succ]
            refine f_takeC (i := 8) (d := 110) (v := ?_) [14, 13, 12, 11, 10, 9, 8] rfl rfl (by kernel_rfl) (by kernel_rfl) (by kernel_rfl) (by kernel_rfl) (by kernel_rfl) (by kernel_rfl) (fun _ _ _ h => h) (by decide) (Or.inl ⟨by rfl, ?_⟩) hHeld ?_
            rotate_left
            · (intro w hSw; (try dsimp only at hSw); go_simp; (try with_reducible rfl))
            simp only [List.set_cons_zero, List.set_cons_succ]
            refine f_takeC (i := 9) (d := 111) (v := ?_) [14, 13, 12, 11, 10, 9] rfl rfl (by kernel_rfl) (by kernel_rfl) (by kernel_rfl) (by kernel_rfl) (by kernel_rfl) (by kernel_rfl) (fun _ _ _ h => h) (by decide) (Or.inl ⟨by rfl, ?_⟩) hHeld ?_
            rotate_left
            · (intro w hSw; (try dsimp only at hSw); go_simp; (try with_reducible rfl))
            simp only [List.set_cons_zero, List.set_cons_succ]
            refine f_takeC (i := 10) (d := 112) (v := ?_) [14, 13, 12, 11, 10] rfl rfl (by kernel_rfl) (by kernel_rfl) (by kernel_rfl) (by kernel_rfl) (by kernel_rfl) (by kernel_rfl) (fun _ _ _ h => h) (by decide) (Or.inl ⟨by rfl, ?_⟩) hHeld ?_
            rotate_left
            · (intro w hSw; (try dsimp only at hSw); go_simp; (try with_reducible rfl))
            simp only [List.set_cons_zero, List.set_cons_succ]
            refine f_takeC (i := 11) (d := 113) (v := ?_) [14, 13, 12, 11] rfl rfl (by kernel_rfl) (by kernel_rfl) (by kernel_rfl) (by kernel_rfl) (by kernel_rfl) (by kernel_rfl) (fun _ _ _ h => h) (by decide) (Or.inl ⟨by rfl, ?_⟩) hHeld ?_
            rotate_left
            · (intro w hSw; (try dsimp only at hSw); go_simp; (try with_reducible rfl))
            simp only [List.set_cons_zero, List.set_cons_succ]
            refine f_takeC (i := 12) (d := 114) (v := ?_) [14, 13, 12] rfl rfl (by kernel_rfl) (by kernel_rfl) (by kernel_rfl) (by kernel_rfl) (by kernel_rfl) (by kernel_rfl) (fun _ _ _ h => h) (by decide) (Or.inl ⟨by rfl, ?_⟩) hHeld ?_
            rotate_left
            · (intro w hSw; (try dsimp only at hSw); go_simp; (try with_reducible rfl))
            simp only [List.set_cons_zero, List.set_cons_succ]
            refine f_all (rs := [3, 13]) (by kernel_rfl) (by simp) ?_
            intro qr hqr
            simp only [List.mem_cons, List.not_mem_nil, or_false] at hqr
            rcases hqr with rfl | rfl
            · refine ⟨_, rfl, fun K hK => ?_⟩
              go_simp
              have hHL := rd_hd1 y0 (⟨S6, l2.length, c6⟩ : Hd)
              replace hC := hC.keep ((Bl.refl _).alloc (.cells #[.slice S6 l2.length c6] 27))
              replace hgc := Bl.cells ((Bl.refl _).alloc (.cells #[.slice S6 l2.length c6] 27)) hgc
              generalize y0.alloc (.cells #[.slice S6 l2.length c6] 27) = y3 at hC hgc hHL ⊢
              generalize y0.heap.size = z3 at hHL ⊢
              refine hK.out _ _ ?_ (fun hHeld => ?_)
              · (try dsimp only); exact ⟨trivial, hC.ou.cell 4 _ rfl, hC.ou.cell 5 _ rfl, hgc⟩
              clear hK K
              (try simp only [Act.put]); (try simp only [List.setIfInBounds_toArray]); (try simp only [List.set_cons_succ]); (try simp only [List.set_cons_zero])
              refine f_all (rs := [4, 13]) (by kernel_rfl) (by simp) ?_
              intro qr hqr
              simp only [List.mem_cons, List.not_mem_nil, or_false] at hqr
              rcases hqr with rfl | rfl
              · refine ⟨_, rfl, fun K hK => ?_⟩
                refine ap_hdv_step (y := (⟨S6, l2.length, c6⟩ : Hd)) rfl rfl rfl (by have := hC.wi; rw [HSL.out] at this; exact this) rfl hHL (by omega) hC.bl.sz ?_; intro WA4 c4 y4 ho4 hg4 hat4; replace hgc := hg4.cell hgc (fun e => hC.at_ 3 rfl (j := 0) rfl (by decide) _ e.symm rfl); replace hC := hC.pushW (y := (⟨S6, l2.length, c6⟩ : Hd)) (by rw [HSL.out]; exact ho4) hg4 hat4; clear ho4 hg4 hat4 hHL
                refine hK.out _ _ ?_ (fun hHeld => ?_)
                · (try dsimp only); exact ⟨trivial, hC.ou.cell 4 _ rfl, hC.ou.cell 5 _ rfl, hgc⟩
                clear hK K
                (try simp only [Act.put]); (try simp only [List.setIfInBounds_toArray]); (try simp only [List.set_cons_succ]); (try simp only [List.set_cons_zero])
                refine f_takeC (i := 15) (d := 117) (v := ?_) [15] rfl rfl (by kernel_rfl) (by kernel_rfl) (by kernel_rfl) (by kernel_rfl) (by kernel_rfl) (by kernel_rfl) (fun _ _ _ h => h) (by decide) (Or.inl ⟨by rfl, ?_⟩) hHeld ?_
                rotate_left
                · (intro w hSw; (try dsimp only at hSw); go_simp; (try with_reducible rfl))
                simp only [List.set_cons_zero, List.set_cons_succ]
                refine f_step (i := 13) (by kernel_rfl) rfl (fun K hK => ?_)
                go_simp
                have hIL := rd_new1 y4 3 ((nG6 : Nat) : Int)
                replace hC := hC.keep ((Bl.refl _).alloc (.cells #[.int .i64 (nG6 : Nat)] 3))
                replace hgc := Bl.cells ((Bl.refl _).alloc (.cells #[.int .i64 (nG6 : Nat)] 3)) hgc
                generalize y4.alloc (.cells #[.int .i64 (nG6 : Nat)] 3) = y13 at hC hgc hIL ⊢
                generalize y4.heap.size = z13 at hIL ⊢
                refine hK.out _ _ ?_ (fun hHeld => ?_)
                · (try dsimp only); exact ⟨trivial, hC.ou.cell 4 _ rfl, hC.ou.cell 5 _ rfl, hgc⟩
                clear hK K
                (try simp only [Act.put]); (try simp only [List.setIfInBounds_toArray]); (try simp only [List.set_cons_succ]); (try simp only [List.set_cons_zero])
                refine f_step (i := 14) (by kernel_rfl) rfl (fun K hK => ?_)
                refine ap_int_step rfl rfl rfl hC.en rfl hIL (by omega) hC.bl.sz ?_; intro EA4 c14 y14 ho14 hg14 hat14; replace hgc := hg14.cell hgc (fun e => hC.at_ 4 rfl (j := 0) rfl (by decide) _ e.symm rfl); replace hC := hC.pushE ho14 hg14 hat14; clear ho14 hg14 hat14 hIL
                refine hK.out _ _ ?_ (fun hHeld => ?_)
                · (try dsimp only); exact ⟨trivial, hC.ou.cell 4 _ rfl, hC.ou.cell 5 _ rfl, hgc⟩
                clear hK K
                (try simp only [Act.put]); (try simp only [List.setIfInBounds_toArray]); (try simp only [List.set_cons_succ]); (try simp only [List.set_cons_zero])
                refine f_last (i := 16) (by kernel_rfl) rfl (by simp) (fun K hK => ?_)
                have hof := hC.ou.frozen
                have hol := hC.ou.lt
                have hoc := hC.ou.cell 4 _ rfl
                go_simp
                replace hC := hC.store 4 (.slice WA4 (k + 1) c4)
                clear hof hol hoc
                refine hK.out _ _ ?_ (fun hHeld => ?_)
                · exact trivial
                clear hK K
                (try simp only [Act.put]); (try simp only [List.setIfInBounds_toArray]); (try simp only [List.set_cons_succ]); (try simp only [List.set_cons_zero])
                refine f_takeS (i := 17) (d := 118) (v := ?_) rfl rfl (by kernel_rfl) (by kernel_rfl) (by kernel_rfl) (by kernel_rfl) (fun _ _ _ h => h) (by decide) (Or.inl ⟨by rfl, ?_⟩) hHeld (fun h => by simp at h) ?_
                rotate_left
                · (intro w hSw; (try dsimp only at hSw); go_simp; (try with_reducible rfl))
                simp only [List.set_cons_zero, List.set_cons_succ]
                refine f_last (i := 18) (by kernel_rfl) rfl (by simp) (fun K hK => ?_)
                have hof := hC.ou.frozen
                have hol := hC.ou.lt
                have hoc := hC.ou.cell 5 _ rfl
                go_simp
                replace hC := hC.store 5 (.slice EA4 (k + 1) c14)
                clear hof hol hoc
                refine hK.out _ _ ?_ (fun hHeld => ?_)
                · exact trivial
                clear hK K
                (try simp only [Act.put]); (try simp only [List.setIfInBounds_toArray]); (try simp only [List.set_cons_succ]); (try simp only [List.set_cons_zero])
                refine f_done (by kernel_rfl) ?_ _
                go_wp2_with fail
                go_roundw
                case rel => exact ⟨k + 1, _, _, c4, c14, _, _, _, WA4, EA4, hs ++ [(⟨S6, l2.length, c6⟩ : Hd)], _, _, by omega, by go_num, by rw [HFIN.out]; exact HRS2.out.push HMEM.out, by rw [HFIN.out]; exact hC⟩
                case measure => simp [intOf]; omega
              · refine ⟨_, rfl, fun K hK => ?_⟩
                go_simp
                have hIL := rd_new1 y3 3 ((nG6 : Nat) : Int)
                have hz13 : ∀ q, WA.map (·.block) = some q → q ≠ y3.heap.size := fun q hq => by have := hC.ltA.2.2.1 q hq; have := hC.tm; omega
                replace hC := hC.keep ((Bl.refl _).alloc (.cells #[.int .i64 (nG6 : Nat)] 3))
                replace hgc := Bl.cells ((Bl.refl _).alloc (.cells #[.int .i64 (nG6 : Nat)] 3)) hgc
                replace hHL := hHL.keep ((Bl.refl _).alloc (.cells #[.int .i64 (nG6 : Nat)] 3))
                generalize y3.alloc (.cells #[.int .i64 (nG6 : Nat)] 3) = y13 at hC hgc hIL hHL ⊢
                generalize y3.heap.size = z13 at hIL hz13 ⊢
                refine hK.out _ _ ?_ (fun hHeld => ?_)
                · (try dsimp only); exact ⟨trivial, hC.ou.cell 4 _ rfl, hC.ou.cell 5 _ rfl, hgc⟩
                clear hK K
                (try simp only [Act.put]); (try simp only [List.setIfInBounds_toArray]); (try simp only [List.set_cons_succ]); (try simp only [List.set_cons_zero])
                refine f_step (i := 4) (by kernel_rfl) rfl (fun K hK => ?_)
                refine ap_hdv_step (y := (⟨S6, l2.length, c6⟩ : Hd)) rfl rfl rfl (by have := hC.wi; rw [HSL.out] at this; exact this) rfl hHL (by omega) hC.bl.sz ?_; intro WA4 c4 y4 ho4 hg4 hat4; replace hgc := hg4.cell hgc (fun e => hC.at_ 3 rfl (j := 0) rfl (by decide) _ e.symm rfl); replace hIL := hIL.grownF_ hg4 (fun e => hz13 _ e rfl); replace hC := hC.pushW (y := (⟨S6, l2.length, c6⟩ : Hd)) (by rw [HSL.out]; exact ho4) hg4 hat4; clear ho4 hg4 hat4 hHL
                refine hK.out _ _ ?_ (fun hHeld => ?_)
                · (try dsimp only); exact ⟨trivial, hC.ou.cell 4 _ rfl, hC.ou.cell 5 _ rfl, hgc⟩
                clear hK K
                (try simp only [Act.put]); (try simp only [List.setIfInBounds_toArray]); (try simp only [List.set_cons_succ]); (try simp only [List.set_cons_zero])
                refine f_takeC (i := 15) (d := 117) (v := ?_) [15] rfl rfl (by kernel_rfl) (by kernel_rfl) (by kernel_rfl) (by kernel_rfl) (by kernel_rfl) (by kernel_rfl) (fun _ _ _ h => h) (by decide) (Or.inl ⟨by rfl, ?_⟩) hHeld ?_
                rotate_left
                · (intro w hSw; (try dsimp only at hSw); go_simp; (try with_reducible rfl))
                simp only [List.set_cons_zero, List.set_cons_succ]
                refine f_step (i := 14) (by kernel_rfl) rfl (fun K hK => ?_)
                refine ap_int_step rfl rfl rfl hC.en rfl hIL (by omega) hC.bl.sz ?_; intro EA4 c14 y14 ho14 hg14 hat14; replace hgc := hg14.cell hgc (fun e => hC.at_ 4 rfl (j := 0) rfl (by decide) _ e.symm rfl); replace hC := hC.pushE ho14 hg14 hat14; clear ho14 hg14 hat14 hIL
                refine hK.out _ _ ?_ (fun hHeld => ?_)
                · (try dsimp only); exact ⟨trivial, hC.ou.cell 4 _ rfl, hC.ou.cell 5 _ rfl, hgc⟩
                clear hK K
                (try simp only [Act.put]); (try simp only [List.setIfInBounds_toArray]); (try simp only [List.set_cons_succ]); (try simp only [List.set_cons_zero])
                refine f_last (i := 16) (by kernel_rfl) rfl (by simp) (fun K hK => ?_)
                have hof := hC.ou.frozen
                have hol := hC.ou.lt
                have hoc := hC.ou.cell 4 _ rfl
                go_simp
                replace hC := hC.store 4 (.slice WA4 (k + 1) c4)
                clear hof hol hoc
                refine hK.out _ _ ?_ (fun hHeld => ?_)
                · exact trivial
                clear hK K
                (try simp only [Act.put]); (try simp only [List.setIfInBounds_toArray]); (try simp only [List.set_cons_succ]); (try simp only [List.set_cons_zero])
                refine f_takeS (i := 17) (d := 118) (v := ?_) rfl rfl (by kernel_rfl) (by kernel_rfl) (by kernel_rfl) (by kernel_rfl) (fun _ _ _ h => h) (by decide) (Or.inl ⟨by rfl, ?_⟩) hHeld (fun h => by simp at h) ?_
                rotate_left
                · (intro w hSw; (try dsimp only at hSw); go_simp; (try with_reducible rfl))
                simp only [List.set_cons_zero, List.set_cons_succ]
                refine f_last (i := 18) (by kernel_rfl) rfl (by simp) (fun K hK => ?_)
                have hof := hC.ou.frozen
                have hol := hC.ou.lt
                have hoc := hC.ou.cell 5 _ rfl
                go_simp
                replace hC := hC.store 5 (.slice EA4 (k + 1) c14)
                clear hof hol hoc
                refine hK.out _ _ ?_ (fun hHeld => ?_)
                · exact trivial
                clear hK K
                (try simp only [Act.put]); (try simp only [List.setIfInBounds_toArray]); (try simp only [List.set_cons_succ]); (try simp only [List.set_cons_zero])
                refine f_done (by kernel_rfl) ?_ _
                go_wp2_with fail
                go_roundw
                case rel => exact ⟨k + 1, _, _, c4, c14, _, _, _, WA4, EA4, hs ++ [(⟨S6, l2.length, c6⟩ : Hd)], _, _, by omega, by go_num, by rw [HFIN.out]; exact HRS2.out.push HMEM.out, by rw [HFIN.out]; exact hC⟩
                case measure => simp [intOf]; omega
            · refine ⟨_, rfl, fun K hK => ?_⟩
              go_simp
              have hIL := rd_new1 y0 3 ((nG6 : Nat) : Int)
              have hz13 : ∀ q, WA.map (·.block) = some q → q ≠ y0.heap.size := fun q hq => by have := hC.ltA.2.2.1 q hq; have := hC.tm; omega
              replace hC := hC.keep ((Bl.refl _).alloc (.cells #[.int .i64 (nG6 : Nat)] 3))
              replace hgc := Bl.cells ((Bl.refl _).alloc (.cells #[.int .i64 (nG6 : Nat)] 3)) hgc
              generalize y0.alloc (.cells #[.int .i64 (nG6 : Nat)] 3) = y13 at hC hgc hIL ⊢
              generalize y0.heap.size = z13 at hIL hz13 ⊢
              refine hK.out _ _ ?_ (fun hHeld => ?_)
              · (try dsimp only); exact ⟨trivial, hC.ou.cell 4 _ rfl, hC.ou.cell 5 _ rfl, hgc⟩
              clear hK K
              (try simp only [Act.put]); (try simp only [List.setIfInBounds_toArray]); (try simp only [List.set_cons_succ]); (try simp only [List.set_cons_zero])
              refine f_step (i := 3) (by kernel_rfl) rfl (fun K hK => ?_)
              go_simp
              have hHL := rd_hd1 y13 (⟨S6, l2.length, c6⟩ : Hd)
              replace hC := hC.keep ((Bl.refl _).alloc (.cells #[.slice S6 l2.length c6] 27))
              replace hgc := Bl.cells ((Bl.refl _).alloc (.cells #[.slice S6 l2.length c6] 27)) hgc
              replace hIL := hIL.keep ((Bl.refl _).alloc (.cells #[.slice S6 l2.length c6] 27))
              generalize y13.alloc (.cells #[.slice S6 l2.length c6] 27) = y3 at hC hgc hHL hIL ⊢
              generalize y13.heap.size = z3 at hHL ⊢
              refine hK.out _ _ ?_ (fun hHeld => ?_)
              · (try dsimp only); exact ⟨trivial, hC.ou.cell 4 _ rfl, hC.ou.cell 5 _ rfl, hgc⟩
              clear hK K
              (try simp only [Act.put]); (try simp only [List.setIfInBounds_toArray]); (try simp only [List.set_cons_succ]); (try simp only [List.set_cons_zero])
              refine f_step (i := 4) (by kernel_rfl) rfl (fun K hK => ?_)
              refine ap_hdv_step (y := (⟨S6, l2.length, c6⟩ : Hd)) rfl rfl rfl (by have := hC.wi; rw [HSL.out] at this; exact this) rfl hHL (by omega) hC.bl.sz ?_; intro WA4 c4 y4 ho4 hg4 hat4; replace hgc := hg4.cell hgc (fun e => hC.at_ 3 rfl (j := 0) rfl (by decide) _ e.symm rfl); replace hIL := hIL.grownF_ hg4 (fun e => hz13 _ e rfl); replace hC := hC.pushW (y := (⟨S6, l2.length, c6⟩ : Hd)) (by rw [HSL.out]; exact ho4) hg4 hat4; clear ho4 hg4 hat4 hHL
              refine hK.out _ _ ?_ (fun hHeld => ?_)
              · (try dsimp only); exact ⟨trivial, hC.ou.cell 4 _ rfl, hC.ou.cell 5 _ rfl, hgc⟩
              clear hK K
              (try simp only [Act.put]); (try simp only [List.setIfInBounds_toArray]); (try simp only [List.set_cons_succ]); (try simp only [List.set_cons_zero])
              refine f_takeC (i := 15) (d := 117) (v := ?_) [15] rfl rfl (by kernel_rfl) (by kernel_rfl) (by kernel_rfl) (by kernel_rfl) (by kernel_rfl) (by kernel_rfl) (fun _ _ _ h => h) (by decide) (Or.inl ⟨by rfl, ?_⟩) hHeld ?_
              rotate_left
              · (intro w hSw; (try dsimp only at hSw); go_simp; (try with_reducible rfl))
              simp only [List.set_cons_zero, List.set_cons_succ]
              refine f_step (i := 14) (by kernel_rfl) rfl (fun K hK => ?_)
              refine ap_int_step rfl rfl rfl hC.en rfl hIL (by omega) hC.bl.sz ?_; intro EA4 c14 y14 ho14 hg14 hat14; replace hgc := hg14.cell hgc (fun e => hC.at_ 4 rfl (j := 0) rfl (by decide) _ e.symm rfl); replace hC := hC.pushE ho14 hg14 hat14; clear ho14 hg14 hat14 hIL
              refine hK.out _ _ ?_ (fun hHeld => ?_)
              · (try dsimp only); exact ⟨trivial, hC.ou.cell 4 _ rfl, hC.ou.cell 5 _ rfl, hgc⟩
              clear hK K
              (try simp only [Act.put]); (try simp only [List.setIfInBounds_toArray]); (try simp only [List.set_cons_succ]); (try simp only [List.set_cons_zero])
              refine f_last (i := 16) (by kernel_rfl) rfl (by simp) (fun K hK => ?_)
              have hof := hC.ou.frozen
              have hol := hC.ou.lt
              have hoc := hC.ou.cell 4 _ rfl
              go_simp
              replace hC := hC.store 4 (.slice WA4 (k + 1) c4)
              clear hof hol hoc
              refine hK.out _ _ ?_ (fun hHeld => ?_)
              · exact trivial
              clear hK K
              (try simp only [Act.put]); (try simp only [List.setIfInBounds_toArray]); (try simp only [List.set_cons_succ]); (try simp only [List.set_cons_zero])
              refine f_takeS (i := 17) (d := 118) (v := ?_) rfl rfl (by kernel_rfl) (by kernel_rfl) (by kernel_rfl) (by kernel_rfl) (fun _ _ _ h => h) (by decide) (Or.inl ⟨by rfl, ?_⟩) hHeld (fun h => by simp at h) ?_
              rotate_left
              · (intro w hSw; (try dsimp only at hSw); go_simp; (try with_reducible rfl))
              simp only [List.set_cons_zero, List.set_cons_succ]
              refine f_last (i := 18) (by kernel_rfl) rfl (by simp) (fun K hK => ?_)
              have hof := hC.ou.frozen
              have hol := hC.ou.lt
              have hoc := hC.ou.cell 5 _ rfl
              go_simp
              replace hC := hC.store 5 (.slice EA4 (k + 1) c14)
              clear hof hol hoc
              refine hK.out _ _ ?_ (fun hHeld => ?_)
              · exact trivial
              clear hK K
              (try simp only [Act.put]); (try simp only [List.setIfInBounds_toArray]); (try simp only [List.set_cons_succ]); (try simp only [List.set_cons_zero])
              refine f_done (by kernel_rfl) ?_ _
              go_wp2_with fail
              go_roundw
              case rel => exact ⟨k + 1, _, _, c4, c14, _, _, _, WA4, EA4, hs ++ [(⟨S6, l2.length, c6⟩ : Hd)], _, _, by omega, by go_num, by rw [HFIN.out]; exact HRS2.out.push HMEM.out, by rw [HFIN.out]; exact hC⟩
              case measure => simp [intOf]; omega
          · as_aux_lemma =>
            rw [hk1] at hX_0
            obtain ⟨p, hps2, hwp1, hwp2⟩ := HWK.out.k4 hk1
            obtain ⟨N, hN⟩ : ∃ N : Nat, wsA pre (ws.take k) p = (N : Nat) := ⟨(wsA pre (ws.take k) p).toNat, by omega⟩
            obtain ⟨_, r1, _, _, _, hW1, hr1⟩ := HLW.out p (HWK.out.f p (by rw [hps2]; simp))
            have hPe : P = [r1] := by rw [← HP.out, hps2]; show [W.getD (fndL pre p).toNat []] = _; rw [hW1]
            subst hPe
            obtain rfl : j = 1 := by have := HPL.out; rw [hps2] at this; exact this.symm
            obtain ⟨y1, rfl, m1⟩ := hPR.one
            have hC2 := hC1.keep ((Bl.refl wq).alloc (.cells #[] 3))
            have hX2 := hX.alloc (.cells #[] 3)
            have hPd := hPP.rd.keep ((Bl.refl wq).alloc (.cells #[] 3))
            have hPq : ∀ t, PA.map (·.block) = some t → t ≠ Q.x ∧ A1.map (·.block) ≠ some t := fun t ht => ⟨by have := (hPP.blk t ht).1; have := HCX.out; omega, fun e => by have := (hPP.blk t ht).1; have := hC.ltA.1 t e; have := HBX.out; omega⟩
            have hAX : A1.map (·.block) ≠ some bX := fun e => by have := hC.ltA.1 _ e; have := HBX.out; omega
            have hng : nG ≤ 300 := by have := HNG.out; omega
            have hL1 := hC2.lx m1
            have hle1 := hL1.rd.length
            have hme := hC2.me
            rw [HT.out] at hme
            have hcall := impl_line_4 hme x.nm x.op C 1 cc x.pt x.wd x.vl x (show x = ⟨4, x.nm, x.op, x.ps, x.pt, x.wd, x.vl⟩ by rw [← hk1]) PA 1 c3 hPq y1 r1 hL1 hPd N (by omega) (by omega) hng
            rw [show Mx.t ⟨Q.x, Q.base, Q.a, Q.b, B1, ol.length, d, ol⟩ = a + b by unfold Mx.t; rw [HAB.out.1, HAB.out.2]] at hcall
            obtain ⟨⟨g2, l2⟩, hgr⟩ : ∃ p, lineS mulI (a + b) x [r1] g = p := ⟨_, rfl⟩
            have HFIN := Lib.hid (show cp (k + 1) = ⟨g2, ol, W ++ [l2], n0, n1⟩ by rw [HNX.out]; unfold cpN; rw [if_neg (by rw [hk1]; decide)]; dsimp only; rw [HP.out, hgr, if_neg (by rw [hk1]; decide)])
            rw [hgr] at hcall
            dsimp only at hcall
            have HCALL := Lib.hid hcall
            clear hcall hgr hme hN hPd hPq hPP hPR hC1 hC hX
            go_wp2_with fail
            refine HCALL.out.mono ?_
            intro e w6 hres
            obtain ⟨A6, nG6, S6, m6, c6, rfl, hm6, hf6, hr6, hq6⟩ := hres
            rw [← HT.out] at hm6
            have hC := hC2.made hm6 hf6 hr6 hq6
            have hX := hX2.fm hf6 (show bX ≠ Q.x by have := HCX.out; omega) hAX
            clear hC2 hX2 hm6 hf6 hq6 hX_l hX_0 hX_1 hX_2 hX_3 hX_4 hX_5 hX_6
            have hX_l := hX.lt
            have hX_0 := hX.cell 0 _ rfl
            rw [hk1] at hX_0
            obtain rfl : l2.length = m6 := hr6.length
            have HMEM := Lib.hid (show ((⟨S6, l2.length, c6⟩ : Hd), l2) ∈ rs ++ [((⟨S6, l2.length, c6⟩ : Hd), l2)] by simp)
            have HRS2 := Lib.hid (HRS.out.mono (rs' := rs ++ [((⟨S6, l2.length, c6⟩ : Hd), l2)]) (fun p hp => List.mem_append.2 (.inl hp)))
            clear hr6
            go_wp2_with fail
            generalize hWZ : w6.heap.size = tz at hC
            clear hWZ
            obtain ⟨cG, hMk, _⟩ := hC.mkr
            have hgc := hMk.cell 2 _ rfl
            have hMk_l := hMk.lt
            clear hMk
            have hkn1 : k + 1 ≤ 3000000 := by omega
            refine region_F (fun _ => True) (fun w' => w'.cell? ⟨Q.bO, 4, none⟩ = some (.slice WA k wc) ∧ w'.cell? ⟨Q.bO, 5, none⟩ = some (.slice EA k ec) ∧ w'.cell? ⟨Q.x, 2, none⟩ = some (.slice A6 nG6 cG)) 16 (by kernel_rfl) ?_ (fun hHeld => ?_)
            · (try dsimp only); exact ⟨trivial, hC.ou.cell 4 _ rfl, hC.ou.cell 5 _ rfl, hgc⟩
            replace hC := hC.keep ((Bl.refl _).drew)
            replace hgc := Bl.cells ((Bl.refl _).drew) hgc
            generalize w6.drew = y0 at hC hgc hHeld ⊢
            refine f_takeC (i := 0) (d := 102) (v := ?_) [0] rfl rfl (by kernel_rfl) (by kernel_rfl) (by kernel_rfl) (by kernel_rfl) (by kernel_rfl) (by kernel_rfl) (fun _ _ _ h => h) (by decide) (Or.inl ⟨by rfl, ?_⟩) hHeld ?_
            rotate_left
            · (intro w hSw; (try dsimp only at hSw); go_simp; (try with_reducible rfl))
            simp only [List.set_cons_zero, List.set_cons_succ]
            refine f_takeC (i := 1) (d := 103) (v := ?_) [1] rfl rfl (by kernel_rfl) (by kernel_rfl) (by kernel_rfl) (by kernel_rfl) (by kernel_rfl) (by kernel_rfl) (fun _ _ _ h => h) (by decide) (Or.inl ⟨by rfl, ?_⟩) hHeld ?_
            rotate_left
            · (intro w hSw; (try dsimp only at hSw); go_simp; (try with_reducible rfl))
            simp only [List.set_cons_zero, List.set_cons_succ]
            refine f_takeC (i := 2) (d := 104) (v := ?_) [2] rfl rfl (by kernel_rfl) (by kernel_rfl) (by kernel_rfl) (by kernel_rfl) (by kernel_rfl) (by kernel_rfl) (fun _ _ _ h => h) (by decide) (Or.inl ⟨by rfl, ?_⟩) hHeld ?_
            rotate_left
            · (intro w hSw; (try dsimp only at hSw); go_simp; (try with_reducible rfl))
            simp only [List.set_cons_zero, List.set_cons_succ]
            refine f_takeC (i := 5) (d := 107) (v := ?_) [5] rfl rfl (by kernel_rfl) (by kernel_rfl) (by kernel_rfl) (by kernel_rfl) (by kernel_rfl) (by kernel_rfl) (fun _ _ _ h => h) (by decide) (Or.inl ⟨by rfl, ?_⟩) hHeld ?_
            rotate_left
            · (intro w hSw; (try dsimp only at hSw); go_simp; (try with_reducible rfl))
            simp only [List.set_cons_zero, List.set_cons_succ]
            refine f_takeC (i := 6) (d := 108) (v := ?_) [6] rfl rfl (by kernel_rfl) (by kernel_rfl) (by kernel_rfl) (by kernel_rfl) (by kernel_rfl) (by kernel_rfl) (fun _ _ _ h => h) (by decide) (Or.inl ⟨by rfl, ?_⟩) hHeld ?_
            rotate_left
            · (intro w hSw; (try dsimp only at hSw); go_simp; (try with_reducible rfl))
            simp only [List.set_cons_zero, List.set_cons_succ]
            refine f_takeC (i := 7) (d := 109) (v := ?_) [14, 13, 12, 11, 10, 9, 8, 7] rfl rfl (by kernel_rfl) (by kernel_rfl) (by kernel_rfl) (by kernel_rfl) (by kernel_rfl) (by kernel_rfl) (fun _ _ _ h => h) (by decide) (Or.inl ⟨by rfl, ?_⟩) hHeld ?_
            rotate_left
            · (intro w hSw; (try dsimp only at hSw); go_simp; (try with_reducible rfl))
            simp only [List.set_cons_zero, List.set_cons_succ]
            refine f_takeC (i := 8) (d := 110) (v := ?_) [14, 13, 12, 11, 10, 9, 8] rfl rfl (by kernel_rfl) (by kernel_rfl) (by kernel_rfl) (by kernel_rfl) (by kernel_rfl) (by kernel_rfl) (fun _ _ _ h => h) (by decide) (Or.inl ⟨by rfl, ?_⟩) hHeld ?_
            rotate_left
            · (intro w hSw; (try dsimp only at hSw); go_simp; (try with_reducible rfl))
            simp only [List.set_cons_zero, List.set_cons_succ]
            refine f_takeC (i := 9) (d := 111) (v := ?_) [14, 13, 12, 11, 10, 9] rfl rfl (by kernel_rfl) (by kernel_rfl) (by kernel_rfl) (by kernel_rfl) (by kernel_rfl) (by kernel_rfl) (fun _ _ _ h => h) (by decide) (Or.inl ⟨by rfl, ?_⟩) hHeld ?_
            rotate_left
            · (intro w hSw; (try dsimp only at hSw); go_simp; (try with_reducible rfl))
            simp only [List.set_cons_zero, List.set_cons_succ]
            refine f_takeC (i := 10) (d := 112) (v := ?_) [14, 13, 12, 11, 10] rfl rfl (by kernel_rfl) (by kernel_rfl) (by kernel_rfl) (by kernel_rfl) (by kernel_rfl) (by kernel_rfl) (fun _ _ _ h => h) (by decide) (Or.inl ⟨by rfl, ?_⟩) hHeld ?_
            rotate_left
            · (intro w hSw; (try dsimp only at hSw); go_simp; (try with_reducible rfl))
            simp only [List.set_cons_zero, List.set_cons_succ]
            refine f_takeC (i := 11) (d := 113) (v := ?_) [14, 13, 12, 11] rfl rfl (by kernel_rfl) (by kernel_rfl) (by kernel_rfl) (by kernel_rfl) (by kernel_rfl) (by kernel_rfl) (fun _ _ _ h => h) (by decide) (Or.inl ⟨by rfl, ?_⟩) hHeld ?_
            rotate_left
            · (intro w hSw; (try dsimp only at hSw); go_simp; (try with_reducible rfl))
            simp only [List.set_cons_zero, List.set_cons_succ]
            refine f_takeC (i := 12) (d := 114) (v := ?_) [14, 13, 12] rfl rfl (by kernel_rfl) (by kernel_rfl) (by kernel_rfl) (by kernel_rfl) (by kernel_rfl) (by kernel_rfl) (fun _ _ _ h => h) (by decide) (Or.inl ⟨by rfl, ?_⟩) hHeld ?_
            rotate_left
            · (intro w hSw; (try dsimp only at hSw); go_simp; (try with_reducible rfl))
            simp only [List.set_cons_zero, List.set_cons_succ]
            refine f_all (rs := [3, 13]) (by kernel_rfl) (by simp) ?_
            intro qr hqr
            simp only [List.mem_cons, List.not_mem_nil, or_false] at hqr
            rcases hqr with rfl | rfl
            · refine ⟨_, rfl, fun K hK => ?_⟩
              go_simp
              have hHL := rd_hd1 y0 (⟨S6, l2.length, c6⟩ : Hd)
              replace hC := hC.keep ((Bl.refl _).alloc (.cells #[.slice S6 l2.length c6] 27))
              replace hgc := Bl.cells ((Bl.refl _).alloc (.cells #[.slice S6 l2.length c6] 27)) hgc
              generalize y0.alloc (.cells #[.slice S6 l2.length c6] 27) = y3 at hC hgc hHL ⊢
              generalize y0.heap.size = z3 at hHL ⊢
              refine hK.out _ _ ?_ (fun hHeld => ?_)
              · (try dsimp only); exact ⟨trivial, hC.ou.cell 4 _ rfl, hC.ou.cell 5 _ rfl, hgc⟩
              clear hK K
              (try simp only [Act.put]); (try simp only [List.setIfInBounds_toArray]); (try simp only [List.set_cons_succ]); (try simp only [List.set_cons_zero])
              refine f_all (rs := [4, 13]) (by kernel_rfl) (by simp) ?_
              intro qr hqr
              simp only [List.mem_cons, List.not_mem_nil, or_false] at hqr
              rcases hqr with rfl | rfl
              · refine ⟨_, rfl, fun K hK => ?_⟩
                refine ap_hdv_step (y := (⟨S6, l2.length, c6⟩ : Hd)) rfl rfl rfl (by have := hC.wi; rw [HSL.out] at this; exact this) rfl hHL (by omega) hC.bl.sz ?_; intro WA4 c4 y4 ho4 hg4 hat4; replace hgc := hg4.cell hgc (fun e => hC.at_ 3 rfl (j := 0) rfl (by decide) _ e.symm rfl); replace hC := hC.pushW (y := (⟨S6, l2.length, c6⟩ : Hd)) (by rw [HSL.out]; exact ho4) hg4 hat4; clear ho4 hg4 hat4 hHL
                refine hK.out _ _ ?_ (fun hHeld => ?_)
                · (try dsimp only); exact ⟨trivial, hC.ou.cell 4 _ rfl, hC.ou.cell 5 _ rfl, hgc⟩
                clear hK K
                (try simp only [Act.put]); (try simp only [List.setIfInBounds_toArray]); (try simp only [List.set_cons_succ]); (try simp only [List.set_cons_zero])
                refine f_takeC (i := 15) (d := 117) (v := ?_) [15] rfl rfl (by kernel_rfl) (by kernel_rfl) (by kernel_rfl) (by kernel_rfl) (by kernel_rfl) (by kernel_rfl) (fun _ _ _ h => h) (by decide) (Or.inl ⟨by rfl, ?_⟩) hHeld ?_
                rotate_left
                · (intro w hSw; (try dsimp only at hSw); go_simp; (try with_reducible rfl))
                simp only [List.set_cons_zero, List.set_cons_succ]
                refine f_step (i := 13) (by kernel_rfl) rfl (fun K hK => ?_)
                go_simp
                have hIL := rd_new1 y4 3 ((nG6 : Nat) : Int)
                replace hC := hC.keep ((Bl.refl _).alloc (.cells #[.int .i64 (nG6 : Nat)] 3))
                replace hgc := Bl.cells ((Bl.refl _).alloc (.cells #[.int .i64 (nG6 : Nat)] 3)) hgc
                generalize y4.alloc (.cells #[.int .i64 (nG6 : Nat)] 3) = y13 at hC hgc hIL ⊢
                generalize y4.heap.size = z13 at hIL ⊢
                refine hK.out _ _ ?_ (fun hHeld => ?_)
                · (try dsimp only); exact ⟨trivial, hC.ou.cell 4 _ rfl, hC.ou.cell 5 _ rfl, hgc⟩
                clear hK K
                (try simp only [Act.put]); (try simp only [List.setIfInBounds_toArray]); (try simp only [List.set_cons_succ]); (try simp only [List.set_cons_zero])
                refine f_step (i := 14) (by kernel_rfl) rfl (fun K hK => ?_)
                refine ap_int_step rfl rfl rfl hC.en rfl hIL (by omega) hC.bl.sz ?_; intro EA4 c14 y14 ho14 hg14 hat14; replace hgc := hg14.cell hgc (fun e => hC.at_ 4 rfl (j := 0) rfl (by decide) _ e.symm rfl); replace hC := hC.pushE ho14 hg14 hat14; clear ho14 hg14 hat14 hIL
                refine hK.out _ _ ?_ (fun hHeld => ?_)
                · (try dsimp only); exact ⟨trivial, hC.ou.cell 4 _ rfl, hC.ou.cell 5 _ rfl, hgc⟩
                clear hK K
                (try simp only [Act.put]); (try simp only [List.setIfInBounds_toArray]); (try simp only [List.set_cons_succ]); (try simp only [List.set_cons_zero])
                refine f_last (i := 16) (by kernel_rfl) rfl (by simp) (fun K hK => ?_)
                have hof := hC.ou.frozen
                have hol := hC.ou.lt
                have hoc := hC.ou.cell 4 _ rfl
                go_simp
                replace hC := hC.store 4 (.slice WA4 (k + 1) c4)
                clear hof hol hoc
                refine hK.out _ _ ?_ (fun hHeld => ?_)
                · exact trivial
                clear hK K
                (try simp only [Act.put]); (try simp only [List.setIfInBounds_toArray]); (try simp only [List.set_cons_succ]); (try simp only [List.set_cons_zero])
                refine f_takeS (i := 17) (d := 118) (v := ?_) rfl rfl (by kernel_rfl) (by kernel_rfl) (by kernel_rfl) (by kernel_rfl) (fun _ _ _ h => h) (by decide) (Or.inl ⟨by rfl, ?_⟩) hHeld (fun h => by simp at h) ?_
                rotate_left
                · (intro w hSw; (try dsimp only at hSw); go_simp; (try with_reducible rfl))
                simp only [List.set_cons_zero, List.set_cons_succ]
                refine f_last (i := 18) (by kernel_rfl) rfl (by simp) (fun K hK => ?_)
                have hof := hC.ou.frozen
                have hol := hC.ou.lt
                have hoc := hC.ou.cell 5 _ rfl
                go_simp
                replace hC := hC.store 5 (.slice EA4 (k + 1) c14)
                clear hof hol hoc
                refine hK.out _ _ ?_ (fun hHeld => ?_)
                · exact trivial
                clear hK K
                (try simp only [Act.put]); (try simp only [List.setIfInBounds_toArray]); (try simp only [List.set_cons_succ]); (try simp only [List.set_cons_zero])
                refine f_done (by kernel_rfl) ?_ _
                go_wp2_with fail
                go_roundw
                case rel => exact ⟨k + 1, _, _, c4, c14, _, _, _, WA4, EA4, hs ++ [(⟨S6, l2.length, c6⟩ : Hd)], _, _, by omega, by go_num, by rw [HFIN.out]; exact HRS2.out.push HMEM.out, by rw [HFIN.out]; exact hC⟩
                case measure => simp [intOf]; omega
              · refine ⟨_, rfl, fun K hK => ?_⟩
                go_simp
                have hIL := rd_new1 y3 3 ((nG6 : Nat) : Int)
                have hz13 : ∀ q, WA.map (·.block) = some q → q ≠ y3.heap.size := fun q hq => by have := hC.ltA.2.2.1 q hq; have := hC.tm; omega
                replace hC := hC.keep ((Bl.refl _).alloc (.cells #[.int .i64 (nG6 : Nat)] 3))
                replace hgc := Bl.cells ((Bl.refl _).alloc (.cells #[.int .i64 (nG6 : Nat)] 3)) hgc
                replace hHL := hHL.keep ((Bl.refl _).alloc (.cells #[.int .i64 (nG6 : Nat)] 3))
                generalize y3.alloc (.cells #[.int .i64 (nG6 : Nat)] 3) = y13 at hC hgc hIL hHL ⊢
                generalize y3.heap.size = z13 at hIL hz13 ⊢
                refine hK.out _ _ ?_ (fun hHeld => ?_)
                · (try dsimp only); exact ⟨trivial, hC.ou.cell 4 _ rfl, hC.ou.cell 5 _ rfl, hgc⟩
                clear hK K
                (try simp only [Act.put]); (try simp only [List.setIfInBounds_toArray]); (try simp only [List.set_cons_succ]); (try simp only [List.set_cons_zero])
                refine f_step (i := 4) (by kernel_rfl) rfl (fun K hK => ?_)
                refine ap_hdv_step (y := (⟨S6, l2.length, c6⟩ : Hd)) rfl rfl rfl (by have := hC.wi; rw [HSL.out] at this; exact this) rfl hHL (by omega) hC.bl.sz ?_; intro WA4 c4 y4 ho4 hg4 hat4; replace hgc := hg4.cell hgc (fun e => hC.at_ 3 rfl (j := 0) rfl (by decide) _ e.symm rfl); replace hIL := hIL.grownF_ hg4 (fun e => hz13 _ e rfl); replace hC := hC.pushW (y := (⟨S6, l2.length, c6⟩ : Hd)) (by rw [HSL.out]; exact ho4) hg4 hat4; clear ho4 hg4 hat4 hHL
                refine hK.out _ _ ?_ (fun hHeld => ?_)
                · (try dsimp only); exact ⟨trivial, hC.ou.cell 4 _ rfl, hC.ou.cell 5 _ rfl, hgc⟩
                clear hK K
                (try simp only [Act.put]); (try simp only [List.setIfInBounds_toArray]); (try simp only [List.set_cons_succ]); (try simp only [List.set_cons_zero])
                refine f_takeC (i := 15) (d := 117) (v := ?_) [15] rfl rfl (by kernel_rfl) (by kernel_rfl) (by kernel_rfl) (by kernel_rfl) (by kernel_rfl) (by kernel_rfl) (fun _ _ _ h => h) (by decide) (Or.inl ⟨by rfl, ?_⟩) hHeld ?_
                rotate_left
                · (intro w hSw; (try dsimp only at hSw); go_simp; (try with_reducible rfl))
                simp only [List.set_cons_zero, List.set_cons_succ]
                refine f_step (i := 14) (by kernel_rfl) rfl (fun K hK => ?_)
                refine ap_int_step rfl rfl rfl hC.en rfl hIL (by omega) hC.bl.sz ?_; intro EA4 c14 y14 ho14 hg14 hat14; replace hgc := hg14.cell hgc (fun e => hC.at_ 4 rfl (j := 0) rfl (by decide) _ e.symm rfl); replace hC := hC.pushE ho14 hg14 hat14; clear ho14 hg14 hat14 hIL
                refine hK.out _ _ ?_ (fun hHeld => ?_)
                · (try dsimp only); exact ⟨trivial, hC.ou.cell 4 _ rfl, hC.ou.cell 5 _ rfl, hgc⟩
                clear hK K
                (try simp only [Act.put]); (try simp only [List.setIfInBounds_toArray]); (try simp only [List.set_cons_succ]); (try simp only [List.set_cons_zero])
                refine f_last (i := 16) (by kernel_rfl) rfl (by simp) (fun K hK => ?_)
                have hof := hC.ou.frozen
                have hol := hC.ou.lt
                have hoc := hC.ou.cell 4 _ rfl
                go_simp
                replace hC := hC.store 4 (.slice WA4 (k + 1) c4)
                clear hof hol hoc
                refine hK.out _ _ ?_ (fun hHeld => ?_)
                · exact trivial
                clear hK K
                (try simp only [Act.put]); (try simp only [List.setIfInBounds_toArray]); (try simp only [List.set_cons_succ]); (try simp only [List.set_cons_zero])
                refine f_takeS (i := 17) (d := 118) (v := ?_) rfl rfl (by kernel_rfl) (by kernel_rfl) (by kernel_rfl) (by kernel_rfl) (fun _ _ _ h => h) (by decide) (Or.inl ⟨by rfl, ?_⟩) hHeld (fun h => by simp at h) ?_
                rotate_left
                · (intro w hSw; (try dsimp only at hSw); go_simp; (try with_reducible rfl))
                simp only [List.set_cons_zero, List.set_cons_succ]
                refine f_last (i := 18) (by kernel_rfl) rfl (by simp) (fun K hK => ?_)
                have hof := hC.ou.frozen
                have hol := hC.ou.lt
                have hoc := hC.ou.cell 5 _ rfl
                go_simp
                replace hC := hC.store 5 (.slice EA4 (k + 1) c14)
                clear hof hol hoc
                refine hK.out _ _ ?_ (fun hHeld => ?_)
                · exact trivial
                clear hK K
                (try simp only [Act.put]); (try simp only [List.setIfInBounds_toArray]); (try simp only [List.set_cons_succ]); (try simp only [List.set_cons_zero])
                refine f_done (by kernel_rfl) ?_ _
                go_wp2_with fail
                go_roundw
                case rel => exact ⟨k + 1, _, _, c4, c14, _, _, _, WA4, EA4, hs ++ [(⟨S6, l2.length, c6⟩ : Hd)], _, _, by omega, by go_num, by rw [HFIN.out]; exact HRS2.out.push HMEM.out, by rw [HFIN.out]; exact hC⟩
                case measure => simp [intOf]; omega
            · refine ⟨_, rfl, fun K hK => ?_⟩
              go_simp
              have hIL := rd_new1 y0 3 ((nG6 : Nat) : Int)
              have hz13 : ∀ q, WA.map (·.block) = some q → q ≠ y0.heap.size := fun q hq => by have := hC.ltA.2.2.1 q hq; have := hC.tm; omega
              replace hC := hC.keep ((Bl.refl _).alloc (.cells #[.int .i64 (nG6 : Nat)] 3))
              replace hgc := Bl.cells ((Bl.refl _).alloc (.cells #[.int .i64 (nG6 : Nat)] 3)) hgc
              generalize y0.alloc (.cells #[.int .i64 (nG6 : Nat)] 3) = y13 at hC hgc hIL ⊢
              generalize y0.heap.size = z13 at hIL hz13 ⊢
              refine hK.out _ _ ?_ (fun hHeld => ?_)
              · (try dsimp only); exact ⟨trivial, hC.ou.cell 4 _ rfl, hC.ou.cell 5 _ rfl, hgc⟩
              clear hK K
              (try simp only [Act.put]); (try simp only [List.setIfInBounds_toArray]); (try simp only [List.set_cons_succ]); (try simp only [List.set_cons_zero])
              refine f_step (i := 3) (by kernel_rfl) rfl (fun K hK => ?_)
              go_simp
              have hHL := rd_hd1 y13 (⟨S6, l2.length, c6⟩ : Hd)
              replace hC := hC.keep ((Bl.refl _).alloc (.cells #[.slice S6 l2.length c6] 27))
              replace hgc := Bl.cells ((Bl.refl _).alloc (.cells #[.slice S6 l2.length c6] 27)) hgc
              replace hIL := hIL.keep ((Bl.refl _).alloc (.cells #[.slice S6 l2.length c6] 27))
              generalize y13.alloc (.cells #[.slice S6 l2.length c6] 27) = y3 at hC hgc hHL hIL ⊢
              generalize y13.heap.size = z3 at hHL ⊢
              refine hK.out _ _ ?_ (fun hHeld => ?_)
              · (try dsimp only); exact ⟨trivial, hC.ou.cell 4 _ rfl, hC.ou.cell 5 _ rfl, hgc⟩
              clear hK K
              (try simp only [Act.put]); (try simp only [List.setIfInBounds_toArray]); (try simp only [List.set_cons_succ]); (try simp only [List.set_cons_zero])
              refine f_step (i := 4) (by kernel_rfl) rfl (fun K hK => ?_)
              refine ap_hdv_step (y := (⟨S6, l2.length, c6⟩ : Hd)) rfl rfl rfl (by have := hC.wi; rw [HSL.out] at this; exact this) rfl hHL (by omega) hC.bl.sz ?_; intro WA4 c4 y4 ho4 hg4 hat4; replace hgc := hg4.cell hgc (fun e => hC.at_ 3 rfl (j := 0) rfl (by decide) _ e.symm rfl); replace hIL := hIL.grownF_ hg4 (fun e => hz13 _ e rfl); replace hC := hC.pushW (y := (⟨S6, l2.length, c6⟩ : Hd)) (by rw [HSL.out]; exact ho4) hg4 hat4; clear ho4 hg4 hat4 hHL
              refine hK.out _ _ ?_ (fun hHeld => ?_)
              · (try dsimp only); exact ⟨trivial, hC.ou.cell 4 _ rfl, hC.ou.cell 5 _ rfl, hgc⟩
              clear hK K
              (try simp only [Act.put]); (try simp only [List.setIfInBounds_toArray]); (try simp only [List.set_cons_succ]); (try simp only [List.set_cons_zero])
              refine f_takeC (i := 15) (d := 117) (v := ?_) [15] rfl rfl (by kernel_rfl) (by kernel_rfl) (by kernel_rfl) (by kernel_rfl) (by kernel_rfl) (by kernel_rfl) (fun _ _ _ h => h) (by decide) (Or.inl ⟨by rfl, ?_⟩) hHeld ?_
              rotate_left
              · (intro w hSw; (try dsimp only at hSw); go_simp; (try with_reducible rfl))
              simp only [List.set_cons_zero, List.set_cons_succ]
              refine f_step (i := 14) (by kernel_rfl) rfl (fun K hK => ?_)
              refine ap_int_step rfl rfl rfl hC.en rfl hIL (by omega) hC.bl.sz ?_; intro EA4 c14 y14 ho14 hg14 hat14; replace hgc := hg14.cell hgc (fun e => hC.at_ 4 rfl (j := 0) rfl (by decide) _ e.symm rfl); replace hC := hC.pushE ho14 hg14 hat14; clear ho14 hg14 hat14 hIL
              refine hK.out _ _ ?_ (fun hHeld => ?_)
              · (try dsimp only); exact ⟨trivial, hC.ou.cell 4 _ rfl, hC.ou.cell 5 _ rfl, hgc⟩
              clear hK K
              (try simp only [Act.put]); (try simp only [List.setIfInBounds_toArray]); (try simp only [List.set_cons_succ]); (try simp only [List.set_cons_zero])
              refine f_last (i := 16) (by kernel_rfl) rfl (by simp) (fun K hK => ?_)
              have hof := hC.ou.frozen
              have hol := hC.ou.lt
              have hoc := hC.ou.cell 4 _ rfl
              go_simp
              replace hC := hC.store 4 (.slice WA4 (k + 1) c4)
              clear hof hol hoc
              refine hK.out _ _ ?_ (fun hHeld => ?_)
              · exact trivial
              clear hK K
              (try simp only [Act.put]); (try simp only [List.setIfInBounds_toArray]); (try simp only [List.set_cons_succ]); (try simp only [List.set_cons_zero])
              refine f_takeS (i := 17) (d := 118) (v := ?_) rfl rfl (by kernel_rfl) (by kernel_rfl) (by kernel_rfl) (by kernel_rfl) (fun _ _ _ h => h) (by decide) (Or.inl ⟨by rfl, ?_⟩) hHeld (fun h => by simp at h) ?_
              rotate_left
              · (intro w hSw; (try dsimp only at hSw); go_simp; (try with_reducible rfl))
              simp only [List.set_cons_zero, List.set_cons_succ]
              refine f_last (i := 18) (by kernel_rfl) rfl (by simp) (fun K hK => ?_)
              have hof := hC.ou.frozen
              have hol := hC.ou.lt
              have hoc := hC.ou.cell 5 _ rfl
              go_simp
              replace hC := hC.store 5 (.slice EA4 (k + 1) c14)
              clear hof hol hoc
              refine hK.out _ _ ?_ (fun hHeld => ?_)
              · exact trivial
              clear hK K
              (try simp only [Act.put]); (try simp only [List.setIfInBounds_toArray]); (try simp only [List.set_cons_succ]); (try simp only [List.set_cons_zero])
              refine f_done (by kernel_rfl) ?_ _
              go_wp2_with fail
              go_roundw
              case rel => exact ⟨k + 1, _, _, c4, c14, _, _, _, WA4, EA4, hs ++ [(⟨S6, l2.length, c6⟩ : Hd)], _, _, by omega, by go_num, by rw [HFIN.out]; exact HRS2.out.push HMEM.out, by rw [HFIN.out]; exact hC⟩
              case measure => simp [intOf]; omega
          · as_aux_lemma =>
            rw [hk1] at hX_0
            obtain ⟨p, q, r, hps2, hwp, hwqr, hwr1, hwr2⟩ := HWK.out.k5 hk1
            obtain ⟨N, hN⟩ : ∃ N : Nat, wsA pre (ws.take k) r = (N : Nat) := ⟨(wsA pre (ws.take k) r).toNat, by omega⟩
            obtain ⟨_, r1, _, _, _, hW1, hr1⟩ := HLW.out p (HWK.out.f p (by rw [hps2]; simp))
            obtain ⟨_, r2, _, _, _, hW2, hr2⟩ := HLW.out q (HWK.out.f q (by rw [hps2]; simp))
            obtain ⟨_, r3, _, _, _, hW3, hr3⟩ := HLW.out r (HWK.out.f r (by rw [hps2]; simp))
            have hPe : P = [r1, r2, r3] := by rw [← HP.out, hps2]; show [W.getD (fndL pre p).toNat [], W.getD (fndL pre q).toNat [], W.getD (fndL pre r).toNat []] = _; rw [hW1, hW2, hW3]
            subst hPe
            obtain rfl : j = 3 := by have := HPL.out; rw [hps2] at this; exact this.symm
            obtain ⟨y1, y2, y3, rfl, m1, m2, m3⟩ := hPR.three
            have hC2 := hC1.keep ((Bl.refl wq).alloc (.cells #[] 3))
            have hX2 := hX.alloc (.cells #[] 3)
            have hPd := hPP.rd.keep ((Bl.refl wq).alloc (.cells #[] 3))
            have hPq : ∀ t, PA.map (·.block) = some t → t ≠ Q.x ∧ A1.map (·.block) ≠ some t := fun t ht => ⟨by have := (hPP.blk t ht).1; have := HCX.out; omega, fun e => by have := (hPP.blk t ht).1; have := hC.ltA.1 t e; have := HBX.out; omega⟩
            have hAX : A1.map (·.block) ≠ some bX := fun e => by have := hC.ltA.1 _ e; have := HBX.out; omega
            have hng : nG ≤ 300 := by have := HNG.out; omega
            have hL1 := hC2.lx m1
            have hle1 := hL1.rd.length
            have hL2 := hC2.lx m2
            have hle2 := hL2.rd.length
            have hL3 := hC2.lx m3
            have hle3 := hL3.rd.length
            have hme := hC2.me
            rw [HT.out] at hme
            have hcall := impl_line_5 hme x.nm x.op C 3 cc x.pt x.wd x.vl x (show x = ⟨5, x.nm, x.op, x.ps, x.pt, x.wd, x.vl⟩ by rw [← hk1]) PA 3 c3 hPq y1 r1 hL1 y2 r2 hL2 y3 r3 hL3 hPd N y1.n rfl (by omega) (by omega) (by omega) (by omega) hng
            rw [show Mx.t ⟨Q.x, Q.base, Q.a, Q.b, B1, ol.length, d, ol⟩ = a + b by unfold Mx.t; rw [HAB.out.1, HAB.out.2]] at hcall
            obtain ⟨⟨g2, l2⟩, hgr⟩ : ∃ p, lineS mulI (a + b) x [r1, r2, r3] g = p := ⟨_, rfl⟩
            have HFIN := Lib.hid (show cp (k + 1) = ⟨g2, ol, W ++ [l2], n0, n1⟩ by rw [HNX.out]; unfold cpN; rw [if_neg (by rw [hk1]; decide)]; dsimp only; rw [HP.out, hgr, if_neg (by rw [hk1]; decide)])
            rw [hgr] at hcall
            dsimp only at hcall
            have HCALL := Lib.hid hcall
            clear hcall hgr hme hN hPd hPq hPP hPR hC1 hC hX
            go_wp2_with fail
            refine HCALL.out.mono ?_
            intro e w6 hres
            obtain ⟨A6, nG6, S6, m6, c6, rfl, hm6, hf6, hr6, hq6⟩ := hres
            rw [← HT.out] at hm6
            have hC := hC2.made hm6 hf6 hr6 hq6
            have hX := hX2.fm hf6 (show bX ≠ Q.x by have := HCX.out; omega) hAX
            clear hC2 hX2 hm6 hf6 hq6 hX_l hX_0 hX_1 hX_2 hX_3 hX_4 hX_5 hX_6
            have hX_l := hX.lt
            have hX_0 := hX.cell 0 _ rfl
            rw [hk1] at hX_0
            obtain rfl : l2.length = m6 := hr6.length
            have HMEM := Lib.hid (show ((⟨S6, l2.length, c6⟩ : Hd), l2) ∈ rs ++ [((⟨S6, l2.length, c6⟩ : Hd), l2)] by simp)
            have HRS2 := Lib.hid (HRS.out.mono (rs' := rs ++ [((⟨S6, l2.length, c6⟩ : Hd), l2)]) (fun p hp => List.mem_append.2 (.inl hp)))
            clear hr6
            go_wp2_with fail
            generalize hWZ : w6.heap.size = tz at hC
            clear hWZ
            obtain ⟨cG, hMk, _⟩ := hC.mkr
            have hgc := hMk.cell 2 _ rfl
            have hMk_l := hMk.lt
            clear hMk
            have hkn1 : k + 1 ≤ 3000000 := by omega
            refine region_F (fun _ => True) (fun w' => w'.cell? ⟨Q.bO, 4, none⟩ = some (.slice WA k wc) ∧ w'.cell? ⟨Q.bO, 5, none⟩ = some (.slice EA k ec) ∧ w'.cell? ⟨Q.x, 2, none⟩ = some (.slice A6 nG6 cG)) 16 (by kernel_rfl) ?_ (fun hHeld => ?_)
            · (try dsimp only); exact ⟨trivial, hC.ou.cell 4 _ rfl, hC.ou.cell 5 _ rfl, hgc⟩
            replace hC := hC.keep ((Bl.refl _).drew)
            replace hgc := Bl.cells ((Bl.refl _).drew) hgc
            generalize w6.drew = y0 at hC hgc hHeld ⊢
            refine f_takeC (i := 0) (d := 102) (v := ?_) [0] rfl rfl (by kernel_rfl) (by kernel_rfl) (by kernel_rfl) (by kernel_rfl) (by kernel_rfl) (by kernel_rfl) (fun _ _ _ h => h) (by decide) (Or.inl ⟨by rfl, ?_⟩) hHeld ?_
            rotate_left
            · (intro w hSw; (try dsimp only at hSw); go_simp; (try with_reducible rfl))
            simp only [List.set_cons_zero, List.set_cons_succ]
            refine f_takeC (i := 1) (d := 103) (v := ?_) [1] rfl rfl (by kernel_rfl) (by kernel_rfl) (by kernel_rfl) (by kernel_rfl) (by kernel_rfl) (by kernel_rfl) (fun _ _ _ h => h) (by decide) (Or.inl ⟨by rfl, ?_⟩) hHeld ?_
            rotate_left
            · (intro w hSw; (try dsimp only at hSw); go_simp; (try with_reducible rfl))
            simp only [List.set_cons_zero, List.set_cons_succ]
            refine f_takeC (i := 2) (d := 104) (v := ?_) [2] rfl rfl (by kernel_rfl) (by kernel_rfl) (by kernel_rfl) (by kernel_rfl) (by kernel_rfl) (by kernel_rfl) (fun _ _ _ h => h) (by decide) (Or.inl ⟨by rfl, ?_⟩) hHeld ?_
            rotate_left
            · (intro w hSw; (try dsimp only at hSw); go_simp; (try with_reducible rfl))
            simp only [List.set_cons_zero, List.set_cons_succ]
            refine f_takeC (i := 5) (d := 107) (v := ?_) [5] rfl rfl (by kernel_rfl) (by kernel_rfl) (by kernel_rfl) (by kernel_rfl) (by kernel_rfl) (by kernel_rfl) (fun _ _ _ h => h) (by decide) (Or.inl ⟨by rfl, ?_⟩) hHeld ?_
            rotate_left
            · (intro w hSw; (try dsimp only at hSw); go_simp; (try with_reducible rfl))
            simp only [List.set_cons_zero, List.set_cons_succ]
            refine f_takeC (i := 6) (d := 108) (v := ?_) [6] rfl rfl (by kernel_rfl) (by kernel_rfl) (by kernel_rfl) (by kernel_rfl) (by kernel_rfl) (by kernel_rfl) (fun _ _ _ h => h) (by decide) (Or.inl ⟨by rfl, ?_⟩) hHeld ?_
            rotate_left
            · (intro w hSw; (try dsimp only at hSw); go_simp; (try with_reducible rfl))
            simp only [List.set_cons_zero, List.set_cons_succ]
            refine f_takeC (i := 7) (d := 109) (v := ?_) [14, 13, 12, 11, 10, 9, 8, 7] rfl rfl (by kernel_rfl) (by kernel_rfl) (by kernel_rfl) (by kernel_rfl) (by kernel_rfl) (by kernel_rfl) (fun _ _ _ h => h) (by decide) (Or.inl ⟨by rfl, ?_⟩) hHeld ?_
            rotate_left
            · (intro w hSw; (try dsimp only at hSw); go_simp; (try with_reducible rfl))
            simp only [List.set_cons_zero, List.set_cons_succ]
            refine f_takeC (i := 8) (d := 110) (v := ?_) [14, 13, 12, 11, 10, 9, 8] rfl rfl (by kernel_rfl) (by kernel_rfl) (by kernel_rfl) (by kernel_rfl) (by kernel_rfl) (by kernel_rfl) (fun _ _ _ h => h) (by decide) (Or.inl ⟨by rfl, ?_⟩) hHeld ?_
            rotate_left
            · (intro w hSw; (try dsimp only at hSw); go_simp; (try with_reducible rfl))
            simp only [List.set_cons_zero, List.set_cons_succ]
            refine f_takeC (i := 9) (d := 111) (v := ?_) [14, 13, 12, 11, 10, 9] rfl rfl (by kernel_rfl) (by kernel_rfl) (by kernel_rfl) (by kernel_rfl) (by kernel_rfl) (by kernel_rfl) (fun _ _ _ h => h) (by decide) (Or.inl ⟨by rfl, ?_⟩) hHeld ?_
            rotate_left
            · (intro w hSw; (try dsimp only at hSw); go_simp; (try with_reducible rfl))
            simp only [List.set_cons_zero, List.set_cons_succ]
            refine f_takeC (i := 10) (d := 112) (v := ?_) [14, 13, 12, 11, 10] rfl rfl (by kernel_rfl) (by kernel_rfl) (by kernel_rfl) (by kernel_rfl) (by kernel_rfl) (by kernel_rfl) (fun _ _ _ h => h) (by decide) (Or.inl ⟨by rfl, ?_⟩) hHeld ?_
            rotate_left
            · (intro w hSw; (try dsimp only at hSw); go_simp; (try with_reducible rfl))
            simp only [List.set_cons_zero, List.set_cons_succ]
            refine f_takeC (i := 11) (d := 113) (v := ?_) [14, 13, 12, 11] rfl rfl (by kernel_rfl) (by kernel_rfl) (by kernel_rfl) (by kernel_rfl) (by kernel_rfl) (by kernel_rfl) (fun _ _ _ h => h) (by decide) (Or.inl ⟨by rfl, ?_⟩) hHeld ?_
            rotate_left
            · (intro w hSw; (try dsimp only at hSw); go_simp; (try with_reducible rfl))
            simp only [List.set_cons_zero, List.set_cons_succ]
            refine f_takeC (i := 12) (d := 114) (v := ?_) [14, 13, 12] rfl rfl (by kernel_rfl) (by kernel_rfl) (by kernel_rfl) (by kernel_rfl) (by kernel_rfl) (by kernel_rfl) (fun _ _ _ h => h) (by decide) (Or.inl ⟨by rfl, ?_⟩) hHeld ?_
            rotate_left
            · (intro w hSw; (try dsimp only at hSw); go_simp; (try with_reducible rfl))
            simp only [List.set_cons_zero, List.set_cons_succ]
            refine f_all (rs := [3, 13]) (by kernel_rfl) (by simp) ?_
            intro qr hqr
            simp only [List.mem_cons, List.not_mem_nil, or_false] at hqr
            rcases hqr with rfl | rfl
            · refine ⟨_, rfl, fun K hK => ?_⟩
              go_simp
              have hHL := rd_hd1 y0 (⟨S6, l2.length, c6⟩ : Hd)
              replace hC := hC.keep ((Bl.refl _).alloc (.cells #[.slice S6 l2.length c6] 27))
              replace hgc := Bl.cells ((Bl.refl _).alloc (.cells #[.slice S6 l2.length c6] 27)) hgc
              generalize y0.alloc (.cells #[.slice S6 l2.length c6] 27) = y3 at hC hgc hHL ⊢
              generalize y0.heap.size = z3 at hHL ⊢
              refine hK.out _ _ ?_ (fun hHeld => ?_)
              · (try dsimp only); exact ⟨trivial, hC.ou.cell 4 _ rfl, hC.ou.cell 5 _ rfl, hgc⟩
              clear hK K
              (try simp only [Act.put]); (try simp only [List.setIfInBounds_toArray]); (try simp only [List.set_cons_succ]); (try simp only [List.set_cons_zero])
              refine f_all (rs := [4, 13]) (by kernel_rfl) (by simp) ?_
              intro qr hqr
              simp only [List.mem_cons, List.not_mem_nil, or_false] at hqr
              rcases hqr with rfl | rfl
              · refine ⟨_, rfl, fun K hK => ?_⟩
                refine ap_hdv_step (y := (⟨S6, l2.length, c6⟩ : Hd)) rfl rfl rfl (by have := hC.wi; rw [HSL.out] at this; exact this) rfl hHL (by omega) hC.bl.sz ?_; intro WA4 c4 y4 ho4 hg4 hat4; replace hgc := hg4.cell hgc (fun e => hC.at_ 3 rfl (j := 0) rfl (by decide) _ e.symm rfl); replace hC := hC.pushW (y := (⟨S6, l2.length, c6⟩ : Hd)) (by rw [HSL.out]; exact ho4) hg4 hat4; clear ho4 hg4 hat4 hHL
                refine hK.out _ _ ?_ (fun hHeld => ?_)
                · (try dsimp only); exact ⟨trivial, hC.ou.cell 4 _ rfl, hC.ou.cell 5 _ rfl, hgc⟩
                clear hK K
                (try simp only [Act.put]); (try simp only [List.setIfInBounds_toArray]); (try simp only [List.set_cons_succ]); (try simp only [List.set_cons_zero])
                refine f_takeC (i := 15) (d := 117) (v := ?_) [15] rfl rfl (by kernel_rfl) (by kernel_rfl) (by kernel_rfl) (by kernel_rfl) (by kernel_rfl) (by kernel_rfl) (fun _ _ _ h => h) (by decide) (Or.inl ⟨by rfl, ?_⟩) hHeld ?_
                rotate_left
                · (intro w hSw; (try dsimp only at hSw); go_simp; (try with_reducible rfl))
                simp only [List.set_cons_zero, List.set_cons_succ]
                refine f_step (i := 13) (by kernel_rfl) rfl (fun K hK => ?_)
                go_simp
                have hIL := rd_new1 y4 3 ((nG6 : Nat) : Int)
                replace hC := hC.keep ((Bl.refl _).alloc (.cells #[.int .i64 (nG6 : Nat)] 3))
                replace hgc := Bl.cells ((Bl.refl _).alloc (.cells #[.int .i64 (nG6 : Nat)] 3)) hgc
                generalize y4.alloc (.cells #[.int .i64 (nG6 : Nat)] 3) = y13 at hC hgc hIL ⊢
                generalize y4.heap.size = z13 at hIL ⊢
                refine hK.out _ _ ?_ (fun hHeld => ?_)
                · (try dsimp only); exact ⟨trivial, hC.ou.cell 4 _ rfl, hC.ou.cell 5 _ rfl, hgc⟩
                clear hK K
                (try simp only [Act.put]); (try simp only [List.setIfInBounds_toArray]); (try simp only [List.set_cons_succ]); (try simp only [List.set_cons_zero])
                refine f_step (i := 14) (by kernel_rfl) rfl (fun K hK => ?_)
                refine ap_int_step rfl rfl rfl hC.en rfl hIL (by omega) hC.bl.sz ?_; intro EA4 c14 y14 ho14 hg14 hat14; replace hgc := hg14.cell hgc (fun e => hC.at_ 4 rfl (j := 0) rfl (by decide) _ e.symm rfl); replace hC := hC.pushE ho14 hg14 hat14; clear ho14 hg14 hat14 hIL
                refine hK.out _ _ ?_ (fun hHeld => ?_)
                · (try dsimp only); exact ⟨trivial, hC.ou.cell 4 _ rfl, hC.ou.cell 5 _ rfl, hgc⟩
                clear hK K
                (try simp only [Act.put]); (try simp only [List.setIfInBounds_toArray]); (try simp only [List.set_cons_succ]); (try simp only [List.set_cons_zero])
                refine f_last (i := 16) (by kernel_rfl) rfl (by simp) (fun K hK => ?_)
                have hof := hC.ou.frozen
                have hol := hC.ou.lt
                have hoc := hC.ou.cell 4 _ rfl
                go_simp
                replace hC := hC.store 4 (.slice WA4 (k + 1) c4)
                clear hof hol hoc
                refine hK.out _ _ ?_ (fun hHeld => ?_)
                · exact trivial
                clear hK K
                (try simp only [Act.put]); (try simp only [List.setIfInBounds_toArray]); (try simp only [List.set_cons_succ]); (try simp only [List.set_cons_zero])
                refine f_takeS (i := 17) (d := 118) (v := ?_) rfl rfl (by kernel_rfl) (by kernel_rfl) (by kernel_rfl) (by kernel_rfl) (fun _ _ _ h => h) (by decide) (Or.inl ⟨by rfl, ?_⟩) hHeld (fun h => by simp at h) ?_
                rotate_left
                · (intro w hSw; (try dsimp only at hSw); go_simp; (try with_reducible rfl))
                simp only [List.set_cons_zero, List.set_cons_succ]
                refine f_last (i := 18) (by kernel_rfl) rfl (by simp) (fun K hK => ?_)
                have hof := hC.ou.frozen
                have hol := hC.ou.lt
                have hoc := hC.ou.cell 5 _ rfl
                go_simp
                replace hC := hC.store 5 (.slice EA4 (k + 1) c14)
                clear hof hol hoc
                refine hK.out _ _ ?_ (fun hHeld => ?_)
                · exact trivial
                clear hK K
                (try simp only [Act.put]); (try simp only [List.setIfInBounds_toArray]); (try simp only [List.set_cons_succ]); (try simp only [List.set_cons_zero])
                refine f_done (by kernel_rfl) ?_ _
                go_wp2_with fail
                go_roundw
                case rel => exact ⟨k + 1, _, _, c4, c14, _, _, _, WA4, EA4, hs ++ [(⟨S6, l2.length, c6⟩ : Hd)], _, _, by omega, by go_num, by rw [HFIN.out]; exact HRS2.out.push HMEM.out, by rw [HFIN.out]; exact hC⟩
                case measure => simp [intOf]; omega
              · refine ⟨_, rfl, fun K hK => ?_⟩
                go_simp
                have hIL := rd_new1 y3 3 ((nG6 : Nat) : Int)
                have hz13 : ∀ q, WA.map (·.block) = some q → q ≠ y3.heap.size := fun q hq => by have := hC.ltA.2.2.1 q hq; have := hC.tm; omega
                replace hC := hC.keep ((Bl.refl _).alloc (.cells #[.int .i64 (nG6 : Nat)] 3))
                replace hgc := Bl.cells ((Bl.refl _).alloc (.cells #[.int .i64 (nG6 : Nat)] 3)) hgc
                replace hHL := hHL.keep ((Bl.refl _).alloc (.cells #[.int .i64 (nG6 : Nat)] 3))
                generalize y3.alloc (.cells #[.int .i64 (nG6 : Nat)] 3) = y13 at hC hgc hIL hHL ⊢
                generalize y3.heap.size = z13 at hIL hz13 ⊢
                refine hK.out _ _ ?_ (fun hHeld => ?_)
                · (try dsimp only); exact ⟨trivial, hC.ou.cell 4 _ rfl, hC.ou.cell 5 _ rfl, hgc⟩
                clear hK K
                (try simp only [Act.put]); (try simp only [List.setIfInBounds_toArray]); (try simp only [List.set_cons_succ]); (try simp only [List.set_cons_zero])
                refine f_step (i := 4) (by kernel_rfl) rfl (fun K hK => ?_)
                refine ap_hdv_step (y := (⟨S6, l2.length, c6⟩ : Hd)) rfl rfl rfl (by have := hC.wi; rw [HSL.out] at this; exact this) rfl hHL (by omega) hC.bl.sz ?_; intro WA4 c4 y4 ho4 hg4 hat4; replace hgc := hg4.cell hgc (fun e => hC.at_ 3 rfl (j := 0) rfl (by decide) _ e.symm rfl); replace hIL := hIL.grownF_ hg4 (fun e => hz13 _ e rfl); replace hC := hC.pushW (y := (⟨S6, l2.length, c6⟩ : Hd)) (by rw [HSL.out]; exact ho4) hg4 hat4; clear ho4 hg4 hat4 hHL
                refine hK.out _ _ ?_ (fun hHeld => ?_)
                · (try dsimp only); exact ⟨trivial, hC.ou.cell 4 _ rfl, hC.ou.cell 5 _ rfl, hgc⟩
                clear hK K
                (try simp only [Act.put]); (try simp only [List.setIfInBounds_toArray]); (try simp only [List.set_cons_succ]); (try simp only [List.set_cons_zero])
                refine f_takeC (i := 15) (d := 117) (v := ?_) [15] rfl rfl (by kernel_rfl) (by kernel_rfl) (by kernel_rfl) (by kernel_rfl) (by kernel_rfl) (by kernel_rfl) (fun _ _ _ h => h) (by decide) (Or.inl ⟨by rfl, ?_⟩) hHeld ?_
                rotate_left
                · (intro w hSw; (try dsimp only at hSw); go_simp; (try with_reducible rfl))
                simp only [List.set_cons_zero, List.set_cons_succ]
                refine f_step (i := 14) (by kernel_rfl) rfl (fun K hK => ?_)
                refine ap_int_step rfl rfl rfl hC.en rfl hIL (by omega) hC.bl.sz ?_; intro EA4 c14 y14 ho14 hg14 hat14; replace hgc := hg14.cell hgc (fun e => hC.at_ 4 rfl (j := 0) rfl (by decide) _ e.symm rfl); replace hC := hC.pushE ho14 hg14 hat14; clear ho14 hg14 hat14 hIL
                refine hK.out _ _ ?_ (fun hHeld => ?_)
                · (try dsimp only); exact ⟨trivial, hC.ou.cell 4 _ rfl, hC.ou.cell 5 _ rfl, hgc⟩
                clear hK K
                (try simp only [Act.put]); (try simp only [List.setIfInBounds_toArray]); (try simp only [List.set_cons_succ]); (try simp only [List.set_cons_zero])
                refine f_last (i := 16) (by kernel_rfl) rfl (by simp) (fun K hK => ?_)
                have hof := hC.ou.frozen
                have hol := hC.ou.lt
                have hoc := hC.ou.cell 4 _ rfl
                go_simp
                replace hC := hC.store 4 (.slice WA4 (k + 1) c4)
                clear hof hol hoc
                refine hK.out _ _ ?_ (fun hHeld => ?_)
                · exact trivial
                clear hK K
                (try simp only [Act.put]); (try simp only [List.setIfInBounds_toArray]); (try simp only [List.set_cons_succ]); (try simp only [List.set_cons_zero])
                refine f_takeS (i := 17) (d := 118) (v := ?_) rfl rfl (by kernel_rfl) (by kernel_rfl) (by kernel_rfl) (by kernel_rfl) (fun _ _ _ h => h) (by decide) (Or.inl ⟨by rfl, ?_⟩) hHeld (fun h => by simp at h) ?_
                rotate_left
                · (intro w hSw; (try dsimp only at hSw); go_simp; (try with_reducible rfl))
                simp only [List.set_cons_zero, List.set_cons_succ]
                refine f_last (i := 18) (by kernel_rfl) rfl (by simp) (fun K hK => ?_)
                have hof := hC.ou.frozen
                have hol := hC.ou.lt
                have hoc := hC.ou.cell 5 _ rfl
                go_simp
                replace hC := hC.store 5 (.slice EA4 (k + 1) c14)
                clear hof hol hoc
                refine hK.out _ _ ?_ (fun hHeld => ?_)
                · exact trivial
                clear hK K
                (try simp only [Act.put]); (try simp only [List.setIfInBounds_toArray]); (try simp only [List.set_cons_succ]); (try simp only [List.set_cons_zero])
                refine f_done (by kernel_rfl) ?_ _
                go_wp2_with fail
                go_roundw
                case rel => exact ⟨k + 1, _, _, c4, c14, _, _, _, WA4, EA4, hs ++ [(⟨S6, l2.length, c6⟩ : Hd)], _, _, by omega, by go_num, by rw [HFIN.out]; exact HRS2.out.push HMEM.out, by rw [HFIN.out]; exact hC⟩
                case measure => simp [intOf]; omega
            · refine ⟨_, rfl, fun K hK => ?_⟩
              go_simp
              have hIL := rd_new1 y0 3 ((nG6 : Nat) : Int)
              have hz13 : ∀ q, WA.map (·.block) = some q → q ≠ y0.heap.size := fun q hq => by have := hC.ltA.2.2.1 q hq; have := hC.tm; omega
              replace hC := hC.keep ((Bl.refl _).alloc (.cells #[.int .i64 (nG6 : Nat)] 3))
              replace hgc := Bl.cells ((Bl.refl _).alloc (.cells #[.int .i64 (nG6 : Nat)] 3)) hgc
              generalize y0.alloc (.cells #[.int .i64 (nG6 : Nat)] 3) = y13 at hC hgc hIL ⊢
              generalize y0.heap.size = z13 at hIL hz13 ⊢
              refine hK.out _ _ ?_ (fun hHeld => ?_)
              · (try dsimp only); exact ⟨trivial, hC.ou.cell 4 _ rfl, hC.ou.cell 5 _ rfl, hgc⟩
              clear hK K
              (try simp only [Act.put]); (try simp only [List.setIfInBounds_toArray]); (try simp only [List.set_cons_succ]); (try simp only [List.set_cons_zero])
              refine f_step (i := 3) (by kernel_rfl) rfl (fun K hK => ?_)
              go_simp
              have hHL := rd_hd1 y13 (⟨S6, l2.length, c6⟩ : Hd)
              replace hC := hC.keep ((Bl.refl _).alloc (.cells #[.slice S6 l2.length c6] 27))
              replace hgc := Bl.cells ((Bl.refl _).alloc (.cells #[.slice S6 l2.length c6] 27)) hgc
              replace hIL := hIL.keep ((Bl.refl _).alloc (.cells #[.slice S6 l2.length c6] 27))
              generalize y13.alloc (.cells #[.slice S6 l2.length c6] 27) = y3 at hC hgc hHL hIL ⊢
              generalize y13.heap.size = z3 at hHL ⊢
              refine hK.out _ _ ?_ (fun hHeld => ?_)
              · (try dsimp only); exact ⟨trivial, hC.ou.cell 4 _ rfl, hC.ou.cell 5 _ rfl, hgc⟩
              clear hK K
              (try simp only [Act.put]); (try simp only [List.setIfInBounds_toArray]); (try simp only [List.set_cons_succ]); (try simp only [List.set_cons_zero])
              refine f_step (i := 4) (by kernel_rfl) rfl (fun K hK => ?_)
              refine ap_hdv_step (y := (⟨S6, l2.length, c6⟩ : Hd)) rfl rfl rfl (by have := hC.wi; rw [HSL.out] at this; exact this) rfl hHL (by omega) hC.bl.sz ?_; intro WA4 c4 y4 ho4 hg4 hat4; replace hgc := hg4.cell hgc (fun e => hC.at_ 3 rfl (j := 0) rfl (by decide) _ e.symm rfl); replace hIL := hIL.grownF_ hg4 (fun e => hz13 _ e rfl); replace hC := hC.pushW (y := (⟨S6, l2.length, c6⟩ : Hd)) (by rw [HSL.out]; exact ho4) hg4 hat4; clear ho4 hg4 hat4 hHL
              refine hK.out _ _ ?_ (fun hHeld => ?_)
              · (try dsimp only); exact ⟨trivial, hC.ou.cell 4 _ rfl, hC.ou.cell 5 _ rfl, hgc⟩
              clear hK K
              (try simp only [Act.put]); (try simp only [List.setIfInBounds_toArray]); (try simp only [List.set_cons_succ]); (try simp only [List.set_cons_zero])
              refine f_takeC (i := 15) (d := 117) (v := ?_) [15] rfl rfl (by kernel_rfl) (by kernel_rfl) (by kernel_rfl) (by kernel_rfl) (by kernel_rfl) (by kernel_rfl) (fun _ _ _ h => h) (by decide) (Or.inl ⟨by rfl, ?_⟩) hHeld ?_
              rotate_left
              · (intro w hSw; (try dsimp only at hSw); go_simp; (try with_reducible rfl))
              simp only [List.set_cons_zero, List.set_cons_succ]
              refine f_step (i := 14) (by kernel_rfl) rfl (fun K hK => ?_)
              refine ap_int_step rfl rfl rfl hC.en rfl hIL (by omega) hC.bl.sz ?_; intro EA4 c14 y14 ho14 hg14 hat14; replace hgc := hg14.cell hgc (fun e => hC.at_ 4 rfl (j := 0) rfl (by decide) _ e.symm rfl); replace hC := hC.pushE ho14 hg14 hat14; clear ho14 hg14 hat14 hIL
              refine hK.out _ _ ?_ (fun hHeld => ?_)
              · (try dsimp only); exact ⟨trivial, hC.ou.cell 4 _ rfl, hC.ou.cell 5 _ rfl, hgc⟩
              clear hK K
              (try simp only [Act.put]); (try simp only [List.setIfInBounds_toArray]); (try simp only [List.set_cons_succ]); (try simp only [List.set_cons_zero])
              refine f_last (i := 16) (by kernel_rfl) rfl (by simp) (fun K hK => ?_)
              have hof := hC.ou.frozen
              have hol := hC.ou.lt
              have hoc := hC.ou.cell 4 _ rfl
              go_simp
              replace hC := hC.store 4 (.slice WA4 (k + 1) c4)
              clear hof hol hoc
              refine hK.out _ _ ?_ (fun hHeld => ?_)
              · exact trivial
              clear hK K
              (try simp only [Act.put]); (try simp only [List.setIfInBounds_toArray]); (try simp only [List.set_cons_succ]); (try simp only [List.set_cons_zero])
              refine f_takeS (i := 17) (d := 118) (v := ?_) rfl rfl (by kernel_rfl) (by kernel_rfl) (by kernel_rfl) (by kernel_rfl) (fun _ _ _ h => h) (by decide) (Or.inl ⟨by rfl, ?_⟩) hHeld (fun h => by simp at h) ?_
              rotate_left
              · (intro w hSw; (try dsimp only at hSw); go_simp; (try with_reducible rfl))
              simp only [List.set_cons_zero, List.set_cons_succ]
              refine f_last (i := 18) (by kernel_rfl) rfl (by simp) (fun K hK => ?_)
              have hof := hC.ou.frozen
              have hol := hC.ou.lt
              have hoc := hC.ou.cell 5 _ rfl
              go_simp
              replace hC := hC.store 5 (.slice EA4 (k + 1) c14)
              clear hof hol hoc
              refine hK.out _ _ ?_ (fun hHeld => ?_)
              · exact trivial
              clear hK K
              (try simp only [Act.put]); (try simp only [List.setIfInBounds_toArray]); (try simp only [List.set_cons_succ]); (try simp only [List.set_cons_zero])
              refine f_done (by kernel_rfl) ?_ _
              go_wp2_with fail
              go_roundw
              case rel => exact ⟨k + 1, _, _, c4, c14, _, _, _, WA4, EA4, hs ++ [(⟨S6, l2.length, c6⟩ : Hd)], _, _, by omega, by go_num, by rw [HFIN.out]; exact HRS2.out.push HMEM.out, by rw [HFIN.out]; exact hC⟩
              case measure => simp [intOf]; omega
          · as_aux_lemma =>
            rw [hk1] at hX_0
            obtain ⟨p, hps2, hwp1, hwp2⟩ := HWK.out.k6 hk1
            obtain ⟨N, hN⟩ : ∃ N : Nat, wsA pre (ws.take k) p = (N : Nat) := ⟨(wsA pre (ws.take k) p).toNat, by omega⟩
            obtain ⟨_, r1, _, _, _, hW1, hr1⟩ := HLW.out p (HWK.out.f p (by rw [hps2]; simp))
            have hPe : P = [r1] := by rw [← HP.out, hps2]; show [W.getD (fndL pre p).toNat []] = _; rw [hW1]
            subst hPe
            obtain rfl : j = 1 := by have := HPL.out; rw [hps2] at this; exact this.symm
            obtain ⟨y1, rfl, m1⟩ := hPR.one
            have hC2 := hC1.keep ((Bl.refl wq).alloc (.cells #[] 3))
            have hX2 := hX.alloc (.cells #[] 3)
            have hPd := hPP.rd.keep ((Bl.refl wq).alloc (.cells #[] 3))
            have hPq : ∀ t, PA.map (·.block) = some t → t ≠ Q.x ∧ A1.map (·.block) ≠ some t := fun t ht => ⟨by have := (hPP.blk t ht).1; have := HCX.out; omega, fun e => by have := (hPP.blk t ht).1; have := hC.ltA.1 t e; have := HBX.out; omega⟩
            have hAX : A1.map (·.block) ≠ some bX := fun e => by have := hC.ltA.1 _ e; have := HBX.out; omega
            have hng : nG ≤ 300 := by have := HNG.out; omega
            have hL1 := hC2.lx m1
            have hle1 := hL1.rd.length
            have hme := hC2.me
            rw [HT.out] at hme
            have hcall := impl_line_6 hme x.nm x.op C 1 cc x.pt x.wd x.vl x (show x = ⟨6, x.nm, x.op, x.ps, x.pt, x.wd, x.vl⟩ by rw [← hk1]) PA 1 c3 hPq y1 r1 hL1 hPd N (by omega) (by omega) hng
            rw [show Mx.t ⟨Q.x, Q.base, Q.a, Q.b, B1, ol.length, d, ol⟩ = a + b by unfold Mx.t; rw [HAB.out.1, HAB.out.2]] at hcall
            obtain ⟨⟨g2, l2⟩, hgr⟩ : ∃ p, lineS mulI (a + b) x [r1] g = p := ⟨_, rfl⟩
            have HFIN := Lib.hid (show cp (k + 1) = ⟨g2, ol ++ l2, W ++ [l2], n0, n1⟩ by rw [HNX.out]; unfold cpN; rw [if_neg (by rw [hk1]; decide)]; dsimp only; rw [HP.out, hgr, if_pos hk1])
            rw [hgr] at hcall
            dsimp only at hcall
            have HCALL := Lib.hid hcall
            clear hcall hgr hme hN hPd hPq hPP hPR hC1 hC hX
            go_wp2_with fail
            refine HCALL.out.mono ?_
            intro e w6 hres
            obtain ⟨A6, nG6, S6, m6, c6, rfl, hm6, hf6, hr6, hq6⟩ := hres
            rw [← HT.out] at hm6
            have hC := hC2.made hm6 hf6 hr6 hq6
            have hX := hX2.fm hf6 (show bX ≠ Q.x by have := HCX.out; omega) hAX
            clear hC2 hX2 hm6 hf6 hq6 hX_l hX_0 hX_1 hX_2 hX_3 hX_4 hX_5 hX_6
            have hX_l := hX.lt
            have hX_0 := hX.cell 0 _ rfl
            rw [hk1] at hX_0
            obtain rfl : l2.length = m6 := hr6.length
            have HMEM := Lib.hid (show ((⟨S6, l2.length, c6⟩ : Hd), l2) ∈ rs ++ [((⟨S6, l2.length, c6⟩ : Hd), l2)] by simp)
            have HRS2 := Lib.hid (HRS.out.mono (rs' := rs ++ [((⟨S6, l2.length, c6⟩ : Hd), l2)]) (fun p hp => List.mem_append.2 (.inl hp)))
            have hr2 : ol.length + l2.length ≤ 100 := by have := (HOC.out (k + 1) (by omega)).o; rw [HCP.out (k + 1), HFIN.out] at this; simpa using this
            obtain ⟨cG0, hMk0, _⟩ := hC.mkr
            have hos : OwnI Q.base w6 B1 ol.length d ol := hC.me.os
            have htop : Q.base ≤ w6.heap.size := hC.me.top
            have hM_l := hMk0.lt
            have hM_3 := hMk0.cell 3 _ rfl
            have hxB := hC.at_ 2 rfl (j := 0) rfl (by decide)
            go_wp2_with (at_builtin; refine ap_int rfl rfl rfl hos rfl hr6 (by omega) htop ?_; intro B9 d9 w9 ho9 hg9 hat9; rw [← List.length_append] at ho9; have hMk9 := hMk0.grown hg9 (fun e => hxB _ e.symm rfl); clear hM_l hM_3 hX_l hX_0; have hM_l := hMk9.lt; have hM_f := hMk9.frozen; have hM_3 := hMk9.cell 3 _ rfl)
            replace hC := hC.outs ho9 hg9 hat9
            clear hM_l hM_f hM_3 hMk9 hMk0 hos htop hxB hr6
            generalize hW9 : w9.setCell ⟨Q.x, 3, none⟩ (.slice B9 (ol.length + l2.length) d9) = w8
            rw [show (Value.slice B9 (ol ++ l2).length d9) = .slice B9 (ol.length + l2.length) d9 by rw [List.length_append], hW9] at hC
            clear hW9
            generalize hWZ : w9.heap.size = tz at hC
            clear hWZ
            obtain ⟨cG, hMk, _⟩ := hC.mkr
            have hgc := hMk.cell 2 _ rfl
            have hMk_l := hMk.lt
            clear hMk
            have hkn1 : k + 1 ≤ 3000000 := by omega
            refine region_F (fun _ => True) (fun w' => w'.cell? ⟨Q.bO, 4, none⟩ = some (.slice WA k wc) ∧ w'.cell? ⟨Q.bO, 5, none⟩ = some (.slice EA k ec) ∧ w'.cell? ⟨Q.x, 2, none⟩ = some (.slice A6 nG6 cG)) 16 (by kernel_rfl) ?_ (fun hHeld => ?_)
            · (try dsimp only); exact ⟨trivial, hC.ou.cell 4 _ rfl, hC.ou.cell 5 _ rfl, hgc⟩
            replace hC := hC.keep ((Bl.refl _).drew)
            replace hgc := Bl.cells ((Bl.refl _).drew) hgc
            generalize w8.drew = y0 at hC hgc hHeld ⊢
            refine f_takeC (i := 0) (d := 102) (v := ?_) [0] rfl rfl (by kernel_rfl) (by kernel_rfl) (by kernel_rfl) (by kernel_rfl) (by kernel_rfl) (by kernel_rfl) (fun _ _ _ h => h) (by decide) (Or.inl ⟨by rfl, ?_⟩) hHeld ?_
            rotate_left
            · (intro w hSw; (try dsimp only at hSw); go_simp; (try with_reducible rfl))
            simp only [List.set_cons_zero, List.set_cons_succ]
            refine f_takeC (i := 1) (d := 103) (v := ?_) [1] rfl rfl (by kernel_rfl) (by kernel_rfl) (by kernel_rfl) (by kernel_rfl) (by kernel_rfl) (by kernel_rfl) (fun _ _ _ h => h) (by decide) (Or.inl ⟨by rfl, ?_⟩) hHeld ?_
            rotate_left
            · (intro w hSw; (try dsimp only at hSw); go_simp; (try with_reducible rfl))
            simp only [List.set_cons_zero, List.set_cons_succ]
            refine f_takeC (i := 2) (d := 104) (v := ?_) [2] rfl rfl (by kernel_rfl) (by kernel_rfl) (by kernel_rfl) (by kernel_rfl) (by kernel_rfl) (by kernel_rfl) (fun _ _ _ h => h) (by decide) (Or.inl ⟨by rfl, ?_⟩) hHeld ?_
            rotate_left
            · (intro w hSw; (try dsimp only at hSw); go_simp; (try with_reducible rfl))
            simp only [List.set_cons_zero, List.set_cons_succ]
            refine f_takeC (i := 5) (d := 107) (v := ?_) [5] rfl rfl (by kernel_rfl) (by kernel_rfl) (by kernel_rfl) (by kernel_rfl) (by kernel_rfl) (by kernel_rfl) (fun _ _ _ h => h) (by decide) (Or.inl ⟨by rfl, ?_⟩) hHeld ?_
            rotate_left
            · (intro w hSw; (try dsimp only at hSw); go_simp; (try with_reducible rfl))
            simp only [List.set_cons_zero, List.set_cons_succ]
            refine f_takeC (i := 6) (d := 108) (v := ?_) [6] rfl rfl (by kernel_rfl) (by kernel_rfl) (by kernel_rfl) (by kernel_rfl) (by kernel_rfl) (by kernel_rfl) (fun _ _ _ h => h) (by decide) (Or.inl ⟨by rfl, ?_⟩) hHeld ?_
            rotate_left
            · (intro w hSw; (try dsimp only at hSw); go_simp; (try with_reducible rfl))
            simp only [List.set_cons_zero, List.set_cons_succ]
            refine f_takeC (i := 7) (d := 109) (v := ?_) [14, 13, 12, 11, 10, 9, 8, 7] rfl rfl (by kernel_rfl) (by kernel_rfl) (by kernel_rfl) (by kernel_rfl) (by kernel_rfl) (by kernel_rfl) (fun _ _ _ h => h) (by decide) (Or.inl ⟨by rfl, ?_⟩) hHeld ?_
            rotate_left
            · (intro w hSw; (try dsimp only at hSw); go_simp; (try with_reducible rfl))
            simp only [List.set_cons_zero, List.set_cons_succ]
            refine f_takeC (i := 8) (d := 110) (v := ?_) [14, 13, 12, 11, 10, 9, 8] rfl rfl (by kernel_rfl) (by kernel_rfl) (by kernel_rfl) (by kernel_rfl) (by kernel_rfl) (by kernel_rfl) (fun _ _ _ h => h) (by decide) (Or.inl ⟨by rfl, ?_⟩) hHeld ?_
            rotate_left
            · (intro w hSw; (try dsimp only at hSw); go_simp; (try with_reducible rfl))
            simp only [List.set_cons_zero, List.set_cons_succ]
            refine f_takeC (i := 9) (d := 111) (v := ?_) [14, 13, 12, 11, 10, 9] rfl rfl (by kernel_rfl) (by kernel_rfl) (by kernel_rfl) (by kernel_rfl) (by kernel_rfl) (by kernel_rfl) (fun _ _ _ h => h) (by decide) (Or.inl ⟨by rfl, ?_⟩) hHeld ?_
            rotate_left
            · (intro w hSw; (try dsimp only at hSw); go_simp; (try with_reducible rfl))
            simp only [List.set_cons_zero, List.set_cons_succ]
            refine f_takeC (i := 10) (d := 112) (v := ?_) [14, 13, 12, 11, 10] rfl rfl (by kernel_rfl) (by kernel_rfl) (by kernel_rfl) (by kernel_rfl) (by kernel_rfl) (by kernel_rfl) (fun _ _ _ h => h) (by decide) (Or.inl ⟨by rfl, ?_⟩) hHeld ?_
            rotate_left
            · (intro w hSw; (try dsimp only at hSw); go_simp; (try with_reducible rfl))
            simp only [List.set_cons_zero, List.set_cons_succ]
            refine f_takeC (i := 11) (d := 113) (v := ?_) [14, 13, 12, 11] rfl rfl (by kernel_rfl) (by kernel_rfl) (by kernel_rfl) (by kernel_rfl) (by kernel_rfl) (by kernel_rfl) (fun _ _ _ h => h) (by decide) (Or.inl ⟨by rfl, ?_⟩) hHeld ?_
            rotate_left
            · (intro w hSw; (try dsimp only at hSw); go_simp; (try with_reducible rfl))
            simp only [List.set_cons_zero, List.set_cons_succ]
            refine f_takeC (i := 12) (d := 114) (v := ?_) [14, 13, 12] rfl rfl (by kernel_rfl) (by kernel_rfl) (by kernel_rfl) (by kernel_rfl) (by kernel_rfl) (by kernel_rfl) (fun _ _ _ h => h) (by decide) (Or.inl ⟨by rfl, ?_⟩) hHeld ?_
            rotate_left
            · (intro w hSw; (try dsimp only at hSw); go_simp; (try with_reducible rfl))
            simp only [List.set_cons_zero, List.set_cons_succ]
            refine f_all (rs := [3, 13]) (by kernel_rfl) (by simp) ?_
            intro qr hqr
            simp only [List.mem_cons, List.not_mem_nil, or_false] at hqr
            rcases hqr with rfl | rfl
            · refine ⟨_, rfl, fun K hK => ?_⟩
              go_simp
              have hHL := rd_hd1 y0 (⟨S6, l2.length, c6⟩ : Hd)
              replace hC := hC.keep ((Bl.refl _).alloc (.cells #[.slice S6 l2.length c6] 27))
              replace hgc := Bl.cells ((Bl.refl _).alloc (.cells #[.slice S6 l2.length c6] 27)) hgc
              generalize y0.alloc (.cells #[.slice S6 l2.length c6] 27) = y3 at hC hgc hHL ⊢
              generalize y0.heap.size = z3 at hHL ⊢
              refine hK.out _ _ ?_ (fun hHeld => ?_)
              · (try dsimp only); exact ⟨trivial, hC.ou.cell 4 _ rfl, hC.ou.cell 5 _ rfl, hgc⟩
              clear hK K
              (try simp only [Act.put]); (try simp only [List.setIfInBounds_toArray]); (try simp only [List.set_cons_succ]); (try simp only [List.set_cons_zero])
              refine f_all (rs := [4, 13]) (by kernel_rfl) (by simp) ?_
              intro qr hqr
              simp only [List.mem_cons, List.not_mem_nil, or_false] at hqr
              rcases hqr with rfl | rfl
              · refine ⟨_, rfl, fun K hK => ?_⟩
                refine ap_hdv_step (y := (⟨S6, l2.length, c6⟩ : Hd)) rfl rfl rfl (by have := hC.wi; rw [HSL.out] at this; exact this) rfl hHL (by omega) hC.bl.sz ?_; intro WA4 c4 y4 ho4 hg4 hat4; replace hgc := hg4.cell hgc (fun e => hC.at_ 3 rfl (j := 0) rfl (by decide) _ e.symm rfl); replace hC := hC.pushW (y := (⟨S6, l2.length, c6⟩ : Hd)) (by rw [HSL.out]; exact ho4) hg4 hat4; clear ho4 hg4 hat4 hHL
                refine hK.out _ _ ?_ (fun hHeld => ?_)
                · (try dsimp only); exact ⟨trivial, hC.ou.cell 4 _ rfl, hC.ou.cell 5 _ rfl, hgc⟩
                clear hK K
                (try simp only [Act.put]); (try simp only [List.setIfInBounds_toArray]); (try simp only [List.set_cons_succ]); (try simp only [List.set_cons_zero])
                refine f_takeC (i := 15) (d := 117) (v := ?_) [15] rfl rfl (by kernel_rfl) (by kernel_rfl) (by kernel_rfl) (by kernel_rfl) (by kernel_rfl) (by kernel_rfl) (fun _ _ _ h => h) (by decide) (Or.inl ⟨by rfl, ?_⟩) hHeld ?_
                rotate_left
                · (intro w hSw; (try dsimp only at hSw); go_simp; (try with_reducible rfl))
                simp only [List.set_cons_zero, List.set_cons_succ]
                refine f_step (i := 13) (by kernel_rfl) rfl (fun K hK => ?_)
                go_simp
                have hIL := rd_new1 y4 3 ((nG6 : Nat) : Int)
                replace hC := hC.keep ((Bl.refl _).alloc (.cells #[.int .i64 (nG6 : Nat)] 3))
                replace hgc := Bl.cells ((Bl.refl _).alloc (.cells #[.int .i64 (nG6 : Nat)] 3)) hgc
                generalize y4.alloc (.cells #[.int .i64 (nG6 : Nat)] 3) = y13 at hC hgc hIL ⊢
                generalize y4.heap.size = z13 at hIL ⊢
                refine hK.out _ _ ?_ (fun hHeld => ?_)
                · (try dsimp only); exact ⟨trivial, hC.ou.cell 4 _ rfl, hC.ou.cell 5 _ rfl, hgc⟩
                clear hK K
                (try simp only [Act.put]); (try simp only [List.setIfInBounds_toArray]); (try simp only [List.set_cons_succ]); (try simp only [List.set_cons_zero])
                refine f_step (i := 14) (by kernel_rfl) rfl (fun K hK => ?_)
                refine ap_int_step rfl rfl rfl hC.en rfl hIL (by omega) hC.bl.sz ?_; intro EA4 c14 y14 ho14 hg14 hat14; replace hgc := hg14.cell hgc (fun e => hC.at_ 4 rfl (j := 0) rfl (by decide) _ e.symm rfl); replace hC := hC.pushE ho14 hg14 hat14; clear ho14 hg14 hat14 hIL
                refine hK.out _ _ ?_ (fun hHeld => ?_)
                · (try dsimp only); exact ⟨trivial, hC.ou.cell 4 _ rfl, hC.ou.cell 5 _ rfl, hgc⟩
                clear hK K
                (try simp only [Act.put]); (try simp only [List.setIfInBounds_toArray]); (try simp only [List.set_cons_succ]); (try simp only [List.set_cons_zero])
                refine f_last (i := 16) (by kernel_rfl) rfl (by simp) (fun K hK => ?_)
                have hof := hC.ou.frozen
                have hol := hC.ou.lt
                have hoc := hC.ou.cell 4 _ rfl
                go_simp
                replace hC := hC.store 4 (.slice WA4 (k + 1) c4)
                clear hof hol hoc
                refine hK.out _ _ ?_ (fun hHeld => ?_)
                · exact trivial
                clear hK K
                (try simp only [Act.put]); (try simp only [List.setIfInBounds_toArray]); (try simp only [List.set_cons_succ]); (try simp only [List.set_cons_zero])
                refine f_takeS (i := 17) (d := 118) (v := ?_) rfl rfl (by kernel_rfl) (by kernel_rfl) (by kernel_rfl) (by kernel_rfl) (fun _ _ _ h => h) (by decide) (Or.inl ⟨by rfl, ?_⟩) hHeld (fun h => by simp at h) ?_
                rotate_left
                · (intro w hSw; (try dsimp only at hSw); go_simp; (try with_reducible rfl))
                simp only [List.set_cons_zero, List.set_cons_succ]
                refine f_last (i := 18) (by kernel_rfl) rfl (by simp) (fun K hK => ?_)
                have hof := hC.ou.frozen
                have hol := hC.ou.lt
                have hoc := hC.ou.cell 5 _ rfl
                go_simp
                replace hC := hC.store 5 (.slice EA4 (k + 1) c14)
                clear hof hol hoc
                refine hK.out _ _ ?_ (fun hHeld => ?_)
                · exact trivial
                clear hK K
                (try simp only [Act.put]); (try simp only [List.setIfInBounds_toArray]); (try simp only [List.set_cons_succ]); (try simp only [List.set_cons_zero])
                refine f_done (by kernel_rfl) ?_ _
                go_wp2_with fail
                go_roundw
                case rel => exact ⟨k + 1, _, _, c4, c14, _, _, _, WA4, EA4, hs ++ [(⟨S6, l2.length, c6⟩ : Hd)], _, _, by omega, by go_num, by rw [HFIN.out]; exact HRS2.out.push HMEM.out, by rw [HFIN.out]; exact hC⟩
                case measure => simp [intOf]; omega
              · refine ⟨_, rfl, fun K hK => ?_⟩
                go_simp
                have hIL := rd_new1 y3 3 ((nG6 : Nat) : Int)
                have hz13 : ∀ q, WA.map (·.block) = some q → q ≠ y3.heap.size := fun q hq => by have := hC.ltA.2.2.1 q hq; have := hC.tm; omega
                replace hC := hC.keep ((Bl.refl _).alloc (.cells #[.int .i64 (nG6 : Nat)] 3))
                replace hgc := Bl.cells ((Bl.refl _).alloc (.cells #[.int .i64 (nG6 : Nat)] 3)) hgc
                replace hHL := hHL.keep ((Bl.refl _).alloc (.cells #[.int .i64 (nG6 : Nat)] 3))
                generalize y3.alloc (.cells #[.int .i64 (nG6 : Nat)] 3) = y13 at hC hgc hIL hHL ⊢
                generalize y3.heap.size = z13 at hIL hz13 ⊢
                refine hK.out _ _ ?_ (fun hHeld => ?_)
                · (try dsimp only); exact ⟨trivial, hC.ou.cell 4 _ rfl, hC.ou.cell 5 _ rfl, hgc⟩
                clear hK K
                (try simp only [Act.put]); (try simp only [List.setIfInBounds_toArray]); (try simp only [List.set_cons_succ]); (try simp only [List.set_cons_zero])
                refine f_step (i := 4) (by kernel_rfl) rfl (fun K hK => ?_)
                refine ap_hdv_step (y := (⟨S6, l2.length, c6⟩ : Hd)) rfl rfl rfl (by have := hC.wi; rw [HSL.out] at this; exact this) rfl hHL (by omega) hC.bl.sz ?_; intro WA4 c4 y4 ho4 hg4 hat4; replace hgc := hg4.cell hgc (fun e => hC.at_ 3 rfl (j := 0) rfl (by decide) _ e.symm rfl); replace hIL := hIL.grownF_ hg4 (fun e => hz13 _ e rfl); replace hC := hC.pushW (y := (⟨S6, l2.length, c6⟩ : Hd)) (by rw [HSL.out]; exact ho4) hg4 hat4; clear ho4 hg4 hat4 hHL
                refine hK.out _ _ ?_ (fun hHeld => ?_)
                · (try dsimp only); exact ⟨trivial, hC.ou.cell 4 _ rfl, hC.ou.cell 5 _ rfl, hgc⟩
                clear hK K
                (try simp only [Act.put]); (try simp only [List.setIfInBounds_toArray]); (try simp only [List.set_cons_succ]); (try simp only [List.set_cons_zero])
                refine f_takeC (i := 15) (d := 117) (v := ?_) [15] rfl rfl (by kernel_rfl) (by kernel_rfl) (by kernel_rfl) (by kernel_rfl) (by kernel_rfl) (by kernel_rfl) (fun _ _ _ h => h) (by decide) (Or.inl ⟨by rfl, ?_⟩) hHeld ?_
                rotate_left
                · (intro w hSw; (try dsimp only at hSw); go_simp; (try with_reducible rfl))
                simp only [List.set_cons_zero, List.set_cons_succ]
                refine f_step (i := 14) (by kernel_rfl) rfl (fun K hK => ?_)
                refine ap_int_step rfl rfl rfl hC.en rfl hIL (by omega) hC.bl.sz ?_; intro EA4 c14 y14 ho14 hg14 hat14; replace hgc := hg14.cell hgc (fun e => hC.at_ 4 rfl (j := 0) rfl (by decide) _ e.symm rfl); replace hC := hC.pushE ho14 hg14 hat14; clear ho14 hg14 hat14 hIL
                refine hK.out _ _ ?_ (fun hHeld => ?_)
                · (try dsimp only); exact ⟨trivial, hC.ou.cell 4 _ rfl, hC.ou.cell 5 _ rfl, hgc⟩
                clear hK K
                (try simp only [Act.put]); (try simp only [List.setIfInBounds_toArray]); (try simp only [List.set_cons_succ]); (try simp only [List.set_cons_zero])
                refine f_last (i := 16) (by kernel_rfl) rfl (by simp) (fun K hK => ?_)
                have hof := hC.ou.frozen
                have hol := hC.ou.lt
                have hoc := hC.ou.cell 4 _ rfl
                go_simp
                replace hC := hC.store 4 (.slice WA4 (k + 1) c4)
                clear hof hol hoc
                refine hK.out _ _ ?_ (fun hHeld => ?_)
                · exact trivial
                clear hK K
                (try simp only [Act.put]); (try simp only [List.setIfInBounds_toArray]); (try simp only [List.set_cons_succ]); (try simp only [List.set_cons_zero])
                refine f_takeS (i := 17) (d := 118) (v := ?_) rfl rfl (by kernel_rfl) (by kernel_rfl) (by kernel_rfl) (by kernel_rfl) (fun _ _ _ h => h) (by decide) (Or.inl ⟨by rfl, ?_⟩) hHeld (fun h => by simp at h) ?_
                rotate_left
                · (intro w hSw; (try dsimp only at hSw); go_simp; (try with_reducible rfl))
                simp only [List.set_cons_zero, List.set_cons_succ]
                refine f_last (i := 18) (by kernel_rfl) rfl (by simp) (fun K hK => ?_)
                have hof := hC.ou.frozen
                have hol := hC.ou.lt
                have hoc := hC.ou.cell 5 _ rfl
                go_simp
                replace hC := hC.store 5 (.slice EA4 (k + 1) c14)
                clear hof hol hoc
                refine hK.out _ _ ?_ (fun hHeld => ?_)
                · exact trivial
                clear hK K
                (try simp only [Act.put]); (try simp only [List.setIfInBounds_toArray]); (try simp only [List.set_cons_succ]); (try simp only [List.set_cons_zero])
                refine f_done (by kernel_rfl) ?_ _
                go_wp2_with fail
                go_roundw
                case rel => exact ⟨k + 1, _, _, c4, c14, _, _, _, WA4, EA4, hs ++ [(⟨S6, l2.length, c6⟩ : Hd)], _, _, by omega, by go_num, by rw [HFIN.out]; exact HRS2.out.push HMEM.out, by rw [HFIN.out]; exact hC⟩
                case measure => simp [intOf]; omega
            · refine ⟨_, rfl, fun K hK => ?_⟩
              go_simp
              have hIL := rd_new1 y0 3 ((nG6 : Nat) : Int)
              have hz13 : ∀ q, WA.map (·.block) = some q → q ≠ y0.heap.size := fun q hq => by have := hC.ltA.2.2.1 q hq; have := hC.tm; omega
              replace hC := hC.keep ((Bl.refl _).alloc (.cells #[.int .i64 (nG6 : Nat)] 3))
              replace hgc := Bl.cells ((Bl.refl _).alloc (.cells #[.int .i64 (nG6 : Nat)] 3)) hgc
              generalize y0.alloc (.cells #[.int .i64 (nG6 : Nat)] 3) = y13 at hC hgc hIL ⊢
              generalize y0.heap.size = z13 at hIL hz13 ⊢
              refine hK.out _ _ ?_ (fun hHeld => ?_)
              · (try dsimp only); exact ⟨trivial, hC.ou.cell 4 _ rfl, hC.ou.cell 5 _ rfl, hgc⟩
              clear hK K
              (try simp only [Act.put]); (try simp only [List.setIfInBounds_toArray]); (try simp only [List.set_cons_succ]); (try simp only [List.set_cons_zero])
              refine f_step (i := 3) (by kernel_rfl) rfl (fun K hK => ?_)
              go_simp
              have hHL := rd_hd1 y13 (⟨S6, l2.length, c6⟩ : Hd)
              replace hC := hC.keep ((Bl.refl _).alloc (.cells #[.slice S6 l2.length c6] 27))
              replace hgc := Bl.cells ((Bl.refl _).alloc (.cells #[.slice S6 l2.length c6] 27)) hgc
              replace hIL := hIL.keep ((Bl.refl _).alloc (.cells #[.slice S6 l2.length c6] 27))
              generalize y13.alloc (.cells #[.slice S6 l2.length c6] 27) = y3 at hC hgc hHL hIL ⊢
              generalize y13.heap.size = z3 at hHL ⊢
              refine hK.out _ _ ?_ (fun hHeld => ?_)
              · (try dsimp only); exact ⟨trivial, hC.ou.cell 4 _ rfl, hC.ou.cell 5 _ rfl, hgc⟩
              clear hK K
              (try simp only [Act.put]); (try simp only [List.setIfInBounds_toArray]); (try simp only [List.set_cons_succ]); (try simp only [List.set_cons_zero])
              refine f_step (i := 4) (by kernel_rfl) rfl (fun K hK => ?_)
              refine ap_hdv_step (y := (⟨S6, l2.length, c6⟩ : Hd)) rfl rfl rfl (by have := hC.wi; rw [HSL.out] at this; exact this) rfl hHL (by omega) hC.bl.sz ?_; intro WA4 c4 y4 ho4 hg4 hat4; replace hgc := hg4.cell hgc (fun e => hC.at_ 3 rfl (j := 0) rfl (by decide) _ e.symm rfl); replace hIL := hIL.grownF_ hg4 (fun e => hz13 _ e rfl); replace hC := hC.pushW (y := (⟨S6, l2.length, c6⟩ : Hd)) (by rw [HSL.out]; exact ho4) hg4 hat4; clear ho4 hg4 hat4 hHL
              refine hK.out _ _ ?_ (fun hHeld => ?_)
              · (try dsimp only); exact ⟨trivial, hC.ou.cell 4 _ rfl, hC.ou.cell 5 _ rfl, hgc⟩
              clear hK K
              (try simp only [Act.put]); (try simp only [List.setIfInBounds_toArray]); (try simp only [List.set_cons_succ]); (try simp only [List.set_cons_zero])
              refine f_takeC (i := 15) (d := 117) (v := ?_) [15] rfl rfl (by kernel_rfl) (by kernel_rfl) (by kernel_rfl) (by kernel_rfl) (by kernel_rfl) (by kernel_rfl) (fun _ _ _ h => h) (by decide) (Or.inl ⟨by rfl, ?_⟩) hHeld ?_
              rotate_left
              · (intro w hSw; (try dsimp only at hSw); go_simp; (try with_reducible rfl))
              simp only [List.set_cons_zero, List.set_cons_succ]
              refine f_step (i := 14) (by kernel_rfl) rfl (fun K hK => ?_)
              refine ap_int_step rfl rfl rfl hC.en rfl hIL (by omega) hC.bl.sz ?_; intro EA4 c14 y14 ho14 hg14 hat14; replace hgc := hg14.cell hgc (fun e => hC.at_ 4 rfl (j := 0) rfl (by decide) _ e.symm rfl); replace hC := hC.pushE ho14 hg14 hat14; clear ho14 hg14 hat14 hIL
              refine hK.out _ _ ?_ (fun hHeld => ?_)
              · (try dsimp only); exact ⟨trivial, hC.ou.cell 4 _ rfl, hC.ou.cell 5 _ rfl, hgc⟩
              clear hK K
              (try simp only [Act.put]); (try simp only [List.setIfInBounds_toArray]); (try simp only [List.set_cons_succ]); (try simp only [List.set_cons_zero])
              refine f_last (i := 16) (by kernel_rfl) rfl (by simp) (fun K hK => ?_)
              have hof := hC.ou.frozen
              have hol := hC.ou.lt
              have hoc := hC.ou.cell 4 _ rfl
              go_simp
              replace hC := hC.store 4 (.slice WA4 (k + 1) c4)
              clear hof hol hoc
              refine hK.out _ _ ?_ (fun hHeld => ?_)
              · exact trivial
              clear hK K
              (try simp only [Act.put]); (try simp only [List.setIfInBounds_toArray]); (try simp only [List.set_cons_succ]); (try simp only [List.set_cons_zero])
              refine f_takeS (i := 17) (d := 118) (v := ?_) rfl rfl (by kernel_rfl) (by kernel_rfl) (by kernel_rfl) (by kernel_rfl) (fun _ _ _ h => h) (by decide) (Or.inl ⟨by rfl, ?_⟩) hHeld (fun h => by simp at h) ?_
              rotate_left
              · (intro w hSw; (try dsimp only at hSw); go_simp; (try with_reducible rfl))
              simp only [List.set_cons_zero, List.set_cons_succ]
              refine f_last (i := 18) (by kernel_rfl) rfl (by simp) (fun K hK => ?_)
              have hof := hC.ou.frozen
              have hol := hC.ou.lt
              have hoc := hC.ou.cell 5 _ rfl
              go_simp
              replace hC := hC.store 5 (.slice EA4 (k + 1) c14)
              clear hof hol hoc
              refine hK.out _ _ ?_ (fun hHeld => ?_)
              · exact trivial
              clear hK K
              (try simp only [Act.put]); (try simp only [List.setIfInBounds_toArray]); (try simp only [List.set_cons_succ]); (try simp only [List.set_cons_zero])
              refine f_done (by kernel_rfl) ?_ _
              go_wp2_with fail
              go_roundw
              case rel => exact ⟨k + 1, _, _, c4, c14, _, _, _, WA4, EA4, hs ++ [(⟨S6, l2.length, c6⟩ : Hd)], _, _, by omega, by go_num, by rw [HFIN.out]; exact HRS2.out.push HMEM.out, by rw [HFIN.out]; exact hC⟩
              case measure => simp [intOf]; omega

    · have hkn : k = n := by omega
      subst hkn
      have j1 : ¬ (k : Int) < k := by omega
      obtain ⟨cG, hMk, hGs⟩ := hC.mkr
      have hos := hC.me.os.rd
      dsimp only at hos
      have hnG := hC.me.len
      have hou := hC.ou
      have hou_l := hou.lt
      have hou_f := hou.frozen
      have hou_0 := hou.cell 0 _ rfl
      have hou_1 := hou.cell 1 _ rfl
      have hou_2 := hou.cell 2 _ rfl
      have hou_3 := hou.cell 3 _ rfl
      have hou_4 := hou.cell 4 _ rfl
      have hou_5 := hou.cell 5 _ rfl
      have hM_l := hMk.lt
      have hM_0 := hMk.cell 0 _ rfl
      have hM_1 := hMk.cell 1 _ rfl
      have hM_2 := hMk.cell 2 _ rfl
      have hM_3 := hMk.cell 3 _ rfl
      have hR := hR2.keep hbl
      have hR_l := hR.lt
      have hR_f := hR.frozen
      have hR_0 := hR.cell 0 _ rfl
      have hR_1 := hR.cell 1 _ rfl
      have hR_2 := hR.cell 2 _ rfl
      have hR_3 := hR.cell 3 _ rfl
      have hR_4 := hR.cell 4 _ rfl
      have hR_5 := hR.cell 5 _ rfl
      have hne := hC.xlt
      have hW3 := hB2.call hbl
      have hneR : w.heap.size ≠ Q.bO ∧ w.heap.size < w3.heap.size ∧ Q.x ≠ Q.bO := by
        rw [HW.out] at hne
        have h1 := hR2.lt
        refine ⟨by omega, h1, fun e => hC.at_ 0 rfl (j := 6) rfl (by decide) _ rfl (by rw [e])⟩
      go_wp2_with fail
      have hA4 := HAB.out
      have hs1 := hC.store 0 (.int .i64 Q.a)
      have hs2 := hs1.store 1 (.int .i64 Q.b)
      have hs3 := hs2.store 2 (.slice A1 nG cG)
      have hs4 := hs3.store 3 (.slice B1 (cp k).ol.length d)
      have hos4 := hs4.me.os
      dsimp only at hos4
      obtain ⟨cG4, hMk4, hGs4⟩ := hs4.mkr
      have hcc : cG4 = cG := by
        have h1 := hMk4.cell 2 _ rfl
        have h2 := ((((hMk.far (p := ⟨Q.bO, 0, none⟩) hneR.2.2 (.int .i64 Q.a)).far (p := ⟨Q.bO, 1, none⟩) hneR.2.2 (.int .i64 Q.b)).far (p := ⟨Q.bO, 2, none⟩) hneR.2.2 (.slice A1 nG cG)).far (p := ⟨Q.bO, 3, none⟩) hneR.2.2 (.slice B1 (cp k).ol.length d)).cell 2 _ rfl
        have h3 := h1.symm.trans h2
        injection h3 with h3
        injection h3
      subst hcc
      have hlo := hC.lo
      rw [HW.out] at hlo
      have hx3 : w3.heap.size ≤ Q.x := by have := hC.xlt; rw [HW.out] at this; omega
      have hbase : w3.heap.size ≤ Q.base := by have := hC.me.far; dsimp only at this; omega
      have hB4 := ((((hB2.call hbl).setCell (p := ⟨Q.bO, 0, none⟩) (by dsimp only; rw [HW.out] at hne; have := hB2.sz; omega) (.int .i64 Q.a)).setCell (p := ⟨Q.bO, 1, none⟩) (by dsimp only; rw [HW.out] at hne; have := hB2.sz; omega) (.int .i64 Q.b)).setCell (p := ⟨Q.bO, 2, none⟩) (by dsimp only; rw [HW.out] at hne; have := hB2.sz; omega) (.slice A1 nG cG4)).setCell (p := ⟨Q.bO, 3, none⟩) (by dsimp only; rw [HW.out] at hne; have := hB2.sz; omega) (.slice B1 (cp k).ol.length d)
      refine bodyPost_ret (v := .agg #[.int .i64 Q.a, .int .i64 Q.b, .slice A1 nG cG4, .slice B1 (cp k).ol.length d, .slice WA k wc, .slice EA k ec]) (by simp only [results, Tryz.results41]; go_simp) rfl ?_
      generalize (((wh.setCell ⟨Q.bO, 0, none⟩ (.int .i64 Q.a)).setCell ⟨Q.bO, 1, none⟩ (.int .i64 Q.b)).setCell ⟨Q.bO, 2, none⟩ (.slice A1 nG cG4)).setCell ⟨Q.bO, 3, none⟩ (.slice B1 (cp k).ol.length d) = v4 at hGs4 hos4 hB4 ⊢
      have hg6 := grownBy_trans (grownBy_trans (grownBy_trans (grownBy_trans (grownBy_trans (grownBy_setCell v4 w.heap.size 0 (.int .i64 Q.a)) (grownBy_setCell _ w.heap.size 1 (.int .i64 Q.b))) (grownBy_setCell _ w.heap.size 2 (.slice A1 nG cG4))) (grownBy_setCell _ w.heap.size 3 (.slice B1 (cp k).ol.length d))) (grownBy_setCell _ w.heap.size 4 (.slice WA k wc))) (grownBy_setCell _ w.heap.size 5 (.slice EA k ec))
      have hGf := hGs4.grown hg6 (fun q hq e => by injection e with e; have := (hGs4.blk q.block (by rw [hq]; rfl)).1; omega)
      have hOf := hos4.grown hg6 (fun q hq e => by injection e with e; have := (hos4.blk q.block (by rw [hq]; rfl)).1; omega)
      rw [hA4.1, hA4.2] at hGf hOf ⊢
      rw [hA4.1, hA4.2] at hg6
      exact ⟨A1, cG4, B1, d, ⟨WA, wc, EA, ec, by first | rfl | rw [hnG]⟩, by first | exact hGf.rd | (rw [hnG]; exact hGf.rd), hOf.rd, hB4.grown hg6 (fun q e => by injection e with e; omega)⟩
end Go.Proofs.YtjggecbaladiiaaGreatDoor
