/- Contracts of the reference's compiler: the circuit of a valid program.
   Conditions: a valid program whose circuit is small. -/
import Derived.Test.YtjggecbaladiiaaGreatDoorCmp
namespace Go.Proofs.YtjggecbaladiiaaGreatDoor
open Go.RowKit
set_option linter.unusedVariables false
theorem fnd_take_ {s : ByteArray} : ∀ {L : List Ln} {k i : Nat}, 0 ≤ fnd s (L.take k) i → fnd s L i = fnd s (L.take k) i
  | [], k, i, _ => by simp
  | x :: r, 0, i, h => by simp [fnd] at h
  | x :: r, k + 1, i, h => by
    rw [List.take_succ_cons] at h ⊢
    rw [fnd] at h
    rw [fnd, fnd]
    split
    · rfl
    · rename_i hn
      rw [if_neg hn] at h
      exact fnd_take_ h
theorem fndL_take_ {L : List Ln} {k : Nat} {s : ByteArray} (h : 0 ≤ fndL (L.take k) s) : fndL L s = fndL (L.take k) s := fnd_take_ h

def CoP (w : World) (L : List Ln) (n : Nat) (e : Ending) (w' : World) : Prop := ∃ x nG Ag cg Ao co WA wc EA ec, e = .returned (.agg #[.pointer (some ⟨x, 0, none⟩), .slice WA n wc, .slice EA n ec]) ∧ nG = (cpL mulR L n).g.length ∧ Blk w' x 102 #[.int .i64 (in0 L), .int .i64 (in1 L), .slice Ag nG cg, .slice Ao (cpL mulR L n).ol.length co] ∧ RdG w' Ag nG cg (cpL mulR L n).g ∧ RdI w' Ao (cpL mulR L n).ol.length co (cpL mulR L n).ol ∧ Bl w w'
theorem spec_ciNew (a b : Int) (w : World) :
    Calls Tryz.prog 101 #[.int .i64 a, .int .i64 b] w fun e w' => e = .returned (.pointer (some ⟨w.heap.size, 0, none⟩)) ∧ w' = w.alloc (.cells #[.int .i64 a, .int .i64 b, .slice none 0 0, .slice none 0 0] 102) := by
  go_enter Tryz.func101, Tryz.ntmps101
  go_wp2
  go_ret
  exact ⟨rfl, rfl⟩
set_option maxHeartbeats 1000000 in
theorem spec_gdRange (f : Int) (N : Nat) (w : World) (hf : 0 ≤ f ∧ f ≤ 1000) (hN : N ≤ 1000) :
    Calls Tryz.prog 128 #[.int .i64 f, .int .i64 N] w fun e w' => ∃ S c, e = .returned (.slice S N c) ∧ OwnI w.heap.size w' S N c (rngL f N) ∧ Bl w w' := by
  have hown0 : OwnI w.heap.size w none 0 0 (rngL f 0) := OwnI.nil w.heap.size w
  have hW0 := Bl.refl w
  go_enter Tryz.func128, Tryz.ntmps128
  go_wp2_with fail
  go_loopw [5, 6] (fun o i wr => ∃ (k c : Nat) (S : Option Addr), k ≤ N ∧ o = .slice S k c ∧ i = .int .i64 k ∧ OwnI w.heap.size wr S k c (rngL f k) ∧ Bl w wr) (fun _ i _ => N - (intOf i).toNat)
  case atStart => exact ⟨0, 0, none, by omega, rfl, rfl, hown0, hW0⟩
  case round =>
    clear hown0 hW0
    obtain ⟨k, c, S, hk, rfl, rfl, hown, hW⟩ := hrel
    by_cases hlt : k < N
    · have ik : (k : Int) < N := by omega
      have hz := hW.size
      have HST := Lib.hid (rngL_step f k)
      go_wp2_with (at_builtin; refine ap_int rfl rfl rfl (hown.alloc _) rfl (rd_new1 _ _ _) (by omega) (by simp; omega) ?_; intro S9 c9 wz ho9 hg9 hat9)
      go_roundw
      case rel => exact ⟨k + 1, c9, S9, by omega, rfl, by go_num, by rw [HST.out]; exact ho9, Bl.grown (hW.alloc _) hg9 (fun q hq => (hown.blk q hq).1)⟩
      case measure => simp [intOf]; omega
    · have ik : ¬ ((k : Int) < N) := by omega
      have hkn : k = N := by omega
      subst hkn
      go_wp2_with fail
      go_ret
      exact ⟨S, c, rfl, hown, hW⟩
set_option maxRecDepth 20000 in
set_option maxHeartbeats 8000000 in
theorem spec_coMake (A : Option Addr) (n c : Nat) (l : List (Hd × Ln)) (ws : List Int) (w : World) (h : RdL w A n c l) (hg : goodB (l.map (·.2)) = true) (hws : wdsL (l.map (·.2)) = some ws) (hw4 : okW (l.map (·.2)) ws = true) (hC : okC mulR (l.map (·.2)) ws = true) (hS : okS (l.map (·.2)) = true) :
    Calls Tryz.prog 84 #[.slice A n c] w (CoP w (l.map (·.2)) n) := by
  obtain ⟨hle1, hle2⟩ := h.le
  have hlen := Lib.hid h.len
  obtain ⟨hS0, hS1⟩ := okS_at hS
  have HS0 := Lib.hid hS0
  have HS1 := Lib.hid hS1
  obtain ⟨hc0, hc1⟩ := okC_in hC
  obtain ⟨ws', hws', g1, g2, _⟩ := goodB_at hg
  obtain rfl : ws = ws' := by rw [hws] at hws'; injection hws'
  obtain ⟨i1, i2⟩ := wdsL_in hws
  rw [List.length_map, h.len] at i1 g1
  have HI := Lib.hid i2
  have HG := Lib.hid g2
  have HOW := Lib.hid (fun (i : Nat) x => okW_at hw4 (i := i) (x := x))
  have HOC := Lib.hid (fun (k : Nat) (hk : k ≤ n) => okC_at hC (k := k) (by rw [List.length_map, hlen.out]; exact hk))
  have HST := Lib.hid (fun (k : Nat) (x : Ln) (hx : (l.map (·.2))[k]? = some x) => cpL_step (mul := mulR) hx)
  have H0 := Lib.hid (show cpL mulR (l.map (·.2)) 0 = ⟨[], [], [], 0, in0 (l.map (·.2))⟩ from rfl)
  obtain ⟨a, ha⟩ : ∃ a, in0 (l.map (·.2)) = a := ⟨_, rfl⟩
  obtain ⟨b, hb⟩ : ∃ b, in1 (l.map (·.2)) = b := ⟨_, rfl⟩
  have HA := Lib.hid (show (insL (l.map (·.2)) 0).sum = a from ha)
  have HB := Lib.hid (show (insL (l.map (·.2)) 1).sum = b from hb)
  rw [ha, hb] at HST
  rw [ha] at H0 hc0
  rw [hb] at hc1
  obtain ⟨cp, hcp⟩ : ∃ cp : Nat → Cp, (fun k => cpL mulR (l.map (·.2)) k) = cp := ⟨_, rfl⟩
  have HCP := Lib.hid (fun k => congrFun hcp k)
  have HFA := Lib.hid ha
  have HFB := Lib.hid hb
  have HF := Lib.hid (show cp 0 = ⟨[], [], [], 0, a⟩ from (HCP.out 0).symm.trans H0.out)
  clear hg hws hw4 hC hS ha hb hws' i2 g2 hS0 hS1 hcp H0
  have hn1000 : n ≤ 1000 := by omega
  go_enter Tryz.func84, Tryz.ntmps84
  go_wp2_with fail
  refine (spec_laInputs A n c l 0 _ (h.keep ((Bl.refl w).alloc _)) hn1000).mono ?_
  rintro e w2 ⟨F0, m0, c0, rfl, hm0, ho0, hb2⟩
  have hB2 := ((Bl.refl w).alloc (.cells #[.pointer none, .slice none 0 0, .slice none 0 0] 105)).call hb2
  have hR2 := (Blk.new w 105 #[.pointer none, .slice none 0 0, .slice none 0 0] (g := w.heap.size)).keep hb2
  clear hb2
  go_wp2_with fail
  refine (spec_laSum F0 m0 c0 _ w2 ho0.rd (by omega) HS0.out).mono ?_
  rintro e w9 ⟨rfl, rfl⟩
  rw [HA.out]
  clear ho0
  go_wp2_with fail
  refine (spec_laInputs A n c l 1 _ (h.keep hB2) hn1000).mono ?_
  rintro e w3 ⟨F1, m1, c1, rfl, hm1, ho1, hb3⟩
  replace hR2 := hR2.keep hb3
  replace hB2 := hB2.call hb3
  clear hb3
  go_wp2_with fail
  refine (spec_laSum F1 m1 c1 _ w3 ho1.rd (by omega) HS1.out).mono ?_
  rintro e w9 ⟨rfl, rfl⟩
  rw [HB.out]
  clear ho1
  go_wp2_with fail
  refine (spec_ciNew a b w3).mono ?_
  rintro e w9 ⟨rfl, rfl⟩
  have hM9 := Blk.new w3 102 #[.int .i64 a, .int .i64 b, .slice none 0 0, .slice none 0 0] (g := w3.heap.size)
  go_wp2_with fail
  have hC0 := Cs.init (T := 102) (TB := 3) (TO := 105) (w3 := w3) (oc := #[.pointer (some ⟨w3.heap.size, 0, none⟩), .slice none 0 0, .slice none 0 0]) hc0 hc1
  generalize (((w3.alloc (.cells #[.int .i64 a, .int .i64 b, .slice none 0 0, .slice none 0 0] 102)).alloc (.cells #[.pointer (some ⟨w3.heap.size, 0, none⟩), .slice none 0 0, .slice none 0 0] 105)).alloc (.cells #[.int .i64 0, .int .i64 a] 3)) = u0 at hC0 ⊢
  obtain ⟨Q, hQ⟩ : ∃ Q : Cq, Q = ⟨102, 3, 105, w3, w3.heap.size, w3.heap.size + 1, w3.heap.size + 1 + 1, w3.heap.size + 1, a, b⟩ := ⟨_, rfl⟩
  rw [← hQ] at hC0
  have eT : Q.T = 102 := by rw [hQ]
  have eW : Q.w0 = w3 := by rw [hQ]
  have exx : Q.x = w3.heap.size := by rw [hQ]
  have ebO : Q.bO = w3.heap.size + 1 := by rw [hQ]
  have ebT : Q.bT = w3.heap.size + 1 + 1 := by rw [hQ]
  have eA : Q.a = a := by rw [hQ]
  have eB : Q.b = b := by rw [hQ]
  rw [← exx] at hC0
  rw [← ebT, ← ebO, ← exx]
  have HW := Lib.hid eW
  have HT := Lib.hid eT
  have HAB := Lib.hid (show Q.a = a ∧ Q.b = b from ⟨eA, eB⟩)
  clear hQ eT eW exx ebO ebT eA eB hM9
  go_loopw [32] (fun i wr => ∃ (k nG d wc ec Tm : Nat) (A1 B1 WA EA : Option Addr) (hs : List Hd) (el : List Int) (rs : List (Hd × List Int)), k ≤ n ∧ i = .int .i64 (k : Nat) ∧ RS hs (cp k).W rs ∧ Cs Q wr Tm (cp k).g (cp k).ol (cp k).n0 (cp k).n1 nG A1 B1 d WA wc hs EA k ec el #[.pointer (some ⟨Q.x, 0, none⟩), .slice WA k wc, .slice EA k ec] rs) (fun i _ => n - (intOf i).toNat)
  case atStart => exact ⟨0, 0, 0, 0, 0, _, none, none, none, none, [], [], [], by omega, rfl, by rw [HF.out]; exact ⟨rfl, by simp⟩, by rw [HF.out]; exact hC0⟩
  case round =>
    clear hC0
    obtain ⟨k, nG, d, wc, ec, Tm, A1, B1, WA, EA, hs, el, rs, hk, rfl, hRS, hC⟩ := hrel
    obtain ⟨wh, hwh⟩ : ∃ u, u = wr := ⟨_, rfl⟩
    subst hwh
    have hbl : Bl w3 wh := by rw [← HW.out]; exact hC.bl
    have hl := h.keep (hB2.call hbl)
    have hwl : (cp k).W.length = k := by have := (HOC.out k hk).wl (by rw [List.length_map, hlen.out]; exact i1) (by rw [List.length_map, hlen.out]; exact hk); rw [HCP.out k] at this; exact this
    by_cases hlt : k < n
    · obtain ⟨ad, ⟨⟨C, m, cc⟩, x⟩, rfl, hadb, hx, hps, c0, c1, c2_, c3_, c4, c5, c6⟩ := hl.at_ hlt
      dsimp only at hps c0 c1 c2_ c3_ c4 c5 c6
      have hxL : (l.map (·.2))[k]? = some x := by rw [List.getElem?_map, hx]; rfl
      obtain ⟨v, hv, HV0⟩ := HI.out k x hxL
      have hwl2 : (ws.take k).length = ((l.map (·.2)).take k).length := by rw [List.length_take, List.length_take, i1, List.length_map, hlen.out]
      have hwk := wk_of HV0 hwl2 (HOW.out k x hxL) (fun u hu => List.all_eq_true.1 HG.out u (List.mem_of_mem_take hu))
      have hnx : cp (k + 1) = cpN mulR (a + b) ((l.map (·.2)).take k) (cp k) x := by rw [← HCP.out, ← HCP.out]; exact HST.out k x hxL
      have hoc := HOC.out k hk
      have hlenW : ∀ s, 0 ≤ fndL ((l.map (·.2)).take k) s → ∃ q r, fndL ((l.map (·.2)).take k) s = (q : Nat) ∧ q < k ∧ (cp k).W[q]? = some r ∧ (cp k).W.getD (fndL ((l.map (·.2)).take k) s).toNat [] = r ∧ (r.length : Int) = wsA ((l.map (·.2)).take k) (ws.take k) s := fun s hs0 => by
        have := part_at hoc (by rw [List.length_map, hlen.out]; exact i1) (by rw [List.length_map, hlen.out]; exact hk) hs0
        rw [HCP.out k] at this
        exact this
      have hln : ∀ s ∈ x.ps, fndL (l.map (·.2)) s = fndL ((l.map (·.2)).take k) s := fun s hs => fndL_take_ (hwk.f s hs)
      have hG3 := hoc.g
      have hO3 := hoc.o
      have hN03 := hoc.n0
      have hN13 := hoc.n1
      rw [HCP.out k] at hG3 hO3 hN03 hN13
      have hm3 := wdO_len HV0
      rw [hps.length] at hm3
      obtain ⟨pre, hpre⟩ : ∃ pre, (l.map (·.2)).take k = pre := ⟨_, rfl⟩
      rw [hpre] at hwk hnx hln hlenW
      obtain ⟨⟨g, ol, W, n0, n1⟩, hS⟩ : ∃ s, cp k = s := ⟨_, rfl⟩
      rw [hS] at hnx hlenW hG3 hO3 hN03 hN13 hRS hC hwl
      dsimp only at hlenW hG3 hO3 hN03 hN13 hRS hC hwl
      have hnG := hC.me.len
      have hsl : hs.length = k := hRS.1.trans hwl
      obtain ⟨P, hP⟩ : ∃ P, prtW pre W x.ps = P := ⟨_, rfl⟩
      have HP := Lib.hid hP
      have HNX := Lib.hid hnx
      have HSL := Lib.hid hsl
      have HRS := Lib.hid hRS
      have HWK := Lib.hid hwk
      have HLW := Lib.hid hlenW
      have HLN := Lib.hid hln
      have HNG := Lib.hid hnG
      have HPRE := Lib.hid hpre
      have HPL := Lib.hid (show x.ps.length = m from hps.length)
      clear hx hxL HV0 hv hwl2 hwk hnx hoc hln hlenW hS hP hsl hRS hnG hpre hwl
      have j1 : (k : Int) < n := by omega
      have hou := hC.ou
      have hou_l := hou.lt
      have hou_f := hou.frozen
      have hou_4 := hou.cell 1 _ rfl
      have hTm := hC.tm
      have hX := Blk.new wh 92 #[.int .i64 x.k, .string x.nm, .string x.op, .slice C m cc, .int .i64 x.pt, .int .i64 x.wd, .int .i64 x.vl] (g := wh.heap.size)
      have hV := (Bl.refl wh).alloc (.cells #[.int .i64 x.k, .string x.nm, .string x.op, .slice C m cc, .int .i64 x.pt, .int .i64 x.wd, .int .i64 x.vl] 92)
      have hPP : OwnV 27 1 (wh.heap.size + 1) (wh.alloc (.cells #[.int .i64 x.k, .string x.nm, .string x.op, .slice C m cc, .int .i64 x.pt, .int .i64 x.wd, .int .i64 x.vl] 92)) none 0 0 (([] : List Hd).map Hd.vl) := OwnV.nil _ _ _ _
      go_wp2_with fail
      generalize wh.alloc (.cells #[.int .i64 x.k, .string x.nm, .string x.op, .slice C m cc, .int .i64 x.pt, .int .i64 x.wd, .int .i64 x.vl] 92) = u1 at hX hV hPP ⊢
      generalize hbX : wh.heap.size = bX at hX hPP ⊢
      have HBX := Lib.hid hbX
      clear hbX
      go_loopw [10, 39] (fun o i wq => ∃ (j c3 : Nat) (PA : Option Addr) (hp : List Hd), j ≤ m ∧ i = .int .i64 (j : Nat) ∧ o = .slice PA j c3 ∧ PR hp P rs j ∧ OwnV 27 1 (bX + 1) wq PA j c3 (hp.map Hd.vl) ∧ Blk wq bX 92 #[.int .i64 x.k, .string x.nm, .string x.op, .slice C m cc, .int .i64 x.pt, .int .i64 x.wd, .int .i64 x.vl] ∧ Bl wh wq) (fun _ i _ => m - (intOf i).toNat)
      case atStart => exact ⟨0, 0, _, [], by omega, rfl, rfl, ⟨rfl, fun i hi => absurd hi (by omega)⟩, hPP, hX, hV⟩
      case round =>
        clear hPP hX hV
        obtain ⟨j, c3, PA, hp, hj, rfl, rfl, hPR, hPP, hX, hB1⟩ := hrel
        by_cases hlt2 : j < m
        · obtain ⟨ap, s, rfl, hasb, hsx, hsc⟩ := (hps.keep hB1).at_ hlt2
          have hs2 := List.mem_of_getElem? hsx
          have hf0 := HWK.out.f s hs2
          have hfL := HLN.out s hs2
          obtain ⟨q, r, hq, hqk, hWq, hWg, _⟩ := HLW.out s hf0
          rw [hq] at hfL
          obtain ⟨y, hy⟩ : ∃ y, hs[q]? = some y := ⟨_, List.getElem?_eq_getElem (by rw [HSL.out]; exact hqk)⟩
          have hmem := HRS.out.2 q y r hy hWq
          have HPR := Lib.hid (hPR.push (l := r) (by rw [← HP.out]; unfold prtW; rw [List.getElem?_map, hsx]; exact congrArg some hWg) hmem)
          obtain ⟨wd, hwe, hwb, hwcell⟩ := hC.wi.rd.at0 (by rw [HSL.out]; omega)
          have hco := hou_4
          rw [hwe] at hco
          have hcw : wh.cell? (wd.add q) = some (.slice y.A y.n y.c) := hwcell q _ (by rw [List.getElem?_map, hy]; rfl)
          have hKP := Lib.hid (fun w' (hb : Bl wh w') => (⟨Bl.cells hb hco, Bl.cells hb hcw⟩ : w'.cell? ⟨Q.bO, 1, none⟩ = some (.slice (some wd) k wc) ∧ w'.cell? (wd.add q) = some (.slice y.A y.n y.c)))
          have hwle := hC.wi.rd.cap
          rw [HSL.out] at hwle
          have HFL := Lib.hid hfL
          have hX_l := hX.lt
          have hX_3 := hX.cell 3 _ rfl
          have j2 : (j : Int) < m := by omega
          have hqk2 : (q : Int) < k := by omega
          have hlow : ∀ t, PA.map (·.block) = some t → bX + 1 ≤ t := fun t ht => (hPP.blk t ht).1
          clear hsx hs2 hf0 hq hWq hWg hfL hy hmem hwe hwb hwcell hco hcw
          go_wp2_with fail
          refine wp_region_held_drew (S := (fun w' => w'.cell? ⟨Q.bO, 1, none⟩ = some (.slice (some wd) k wc) ∧ w'.cell? (wd.add q) = some (.slice y.A y.n y.c))) (by kernel_rfl) ?_ (fun hHeld => ?_)
          · (try dsimp only); exact hKP.out _ (by first | exact hB1 | exact hB1.drew)
          replace hPP := hPP.keep ((Bl.refl _).drew)
          replace hX := hX.drew
          replace hB1 := hB1.drew
          clear hX_l hX_3
          refine held_take (i := 0) (d := 43) (v := ?_) rfl rfl (by kernel_rfl) (by kernel_rfl) (by kernel_rfl) (fun _ _ _ h => h) (Or.inl ⟨by rfl, ?_⟩) (by assumption) ?_
          rotate_left
          · (intro w hSw; (try dsimp only at hSw); go_simp; (try with_reducible rfl))
          (try simp only [List.set_cons_zero, List.set_cons_succ])
          refine held_take (i := 1) (d := 44) (v := ?_) rfl rfl (by kernel_rfl) (by kernel_rfl) (by kernel_rfl) (fun _ _ _ h => h) (Or.inl ⟨by rfl, ?_⟩) (by assumption) ?_
          rotate_left
          · (intro w hSw; (try dsimp only at hSw); go_simp; (try with_reducible rfl))
          (try simp only [List.set_cons_zero, List.set_cons_succ])
          refine held_take (i := 2) (d := 45) (v := ?_) rfl rfl (by kernel_rfl) (by kernel_rfl) (by kernel_rfl) (fun _ _ _ h => h) (Or.inl ⟨by rfl, ?_⟩) (by assumption) ?_
          rotate_left
          · (intro w hSw; (try dsimp only at hSw); go_simp; (try with_reducible rfl))
          (try simp only [List.set_cons_zero, List.set_cons_succ])
          refine held_take (i := 3) (d := 46) (v := ?_) rfl rfl (by kernel_rfl) (by kernel_rfl) (by kernel_rfl) (fun _ _ _ h => h) (Or.inl ⟨by rfl, ?_⟩) (by assumption) ?_
          rotate_left
          · (intro w hSw; (try dsimp only at hSw); go_simp; (try with_reducible rfl))
          (try simp only [List.set_cons_zero, List.set_cons_succ])
          refine held_take (i := 4) (d := 47) (v := ?_) rfl rfl (by kernel_rfl) (by kernel_rfl) (by kernel_rfl) (fun _ _ _ h => h) (Or.inl ⟨by rfl, ?_⟩) (by assumption) ?_
          rotate_left
          · (intro w hSw; (try dsimp only at hSw); go_simp; (try with_reducible rfl))
          (try simp only [List.set_cons_zero, List.set_cons_succ])
          refine wpAnyH_ready (rs := [5]) (by kernel_rfl) (by simp) ?_
          refine AllReadyH.cons rfl (fun K hK => ?_) AllReadyH.nil
          go_simp
          refine (spec_laFind _ n c l s _ (hl.keep hB1)).mono ?_; rintro e w5 ⟨rfl, hb5⟩; rw [HFL.out]; replace hPP := hPP.keep hb5; replace hX := hX.keep hb5; replace hB1 := hB1.call hb5
          go_wp2_with fail
          refine hK.out _ _ ?_ (fun hHeld => ?_)
          · (try dsimp only); exact hKP.out _ (by first | exact hB1 | exact hB1.drew)
          clear hK K
          (try simp only [Act.put]); (try simp only [List.setIfInBounds_toArray]); (try simp only [List.set_cons_succ]); (try simp only [List.set_cons_zero])
          refine held_take (i := 6) (d := 49) (v := ?_) rfl rfl (by kernel_rfl) (by kernel_rfl) (by kernel_rfl) (fun _ _ _ h => h) (Or.inl ⟨by rfl, ?_⟩) (by assumption) ?_
          rotate_left
          · (intro w hSw; (try dsimp only at hSw); go_simp; (try with_reducible rfl))
          (try simp only [List.set_cons_zero, List.set_cons_succ])
          refine held_take (i := 7) (d := 50) (v := ?_) rfl rfl (by kernel_rfl) (by kernel_rfl) (by kernel_rfl) (fun _ _ _ h => h) (Or.inl ⟨by rfl, ?_⟩) (by assumption) ?_
          rotate_left
          · (intro w hSw; (try dsimp only at hSw); go_simp; (try with_reducible rfl))
          (try simp only [List.set_cons_zero, List.set_cons_succ])
          refine wpAnyH_ready (rs := [8]) (by kernel_rfl) (by simp) ?_
          refine AllReadyH.cons rfl (fun K hK => ?_) AllReadyH.nil
          go_simp
          replace hPP := hPP.alloc (.cells #[.slice y.A y.n y.c] 27)
          replace hX := hX.alloc (.cells #[.slice y.A y.n y.c] 27)
          replace hB1 := hB1.alloc (.cells #[.slice y.A y.n y.c] 27)
          refine hK.out _ _ ?_ (fun hHeld => ?_)
          · (try dsimp only); exact hKP.out _ (by first | exact hB1 | exact hB1.drew)
          clear hK K
          (try simp only [Act.put]); (try simp only [List.setIfInBounds_toArray]); (try simp only [List.set_cons_succ]); (try simp only [List.set_cons_zero])
          refine wpAnyH_ready (rs := [9]) (by kernel_rfl) (by simp) ?_
          refine AllReadyH.cons rfl (fun K hK => ?_) AllReadyH.nil
          refine ap_hdv_step rfl rfl rfl hPP rfl (rd_hd1 _ y) (by omega) (by have := hX.lt; omega) ?_; intro PA9 c9 w9 ho9 hg9 hat9; replace hX := hX.grown hg9 (fun e => by have := hlow _ e.symm; omega); replace hB1 := Bl.grown hB1 hg9 (fun t ht => by have := hlow t ht; have := HBX.out; omega)
          refine hK.out _ _ ?_ (fun hHeld => ?_)
          · (try dsimp only); exact hKP.out _ (by first | exact hB1 | exact hB1.drew)
          clear hK K
          (try simp only [Act.put]); (try simp only [List.setIfInBounds_toArray]); (try simp only [List.set_cons_succ]); (try simp only [List.set_cons_zero])
          refine held_take (i := 10) (d := 10) (v := ?_) rfl rfl (by kernel_rfl) (by kernel_rfl) (by kernel_rfl) (fun _ _ _ h => h) (Or.inl ⟨by rfl, ?_⟩) (by assumption) ?_
          rotate_left
          · (intro w hSw; (try dsimp only at hSw); go_simp; (try with_reducible rfl))
          (try simp only [List.set_cons_zero, List.set_cons_succ])
          refine wpAnyH_done (by kernel_rfl) ?_ _
          go_wp2_with fail
          go_roundw
          case rel => exact ⟨j + 1, c9, PA9, hp ++ [y], by omega, by go_num, rfl, HPR.out, by rw [List.map_append]; exact ho9, hX, hB1⟩
          case measure => simp [intOf]; omega
        · obtain rfl : j = m := by omega
          have j2 : ¬ (j : Int) < j := by omega
          obtain ⟨wq, hwq⟩ : ∃ u, u = wr := ⟨_, rfl⟩
          subst hwq
          have hC1 := hC.keep hB1
          have HCX := Lib.hid (show Q.x < bX ∧ Q.bT < bX ∧ Q.bO < bX from by have := hC.xlt; have := HBX.out; omega)
          have hX_l := hX.lt
          have hX_0 := hX.cell 0 _ rfl
          have hX_1 := hX.cell 1 _ rfl
          have hX_2 := hX.cell 2 _ rfl
          have hX_3 := hX.cell 3 _ rfl
          have hX_4 := hX.cell 4 _ rfl
          have hX_5 := hX.cell 5 _ rfl
          have hX_6 := hX.cell 6 _ rfl
          clear hou hou_l hou_f hou_4
          rcases HWK.out.k with hk1 | hk1 | hk1 | hk1 | hk1 | hk1
          · rw [hk1] at hX_0
            obtain ⟨hpt, hwd1, hwd2⟩ := HWK.out.k1 hk1
            obtain ⟨N, hN⟩ : ∃ N : Nat, x.wd = (N : Nat) := ⟨x.wd.toNat, by omega⟩
            rw [hN] at hX_5
            clear hPP hPR hC
            rcases hpt with hpt | hpt
            · as_aux_lemma =>
                rw [hpt] at hX_4
                have HFIN := Lib.hid (show cp (k + 1) = ⟨g, ol, W ++ [rngL n0 N], n0 + (N : Nat), n1⟩ by rw [HNX.out]; unfold cpN; rw [if_pos hk1, if_pos hpt, hN]; rfl)
                have hnx := hC1.nx
                have hnx_0 := hnx.cell 0 _ rfl
                have hnx_l := hnx.lt
                have hK3 := Lib.hid (fun w' (hb : Bl wq w') => (⟨Bl.cells hb hX_4, Bl.cells hb hnx_0, Bl.cells hb hX_5⟩ : w'.cell? ⟨bX, 4, none⟩ = some (.int .i64 0) ∧ w'.cell? ⟨Q.bT, 0, none⟩ = some (.int .i64 n0) ∧ w'.cell? ⟨bX, 5, none⟩ = some (.int .i64 (N : Nat))))
                have hB3 := Bl.refl wq
                have hpos3 : 0 < 2 := by decide
                have HN := Lib.hid hN
                have HPT := Lib.hid hpt
                clear hN
                go_wp2_with fail
                refine wp_region_held_drew (S := (fun w' => w'.cell? ⟨bX, 4, none⟩ = some (.int .i64 0) ∧ w'.cell? ⟨Q.bT, 0, none⟩ = some (.int .i64 n0) ∧ w'.cell? ⟨bX, 5, none⟩ = some (.int .i64 (N : Nat)))) (by kernel_rfl) ?_ (fun hHeld => ?_)
                · (try dsimp only); exact hK3.out _ (by first | exact hB3 | exact hB3.drew)
                replace hB3 := hB3.drew
                refine held_take (i := 0) (d := 72) (v := ?_) rfl rfl (by kernel_rfl) (by kernel_rfl) (by kernel_rfl) (fun _ _ _ h => h) (Or.inl ⟨by rfl, ?_⟩) (by assumption) ?_
                rotate_left
                · (intro w hSw; (try dsimp only at hSw); go_simp; (try with_reducible rfl))
                (try simp only [List.set_cons_zero, List.set_cons_succ])
                refine held_take (i := 1) (d := 73) (v := ?_) rfl rfl (by kernel_rfl) (by kernel_rfl) (by kernel_rfl) (fun _ _ _ h => h) (Or.inl ⟨by rfl, ?_⟩) (by assumption) ?_
                rotate_left
                · (intro w hSw; (try dsimp only at hSw); go_simp; (try with_reducible rfl))
                (try simp only [List.set_cons_zero, List.set_cons_succ])
                refine held_take (i := 2) (d := 74) (v := ?_) rfl rfl (by kernel_rfl) (by kernel_rfl) (by kernel_rfl) (fun _ _ _ h => h) (Or.inl ⟨by rfl, ?_⟩) (by assumption) ?_
                rotate_left
                · (intro w hSw; (try dsimp only at hSw); go_simp; (try with_reducible rfl))
                (try simp only [List.set_cons_zero, List.set_cons_succ])
                refine held_take (i := 3) (d := 75) (v := ?_) rfl rfl (by kernel_rfl) (by kernel_rfl) (by kernel_rfl) (fun _ _ _ h => h) (Or.inl ⟨by rfl, ?_⟩) (by assumption) ?_
                rotate_left
                · (intro w hSw; (try dsimp only at hSw); go_simp; (try with_reducible rfl))
                (try simp only [List.set_cons_zero, List.set_cons_succ])
                refine held_take (i := 4) (d := 76) (v := ?_) rfl rfl (by kernel_rfl) (by kernel_rfl) (by kernel_rfl) (fun _ _ _ h => h) (Or.inl ⟨by rfl, ?_⟩) (by assumption) ?_
                rotate_left
                · (intro w hSw; (try dsimp only at hSw); go_simp; (try with_reducible rfl))
                (try simp only [List.set_cons_zero, List.set_cons_succ])
                refine held_take (i := 5) (d := 77) (v := ?_) rfl rfl (by kernel_rfl) (by kernel_rfl) (by kernel_rfl) (fun _ _ _ h => h) (Or.inl ⟨by rfl, ?_⟩) (by assumption) ?_
                rotate_left
                · (intro w hSw; (try dsimp only at hSw); go_simp; (try with_reducible rfl))
                (try simp only [List.set_cons_zero, List.set_cons_succ])
                refine held_take (i := 6) (d := 78) (v := ?_) rfl rfl (by kernel_rfl) (by kernel_rfl) (by kernel_rfl) (fun _ _ _ h => h) (Or.inl ⟨by rfl, ?_⟩) (by assumption) ?_
                rotate_left
                · (intro w hSw; (try dsimp only at hSw); go_simp; (try with_reducible rfl))
                (try simp only [List.set_cons_zero, List.set_cons_succ])
                refine wpAnyH_ready (rs := [7]) (by kernel_rfl) (by simp) ?_
                refine AllReadyH.cons rfl (fun K hK => ?_) AllReadyH.nil
                go_simp
                refine (spec_gdRange n0 N _ (by omega) (by have := HN.out; omega)).mono ?_; rintro e w5 ⟨S, c5, rfl, ho5, hb5⟩; replace hB3 := hB3.call hb5
                go_wp2_with fail
                refine hK.out _ _ ?_ (fun hHeld => ?_)
                · (try dsimp only); exact hK3.out _ (by first | exact hB3 | exact hB3.drew)
                clear hK K
                (try simp only [Act.put]); (try simp only [List.setIfInBounds_toArray]); (try simp only [List.set_cons_succ]); (try simp only [List.set_cons_zero])
                refine held_take (i := 8) (d := 13) (v := ?_) rfl rfl (by kernel_rfl) (by kernel_rfl) (by kernel_rfl) (fun _ _ _ h => h) (Or.inl ⟨by rfl, ?_⟩) (by assumption) ?_
                rotate_left
                · (intro w hSw; (try dsimp only at hSw); go_simp; (try with_reducible rfl))
                (try simp only [List.set_cons_zero, List.set_cons_succ])
                refine wpAnyH_done (by kernel_rfl) ?_ _
                have hC := (hC1.raise.keep hB3).fresh (OwnI.mono (base' := wq.heap.size) ho5 (by first | exact Nat.le_refl _ | simp))
                clear hX_0 hX_1 hX_2 hX_3 hX_4 hX_5 hX_6 hX_l hnx hnx_l hnx_0
                have hX := hX.keep hB3
                have hX_l := hX.lt
                have hX_0 := hX.cell 0 _ rfl
                have hX_4 := hX.cell 4 _ rfl
                have hX_5 := hX.cell 5 _ rfl
                rw [hk1] at hX_0
                rw [HPT.out] at hX_4
                rw [HN.out] at hX_5
                have hnx := hC.nx
                have hnx_0 := hnx.cell 0 _ rfl
                have hnx_l := hnx.lt
                have hnx_f := hnx.frozen
                have HMEM := Lib.hid (show ((⟨S, N, c5⟩ : Hd), rngL n0 N) ∈ rs ++ [((⟨S, N, c5⟩ : Hd), rngL n0 N)] by simp)
                have HRS2 := Lib.hid (HRS.out.mono (rs' := rs ++ [((⟨S, N, c5⟩ : Hd), rngL n0 N)]) (fun p hp => List.mem_append.2 (.inl hp)))
                clear ho5
                have hN10 : N ≤ 10 := by have := HN.out; omega
                have hwrN : wrap64 (n0 + (N : Nat)) = n0 + (N : Nat) := by unfold wrap64; omega
                go_wp2_with fail
                generalize hWZ : w5.heap.size = tz at hC
                clear hWZ
                refine region_F (fun _ => True) (fun w' => w'.cell? ⟨bX, 4, none⟩ = some (.int .i64 0) ∧ w'.cell? ⟨Q.bT, 0, none⟩ = some (.int .i64 n0) ∧ w'.cell? ⟨bX, 5, none⟩ = some (.int .i64 (N : Nat))) 9 (by kernel_rfl) ?_ (fun hHeld => ?_)
                · (try dsimp only); exact ⟨trivial, hX_4, hnx_0, hX_5⟩
                replace hC := hC.keep ((Bl.refl _).drew)
                replace hX := hX.drew
                refine f_takeC (i := 0) (d := 80) (v := ?_) [0] rfl rfl (by kernel_rfl) (by kernel_rfl) (by kernel_rfl) (by kernel_rfl) (by kernel_rfl) (by kernel_rfl) (fun _ _ _ h => h) (by decide) (Or.inl ⟨by rfl, ?_⟩) hHeld ?_
                rotate_left
                · (intro w hSw; (try dsimp only at hSw); go_simp; (try with_reducible rfl))
                simp only [List.set_cons_zero, List.set_cons_succ]
                refine f_takeC (i := 1) (d := 81) (v := ?_) [1] rfl rfl (by kernel_rfl) (by kernel_rfl) (by kernel_rfl) (by kernel_rfl) (by kernel_rfl) (by kernel_rfl) (fun _ _ _ h => h) (by decide) (Or.inl ⟨by rfl, ?_⟩) hHeld ?_
                rotate_left
                · (intro w hSw; (try dsimp only at hSw); go_simp; (try with_reducible rfl))
                simp only [List.set_cons_zero, List.set_cons_succ]
                refine f_takeC (i := 2) (d := 82) (v := ?_) [2] rfl rfl (by kernel_rfl) (by kernel_rfl) (by kernel_rfl) (by kernel_rfl) (by kernel_rfl) (by kernel_rfl) (fun _ _ _ h => h) (by decide) (Or.inl ⟨by rfl, ?_⟩) hHeld ?_
                rotate_left
                · (intro w hSw; (try dsimp only at hSw); go_simp; (try with_reducible rfl))
                simp only [List.set_cons_zero, List.set_cons_succ]
                refine f_takeC (i := 3) (d := 83) (v := ?_) [3] rfl rfl (by kernel_rfl) (by kernel_rfl) (by kernel_rfl) (by kernel_rfl) (by kernel_rfl) (by kernel_rfl) (fun _ _ _ h => h) (by decide) (Or.inl ⟨by rfl, ?_⟩) hHeld ?_
                rotate_left
                · (intro w hSw; (try dsimp only at hSw); go_simp; (try with_reducible rfl))
                simp only [List.set_cons_zero, List.set_cons_succ]
                refine f_takeC (i := 4) (d := 84) (v := ?_) [4] rfl rfl (by kernel_rfl) (by kernel_rfl) (by kernel_rfl) (by kernel_rfl) (by kernel_rfl) (by kernel_rfl) (fun _ _ _ h => h) (by decide) (Or.inl ⟨by rfl, ?_⟩) hHeld ?_
                rotate_left
                · (intro w hSw; (try dsimp only at hSw); go_simp; (try with_reducible rfl))
                simp only [List.set_cons_zero, List.set_cons_succ]
                refine f_takeC (i := 5) (d := 85) (v := ?_) [5] rfl rfl (by kernel_rfl) (by kernel_rfl) (by kernel_rfl) (by kernel_rfl) (by kernel_rfl) (by kernel_rfl) (fun _ _ _ h => h) (by decide) (Or.inl ⟨by rfl, ?_⟩) hHeld ?_
                rotate_left
                · (intro w hSw; (try dsimp only at hSw); go_simp; (try with_reducible rfl))
                simp only [List.set_cons_zero, List.set_cons_succ]
                refine f_takeC (i := 6) (d := 86) (v := ?_) [6] rfl rfl (by kernel_rfl) (by kernel_rfl) (by kernel_rfl) (by kernel_rfl) (by kernel_rfl) (by kernel_rfl) (fun _ _ _ h => h) (by decide) (Or.inl ⟨by rfl, ?_⟩) hHeld ?_
                rotate_left
                · (intro w hSw; (try dsimp only at hSw); go_simp; (try with_reducible rfl))
                simp only [List.set_cons_zero, List.set_cons_succ]
                refine f_takeC (i := 7) (d := 87) (v := ?_) [7] rfl rfl (by kernel_rfl) (by kernel_rfl) (by kernel_rfl) (by kernel_rfl) (by kernel_rfl) (by kernel_rfl) (fun _ _ _ h => h) (by decide) (Or.inl ⟨by rfl, ?_⟩) hHeld ?_
                rotate_left
                · (intro w hSw; (try dsimp only at hSw); go_simp; (try with_reducible rfl))
                simp only [List.set_cons_zero, List.set_cons_succ]
                refine f_takeC (i := 8) (d := 88) (v := ?_) [8] rfl rfl (by kernel_rfl) (by kernel_rfl) (by kernel_rfl) (by kernel_rfl) (by kernel_rfl) (by kernel_rfl) (fun _ _ _ h => h) (by decide) (Or.inl ⟨by rfl, ?_⟩) hHeld ?_
                rotate_left
                · (intro w hSw; (try dsimp only at hSw); go_simp; (try with_reducible rfl))
                simp only [List.set_cons_zero, List.set_cons_succ]
                refine f_last (i := 9) (by kernel_rfl) rfl (by simp) (fun K hK => ?_)
                have hof := hC.nx.frozen
                have hol := hC.nx.lt
                have hoc := hC.nx.cell 0 _ rfl
                go_simp
                replace hC := hC.next0 (n0 + (N : Nat))
                clear hof hol hoc
                refine hK.out _ _ ?_ (fun hHeld => ?_)
                · exact trivial
                clear hK K
                (try simp only [Act.put]); (try simp only [List.setIfInBounds_toArray]); (try simp only [List.set_cons_succ]); (try simp only [List.set_cons_zero])
                refine f_done (by kernel_rfl) ?_ _
                clear hnx hnx_0 hnx_l hnx_f hX_4 hX_5
                obtain ⟨w8, hyy8⟩ : ∃ u, (w5.setCell ⟨Q.bT, 0, none⟩ (.int .i64 (n0 + (N : Nat)))).drew = u := ⟨_, rfl⟩
                have hy9 : w5.drew.setCell ⟨Q.bT, 0, none⟩ (.int .i64 (n0 + (N : Nat))) = w8 := hyy8
                rw [hy9] at hC
                rw [show IntKind.i64.wrap (n0 + (N : Nat)) = n0 + (N : Nat) from IntWalk.i64_in _ (by omega), hyy8]
                clear hyy8 hy9
                have hou_l' := hC.ou.lt
                have hou_1' := hC.ou.cell 1 _ rfl
                clear hX_l hX_0 hX
                have hkn1 : k + 1 ≤ 3000000 := by omega
                go_wp2_with (at_builtin; refine ap_hdv (y := (⟨S, N, c5⟩ : Hd)) rfl rfl rfl (by have := (hC.keep ((Bl.refl _).alloc (.cells #[.slice S N c5] 27))).wi; rw [HSL.out] at this; exact this) rfl (rd_hd1 _ (⟨S, N, c5⟩ : Hd)) (by omega) (hC.keep ((Bl.refl _).alloc (.cells #[.slice S N c5] 27))).bl.sz ?_; intro WA4 c4 y4 ho4 hg4 hat4; replace hC := (hC.keep ((Bl.refl _).alloc (.cells #[.slice S N c5] 27))).pushW (y := (⟨S, N, c5⟩ : Hd)) (by rw [HSL.out]; exact ho4) hg4 hat4; clear ho4 hg4 hat4 hou_l' hou_1'; have hou_l' := hC.ou.lt; have hou_f' := hC.ou.frozen; have hou_1' := hC.ou.cell 1 _ rfl)
                clear hou_l' hou_f' hou_1'
                replace hC := hC.store 1 (.slice WA4 (k + 1) c4)
                obtain ⟨cG, hMk, _⟩ := hC.mkr
                have hgc := hMk.cell 2 _ rfl
                have hMk_l := hMk.lt
                clear hMk
                generalize hyy : y4.setCell ⟨Q.bO, 1, none⟩ (.slice WA4 (k + 1) c4) = yy at hC hgc hMk_l ⊢
                clear hyy
                generalize hWZ : y4.heap.size = tz at hC
                clear hWZ
                refine region_F (fun _ => True) (fun w' => w'.cell? ⟨Q.bO, 2, none⟩ = some (.slice EA k ec) ∧ w'.cell? ⟨Q.x, 2, none⟩ = some (.slice A1 nG cG)) 11 (by kernel_rfl) ?_ (fun hHeld => ?_)
                · (try dsimp only); exact ⟨trivial, hC.ou.cell 2 _ rfl, hgc⟩
                replace hC := hC.keep ((Bl.refl _).drew)
                replace hgc := Bl.cells ((Bl.refl _).drew) hgc
                generalize yy.drew = y0 at hC hgc hHeld ⊢
                refine f_takeC (i := 0) (d := 147) (v := ?_) [0] rfl rfl (by kernel_rfl) (by kernel_rfl) (by kernel_rfl) (by kernel_rfl) (by kernel_rfl) (by kernel_rfl) (fun _ _ _ h => h) (by decide) (Or.inl ⟨by rfl, ?_⟩) hHeld ?_
                rotate_left
                · (intro w hSw; (try dsimp only at hSw); go_simp; (try with_reducible rfl))
                simp only [List.set_cons_zero, List.set_cons_succ]
                refine f_takeC (i := 1) (d := 148) (v := ?_) [1] rfl rfl (by kernel_rfl) (by kernel_rfl) (by kernel_rfl) (by kernel_rfl) (by kernel_rfl) (by kernel_rfl) (fun _ _ _ h => h) (by decide) (Or.inl ⟨by rfl, ?_⟩) hHeld ?_
                rotate_left
                · (intro w hSw; (try dsimp only at hSw); go_simp; (try with_reducible rfl))
                simp only [List.set_cons_zero, List.set_cons_succ]
                refine f_takeC (i := 2) (d := 149) (v := ?_) [2] rfl rfl (by kernel_rfl) (by kernel_rfl) (by kernel_rfl) (by kernel_rfl) (by kernel_rfl) (by kernel_rfl) (fun _ _ _ h => h) (by decide) (Or.inl ⟨by rfl, ?_⟩) hHeld ?_
                rotate_left
                · (intro w hSw; (try dsimp only at hSw); go_simp; (try with_reducible rfl))
                simp only [List.set_cons_zero, List.set_cons_succ]
                refine f_takeC (i := 3) (d := 150) (v := ?_) [3] rfl rfl (by kernel_rfl) (by kernel_rfl) (by kernel_rfl) (by kernel_rfl) (by kernel_rfl) (by kernel_rfl) (fun _ _ _ h => h) (by decide) (Or.inl ⟨by rfl, ?_⟩) hHeld ?_
                rotate_left
                · (intro w hSw; (try dsimp only at hSw); go_simp; (try with_reducible rfl))
                simp only [List.set_cons_zero, List.set_cons_succ]
                refine f_takeC (i := 4) (d := 151) (v := ?_) [4] rfl rfl (by kernel_rfl) (by kernel_rfl) (by kernel_rfl) (by kernel_rfl) (by kernel_rfl) (by kernel_rfl) (fun _ _ _ h => h) (by decide) (Or.inl ⟨by rfl, ?_⟩) hHeld ?_
                rotate_left
                · (intro w hSw; (try dsimp only at hSw); go_simp; (try with_reducible rfl))
                simp only [List.set_cons_zero, List.set_cons_succ]
                refine f_takeC (i := 5) (d := 152) (v := ?_) [5] rfl rfl (by kernel_rfl) (by kernel_rfl) (by kernel_rfl) (by kernel_rfl) (by kernel_rfl) (by kernel_rfl) (fun _ _ _ h => h) (by decide) (Or.inl ⟨by rfl, ?_⟩) hHeld ?_
                rotate_left
                · (intro w hSw; (try dsimp only at hSw); go_simp; (try with_reducible rfl))
                simp only [List.set_cons_zero, List.set_cons_succ]
                refine f_takeC (i := 6) (d := 153) (v := ?_) [6] rfl rfl (by kernel_rfl) (by kernel_rfl) (by kernel_rfl) (by kernel_rfl) (by kernel_rfl) (by kernel_rfl) (fun _ _ _ h => h) (by decide) (Or.inl ⟨by rfl, ?_⟩) hHeld ?_
                rotate_left
                · (intro w hSw; (try dsimp only at hSw); go_simp; (try with_reducible rfl))
                simp only [List.set_cons_zero, List.set_cons_succ]
                refine f_takeC (i := 7) (d := 154) (v := ?_) [7] rfl rfl (by kernel_rfl) (by kernel_rfl) (by kernel_rfl) (by kernel_rfl) (by kernel_rfl) (by kernel_rfl) (fun _ _ _ h => h) (by decide) (Or.inl ⟨by rfl, ?_⟩) hHeld ?_
                rotate_left
                · (intro w hSw; (try dsimp only at hSw); go_simp; (try with_reducible rfl))
                simp only [List.set_cons_zero, List.set_cons_succ]
                refine f_step (i := 8) (by kernel_rfl) rfl (fun K hK => ?_)
                go_simp
                have hIL := rd_new1 y0 3 ((nG : Nat) : Int)
                replace hC := hC.keep ((Bl.refl _).alloc (.cells #[.int .i64 (nG : Nat)] 3))
                replace hgc := Bl.cells ((Bl.refl _).alloc (.cells #[.int .i64 (nG : Nat)] 3)) hgc
                generalize y0.alloc (.cells #[.int .i64 (nG : Nat)] 3) = y8 at hC hgc hIL ⊢
                generalize y0.heap.size = z8 at hIL ⊢
                refine hK.out _ _ ?_ (fun hHeld => ?_)
                · (try dsimp only); exact ⟨trivial, hC.ou.cell 2 _ rfl, hgc⟩
                clear hK K
                (try simp only [Act.put]); (try simp only [List.setIfInBounds_toArray]); (try simp only [List.set_cons_succ]); (try simp only [List.set_cons_zero])
                refine f_step (i := 9) (by kernel_rfl) rfl (fun K hK => ?_)
                refine ap_int_step rfl rfl rfl hC.en rfl hIL (by omega) hC.bl.sz ?_; intro EA4 c14 y9 ho14 hg14 hat14; replace hgc := hg14.cell hgc (fun e => hC.at_ 4 rfl (j := 0) rfl (by decide) _ e.symm rfl); replace hC := hC.pushE ho14 hg14 hat14; clear ho14 hg14 hat14 hIL
                refine hK.out _ _ ?_ (fun hHeld => ?_)
                · (try dsimp only); exact ⟨trivial, hC.ou.cell 2 _ rfl, hgc⟩
                clear hK K
                (try simp only [Act.put]); (try simp only [List.setIfInBounds_toArray]); (try simp only [List.set_cons_succ]); (try simp only [List.set_cons_zero])
                refine f_takeC (i := 10) (d := 157) (v := ?_) [10] rfl rfl (by kernel_rfl) (by kernel_rfl) (by kernel_rfl) (by kernel_rfl) (by kernel_rfl) (by kernel_rfl) (fun _ _ _ h => h) (by decide) (Or.inl ⟨by rfl, ?_⟩) hHeld ?_
                rotate_left
                · (intro w hSw; (try dsimp only at hSw); go_simp; (try with_reducible rfl))
                simp only [List.set_cons_zero, List.set_cons_succ]
                refine f_last (i := 11) (by kernel_rfl) rfl (by simp) (fun K hK => ?_)
                have hof := hC.ou.frozen
                have hol := hC.ou.lt
                have hoc := hC.ou.cell 2 _ rfl
                go_simp
                replace hC := hC.store 2 (.slice EA4 (k + 1) c14)
                clear hof hol hoc
                refine hK.out _ _ ?_ (fun hHeld => ?_)
                · exact trivial
                clear hK K
                (try simp only [Act.put]); (try simp only [List.setIfInBounds_toArray]); (try simp only [List.set_cons_succ]); (try simp only [List.set_cons_zero])
                refine f_done (by kernel_rfl) ?_ _
                go_wp2_with fail
                go_roundw
                case rel => exact ⟨k + 1, _, _, c4, c14, _, _, _, WA4, EA4, hs ++ [(⟨S, N, c5⟩ : Hd)], _, _, by omega, by go_num, by rw [HFIN.out]; exact HRS2.out.push HMEM.out, by rw [HFIN.out]; exact hC⟩
                case measure => simp [intOf]; omega
            · as_aux_lemma =>
                rw [hpt] at hX_4
                have HFIN := Lib.hid (show cp (k + 1) = ⟨g, ol, W ++ [rngL n1 N], n0, n1 + (N : Nat)⟩ by rw [HNX.out]; unfold cpN; rw [if_pos hk1, if_neg (by rw [hpt]; decide), hN]; rfl)
                have hnx := hC1.nx
                have hnx_1 := hnx.cell 1 _ rfl
                have hnx_l := hnx.lt
                have hK3 := Lib.hid (fun w' (hb : Bl wq w') => (⟨Bl.cells hb hX_4, Bl.cells hb hnx_1, Bl.cells hb hX_5⟩ : w'.cell? ⟨bX, 4, none⟩ = some (.int .i64 1) ∧ w'.cell? ⟨Q.bT, 1, none⟩ = some (.int .i64 n1) ∧ w'.cell? ⟨bX, 5, none⟩ = some (.int .i64 (N : Nat))))
                have hB3 := Bl.refl wq
                have hpos3 : 1 < 2 := by decide
                have HN := Lib.hid hN
                have HPT := Lib.hid hpt
                clear hN
                go_wp2_with fail
                refine wp_region_held_drew (S := (fun w' => w'.cell? ⟨bX, 4, none⟩ = some (.int .i64 1) ∧ w'.cell? ⟨Q.bT, 1, none⟩ = some (.int .i64 n1) ∧ w'.cell? ⟨bX, 5, none⟩ = some (.int .i64 (N : Nat)))) (by kernel_rfl) ?_ (fun hHeld => ?_)
                · (try dsimp only); exact hK3.out _ (by first | exact hB3 | exact hB3.drew)
                replace hB3 := hB3.drew
                refine held_take (i := 0) (d := 72) (v := ?_) rfl rfl (by kernel_rfl) (by kernel_rfl) (by kernel_rfl) (fun _ _ _ h => h) (Or.inl ⟨by rfl, ?_⟩) (by assumption) ?_
                rotate_left
                · (intro w hSw; (try dsimp only at hSw); go_simp; (try with_reducible rfl))
                (try simp only [List.set_cons_zero, List.set_cons_succ])
                refine held_take (i := 1) (d := 73) (v := ?_) rfl rfl (by kernel_rfl) (by kernel_rfl) (by kernel_rfl) (fun _ _ _ h => h) (Or.inl ⟨by rfl, ?_⟩) (by assumption) ?_
                rotate_left
                · (intro w hSw; (try dsimp only at hSw); go_simp; (try with_reducible rfl))
                (try simp only [List.set_cons_zero, List.set_cons_succ])
                refine held_take (i := 2) (d := 74) (v := ?_) rfl rfl (by kernel_rfl) (by kernel_rfl) (by kernel_rfl) (fun _ _ _ h => h) (Or.inl ⟨by rfl, ?_⟩) (by assumption) ?_
                rotate_left
                · (intro w hSw; (try dsimp only at hSw); go_simp; (try with_reducible rfl))
                (try simp only [List.set_cons_zero, List.set_cons_succ])
                refine held_take (i := 3) (d := 75) (v := ?_) rfl rfl (by kernel_rfl) (by kernel_rfl) (by kernel_rfl) (fun _ _ _ h => h) (Or.inl ⟨by rfl, ?_⟩) (by assumption) ?_
                rotate_left
                · (intro w hSw; (try dsimp only at hSw); go_simp; (try with_reducible rfl))
                (try simp only [List.set_cons_zero, List.set_cons_succ])
                refine held_take (i := 4) (d := 76) (v := ?_) rfl rfl (by kernel_rfl) (by kernel_rfl) (by kernel_rfl) (fun _ _ _ h => h) (Or.inl ⟨by rfl, ?_⟩) (by assumption) ?_
                rotate_left
                · (intro w hSw; (try dsimp only at hSw); go_simp; (try with_reducible rfl))
                (try simp only [List.set_cons_zero, List.set_cons_succ])
                refine held_take (i := 5) (d := 77) (v := ?_) rfl rfl (by kernel_rfl) (by kernel_rfl) (by kernel_rfl) (fun _ _ _ h => h) (Or.inl ⟨by rfl, ?_⟩) (by assumption) ?_
                rotate_left
                · (intro w hSw; (try dsimp only at hSw); go_simp; (try with_reducible rfl))
                (try simp only [List.set_cons_zero, List.set_cons_succ])
                refine held_take (i := 6) (d := 78) (v := ?_) rfl rfl (by kernel_rfl) (by kernel_rfl) (by kernel_rfl) (fun _ _ _ h => h) (Or.inl ⟨by rfl, ?_⟩) (by assumption) ?_
                rotate_left
                · (intro w hSw; (try dsimp only at hSw); go_simp; (try with_reducible rfl))
                (try simp only [List.set_cons_zero, List.set_cons_succ])
                refine wpAnyH_ready (rs := [7]) (by kernel_rfl) (by simp) ?_
                refine AllReadyH.cons rfl (fun K hK => ?_) AllReadyH.nil
                go_simp
                refine (spec_gdRange n1 N _ (by omega) (by have := HN.out; omega)).mono ?_; rintro e w5 ⟨S, c5, rfl, ho5, hb5⟩; replace hB3 := hB3.call hb5
                go_wp2_with fail
                refine hK.out _ _ ?_ (fun hHeld => ?_)
                · (try dsimp only); exact hK3.out _ (by first | exact hB3 | exact hB3.drew)
                clear hK K
                (try simp only [Act.put]); (try simp only [List.setIfInBounds_toArray]); (try simp only [List.set_cons_succ]); (try simp only [List.set_cons_zero])
                refine held_take (i := 8) (d := 13) (v := ?_) rfl rfl (by kernel_rfl) (by kernel_rfl) (by kernel_rfl) (fun _ _ _ h => h) (Or.inl ⟨by rfl, ?_⟩) (by assumption) ?_
                rotate_left
                · (intro w hSw; (try dsimp only at hSw); go_simp; (try with_reducible rfl))
                (try simp only [List.set_cons_zero, List.set_cons_succ])
                refine wpAnyH_done (by kernel_rfl) ?_ _
                have hC := (hC1.raise.keep hB3).fresh (OwnI.mono (base' := wq.heap.size) ho5 (by first | exact Nat.le_refl _ | simp))
                clear hX_0 hX_1 hX_2 hX_3 hX_4 hX_5 hX_6 hX_l hnx hnx_l hnx_1
                have hX := hX.keep hB3
                have hX_l := hX.lt
                have hX_0 := hX.cell 0 _ rfl
                have hX_4 := hX.cell 4 _ rfl
                have hX_5 := hX.cell 5 _ rfl
                rw [hk1] at hX_0
                rw [HPT.out] at hX_4
                rw [HN.out] at hX_5
                have hnx := hC.nx
                have hnx_1 := hnx.cell 1 _ rfl
                have hnx_l := hnx.lt
                have hnx_f := hnx.frozen
                have HMEM := Lib.hid (show ((⟨S, N, c5⟩ : Hd), rngL n1 N) ∈ rs ++ [((⟨S, N, c5⟩ : Hd), rngL n1 N)] by simp)
                have HRS2 := Lib.hid (HRS.out.mono (rs' := rs ++ [((⟨S, N, c5⟩ : Hd), rngL n1 N)]) (fun p hp => List.mem_append.2 (.inl hp)))
                clear ho5
                have hN10 : N ≤ 10 := by have := HN.out; omega
                have hwrN : wrap64 (n1 + (N : Nat)) = n1 + (N : Nat) := by unfold wrap64; omega
                go_wp2_with fail
                generalize hWZ : w5.heap.size = tz at hC
                clear hWZ
                refine region_F (fun _ => True) (fun w' => w'.cell? ⟨bX, 4, none⟩ = some (.int .i64 1) ∧ w'.cell? ⟨Q.bT, 1, none⟩ = some (.int .i64 n1) ∧ w'.cell? ⟨bX, 5, none⟩ = some (.int .i64 (N : Nat))) 9 (by kernel_rfl) ?_ (fun hHeld => ?_)
                · (try dsimp only); exact ⟨trivial, hX_4, hnx_1, hX_5⟩
                replace hC := hC.keep ((Bl.refl _).drew)
                replace hX := hX.drew
                refine f_takeC (i := 0) (d := 80) (v := ?_) [0] rfl rfl (by kernel_rfl) (by kernel_rfl) (by kernel_rfl) (by kernel_rfl) (by kernel_rfl) (by kernel_rfl) (fun _ _ _ h => h) (by decide) (Or.inl ⟨by rfl, ?_⟩) hHeld ?_
                rotate_left
                · (intro w hSw; (try dsimp only at hSw); go_simp; (try with_reducible rfl))
                simp only [List.set_cons_zero, List.set_cons_succ]
                refine f_takeC (i := 1) (d := 81) (v := ?_) [1] rfl rfl (by kernel_rfl) (by kernel_rfl) (by kernel_rfl) (by kernel_rfl) (by kernel_rfl) (by kernel_rfl) (fun _ _ _ h => h) (by decide) (Or.inl ⟨by rfl, ?_⟩) hHeld ?_
                rotate_left
                · (intro w hSw; (try dsimp only at hSw); go_simp; (try with_reducible rfl))
                simp only [List.set_cons_zero, List.set_cons_succ]
                refine f_takeC (i := 2) (d := 82) (v := ?_) [2] rfl rfl (by kernel_rfl) (by kernel_rfl) (by kernel_rfl) (by kernel_rfl) (by kernel_rfl) (by kernel_rfl) (fun _ _ _ h => h) (by decide) (Or.inl ⟨by rfl, ?_⟩) hHeld ?_
                rotate_left
                · (intro w hSw; (try dsimp only at hSw); go_simp; (try with_reducible rfl))
                simp only [List.set_cons_zero, List.set_cons_succ]
                refine f_takeC (i := 3) (d := 83) (v := ?_) [3] rfl rfl (by kernel_rfl) (by kernel_rfl) (by kernel_rfl) (by kernel_rfl) (by kernel_rfl) (by kernel_rfl) (fun _ _ _ h => h) (by decide) (Or.inl ⟨by rfl, ?_⟩) hHeld ?_
                rotate_left
                · (intro w hSw; (try dsimp only at hSw); go_simp; (try with_reducible rfl))
                simp only [List.set_cons_zero, List.set_cons_succ]
                refine f_takeC (i := 4) (d := 84) (v := ?_) [4] rfl rfl (by kernel_rfl) (by kernel_rfl) (by kernel_rfl) (by kernel_rfl) (by kernel_rfl) (by kernel_rfl) (fun _ _ _ h => h) (by decide) (Or.inl ⟨by rfl, ?_⟩) hHeld ?_
                rotate_left
                · (intro w hSw; (try dsimp only at hSw); go_simp; (try with_reducible rfl))
                simp only [List.set_cons_zero, List.set_cons_succ]
                refine f_takeC (i := 5) (d := 85) (v := ?_) [5] rfl rfl (by kernel_rfl) (by kernel_rfl) (by kernel_rfl) (by kernel_rfl) (by kernel_rfl) (by kernel_rfl) (fun _ _ _ h => h) (by decide) (Or.inl ⟨by rfl, ?_⟩) hHeld ?_
                rotate_left
                · (intro w hSw; (try dsimp only at hSw); go_simp; (try with_reducible rfl))
                simp only [List.set_cons_zero, List.set_cons_succ]
                refine f_takeC (i := 6) (d := 86) (v := ?_) [6] rfl rfl (by kernel_rfl) (by kernel_rfl) (by kernel_rfl) (by kernel_rfl) (by kernel_rfl) (by kernel_rfl) (fun _ _ _ h => h) (by decide) (Or.inl ⟨by rfl, ?_⟩) hHeld ?_
                rotate_left
                · (intro w hSw; (try dsimp only at hSw); go_simp; (try with_reducible rfl))
                simp only [List.set_cons_zero, List.set_cons_succ]
                refine f_takeC (i := 7) (d := 87) (v := ?_) [7] rfl rfl (by kernel_rfl) (by kernel_rfl) (by kernel_rfl) (by kernel_rfl) (by kernel_rfl) (by kernel_rfl) (fun _ _ _ h => h) (by decide) (Or.inl ⟨by rfl, ?_⟩) hHeld ?_
                rotate_left
                · (intro w hSw; (try dsimp only at hSw); go_simp; (try with_reducible rfl))
                simp only [List.set_cons_zero, List.set_cons_succ]
                refine f_takeC (i := 8) (d := 88) (v := ?_) [8] rfl rfl (by kernel_rfl) (by kernel_rfl) (by kernel_rfl) (by kernel_rfl) (by kernel_rfl) (by kernel_rfl) (fun _ _ _ h => h) (by decide) (Or.inl ⟨by rfl, ?_⟩) hHeld ?_
                rotate_left
                · (intro w hSw; (try dsimp only at hSw); go_simp; (try with_reducible rfl))
                simp only [List.set_cons_zero, List.set_cons_succ]
                refine f_last (i := 9) (by kernel_rfl) rfl (by simp) (fun K hK => ?_)
                have hof := hC.nx.frozen
                have hol := hC.nx.lt
                have hoc := hC.nx.cell 1 _ rfl
                go_simp
                replace hC := hC.next1 (n1 + (N : Nat))
                clear hof hol hoc
                refine hK.out _ _ ?_ (fun hHeld => ?_)
                · exact trivial
                clear hK K
                (try simp only [Act.put]); (try simp only [List.setIfInBounds_toArray]); (try simp only [List.set_cons_succ]); (try simp only [List.set_cons_zero])
                refine f_done (by kernel_rfl) ?_ _
                clear hnx hnx_1 hnx_l hnx_f hX_4 hX_5
                obtain ⟨w8, hyy8⟩ : ∃ u, (w5.setCell ⟨Q.bT, 1, none⟩ (.int .i64 (n1 + (N : Nat)))).drew = u := ⟨_, rfl⟩
                have hy9 : w5.drew.setCell ⟨Q.bT, 1, none⟩ (.int .i64 (n1 + (N : Nat))) = w8 := hyy8
                rw [hy9] at hC
                rw [show IntKind.i64.wrap (n1 + (N : Nat)) = n1 + (N : Nat) from IntWalk.i64_in _ (by omega), hyy8]
                clear hyy8 hy9
                have hou_l' := hC.ou.lt
                have hou_1' := hC.ou.cell 1 _ rfl
                clear hX_l hX_0 hX
                have hkn1 : k + 1 ≤ 3000000 := by omega
                go_wp2_with (at_builtin; refine ap_hdv (y := (⟨S, N, c5⟩ : Hd)) rfl rfl rfl (by have := (hC.keep ((Bl.refl _).alloc (.cells #[.slice S N c5] 27))).wi; rw [HSL.out] at this; exact this) rfl (rd_hd1 _ (⟨S, N, c5⟩ : Hd)) (by omega) (hC.keep ((Bl.refl _).alloc (.cells #[.slice S N c5] 27))).bl.sz ?_; intro WA4 c4 y4 ho4 hg4 hat4; replace hC := (hC.keep ((Bl.refl _).alloc (.cells #[.slice S N c5] 27))).pushW (y := (⟨S, N, c5⟩ : Hd)) (by rw [HSL.out]; exact ho4) hg4 hat4; clear ho4 hg4 hat4 hou_l' hou_1'; have hou_l' := hC.ou.lt; have hou_f' := hC.ou.frozen; have hou_1' := hC.ou.cell 1 _ rfl)
                clear hou_l' hou_f' hou_1'
                replace hC := hC.store 1 (.slice WA4 (k + 1) c4)
                obtain ⟨cG, hMk, _⟩ := hC.mkr
                have hgc := hMk.cell 2 _ rfl
                have hMk_l := hMk.lt
                clear hMk
                generalize hyy : y4.setCell ⟨Q.bO, 1, none⟩ (.slice WA4 (k + 1) c4) = yy at hC hgc hMk_l ⊢
                clear hyy
                generalize hWZ : y4.heap.size = tz at hC
                clear hWZ
                refine region_F (fun _ => True) (fun w' => w'.cell? ⟨Q.bO, 2, none⟩ = some (.slice EA k ec) ∧ w'.cell? ⟨Q.x, 2, none⟩ = some (.slice A1 nG cG)) 11 (by kernel_rfl) ?_ (fun hHeld => ?_)
                · (try dsimp only); exact ⟨trivial, hC.ou.cell 2 _ rfl, hgc⟩
                replace hC := hC.keep ((Bl.refl _).drew)
                replace hgc := Bl.cells ((Bl.refl _).drew) hgc
                generalize yy.drew = y0 at hC hgc hHeld ⊢
                refine f_takeC (i := 0) (d := 147) (v := ?_) [0] rfl rfl (by kernel_rfl) (by kernel_rfl) (by kernel_rfl) (by kernel_rfl) (by kernel_rfl) (by kernel_rfl) (fun _ _ _ h => h) (by decide) (Or.inl ⟨by rfl, ?_⟩) hHeld ?_
                rotate_left
                · (intro w hSw; (try dsimp only at hSw); go_simp; (try with_reducible rfl))
                simp only [List.set_cons_zero, List.set_cons_succ]
                refine f_takeC (i := 1) (d := 148) (v := ?_) [1] rfl rfl (by kernel_rfl) (by kernel_rfl) (by kernel_rfl) (by kernel_rfl) (by kernel_rfl) (by kernel_rfl) (fun _ _ _ h => h) (by decide) (Or.inl ⟨by rfl, ?_⟩) hHeld ?_
                rotate_left
                · (intro w hSw; (try dsimp only at hSw); go_simp; (try with_reducible rfl))
                simp only [List.set_cons_zero, List.set_cons_succ]
                refine f_takeC (i := 2) (d := 149) (v := ?_) [2] rfl rfl (by kernel_rfl) (by kernel_rfl) (by kernel_rfl) (by kernel_rfl) (by kernel_rfl) (by kernel_rfl) (fun _ _ _ h => h) (by decide) (Or.inl ⟨by rfl, ?_⟩) hHeld ?_
                rotate_left
                · (intro w hSw; (try dsimp only at hSw); go_simp; (try with_reducible rfl))
                simp only [List.set_cons_zero, List.set_cons_succ]
                refine f_takeC (i := 3) (d := 150) (v := ?_) [3] rfl rfl (by kernel_rfl) (by kernel_rfl) (by kernel_rfl) (by kernel_rfl) (by kernel_rfl) (by kernel_rfl) (fun _ _ _ h => h) (by decide) (Or.inl ⟨by rfl, ?_⟩) hHeld ?_
                rotate_left
                · (intro w hSw; (try dsimp only at hSw); go_simp; (try with_reducible rfl))
                simp only [List.set_cons_zero, List.set_cons_succ]
                refine f_takeC (i := 4) (d := 151) (v := ?_) [4] rfl rfl (by kernel_rfl) (by kernel_rfl) (by kernel_rfl) (by kernel_rfl) (by kernel_rfl) (by kernel_rfl) (fun _ _ _ h => h) (by decide) (Or.inl ⟨by rfl, ?_⟩) hHeld ?_
                rotate_left
                · (intro w hSw; (try dsimp only at hSw); go_simp; (try with_reducible rfl))
                simp only [List.set_cons_zero, List.set_cons_succ]
                refine f_takeC (i := 5) (d := 152) (v := ?_) [5] rfl rfl (by kernel_rfl) (by kernel_rfl) (by kernel_rfl) (by kernel_rfl) (by kernel_rfl) (by kernel_rfl) (fun _ _ _ h => h) (by decide) (Or.inl ⟨by rfl, ?_⟩) hHeld ?_
                rotate_left
                · (intro w hSw; (try dsimp only at hSw); go_simp; (try with_reducible rfl))
                simp only [List.set_cons_zero, List.set_cons_succ]
                refine f_takeC (i := 6) (d := 153) (v := ?_) [6] rfl rfl (by kernel_rfl) (by kernel_rfl) (by kernel_rfl) (by kernel_rfl) (by kernel_rfl) (by kernel_rfl) (fun _ _ _ h => h) (by decide) (Or.inl ⟨by rfl, ?_⟩) hHeld ?_
                rotate_left
                · (intro w hSw; (try dsimp only at hSw); go_simp; (try with_reducible rfl))
                simp only [List.set_cons_zero, List.set_cons_succ]
                refine f_takeC (i := 7) (d := 154) (v := ?_) [7] rfl rfl (by kernel_rfl) (by kernel_rfl) (by kernel_rfl) (by kernel_rfl) (by kernel_rfl) (by kernel_rfl) (fun _ _ _ h => h) (by decide) (Or.inl ⟨by rfl, ?_⟩) hHeld ?_
                rotate_left
                · (intro w hSw; (try dsimp only at hSw); go_simp; (try with_reducible rfl))
                simp only [List.set_cons_zero, List.set_cons_succ]
                refine f_step (i := 8) (by kernel_rfl) rfl (fun K hK => ?_)
                go_simp
                have hIL := rd_new1 y0 3 ((nG : Nat) : Int)
                replace hC := hC.keep ((Bl.refl _).alloc (.cells #[.int .i64 (nG : Nat)] 3))
                replace hgc := Bl.cells ((Bl.refl _).alloc (.cells #[.int .i64 (nG : Nat)] 3)) hgc
                generalize y0.alloc (.cells #[.int .i64 (nG : Nat)] 3) = y8 at hC hgc hIL ⊢
                generalize y0.heap.size = z8 at hIL ⊢
                refine hK.out _ _ ?_ (fun hHeld => ?_)
                · (try dsimp only); exact ⟨trivial, hC.ou.cell 2 _ rfl, hgc⟩
                clear hK K
                (try simp only [Act.put]); (try simp only [List.setIfInBounds_toArray]); (try simp only [List.set_cons_succ]); (try simp only [List.set_cons_zero])
                refine f_step (i := 9) (by kernel_rfl) rfl (fun K hK => ?_)
                refine ap_int_step rfl rfl rfl hC.en rfl hIL (by omega) hC.bl.sz ?_; intro EA4 c14 y9 ho14 hg14 hat14; replace hgc := hg14.cell hgc (fun e => hC.at_ 4 rfl (j := 0) rfl (by decide) _ e.symm rfl); replace hC := hC.pushE ho14 hg14 hat14; clear ho14 hg14 hat14 hIL
                refine hK.out _ _ ?_ (fun hHeld => ?_)
                · (try dsimp only); exact ⟨trivial, hC.ou.cell 2 _ rfl, hgc⟩
                clear hK K
                (try simp only [Act.put]); (try simp only [List.setIfInBounds_toArray]); (try simp only [List.set_cons_succ]); (try simp only [List.set_cons_zero])
                refine f_takeC (i := 10) (d := 157) (v := ?_) [10] rfl rfl (by kernel_rfl) (by kernel_rfl) (by kernel_rfl) (by kernel_rfl) (by kernel_rfl) (by kernel_rfl) (fun _ _ _ h => h) (by decide) (Or.inl ⟨by rfl, ?_⟩) hHeld ?_
                rotate_left
                · (intro w hSw; (try dsimp only at hSw); go_simp; (try with_reducible rfl))
                simp only [List.set_cons_zero, List.set_cons_succ]
                refine f_last (i := 11) (by kernel_rfl) rfl (by simp) (fun K hK => ?_)
                have hof := hC.ou.frozen
                have hol := hC.ou.lt
                have hoc := hC.ou.cell 2 _ rfl
                go_simp
                replace hC := hC.store 2 (.slice EA4 (k + 1) c14)
                clear hof hol hoc
                refine hK.out _ _ ?_ (fun hHeld => ?_)
                · exact trivial
                clear hK K
                (try simp only [Act.put]); (try simp only [List.setIfInBounds_toArray]); (try simp only [List.set_cons_succ]); (try simp only [List.set_cons_zero])
                refine f_done (by kernel_rfl) ?_ _
                go_wp2_with fail
                go_roundw
                case rel => exact ⟨k + 1, _, _, c4, c14, _, _, _, WA4, EA4, hs ++ [(⟨S, N, c5⟩ : Hd)], _, _, by omega, by go_num, by rw [HFIN.out]; exact HRS2.out.push HMEM.out, by rw [HFIN.out]; exact hC⟩
                case measure => simp [intOf]; omega
          · as_aux_lemma =>
            rw [hk1] at hX_0
            obtain ⟨⟨hw1, hw2⟩, hv1, hv2⟩ := HWK.out.k2 hk1
            obtain ⟨N, hN⟩ : ∃ N : Nat, x.wd = (N : Nat) := ⟨x.wd.toNat, by omega⟩
            have hng : nG ≤ 300 := by have := HNG.out; omega
            have hAX : A1.map (·.block) ≠ some bX := fun e => by have := hC.ltA.1 _ e; have := HBX.out; omega
            have hme := hC1.me
            rw [HT.out] at hme
            have hXt : Mx.t ⟨Q.x, Q.base, Q.a, Q.b, B1, ol.length, d, ol⟩ = a + b := by unfold Mx.t; rw [HAB.out.1, HAB.out.2]
            obtain ⟨⟨g2, l2⟩, hgr⟩ : ∃ p, lineS mulR (a + b) x P g = p := ⟨_, rfl⟩
            have HFIN := Lib.hid (show cp (k + 1) = ⟨g2, ol, W ++ [l2], n0, n1⟩ by rw [HNX.out]; unfold cpN; rw [if_neg (by rw [hk1]; decide)]; dsimp only; rw [HP.out, hgr, if_neg (by rw [hk1]; decide)])
            have hcall := spec_gdConst hme x.vl N ⟨hv1, hv2⟩ (by omega) (by omega)
            have hE : lineS mulR (a + b) x P g = (g ++ [⟨3, 0, 0⟩] ++ [⟨2, wn (a + b) nG, 0⟩], cstL (wn (a + b) (nG + 1)) x.vl N) := by unfold lineS cstL; rw [if_pos hk1, HNG.out, hN]; rfl
            rw [hXt] at hcall
            have hG2 := congrArg Prod.fst (hE.symm.trans hgr)
            have hL2 := congrArg Prod.snd (hE.symm.trans hgr)
            dsimp only at hG2 hL2
            rw [hG2, hL2] at hcall
            have HCALL := Lib.hid hcall
            rw [hN] at hX_5
            clear hcall hgr hme hE hG2 hL2 hN hw1 hw2 hXt hPP hPR hC
            go_wp2_with fail
            refine HCALL.out.mono ?_
            intro e w6 hres
            obtain ⟨A6, nG6, S6, m6, c6, rfl, hm6, hf6, hr6, hq6⟩ := hres
            rw [← HT.out] at hm6
            have hC := hC1.made hm6 hf6 hr6 hq6
            obtain rfl : l2.length = m6 := hr6.length
            have HMEM := Lib.hid (show ((⟨S6, l2.length, c6⟩ : Hd), l2) ∈ rs ++ [((⟨S6, l2.length, c6⟩ : Hd), l2)] by simp)
            have HRS2 := Lib.hid (HRS.out.mono (rs' := rs ++ [((⟨S6, l2.length, c6⟩ : Hd), l2)]) (fun p hp => List.mem_append.2 (.inl hp)))
            have hX := hX.fm hf6 (show bX ≠ Q.x by have := HCX.out; omega) hAX
            clear hC1 hm6 hf6 hq6 hr6 hX_1 hX_2 hX_3 hX_4 hX_5 hX_6
            have hou_l' := hC.ou.lt
            have hou_1' := hC.ou.cell 1 _ rfl
            clear hX_l hX_0 hX
            have hkn1 : k + 1 ≤ 3000000 := by omega
            go_wp2_with (at_builtin; refine ap_hdv (y := (⟨S6, l2.length, c6⟩ : Hd)) rfl rfl rfl (by have := (hC.keep ((Bl.refl _).alloc (.cells #[.slice S6 l2.length c6] 27))).wi; rw [HSL.out] at this; exact this) rfl (rd_hd1 _ (⟨S6, l2.length, c6⟩ : Hd)) (by omega) (hC.keep ((Bl.refl _).alloc (.cells #[.slice S6 l2.length c6] 27))).bl.sz ?_; intro WA4 c4 y4 ho4 hg4 hat4; replace hC := (hC.keep ((Bl.refl _).alloc (.cells #[.slice S6 l2.length c6] 27))).pushW (y := (⟨S6, l2.length, c6⟩ : Hd)) (by rw [HSL.out]; exact ho4) hg4 hat4; clear ho4 hg4 hat4 hou_l' hou_1'; have hou_l' := hC.ou.lt; have hou_f' := hC.ou.frozen; have hou_1' := hC.ou.cell 1 _ rfl)
            clear hou_l' hou_f' hou_1'
            replace hC := hC.store 1 (.slice WA4 (k + 1) c4)
            obtain ⟨cG, hMk, _⟩ := hC.mkr
            have hgc := hMk.cell 2 _ rfl
            have hMk_l := hMk.lt
            clear hMk
            generalize hyy : y4.setCell ⟨Q.bO, 1, none⟩ (.slice WA4 (k + 1) c4) = yy at hC hgc hMk_l ⊢
            clear hyy
            generalize hWZ : y4.heap.size = tz at hC
            clear hWZ
            refine region_F (fun _ => True) (fun w' => w'.cell? ⟨Q.bO, 2, none⟩ = some (.slice EA k ec) ∧ w'.cell? ⟨Q.x, 2, none⟩ = some (.slice A6 nG6 cG)) 11 (by kernel_rfl) ?_ (fun hHeld => ?_)
            · (try dsimp only); exact ⟨trivial, hC.ou.cell 2 _ rfl, hgc⟩
            replace hC := hC.keep ((Bl.refl _).drew)
            replace hgc := Bl.cells ((Bl.refl _).drew) hgc
            generalize yy.drew = y0 at hC hgc hHeld ⊢
            refine f_takeC (i := 0) (d := 147) (v := ?_) [0] rfl rfl (by kernel_rfl) (by kernel_rfl) (by kernel_rfl) (by kernel_rfl) (by kernel_rfl) (by kernel_rfl) (fun _ _ _ h => h) (by decide) (Or.inl ⟨by rfl, ?_⟩) hHeld ?_
            rotate_left
            · (intro w hSw; (try dsimp only at hSw); go_simp; (try with_reducible rfl))
            simp only [List.set_cons_zero, List.set_cons_succ]
            refine f_takeC (i := 1) (d := 148) (v := ?_) [1] rfl rfl (by kernel_rfl) (by kernel_rfl) (by kernel_rfl) (by kernel_rfl) (by kernel_rfl) (by kernel_rfl) (fun _ _ _ h => h) (by decide) (Or.inl ⟨by rfl, ?_⟩) hHeld ?_
            rotate_left
            · (intro w hSw; (try dsimp only at hSw); go_simp; (try with_reducible rfl))
            simp only [List.set_cons_zero, List.set_cons_succ]
            refine f_takeC (i := 2) (d := 149) (v := ?_) [2] rfl rfl (by kernel_rfl) (by kernel_rfl) (by kernel_rfl) (by kernel_rfl) (by kernel_rfl) (by kernel_rfl) (fun _ _ _ h => h) (by decide) (Or.inl ⟨by rfl, ?_⟩) hHeld ?_
            rotate_left
            · (intro w hSw; (try dsimp only at hSw); go_simp; (try with_reducible rfl))
            simp only [List.set_cons_zero, List.set_cons_succ]
            refine f_takeC (i := 3) (d := 150) (v := ?_) [3] rfl rfl (by kernel_rfl) (by kernel_rfl) (by kernel_rfl) (by kernel_rfl) (by kernel_rfl) (by kernel_rfl) (fun _ _ _ h => h) (by decide) (Or.inl ⟨by rfl, ?_⟩) hHeld ?_
            rotate_left
            · (intro w hSw; (try dsimp only at hSw); go_simp; (try with_reducible rfl))
            simp only [List.set_cons_zero, List.set_cons_succ]
            refine f_takeC (i := 4) (d := 151) (v := ?_) [4] rfl rfl (by kernel_rfl) (by kernel_rfl) (by kernel_rfl) (by kernel_rfl) (by kernel_rfl) (by kernel_rfl) (fun _ _ _ h => h) (by decide) (Or.inl ⟨by rfl, ?_⟩) hHeld ?_
            rotate_left
            · (intro w hSw; (try dsimp only at hSw); go_simp; (try with_reducible rfl))
            simp only [List.set_cons_zero, List.set_cons_succ]
            refine f_takeC (i := 5) (d := 152) (v := ?_) [5] rfl rfl (by kernel_rfl) (by kernel_rfl) (by kernel_rfl) (by kernel_rfl) (by kernel_rfl) (by kernel_rfl) (fun _ _ _ h => h) (by decide) (Or.inl ⟨by rfl, ?_⟩) hHeld ?_
            rotate_left
            · (intro w hSw; (try dsimp only at hSw); go_simp; (try with_reducible rfl))
            simp only [List.set_cons_zero, List.set_cons_succ]
            refine f_takeC (i := 6) (d := 153) (v := ?_) [6] rfl rfl (by kernel_rfl) (by kernel_rfl) (by kernel_rfl) (by kernel_rfl) (by kernel_rfl) (by kernel_rfl) (fun _ _ _ h => h) (by decide) (Or.inl ⟨by rfl, ?_⟩) hHeld ?_
            rotate_left
            · (intro w hSw; (try dsimp only at hSw); go_simp; (try with_reducible rfl))
            simp only [List.set_cons_zero, List.set_cons_succ]
            refine f_takeC (i := 7) (d := 154) (v := ?_) [7] rfl rfl (by kernel_rfl) (by kernel_rfl) (by kernel_rfl) (by kernel_rfl) (by kernel_rfl) (by kernel_rfl) (fun _ _ _ h => h) (by decide) (Or.inl ⟨by rfl, ?_⟩) hHeld ?_
            rotate_left
            · (intro w hSw; (try dsimp only at hSw); go_simp; (try with_reducible rfl))
            simp only [List.set_cons_zero, List.set_cons_succ]
            refine f_step (i := 8) (by kernel_rfl) rfl (fun K hK => ?_)
            go_simp
            have hIL := rd_new1 y0 3 ((nG6 : Nat) : Int)
            replace hC := hC.keep ((Bl.refl _).alloc (.cells #[.int .i64 (nG6 : Nat)] 3))
            replace hgc := Bl.cells ((Bl.refl _).alloc (.cells #[.int .i64 (nG6 : Nat)] 3)) hgc
            generalize y0.alloc (.cells #[.int .i64 (nG6 : Nat)] 3) = y8 at hC hgc hIL ⊢
            generalize y0.heap.size = z8 at hIL ⊢
            refine hK.out _ _ ?_ (fun hHeld => ?_)
            · (try dsimp only); exact ⟨trivial, hC.ou.cell 2 _ rfl, hgc⟩
            clear hK K
            (try simp only [Act.put]); (try simp only [List.setIfInBounds_toArray]); (try simp only [List.set_cons_succ]); (try simp only [List.set_cons_zero])
            refine f_step (i := 9) (by kernel_rfl) rfl (fun K hK => ?_)
            refine ap_int_step rfl rfl rfl hC.en rfl hIL (by omega) hC.bl.sz ?_; intro EA4 c14 y9 ho14 hg14 hat14; replace hgc := hg14.cell hgc (fun e => hC.at_ 4 rfl (j := 0) rfl (by decide) _ e.symm rfl); replace hC := hC.pushE ho14 hg14 hat14; clear ho14 hg14 hat14 hIL
            refine hK.out _ _ ?_ (fun hHeld => ?_)
            · (try dsimp only); exact ⟨trivial, hC.ou.cell 2 _ rfl, hgc⟩
            clear hK K
            (try simp only [Act.put]); (try simp only [List.setIfInBounds_toArray]); (try simp only [List.set_cons_succ]); (try simp only [List.set_cons_zero])
            refine f_takeC (i := 10) (d := 157) (v := ?_) [10] rfl rfl (by kernel_rfl) (by kernel_rfl) (by kernel_rfl) (by kernel_rfl) (by kernel_rfl) (by kernel_rfl) (fun _ _ _ h => h) (by decide) (Or.inl ⟨by rfl, ?_⟩) hHeld ?_
            rotate_left
            · (intro w hSw; (try dsimp only at hSw); go_simp; (try with_reducible rfl))
            simp only [List.set_cons_zero, List.set_cons_succ]
            refine f_last (i := 11) (by kernel_rfl) rfl (by simp) (fun K hK => ?_)
            have hof := hC.ou.frozen
            have hol := hC.ou.lt
            have hoc := hC.ou.cell 2 _ rfl
            go_simp
            replace hC := hC.store 2 (.slice EA4 (k + 1) c14)
            clear hof hol hoc
            refine hK.out _ _ ?_ (fun hHeld => ?_)
            · exact trivial
            clear hK K
            (try simp only [Act.put]); (try simp only [List.setIfInBounds_toArray]); (try simp only [List.set_cons_succ]); (try simp only [List.set_cons_zero])
            refine f_done (by kernel_rfl) ?_ _
            go_wp2_with fail
            go_roundw
            case rel => exact ⟨k + 1, _, _, c4, c14, _, _, _, WA4, EA4, hs ++ [(⟨S6, l2.length, c6⟩ : Hd)], _, _, by omega, by go_num, by rw [HFIN.out]; exact HRS2.out.push HMEM.out, by rw [HFIN.out]; exact hC⟩
            case measure => simp [intOf]; omega
          · as_aux_lemma =>
            rw [hk1] at hX_0
            obtain ⟨p, q, hps2, hop, hwpq, hwq1, hwq4⟩ := HWK.out.k3 hk1
            obtain ⟨N, hN⟩ : ∃ N : Nat, wsA pre (ws.take k) q = (N : Nat) := ⟨(wsA pre (ws.take k) q).toNat, by omega⟩
            obtain ⟨_, r1, _, _, _, hW1, hr1⟩ := HLW.out p (HWK.out.f p (by rw [hps2]; simp))
            obtain ⟨_, r2, _, _, _, hW2, hr2⟩ := HLW.out q (HWK.out.f q (by rw [hps2]; simp))
            have hPe : P = [r1, r2] := by rw [← HP.out, hps2]; show [W.getD (fndL pre p).toNat [], W.getD (fndL pre q).toNat []] = _; rw [hW1, hW2]
            subst hPe
            obtain rfl : j = 2 := by have := HPL.out; rw [hps2] at this; exact this.symm
            obtain ⟨y1, y2, rfl, m1, m2⟩ := hPR.two
            have hng : nG ≤ 300 := by have := HNG.out; omega
            have hAX : A1.map (·.block) ≠ some bX := fun e => by have := hC.ltA.1 _ e; have := HBX.out; omega
            have hCd0 := hC1.keep ((Bl.refl wq).drew)
            have hL1 := hCd0.lx m1
            have hle1 := hL1.rd.length
            have hL2 := hCd0.lx m2
            have hle2 := hL2.rd.length
            have hPA1 := hPP.rd
            obtain ⟨pa, hpa, hpb, pc0, hpc⟩ := p0_cell hPA1 (by omega)
            have hPq : pa.block ≠ Q.x ∧ A1.map (·.block) ≠ some pa.block := by
              have h1 := (hPP.blk pa.block (by rw [hpa]; rfl)).1
              refine ⟨by have := HCX.out; omega, fun e => by have := hC.ltA.1 _ e; have := HBX.out; omega⟩
            have hple := hPA1.cap
            have pc1 := hpc 1 _ rfl
            replace pc1 : wq.cell? ⟨pa.block, pa.off + 1, none⟩ = _ := pc1
            have hCd := hC1.keep ((Bl.refl wq).drew)
            have hme := hCd.me
            rw [HT.out] at hme
            have hXt : Mx.t ⟨Q.x, Q.base, Q.a, Q.b, B1, ol.length, d, ol⟩ = a + b := by unfold Mx.t; rw [HAB.out.1, HAB.out.2]
            obtain ⟨⟨g2, l2⟩, hgr⟩ : ∃ p, lineS mulR (a + b) x [r1, r2] g = p := ⟨_, rfl⟩
            have HFIN := Lib.hid (show cp (k + 1) = ⟨g2, ol, W ++ [l2], n0, n1⟩ by rw [HNX.out]; unfold cpN; rw [if_neg (by rw [hk1]; decide)]; dsimp only; rw [HP.out, hgr, if_neg (by rw [hk1]; decide)])
            have hyn1 : y1.n = N := by omega
            have hyn2 : y2.n = N := by omega
            rw [hyn1] at pc0
            rw [hyn2] at pc1
            have hcall := spec_two hme x.op hop y1.A y2.A N y1.c y2.c r1 r2 (by have := hL1; rw [hyn1] at this; exact this) (by have := hL2; rw [hyn2] at this; exact this) (by omega) (by omega) hng
            have hE : lineS mulR (a + b) x [r1, r2] g = twoS mulR (a + b) x.op r1 r2 g := by unfold lineS; rw [if_neg (by rw [hk1]; decide), if_pos hk1]; rfl
            rw [hXt] at hcall
            rw [← hE, hgr] at hcall
            dsimp only at hcall
            have HCALL := Lib.hid hcall
            clear hcall hgr hme hE hXt hN hPR hPP hpc hPA1
            go_wp2_with fail
            refine wp_region_held_drew (S := (fun w' => w'.cell? ⟨bX, 2, none⟩ = some (.string x.op) ∧ w'.cell? pa = some (.slice y1.A N y1.c) ∧ w'.cell? ⟨pa.block, pa.off + 1, none⟩ = some (.slice y2.A N y2.c))) (by kernel_rfl) ?_ (fun hHeld => ?_)
            · (try dsimp only); exact ⟨hX_2, pc0, pc1⟩
            refine held_take (i := 0) (d := 99) (v := ?_) rfl rfl (by kernel_rfl) (by kernel_rfl) (by kernel_rfl) (fun _ _ _ h => h) (Or.inl ⟨by rfl, ?_⟩) (by assumption) ?_
            rotate_left
            · (intro w hSw; (try dsimp only at hSw); go_simp; (try with_reducible rfl))
            (try simp only [List.set_cons_zero, List.set_cons_succ])
            refine held_take (i := 1) (d := 100) (v := ?_) rfl rfl (by kernel_rfl) (by kernel_rfl) (by kernel_rfl) (fun _ _ _ h => h) (Or.inl ⟨by rfl, ?_⟩) (by assumption) ?_
            rotate_left
            · (intro w hSw; (try dsimp only at hSw); go_simp; (try with_reducible rfl))
            (try simp only [List.set_cons_zero, List.set_cons_succ])
            refine held_take (i := 2) (d := 101) (v := ?_) rfl rfl (by kernel_rfl) (by kernel_rfl) (by kernel_rfl) (fun _ _ _ h => h) (Or.inl ⟨by rfl, ?_⟩) (by assumption) ?_
            rotate_left
            · (intro w hSw; (try dsimp only at hSw); go_simp; (try with_reducible rfl))
            (try simp only [List.set_cons_zero, List.set_cons_succ])
            refine held_take (i := 3) (d := 102) (v := ?_) rfl rfl (by kernel_rfl) (by kernel_rfl) (by kernel_rfl) (fun _ _ _ h => h) (Or.inl ⟨by rfl, ?_⟩) (by assumption) ?_
            rotate_left
            · (intro w hSw; (try dsimp only at hSw); go_simp; (try with_reducible rfl))
            (try simp only [List.set_cons_zero, List.set_cons_succ])
            refine held_take (i := 4) (d := 103) (v := ?_) rfl rfl (by kernel_rfl) (by kernel_rfl) (by kernel_rfl) (fun _ _ _ h => h) (Or.inl ⟨by rfl, ?_⟩) (by assumption) ?_
            rotate_left
            · (intro w hSw; (try dsimp only at hSw); go_simp; (try with_reducible rfl))
            (try simp only [List.set_cons_zero, List.set_cons_succ])
            refine held_take (i := 5) (d := 104) (v := ?_) rfl rfl (by kernel_rfl) (by kernel_rfl) (by kernel_rfl) (fun _ _ _ h => h) (Or.inl ⟨by rfl, ?_⟩) (by assumption) ?_
            rotate_left
            · (intro w hSw; (try dsimp only at hSw); go_simp; (try with_reducible rfl))
            (try simp only [List.set_cons_zero, List.set_cons_succ])
            refine held_take (i := 6) (d := 105) (v := ?_) rfl rfl (by kernel_rfl) (by kernel_rfl) (by kernel_rfl) (fun _ _ _ h => h) (Or.inl ⟨by rfl, ?_⟩) (by assumption) ?_
            rotate_left
            · (intro w hSw; (try dsimp only at hSw); go_simp; (try with_reducible rfl))
            (try simp only [List.set_cons_zero, List.set_cons_succ])
            refine held_take (i := 7) (d := 106) (v := ?_) rfl rfl (by kernel_rfl) (by kernel_rfl) (by kernel_rfl) (fun _ _ _ h => h) (Or.inl ⟨by rfl, ?_⟩) (by assumption) ?_
            rotate_left
            · (intro w hSw; (try dsimp only at hSw); go_simp; (try with_reducible rfl))
            (try simp only [List.set_cons_zero, List.set_cons_succ])
            refine held_take (i := 8) (d := 107) (v := ?_) rfl rfl (by kernel_rfl) (by kernel_rfl) (by kernel_rfl) (fun _ _ _ h => h) (Or.inl ⟨by rfl, ?_⟩) (by assumption) ?_
            rotate_left
            · (intro w hSw; (try dsimp only at hSw); go_simp; (try with_reducible rfl))
            (try simp only [List.set_cons_zero, List.set_cons_succ])
            refine wpAnyH_ready (rs := [9]) (by kernel_rfl) (by simp) ?_
            refine AllReadyH.cons rfl (fun K hK => ?_) AllReadyH.nil
            go_simp
            refine HCALL.out.mono ?_; intro e w6 hres; obtain ⟨A8, hf8⟩ := hres.fm_; replace hX_2 := hf8.cell hX_2 (show bX ≠ Q.x by have := HCX.out; omega) hAX; replace pc0 := hf8.cell pc0 hPq.1 hPq.2; replace pc1 := hf8.cell pc1 hPq.1 hPq.2; obtain ⟨A6, nG6, S6, m6, c6, rfl, hm6, hf6, hr6, hq6⟩ := hres
            go_wp2_with fail
            refine hK.out _ _ ?_ (fun hHeld => ?_)
            · (try dsimp only); exact ⟨hX_2, pc0, pc1⟩
            clear hK K
            (try simp only [Act.put]); (try simp only [List.setIfInBounds_toArray]); (try simp only [List.set_cons_succ]); (try simp only [List.set_cons_zero])
            refine held_take (i := 10) (d := 13) (v := ?_) rfl rfl (by kernel_rfl) (by kernel_rfl) (by kernel_rfl) (fun _ _ _ h => h) (Or.inl ⟨by rfl, ?_⟩) (by assumption) ?_
            rotate_left
            · (intro w hSw; (try dsimp only at hSw); go_simp; (try with_reducible rfl))
            (try simp only [List.set_cons_zero, List.set_cons_succ])
            refine wpAnyH_done (by kernel_rfl) ?_ _
            rw [← HT.out] at hm6
            have hC := (hC1.keep ((Bl.refl wq).drew)).made hm6 hf6 hr6 hq6
            replace hX := hX.drew
            obtain rfl : l2.length = m6 := hr6.length
            have HMEM := Lib.hid (show ((⟨S6, l2.length, c6⟩ : Hd), l2) ∈ rs ++ [((⟨S6, l2.length, c6⟩ : Hd), l2)] by simp)
            have HRS2 := Lib.hid (HRS.out.mono (rs' := rs ++ [((⟨S6, l2.length, c6⟩ : Hd), l2)]) (fun p hp => List.mem_append.2 (.inl hp)))
            have hX := hX.fm hf6 (show bX ≠ Q.x by have := HCX.out; omega) hAX
            clear hC1 hm6 hf6 hq6 hr6 hX_1 hX_3 hX_4 hX_5 hX_6
            have hou_l' := hC.ou.lt
            have hou_1' := hC.ou.cell 1 _ rfl
            clear hX_l hX_0 hX
            have hkn1 : k + 1 ≤ 3000000 := by omega
            go_wp2_with (at_builtin; refine ap_hdv (y := (⟨S6, l2.length, c6⟩ : Hd)) rfl rfl rfl (by have := (hC.keep ((Bl.refl _).alloc (.cells #[.slice S6 l2.length c6] 27))).wi; rw [HSL.out] at this; exact this) rfl (rd_hd1 _ (⟨S6, l2.length, c6⟩ : Hd)) (by omega) (hC.keep ((Bl.refl _).alloc (.cells #[.slice S6 l2.length c6] 27))).bl.sz ?_; intro WA4 c4 y4 ho4 hg4 hat4; replace hC := (hC.keep ((Bl.refl _).alloc (.cells #[.slice S6 l2.length c6] 27))).pushW (y := (⟨S6, l2.length, c6⟩ : Hd)) (by rw [HSL.out]; exact ho4) hg4 hat4; clear ho4 hg4 hat4 hou_l' hou_1'; have hou_l' := hC.ou.lt; have hou_f' := hC.ou.frozen; have hou_1' := hC.ou.cell 1 _ rfl)
            clear hou_l' hou_f' hou_1'
            replace hC := hC.store 1 (.slice WA4 (k + 1) c4)
            obtain ⟨cG, hMk, _⟩ := hC.mkr
            have hgc := hMk.cell 2 _ rfl
            have hMk_l := hMk.lt
            clear hMk
            generalize hyy : y4.setCell ⟨Q.bO, 1, none⟩ (.slice WA4 (k + 1) c4) = yy at hC hgc hMk_l ⊢
            clear hyy
            generalize hWZ : y4.heap.size = tz at hC
            clear hWZ
            refine region_F (fun _ => True) (fun w' => w'.cell? ⟨Q.bO, 2, none⟩ = some (.slice EA k ec) ∧ w'.cell? ⟨Q.x, 2, none⟩ = some (.slice A6 nG6 cG)) 11 (by kernel_rfl) ?_ (fun hHeld => ?_)
            · (try dsimp only); exact ⟨trivial, hC.ou.cell 2 _ rfl, hgc⟩
            replace hC := hC.keep ((Bl.refl _).drew)
            replace hgc := Bl.cells ((Bl.refl _).drew) hgc
            generalize yy.drew = y0 at hC hgc hHeld ⊢
            refine f_takeC (i := 0) (d := 147) (v := ?_) [0] rfl rfl (by kernel_rfl) (by kernel_rfl) (by kernel_rfl) (by kernel_rfl) (by kernel_rfl) (by kernel_rfl) (fun _ _ _ h => h) (by decide) (Or.inl ⟨by rfl, ?_⟩) hHeld ?_
            rotate_left
            · (intro w hSw; (try dsimp only at hSw); go_simp; (try with_reducible rfl))
            simp only [List.set_cons_zero, List.set_cons_succ]
            refine f_takeC (i := 1) (d := 148) (v := ?_) [1] rfl rfl (by kernel_rfl) (by kernel_rfl) (by kernel_rfl) (by kernel_rfl) (by kernel_rfl) (by kernel_rfl) (fun _ _ _ h => h) (by decide) (Or.inl ⟨by rfl, ?_⟩) hHeld ?_
            rotate_left
            · (intro w hSw; (try dsimp only at hSw); go_simp; (try with_reducible rfl))
            simp only [List.set_cons_zero, List.set_cons_succ]
            refine f_takeC (i := 2) (d := 149) (v := ?_) [2] rfl rfl (by kernel_rfl) (by kernel_rfl) (by kernel_rfl) (by kernel_rfl) (by kernel_rfl) (by kernel_rfl) (fun _ _ _ h => h) (by decide) (Or.inl ⟨by rfl, ?_⟩) hHeld ?_
            rotate_left
            · (intro w hSw; (try dsimp only at hSw); go_simp; (try with_reducible rfl))
            simp only [List.set_cons_zero, List.set_cons_succ]
            refine f_takeC (i := 3) (d := 150) (v := ?_) [3] rfl rfl (by kernel_rfl) (by kernel_rfl) (by kernel_rfl) (by kernel_rfl) (by kernel_rfl) (by kernel_rfl) (fun _ _ _ h => h) (by decide) (Or.inl ⟨by rfl, ?_⟩) hHeld ?_
            rotate_left
            · (intro w hSw; (try dsimp only at hSw); go_simp; (try with_reducible rfl))
            simp only [List.set_cons_zero, List.set_cons_succ]
            refine f_takeC (i := 4) (d := 151) (v := ?_) [4] rfl rfl (by kernel_rfl) (by kernel_rfl) (by kernel_rfl) (by kernel_rfl) (by kernel_rfl) (by kernel_rfl) (fun _ _ _ h => h) (by decide) (Or.inl ⟨by rfl, ?_⟩) hHeld ?_
            rotate_left
            · (intro w hSw; (try dsimp only at hSw); go_simp; (try with_reducible rfl))
            simp only [List.set_cons_zero, List.set_cons_succ]
            refine f_takeC (i := 5) (d := 152) (v := ?_) [5] rfl rfl (by kernel_rfl) (by kernel_rfl) (by kernel_rfl) (by kernel_rfl) (by kernel_rfl) (by kernel_rfl) (fun _ _ _ h => h) (by decide) (Or.inl ⟨by rfl, ?_⟩) hHeld ?_
            rotate_left
            · (intro w hSw; (try dsimp only at hSw); go_simp; (try with_reducible rfl))
            simp only [List.set_cons_zero, List.set_cons_succ]
            refine f_takeC (i := 6) (d := 153) (v := ?_) [6] rfl rfl (by kernel_rfl) (by kernel_rfl) (by kernel_rfl) (by kernel_rfl) (by kernel_rfl) (by kernel_rfl) (fun _ _ _ h => h) (by decide) (Or.inl ⟨by rfl, ?_⟩) hHeld ?_
            rotate_left
            · (intro w hSw; (try dsimp only at hSw); go_simp; (try with_reducible rfl))
            simp only [List.set_cons_zero, List.set_cons_succ]
            refine f_takeC (i := 7) (d := 154) (v := ?_) [7] rfl rfl (by kernel_rfl) (by kernel_rfl) (by kernel_rfl) (by kernel_rfl) (by kernel_rfl) (by kernel_rfl) (fun _ _ _ h => h) (by decide) (Or.inl ⟨by rfl, ?_⟩) hHeld ?_
            rotate_left
            · (intro w hSw; (try dsimp only at hSw); go_simp; (try with_reducible rfl))
            simp only [List.set_cons_zero, List.set_cons_succ]
            refine f_step (i := 8) (by kernel_rfl) rfl (fun K hK => ?_)
            go_simp
            have hIL := rd_new1 y0 3 ((nG6 : Nat) : Int)
            replace hC := hC.keep ((Bl.refl _).alloc (.cells #[.int .i64 (nG6 : Nat)] 3))
            replace hgc := Bl.cells ((Bl.refl _).alloc (.cells #[.int .i64 (nG6 : Nat)] 3)) hgc
            generalize y0.alloc (.cells #[.int .i64 (nG6 : Nat)] 3) = y8 at hC hgc hIL ⊢
            generalize y0.heap.size = z8 at hIL ⊢
            refine hK.out _ _ ?_ (fun hHeld => ?_)
            · (try dsimp only); exact ⟨trivial, hC.ou.cell 2 _ rfl, hgc⟩
            clear hK K
            (try simp only [Act.put]); (try simp only [List.setIfInBounds_toArray]); (try simp only [List.set_cons_succ]); (try simp only [List.set_cons_zero])
            refine f_step (i := 9) (by kernel_rfl) rfl (fun K hK => ?_)
            refine ap_int_step rfl rfl rfl hC.en rfl hIL (by omega) hC.bl.sz ?_; intro EA4 c14 y9 ho14 hg14 hat14; replace hgc := hg14.cell hgc (fun e => hC.at_ 4 rfl (j := 0) rfl (by decide) _ e.symm rfl); replace hC := hC.pushE ho14 hg14 hat14; clear ho14 hg14 hat14 hIL
            refine hK.out _ _ ?_ (fun hHeld => ?_)
            · (try dsimp only); exact ⟨trivial, hC.ou.cell 2 _ rfl, hgc⟩
            clear hK K
            (try simp only [Act.put]); (try simp only [List.setIfInBounds_toArray]); (try simp only [List.set_cons_succ]); (try simp only [List.set_cons_zero])
            refine f_takeC (i := 10) (d := 157) (v := ?_) [10] rfl rfl (by kernel_rfl) (by kernel_rfl) (by kernel_rfl) (by kernel_rfl) (by kernel_rfl) (by kernel_rfl) (fun _ _ _ h => h) (by decide) (Or.inl ⟨by rfl, ?_⟩) hHeld ?_
            rotate_left
            · (intro w hSw; (try dsimp only at hSw); go_simp; (try with_reducible rfl))
            simp only [List.set_cons_zero, List.set_cons_succ]
            refine f_last (i := 11) (by kernel_rfl) rfl (by simp) (fun K hK => ?_)
            have hof := hC.ou.frozen
            have hol := hC.ou.lt
            have hoc := hC.ou.cell 2 _ rfl
            go_simp
            replace hC := hC.store 2 (.slice EA4 (k + 1) c14)
            clear hof hol hoc
            refine hK.out _ _ ?_ (fun hHeld => ?_)
            · exact trivial
            clear hK K
            (try simp only [Act.put]); (try simp only [List.setIfInBounds_toArray]); (try simp only [List.set_cons_succ]); (try simp only [List.set_cons_zero])
            refine f_done (by kernel_rfl) ?_ _
            go_wp2_with fail
            go_roundw
            case rel => exact ⟨k + 1, _, _, c4, c14, _, _, _, WA4, EA4, hs ++ [(⟨S6, l2.length, c6⟩ : Hd)], _, _, by omega, by go_num, by rw [HFIN.out]; exact HRS2.out.push HMEM.out, by rw [HFIN.out]; exact hC⟩
            case measure => simp [intOf]; omega
          · as_aux_lemma =>
            rw [hk1] at hX_0
            obtain ⟨p, hps2, hwp1, hwp2⟩ := HWK.out.k4 hk1
            obtain ⟨N, hN⟩ : ∃ N : Nat, wsA pre (ws.take k) p = (N : Nat) := ⟨(wsA pre (ws.take k) p).toNat, by omega⟩
            obtain ⟨_, r1, _, _, _, hW1, hr1⟩ := HLW.out p (HWK.out.f p (by rw [hps2]; simp))
            have hPe : P = [r1] := by rw [← HP.out, hps2]; show [W.getD (fndL pre p).toNat []] = _; rw [hW1]
            subst hPe
            obtain rfl : j = 1 := by have := HPL.out; rw [hps2] at this; exact this.symm
            obtain ⟨y1, rfl, m1⟩ := hPR.one
            have hng : nG ≤ 300 := by have := HNG.out; omega
            have hAX : A1.map (·.block) ≠ some bX := fun e => by have := hC.ltA.1 _ e; have := HBX.out; omega
            have hL1 := hC1.lx m1
            have hle1 := hL1.rd.length
            have hPA1 := hPP.rd
            obtain ⟨pa, hpa, hpb, pc0, hpc⟩ := p0_cell hPA1 (by omega)
            have hPq : pa.block ≠ Q.x ∧ A1.map (·.block) ≠ some pa.block := by
              have h1 := (hPP.blk pa.block (by rw [hpa]; rfl)).1
              refine ⟨by have := HCX.out; omega, fun e => by have := hC.ltA.1 _ e; have := HBX.out; omega⟩
            have hple := hPA1.cap
            have hme := hC1.me
            rw [HT.out] at hme
            have hXt : Mx.t ⟨Q.x, Q.base, Q.a, Q.b, B1, ol.length, d, ol⟩ = a + b := by unfold Mx.t; rw [HAB.out.1, HAB.out.2]
            obtain ⟨⟨g2, l2⟩, hgr⟩ : ∃ p, lineS mulR (a + b) x [r1] g = p := ⟨_, rfl⟩
            have HFIN := Lib.hid (show cp (k + 1) = ⟨g2, ol, W ++ [l2], n0, n1⟩ by rw [HNX.out]; unfold cpN; rw [if_neg (by rw [hk1]; decide)]; dsimp only; rw [HP.out, hgr, if_neg (by rw [hk1]; decide)])
            have hyn1 : y1.n = N := by omega
            have hE : lineS mulR (a + b) x [r1] g = notS (a + b) r1 g N := by unfold lineS; rw [if_neg (by rw [hk1]; decide), if_neg (by rw [hk1]; decide), if_pos hk1]; show notS (a + b) r1 g r1.length = _; rw [show r1.length = N by omega]
            rw [hyn1] at pc0 hL1
            have hgr2 := hE.symm.trans hgr
            rw [← hXt] at hgr2
            have HGR := Lib.hid hgr2
            have hL0 := LE.start hme
            clear hgr hE hgr2 hXt hN hPR hpc hPA1 hPP hC hme
            subst hpa
            go_wp2_with fail
            have hxq := hL0.ms.lt
            go_loopw [13, 115] (fun o i wr => ∃ (t nt ct : Nat) (At S : Option Addr) (gt : List Gt) (lt : List Int), t ≤ N ∧ o = .slice S t ct ∧ i = .int .i64 (t : Nat) ∧ nt ≤ nG + t ∧ Hid (notS (Mx.t ⟨Q.x, Q.base, Q.a, Q.b, B1, ol.length, d, ol⟩) r1 g t = (gt, lt)) ∧ LE 102 ⟨Q.x, Q.base, Q.a, Q.b, B1, ol.length, d, ol⟩ wq wr A1 At nt gt S t ct lt) (fun _ i _ => N - (intOf i).toNat)
            case atStart => exact ⟨0, nG, 0, A1, none, g, [], by omega, rfl, rfl, by omega, Lib.hid rfl, hL0⟩
            case round =>
              clear hL0
              obtain ⟨t, nt, ct, At, S, gt, lt, ht, rfl, rfl, hnt, hSt, hL⟩ := hrel
              by_cases hlt3 : t < N
              · have ik3 : (t : Int) < N := by omega
                obtain ⟨ada, va, hea0, hea, hva⟩ := hL1.at_ hlt3
                have hva1 := hva _ _ hL.fm
                have HN := Lib.hid hnt
                have HS := Lib.hid (notS_s hSt.out hL.ms.len hea)
                rw [hea0]
                clear hva hSt hea hea0 hL1
                go_wp2_with (first | (go_at_call 131; refine (ms_not hL.ms (by omega) _).mono ?_; rintro e wz ⟨A9, rfl, hm9, hf9⟩; replace hL := hL.step hm9 hf9; clear hm9 hf9) | (at_builtin; refine ap_int rfl rfl rfl (hL.own.alloc _) rfl (rd_new1 _ _ _) (by omega) (by have := hL.fm.size; simp; omega) ?_; intro S9 c9 wz ho9 hg9 hat9; replace hL := hL.app hxq ho9 hg9 hat9; clear ho9 hg9 hat9))
                go_roundw
                case rel => exact ⟨t + 1, _, _, _, _, _, _, by omega, rfl, by go_num, by have := HN.out; omega, HS, hL⟩
                case measure => simp [intOf]; omega
              · have ik3 : ¬ (t : Int) < N := by omega
                have hkn3 : t = N := by omega
                subst hkn3
                have hg3 := hSt.out.symm.trans HGR.out
                injection hg3 with hg3 hl3
                subst hg3 hl3
                have hm6 := hL.ms
                rw [← HT.out] at hm6
                have hf6 := hL.fm
                have hC := hC1.made hm6 hf6 hL.own.rd (fun q hq => ⟨(hL.own.blk q hq).1, (hL.own.blk q hq).2, (hL.ap q hq).2⟩)
                have hX := hX.fm hf6 (show bX ≠ Q.x by have := HCX.out; omega) hAX
                have HMEM := Lib.hid (show ((⟨S, t, ct⟩ : Hd), lt) ∈ rs ++ [((⟨S, t, ct⟩ : Hd), lt)] by simp)
                have HRS2 := Lib.hid (HRS.out.mono (rs' := rs ++ [((⟨S, t, ct⟩ : Hd), lt)]) (fun p hp => List.mem_append.2 (.inl hp)))
                clear hC1 hm6 hf6 hL hX_1 hX_2 hX_3 hX_4 hX_5 hX_6
                have hou_l' := hC.ou.lt
                have hou_1' := hC.ou.cell 1 _ rfl
                clear hX_l hX_0 hX
                have hkn1 : k + 1 ≤ 3000000 := by omega
                go_wp2_with (at_builtin; refine ap_hdv (y := (⟨S, t, ct⟩ : Hd)) rfl rfl rfl (by have := (hC.keep ((Bl.refl _).alloc (.cells #[.slice S t ct] 27))).wi; rw [HSL.out] at this; exact this) rfl (rd_hd1 _ (⟨S, t, ct⟩ : Hd)) (by omega) (hC.keep ((Bl.refl _).alloc (.cells #[.slice S t ct] 27))).bl.sz ?_; intro WA4 c4 y4 ho4 hg4 hat4; replace hC := (hC.keep ((Bl.refl _).alloc (.cells #[.slice S t ct] 27))).pushW (y := (⟨S, t, ct⟩ : Hd)) (by rw [HSL.out]; exact ho4) hg4 hat4; clear ho4 hg4 hat4 hou_l' hou_1'; have hou_l' := hC.ou.lt; have hou_f' := hC.ou.frozen; have hou_1' := hC.ou.cell 1 _ rfl)
                clear hou_l' hou_f' hou_1'
                replace hC := hC.store 1 (.slice WA4 (k + 1) c4)
                obtain ⟨cG, hMk, _⟩ := hC.mkr
                have hgc := hMk.cell 2 _ rfl
                have hMk_l := hMk.lt
                clear hMk
                generalize hyy : y4.setCell ⟨Q.bO, 1, none⟩ (.slice WA4 (k + 1) c4) = yy at hC hgc hMk_l ⊢
                clear hyy
                generalize hWZ : y4.heap.size = tz at hC
                clear hWZ
                refine region_F (fun _ => True) (fun w' => w'.cell? ⟨Q.bO, 2, none⟩ = some (.slice EA k ec) ∧ w'.cell? ⟨Q.x, 2, none⟩ = some (.slice At nt cG)) 11 (by kernel_rfl) ?_ (fun hHeld => ?_)
                · (try dsimp only); exact ⟨trivial, hC.ou.cell 2 _ rfl, hgc⟩
                replace hC := hC.keep ((Bl.refl _).drew)
                replace hgc := Bl.cells ((Bl.refl _).drew) hgc
                generalize yy.drew = y0 at hC hgc hHeld ⊢
                refine f_takeC (i := 0) (d := 147) (v := ?_) [0] rfl rfl (by kernel_rfl) (by kernel_rfl) (by kernel_rfl) (by kernel_rfl) (by kernel_rfl) (by kernel_rfl) (fun _ _ _ h => h) (by decide) (Or.inl ⟨by rfl, ?_⟩) hHeld ?_
                rotate_left
                · (intro w hSw; (try dsimp only at hSw); go_simp; (try with_reducible rfl))
                simp only [List.set_cons_zero, List.set_cons_succ]
                refine f_takeC (i := 1) (d := 148) (v := ?_) [1] rfl rfl (by kernel_rfl) (by kernel_rfl) (by kernel_rfl) (by kernel_rfl) (by kernel_rfl) (by kernel_rfl) (fun _ _ _ h => h) (by decide) (Or.inl ⟨by rfl, ?_⟩) hHeld ?_
                rotate_left
                · (intro w hSw; (try dsimp only at hSw); go_simp; (try with_reducible rfl))
                simp only [List.set_cons_zero, List.set_cons_succ]
                refine f_takeC (i := 2) (d := 149) (v := ?_) [2] rfl rfl (by kernel_rfl) (by kernel_rfl) (by kernel_rfl) (by kernel_rfl) (by kernel_rfl) (by kernel_rfl) (fun _ _ _ h => h) (by decide) (Or.inl ⟨by rfl, ?_⟩) hHeld ?_
                rotate_left
                · (intro w hSw; (try dsimp only at hSw); go_simp; (try with_reducible rfl))
                simp only [List.set_cons_zero, List.set_cons_succ]
                refine f_takeC (i := 3) (d := 150) (v := ?_) [3] rfl rfl (by kernel_rfl) (by kernel_rfl) (by kernel_rfl) (by kernel_rfl) (by kernel_rfl) (by kernel_rfl) (fun _ _ _ h => h) (by decide) (Or.inl ⟨by rfl, ?_⟩) hHeld ?_
                rotate_left
                · (intro w hSw; (try dsimp only at hSw); go_simp; (try with_reducible rfl))
                simp only [List.set_cons_zero, List.set_cons_succ]
                refine f_takeC (i := 4) (d := 151) (v := ?_) [4] rfl rfl (by kernel_rfl) (by kernel_rfl) (by kernel_rfl) (by kernel_rfl) (by kernel_rfl) (by kernel_rfl) (fun _ _ _ h => h) (by decide) (Or.inl ⟨by rfl, ?_⟩) hHeld ?_
                rotate_left
                · (intro w hSw; (try dsimp only at hSw); go_simp; (try with_reducible rfl))
                simp only [List.set_cons_zero, List.set_cons_succ]
                refine f_takeC (i := 5) (d := 152) (v := ?_) [5] rfl rfl (by kernel_rfl) (by kernel_rfl) (by kernel_rfl) (by kernel_rfl) (by kernel_rfl) (by kernel_rfl) (fun _ _ _ h => h) (by decide) (Or.inl ⟨by rfl, ?_⟩) hHeld ?_
                rotate_left
                · (intro w hSw; (try dsimp only at hSw); go_simp; (try with_reducible rfl))
                simp only [List.set_cons_zero, List.set_cons_succ]
                refine f_takeC (i := 6) (d := 153) (v := ?_) [6] rfl rfl (by kernel_rfl) (by kernel_rfl) (by kernel_rfl) (by kernel_rfl) (by kernel_rfl) (by kernel_rfl) (fun _ _ _ h => h) (by decide) (Or.inl ⟨by rfl, ?_⟩) hHeld ?_
                rotate_left
                · (intro w hSw; (try dsimp only at hSw); go_simp; (try with_reducible rfl))
                simp only [List.set_cons_zero, List.set_cons_succ]
                refine f_takeC (i := 7) (d := 154) (v := ?_) [7] rfl rfl (by kernel_rfl) (by kernel_rfl) (by kernel_rfl) (by kernel_rfl) (by kernel_rfl) (by kernel_rfl) (fun _ _ _ h => h) (by decide) (Or.inl ⟨by rfl, ?_⟩) hHeld ?_
                rotate_left
                · (intro w hSw; (try dsimp only at hSw); go_simp; (try with_reducible rfl))
                simp only [List.set_cons_zero, List.set_cons_succ]
                refine f_step (i := 8) (by kernel_rfl) rfl (fun K hK => ?_)
                go_simp
                have hIL := rd_new1 y0 3 ((nt : Nat) : Int)
                replace hC := hC.keep ((Bl.refl _).alloc (.cells #[.int .i64 (nt : Nat)] 3))
                replace hgc := Bl.cells ((Bl.refl _).alloc (.cells #[.int .i64 (nt : Nat)] 3)) hgc
                generalize y0.alloc (.cells #[.int .i64 (nt : Nat)] 3) = y8 at hC hgc hIL ⊢
                generalize y0.heap.size = z8 at hIL ⊢
                refine hK.out _ _ ?_ (fun hHeld => ?_)
                · (try dsimp only); exact ⟨trivial, hC.ou.cell 2 _ rfl, hgc⟩
                clear hK K
                (try simp only [Act.put]); (try simp only [List.setIfInBounds_toArray]); (try simp only [List.set_cons_succ]); (try simp only [List.set_cons_zero])
                refine f_step (i := 9) (by kernel_rfl) rfl (fun K hK => ?_)
                refine ap_int_step rfl rfl rfl hC.en rfl hIL (by omega) hC.bl.sz ?_; intro EA4 c14 y9 ho14 hg14 hat14; replace hgc := hg14.cell hgc (fun e => hC.at_ 4 rfl (j := 0) rfl (by decide) _ e.symm rfl); replace hC := hC.pushE ho14 hg14 hat14; clear ho14 hg14 hat14 hIL
                refine hK.out _ _ ?_ (fun hHeld => ?_)
                · (try dsimp only); exact ⟨trivial, hC.ou.cell 2 _ rfl, hgc⟩
                clear hK K
                (try simp only [Act.put]); (try simp only [List.setIfInBounds_toArray]); (try simp only [List.set_cons_succ]); (try simp only [List.set_cons_zero])
                refine f_takeC (i := 10) (d := 157) (v := ?_) [10] rfl rfl (by kernel_rfl) (by kernel_rfl) (by kernel_rfl) (by kernel_rfl) (by kernel_rfl) (by kernel_rfl) (fun _ _ _ h => h) (by decide) (Or.inl ⟨by rfl, ?_⟩) hHeld ?_
                rotate_left
                · (intro w hSw; (try dsimp only at hSw); go_simp; (try with_reducible rfl))
                simp only [List.set_cons_zero, List.set_cons_succ]
                refine f_last (i := 11) (by kernel_rfl) rfl (by simp) (fun K hK => ?_)
                have hof := hC.ou.frozen
                have hol := hC.ou.lt
                have hoc := hC.ou.cell 2 _ rfl
                go_simp
                replace hC := hC.store 2 (.slice EA4 (k + 1) c14)
                clear hof hol hoc
                refine hK.out _ _ ?_ (fun hHeld => ?_)
                · exact trivial
                clear hK K
                (try simp only [Act.put]); (try simp only [List.setIfInBounds_toArray]); (try simp only [List.set_cons_succ]); (try simp only [List.set_cons_zero])
                refine f_done (by kernel_rfl) ?_ _
                go_wp2_with fail
                go_roundw
                case rel => exact ⟨k + 1, _, _, c4, c14, _, _, _, WA4, EA4, hs ++ [(⟨S, t, ct⟩ : Hd)], _, _, by omega, by go_num, by rw [HFIN.out]; exact HRS2.out.push HMEM.out, by rw [HFIN.out]; exact hC⟩
                case measure => simp [intOf]; omega
          · as_aux_lemma =>
            rw [hk1] at hX_0
            obtain ⟨p, q, r, hps2, hwp, hwqr, hwr1, hwr2⟩ := HWK.out.k5 hk1
            obtain ⟨N, hN⟩ : ∃ N : Nat, wsA pre (ws.take k) r = (N : Nat) := ⟨(wsA pre (ws.take k) r).toNat, by omega⟩
            obtain ⟨_, r1, _, _, _, hW1, hr1⟩ := HLW.out p (HWK.out.f p (by rw [hps2]; simp))
            obtain ⟨_, r2, _, _, _, hW2, hr2⟩ := HLW.out q (HWK.out.f q (by rw [hps2]; simp))
            obtain ⟨_, r3, _, _, _, hW3, hr3⟩ := HLW.out r (HWK.out.f r (by rw [hps2]; simp))
            have hPe : P = [r1, r2, r3] := by rw [← HP.out, hps2]; show [W.getD (fndL pre p).toNat [], W.getD (fndL pre q).toNat [], W.getD (fndL pre r).toNat []] = _; rw [hW1, hW2, hW3]
            subst hPe
            obtain rfl : j = 3 := by have := HPL.out; rw [hps2] at this; exact this.symm
            obtain ⟨y1, y2, y3, rfl, m1, m2, m3⟩ := hPR.three
            have hng : nG ≤ 300 := by have := HNG.out; omega
            have hAX : A1.map (·.block) ≠ some bX := fun e => by have := hC.ltA.1 _ e; have := HBX.out; omega
            have hCd0 := hC1.keep ((Bl.refl wq).drew)
            have hL1 := hCd0.lx m1
            have hle1 := hL1.rd.length
            have hL2 := hCd0.lx m2
            have hle2 := hL2.rd.length
            have hL3 := hCd0.lx m3
            have hle3 := hL3.rd.length
            have hPA1 := hPP.rd
            obtain ⟨pa, hpa, hpb, pc0, hpc⟩ := p0_cell hPA1 (by omega)
            have hPq : pa.block ≠ Q.x ∧ A1.map (·.block) ≠ some pa.block := by
              have h1 := (hPP.blk pa.block (by rw [hpa]; rfl)).1
              refine ⟨by have := HCX.out; omega, fun e => by have := hC.ltA.1 _ e; have := HBX.out; omega⟩
            have hple := hPA1.cap
            have pc1 := hpc 1 _ rfl
            replace pc1 : wq.cell? ⟨pa.block, pa.off + 1, none⟩ = _ := pc1
            have pc2 := hpc 2 _ rfl
            replace pc2 : wq.cell? ⟨pa.block, pa.off + 2, none⟩ = _ := pc2
            have hCd := hC1.keep ((Bl.refl wq).drew)
            have hme := hCd.me
            rw [HT.out] at hme
            have hXt : Mx.t ⟨Q.x, Q.base, Q.a, Q.b, B1, ol.length, d, ol⟩ = a + b := by unfold Mx.t; rw [HAB.out.1, HAB.out.2]
            obtain ⟨⟨g2, l2⟩, hgr⟩ : ∃ p, lineS mulR (a + b) x [r1, r2, r3] g = p := ⟨_, rfl⟩
            have HFIN := Lib.hid (show cp (k + 1) = ⟨g2, ol, W ++ [l2], n0, n1⟩ by rw [HNX.out]; unfold cpN; rw [if_neg (by rw [hk1]; decide)]; dsimp only; rw [HP.out, hgr, if_neg (by rw [hk1]; decide)])
            have hyn2 : y2.n = N := by omega
            have hyn3 : y3.n = N := by omega
            rw [hyn2] at pc1
            rw [hyn3] at pc2
            obtain ⟨sa, s, hsa, hs0, hsc⟩ := hL1.at_ (k := 0) (by omega)
            have HSA := Lib.hid (show sa.block ≠ Q.x ∧ A1.map (·.block) ≠ some sa.block from (hL1.ap sa.block (by rw [hsa]; rfl)).2)
            replace hsc := hsc wq.drew A1 (Fm.refl _ _ _)
            replace hsc : wq.cell? sa = _ := hsc
            rw [hsa] at pc0
            have hy1 : 0 < y1.n := by omega
            have jy1 : (0 : Int) < y1.n := by omega
            have hyc := hL1.le
            have hcall := spec_gdPick hme s y2.A y3.A N y2.c y3.c r2 r3 (by have := hL2; rw [hyn2] at this; exact this) (by have := hL3; rw [hyn3] at this; exact this) (by omega) (by omega)
            have hE : lineS mulR (a + b) x [r1, r2, r3] g = pickS (a + b) s r2 r3 g N := by unfold lineS; rw [if_neg (by rw [hk1]; decide), if_neg (by rw [hk1]; decide), if_neg (by rw [hk1]; decide), if_pos hk1]; show pickS (a + b) (r1.getD 0 0) r2 r3 g r2.length = _; rw [List.getD_eq_getElem?_getD, hs0, show r2.length = N by omega]; rfl
            rw [hXt] at hcall
            rw [← hE, hgr] at hcall
            dsimp only at hcall
            have HCALL := Lib.hid hcall
            clear hcall hgr hme hE hXt hN hPR hPP hpc hPA1
            go_wp2_with fail
            refine wp_region_held_drew (S := (fun w' => w'.cell? pa = some (.slice (some sa) y1.n y1.c) ∧ w'.cell? ⟨pa.block, pa.off + 1, none⟩ = some (.slice y2.A N y2.c) ∧ w'.cell? ⟨pa.block, pa.off + 2, none⟩ = some (.slice y3.A N y3.c) ∧ w'.cell? sa = some (.int .i64 s))) (by kernel_rfl) ?_ (fun hHeld => ?_)
            · (try dsimp only); exact ⟨pc0, pc1, pc2, hsc⟩
            refine held_take (i := 0) (d := 128) (v := ?_) rfl rfl (by kernel_rfl) (by kernel_rfl) (by kernel_rfl) (fun _ _ _ h => h) (Or.inl ⟨by rfl, ?_⟩) (by assumption) ?_
            rotate_left
            · (intro w hSw; (try dsimp only at hSw); go_simp; (try with_reducible rfl))
            (try simp only [List.set_cons_zero, List.set_cons_succ])
            refine held_take (i := 1) (d := 129) (v := ?_) rfl rfl (by kernel_rfl) (by kernel_rfl) (by kernel_rfl) (fun _ _ _ h => h) (Or.inl ⟨by rfl, ?_⟩) (by assumption) ?_
            rotate_left
            · (intro w hSw; (try dsimp only at hSw); go_simp; (try with_reducible rfl))
            (try simp only [List.set_cons_zero, List.set_cons_succ])
            refine held_take (i := 2) (d := 130) (v := ?_) rfl rfl (by kernel_rfl) (by kernel_rfl) (by kernel_rfl) (fun _ _ _ h => h) (Or.inl ⟨by rfl, ?_⟩) (by assumption) ?_
            rotate_left
            · (intro w hSw; (try dsimp only at hSw); go_simp; (try with_reducible rfl))
            (try simp only [List.set_cons_zero, List.set_cons_succ])
            refine held_take (i := 3) (d := 131) (v := ?_) rfl rfl (by kernel_rfl) (by kernel_rfl) (by kernel_rfl) (fun _ _ _ h => h) (Or.inl ⟨by rfl, ?_⟩) (by assumption) ?_
            rotate_left
            · (intro w hSw; (try dsimp only at hSw); go_simp; (try with_reducible rfl))
            (try simp only [List.set_cons_zero, List.set_cons_succ])
            refine held_take (i := 4) (d := 132) (v := ?_) rfl rfl (by kernel_rfl) (by kernel_rfl) (by kernel_rfl) (fun _ _ _ h => h) (Or.inl ⟨by rfl, ?_⟩) (by assumption) ?_
            rotate_left
            · (intro w hSw; (try dsimp only at hSw); go_simp; (try with_reducible rfl))
            (try simp only [List.set_cons_zero, List.set_cons_succ])
            refine held_take (i := 5) (d := 133) (v := ?_) rfl rfl (by kernel_rfl) (by kernel_rfl) (by kernel_rfl) (fun _ _ _ h => h) (Or.inl ⟨by rfl, ?_⟩) (by assumption) ?_
            rotate_left
            · (intro w hSw; (try dsimp only at hSw); go_simp; (try with_reducible rfl))
            (try simp only [List.set_cons_zero, List.set_cons_succ])
            refine held_take (i := 6) (d := 134) (v := ?_) rfl rfl (by kernel_rfl) (by kernel_rfl) (by kernel_rfl) (fun _ _ _ h => h) (Or.inl ⟨by rfl, ?_⟩) (by assumption) ?_
            rotate_left
            · (intro w hSw; (try dsimp only at hSw); go_simp; (try with_reducible rfl))
            (try simp only [List.set_cons_zero, List.set_cons_succ])
            refine held_take (i := 7) (d := 135) (v := ?_) rfl rfl (by kernel_rfl) (by kernel_rfl) (by kernel_rfl) (fun _ _ _ h => h) (Or.inl ⟨by rfl, ?_⟩) (by assumption) ?_
            rotate_left
            · (intro w hSw; (try dsimp only at hSw); go_simp; (try with_reducible rfl))
            (try simp only [List.set_cons_zero, List.set_cons_succ])
            refine held_take (i := 8) (d := 136) (v := ?_) rfl rfl (by kernel_rfl) (by kernel_rfl) (by kernel_rfl) (fun _ _ _ h => h) (Or.inl ⟨by rfl, ?_⟩) (by assumption) ?_
            rotate_left
            · (intro w hSw; (try dsimp only at hSw); go_simp; (try with_reducible rfl))
            (try simp only [List.set_cons_zero, List.set_cons_succ])
            refine held_take (i := 9) (d := 137) (v := ?_) rfl rfl (by kernel_rfl) (by kernel_rfl) (by kernel_rfl) (fun _ _ _ h => h) (Or.inl ⟨by rfl, ?_⟩) (by assumption) ?_
            rotate_left
            · (intro w hSw; (try dsimp only at hSw); go_simp; (try with_reducible rfl))
            (try simp only [List.set_cons_zero, List.set_cons_succ])
            refine held_take (i := 10) (d := 138) (v := ?_) rfl rfl (by kernel_rfl) (by kernel_rfl) (by kernel_rfl) (fun _ _ _ h => h) (Or.inl ⟨by rfl, ?_⟩) (by assumption) ?_
            rotate_left
            · (intro w hSw; (try dsimp only at hSw); go_simp; (try with_reducible rfl))
            (try simp only [List.set_cons_zero, List.set_cons_succ])
            refine held_take (i := 11) (d := 139) (v := ?_) rfl rfl (by kernel_rfl) (by kernel_rfl) (by kernel_rfl) (fun _ _ _ h => h) (Or.inl ⟨by rfl, ?_⟩) (by assumption) ?_
            rotate_left
            · (intro w hSw; (try dsimp only at hSw); go_simp; (try with_reducible rfl))
            (try simp only [List.set_cons_zero, List.set_cons_succ])
            refine wpAnyH_ready (rs := [12]) (by kernel_rfl) (by simp) ?_
            refine AllReadyH.cons rfl (fun K hK => ?_) AllReadyH.nil
            go_simp
            refine HCALL.out.mono ?_; intro e w6 hres; obtain ⟨A8, hf8⟩ := (show ∃ A8, Fm wq.drew w6 Q.x A1 A8 from by obtain ⟨A8, n8, S8, c8, _, hl8⟩ := hres; exact ⟨A8, hl8.fm⟩); replace pc0 := hf8.cell pc0 hPq.1 hPq.2; replace pc1 := hf8.cell pc1 hPq.1 hPq.2; replace pc2 := hf8.cell pc2 hPq.1 hPq.2; replace hsc := hf8.cell hsc HSA.out.1 HSA.out.2; have hres2 := hres; obtain ⟨A6, nG6, S6, c6, rfl, hLL⟩ := hres; have hr6 := hLL.own.rd; have hm6 := hLL.ms; have hf6 := hLL.fm; have hq6 := fun q hq => (⟨(hLL.own.blk q hq).1, (hLL.own.blk q hq).2, (hLL.ap q hq).2⟩ : wq.drew.heap.size ≤ q ∧ q < w6.heap.size ∧ A6.map (·.block) ≠ some q)
            go_wp2_with fail
            refine hK.out _ _ ?_ (fun hHeld => ?_)
            · (try dsimp only); exact ⟨pc0, pc1, pc2, hsc⟩
            clear hK K
            (try simp only [Act.put]); (try simp only [List.setIfInBounds_toArray]); (try simp only [List.set_cons_succ]); (try simp only [List.set_cons_zero])
            refine held_take (i := 13) (d := 13) (v := ?_) rfl rfl (by kernel_rfl) (by kernel_rfl) (by kernel_rfl) (fun _ _ _ h => h) (Or.inl ⟨by rfl, ?_⟩) (by assumption) ?_
            rotate_left
            · (intro w hSw; (try dsimp only at hSw); go_simp; (try with_reducible rfl))
            (try simp only [List.set_cons_zero, List.set_cons_succ])
            refine wpAnyH_done (by kernel_rfl) ?_ _
            rw [← HT.out] at hm6
            have hC := (hC1.keep ((Bl.refl wq).drew)).made hm6 hf6 hr6 hq6
            replace hX := hX.drew
            have HMEM := Lib.hid (show ((⟨S6, N, c6⟩ : Hd), l2) ∈ rs ++ [((⟨S6, N, c6⟩ : Hd), l2)] by simp)
            have HRS2 := Lib.hid (HRS.out.mono (rs' := rs ++ [((⟨S6, N, c6⟩ : Hd), l2)]) (fun p hp => List.mem_append.2 (.inl hp)))
            have hX := hX.fm hf6 (show bX ≠ Q.x by have := HCX.out; omega) hAX
            clear hC1 hm6 hf6 hq6 hr6 hX_1 hX_2 hX_3 hX_4 hX_5 hX_6
            have hou_l' := hC.ou.lt
            have hou_1' := hC.ou.cell 1 _ rfl
            clear hX_l hX_0 hX
            have hkn1 : k + 1 ≤ 3000000 := by omega
            go_wp2_with (at_builtin; refine ap_hdv (y := (⟨S6, N, c6⟩ : Hd)) rfl rfl rfl (by have := (hC.keep ((Bl.refl _).alloc (.cells #[.slice S6 N c6] 27))).wi; rw [HSL.out] at this; exact this) rfl (rd_hd1 _ (⟨S6, N, c6⟩ : Hd)) (by omega) (hC.keep ((Bl.refl _).alloc (.cells #[.slice S6 N c6] 27))).bl.sz ?_; intro WA4 c4 y4 ho4 hg4 hat4; replace hC := (hC.keep ((Bl.refl _).alloc (.cells #[.slice S6 N c6] 27))).pushW (y := (⟨S6, N, c6⟩ : Hd)) (by rw [HSL.out]; exact ho4) hg4 hat4; clear ho4 hg4 hat4 hou_l' hou_1'; have hou_l' := hC.ou.lt; have hou_f' := hC.ou.frozen; have hou_1' := hC.ou.cell 1 _ rfl)
            clear hou_l' hou_f' hou_1'
            replace hC := hC.store 1 (.slice WA4 (k + 1) c4)
            obtain ⟨cG, hMk, _⟩ := hC.mkr
            have hgc := hMk.cell 2 _ rfl
            have hMk_l := hMk.lt
            clear hMk
            generalize hyy : y4.setCell ⟨Q.bO, 1, none⟩ (.slice WA4 (k + 1) c4) = yy at hC hgc hMk_l ⊢
            clear hyy
            generalize hWZ : y4.heap.size = tz at hC
            clear hWZ
            refine region_F (fun _ => True) (fun w' => w'.cell? ⟨Q.bO, 2, none⟩ = some (.slice EA k ec) ∧ w'.cell? ⟨Q.x, 2, none⟩ = some (.slice A6 nG6 cG)) 11 (by kernel_rfl) ?_ (fun hHeld => ?_)
            · (try dsimp only); exact ⟨trivial, hC.ou.cell 2 _ rfl, hgc⟩
            replace hC := hC.keep ((Bl.refl _).drew)
            replace hgc := Bl.cells ((Bl.refl _).drew) hgc
            generalize yy.drew = y0 at hC hgc hHeld ⊢
            refine f_takeC (i := 0) (d := 147) (v := ?_) [0] rfl rfl (by kernel_rfl) (by kernel_rfl) (by kernel_rfl) (by kernel_rfl) (by kernel_rfl) (by kernel_rfl) (fun _ _ _ h => h) (by decide) (Or.inl ⟨by rfl, ?_⟩) hHeld ?_
            rotate_left
            · (intro w hSw; (try dsimp only at hSw); go_simp; (try with_reducible rfl))
            simp only [List.set_cons_zero, List.set_cons_succ]
            refine f_takeC (i := 1) (d := 148) (v := ?_) [1] rfl rfl (by kernel_rfl) (by kernel_rfl) (by kernel_rfl) (by kernel_rfl) (by kernel_rfl) (by kernel_rfl) (fun _ _ _ h => h) (by decide) (Or.inl ⟨by rfl, ?_⟩) hHeld ?_
            rotate_left
            · (intro w hSw; (try dsimp only at hSw); go_simp; (try with_reducible rfl))
            simp only [List.set_cons_zero, List.set_cons_succ]
            refine f_takeC (i := 2) (d := 149) (v := ?_) [2] rfl rfl (by kernel_rfl) (by kernel_rfl) (by kernel_rfl) (by kernel_rfl) (by kernel_rfl) (by kernel_rfl) (fun _ _ _ h => h) (by decide) (Or.inl ⟨by rfl, ?_⟩) hHeld ?_
            rotate_left
            · (intro w hSw; (try dsimp only at hSw); go_simp; (try with_reducible rfl))
            simp only [List.set_cons_zero, List.set_cons_succ]
            refine f_takeC (i := 3) (d := 150) (v := ?_) [3] rfl rfl (by kernel_rfl) (by kernel_rfl) (by kernel_rfl) (by kernel_rfl) (by kernel_rfl) (by kernel_rfl) (fun _ _ _ h => h) (by decide) (Or.inl ⟨by rfl, ?_⟩) hHeld ?_
            rotate_left
            · (intro w hSw; (try dsimp only at hSw); go_simp; (try with_reducible rfl))
            simp only [List.set_cons_zero, List.set_cons_succ]
            refine f_takeC (i := 4) (d := 151) (v := ?_) [4] rfl rfl (by kernel_rfl) (by kernel_rfl) (by kernel_rfl) (by kernel_rfl) (by kernel_rfl) (by kernel_rfl) (fun _ _ _ h => h) (by decide) (Or.inl ⟨by rfl, ?_⟩) hHeld ?_
            rotate_left
            · (intro w hSw; (try dsimp only at hSw); go_simp; (try with_reducible rfl))
            simp only [List.set_cons_zero, List.set_cons_succ]
            refine f_takeC (i := 5) (d := 152) (v := ?_) [5] rfl rfl (by kernel_rfl) (by kernel_rfl) (by kernel_rfl) (by kernel_rfl) (by kernel_rfl) (by kernel_rfl) (fun _ _ _ h => h) (by decide) (Or.inl ⟨by rfl, ?_⟩) hHeld ?_
            rotate_left
            · (intro w hSw; (try dsimp only at hSw); go_simp; (try with_reducible rfl))
            simp only [List.set_cons_zero, List.set_cons_succ]
            refine f_takeC (i := 6) (d := 153) (v := ?_) [6] rfl rfl (by kernel_rfl) (by kernel_rfl) (by kernel_rfl) (by kernel_rfl) (by kernel_rfl) (by kernel_rfl) (fun _ _ _ h => h) (by decide) (Or.inl ⟨by rfl, ?_⟩) hHeld ?_
            rotate_left
            · (intro w hSw; (try dsimp only at hSw); go_simp; (try with_reducible rfl))
            simp only [List.set_cons_zero, List.set_cons_succ]
            refine f_takeC (i := 7) (d := 154) (v := ?_) [7] rfl rfl (by kernel_rfl) (by kernel_rfl) (by kernel_rfl) (by kernel_rfl) (by kernel_rfl) (by kernel_rfl) (fun _ _ _ h => h) (by decide) (Or.inl ⟨by rfl, ?_⟩) hHeld ?_
            rotate_left
            · (intro w hSw; (try dsimp only at hSw); go_simp; (try with_reducible rfl))
            simp only [List.set_cons_zero, List.set_cons_succ]
            refine f_step (i := 8) (by kernel_rfl) rfl (fun K hK => ?_)
            go_simp
            have hIL := rd_new1 y0 3 ((nG6 : Nat) : Int)
            replace hC := hC.keep ((Bl.refl _).alloc (.cells #[.int .i64 (nG6 : Nat)] 3))
            replace hgc := Bl.cells ((Bl.refl _).alloc (.cells #[.int .i64 (nG6 : Nat)] 3)) hgc
            generalize y0.alloc (.cells #[.int .i64 (nG6 : Nat)] 3) = y8 at hC hgc hIL ⊢
            generalize y0.heap.size = z8 at hIL ⊢
            refine hK.out _ _ ?_ (fun hHeld => ?_)
            · (try dsimp only); exact ⟨trivial, hC.ou.cell 2 _ rfl, hgc⟩
            clear hK K
            (try simp only [Act.put]); (try simp only [List.setIfInBounds_toArray]); (try simp only [List.set_cons_succ]); (try simp only [List.set_cons_zero])
            refine f_step (i := 9) (by kernel_rfl) rfl (fun K hK => ?_)
            refine ap_int_step rfl rfl rfl hC.en rfl hIL (by omega) hC.bl.sz ?_; intro EA4 c14 y9 ho14 hg14 hat14; replace hgc := hg14.cell hgc (fun e => hC.at_ 4 rfl (j := 0) rfl (by decide) _ e.symm rfl); replace hC := hC.pushE ho14 hg14 hat14; clear ho14 hg14 hat14 hIL
            refine hK.out _ _ ?_ (fun hHeld => ?_)
            · (try dsimp only); exact ⟨trivial, hC.ou.cell 2 _ rfl, hgc⟩
            clear hK K
            (try simp only [Act.put]); (try simp only [List.setIfInBounds_toArray]); (try simp only [List.set_cons_succ]); (try simp only [List.set_cons_zero])
            refine f_takeC (i := 10) (d := 157) (v := ?_) [10] rfl rfl (by kernel_rfl) (by kernel_rfl) (by kernel_rfl) (by kernel_rfl) (by kernel_rfl) (by kernel_rfl) (fun _ _ _ h => h) (by decide) (Or.inl ⟨by rfl, ?_⟩) hHeld ?_
            rotate_left
            · (intro w hSw; (try dsimp only at hSw); go_simp; (try with_reducible rfl))
            simp only [List.set_cons_zero, List.set_cons_succ]
            refine f_last (i := 11) (by kernel_rfl) rfl (by simp) (fun K hK => ?_)
            have hof := hC.ou.frozen
            have hol := hC.ou.lt
            have hoc := hC.ou.cell 2 _ rfl
            go_simp
            replace hC := hC.store 2 (.slice EA4 (k + 1) c14)
            clear hof hol hoc
            refine hK.out _ _ ?_ (fun hHeld => ?_)
            · exact trivial
            clear hK K
            (try simp only [Act.put]); (try simp only [List.setIfInBounds_toArray]); (try simp only [List.set_cons_succ]); (try simp only [List.set_cons_zero])
            refine f_done (by kernel_rfl) ?_ _
            go_wp2_with fail
            go_roundw
            case rel => exact ⟨k + 1, _, _, c4, c14, _, _, _, WA4, EA4, hs ++ [(⟨S6, N, c6⟩ : Hd)], _, _, by omega, by go_num, by rw [HFIN.out]; exact HRS2.out.push HMEM.out, by rw [HFIN.out]; exact hC⟩
            case measure => simp [intOf]; omega
          · as_aux_lemma =>
            rw [hk1] at hX_0
            obtain ⟨p, hps2, hwp1, hwp2⟩ := HWK.out.k6 hk1
            obtain ⟨N, hN⟩ : ∃ N : Nat, wsA pre (ws.take k) p = (N : Nat) := ⟨(wsA pre (ws.take k) p).toNat, by omega⟩
            obtain ⟨_, r1, _, _, _, hW1, hr1⟩ := HLW.out p (HWK.out.f p (by rw [hps2]; simp))
            have hPe : P = [r1] := by rw [← HP.out, hps2]; show [W.getD (fndL pre p).toNat []] = _; rw [hW1]
            subst hPe
            obtain rfl : j = 1 := by have := HPL.out; rw [hps2] at this; exact this.symm
            obtain ⟨y1, rfl, m1⟩ := hPR.one
            have hng : nG ≤ 300 := by have := HNG.out; omega
            have hAX : A1.map (·.block) ≠ some bX := fun e => by have := hC.ltA.1 _ e; have := HBX.out; omega
            have hL1 := hC1.lx m1
            have hle1 := hL1.rd.length
            have hPA1 := hPP.rd
            obtain ⟨pa, hpa, hpb, pc0, hpc⟩ := p0_cell hPA1 (by omega)
            have hPq : pa.block ≠ Q.x ∧ A1.map (·.block) ≠ some pa.block := by
              have h1 := (hPP.blk pa.block (by rw [hpa]; rfl)).1
              refine ⟨by have := HCX.out; omega, fun e => by have := hC.ltA.1 _ e; have := HBX.out; omega⟩
            have hple := hPA1.cap
            have hme := hC1.me
            rw [HT.out] at hme
            have hXt : Mx.t ⟨Q.x, Q.base, Q.a, Q.b, B1, ol.length, d, ol⟩ = a + b := by unfold Mx.t; rw [HAB.out.1, HAB.out.2]
            obtain ⟨⟨g2, l2⟩, hgr⟩ : ∃ p, lineS mulR (a + b) x [r1] g = p := ⟨_, rfl⟩
            have HFIN := Lib.hid (show cp (k + 1) = ⟨g2, ol ++ l2, W ++ [l2], n0, n1⟩ by rw [HNX.out]; unfold cpN; rw [if_neg (by rw [hk1]; decide)]; dsimp only; rw [HP.out, hgr, if_pos hk1])
            have hE : lineS mulR (a + b) x [r1] g = (g, r1) := by unfold lineS; rw [if_neg (by rw [hk1]; decide), if_neg (by rw [hk1]; decide), if_neg (by rw [hk1]; decide), if_neg (by rw [hk1]; decide)]; rfl
            have hg3 := hE.symm.trans hgr
            injection hg3 with hg3 hl3
            subst hg3 hl3
            have hr6 := hL1.rd
            have hy1n : r1.length = y1.n := hle1
            obtain ⟨yA, yn, yc⟩ := y1
            dsimp only at pc0 hr6 hy1n
            subst hy1n
            have HMEM := Lib.hid m1
            have HRS2 := HRS
            have hr2 : ol.length + r1.length ≤ 100 := by have := (HOC.out (k + 1) (by omega)).o; rw [HCP.out (k + 1), HFIN.out] at this; simpa using this
            obtain ⟨cG0, hMk0, _⟩ := hC1.mkr
            have hos : OwnI Q.base wq B1 ol.length d ol := hC1.me.os
            have htop : Q.base ≤ wq.heap.size := hC1.me.top
            have hM_l := hMk0.lt
            have hM_3 := hMk0.cell 3 _ rfl
            have hxB := hC1.at_ 2 rfl (j := 0) rfl (by decide)
            clear hgr hE hXt hN hPR hpc hPA1 hPP hC hme hL1 hle1
            subst hpa
            have hxO2 := hC1.at_ 2 rfl (j := 6) rfl (by decide)
            have hOx : Q.bO ≠ Q.x := fun e => hC1.at_ 0 rfl (j := 6) rfl (by decide) _ rfl (by rw [e])
            have hxO : Q.x ≠ Q.bO := fun e => hOx e.symm
            clear hX_1 hX_2 hX_3 hX_4 hX_5 hX_6
            have hkn1 : k + 1 ≤ 3000000 := by omega
            have hou_l0 := hC1.ou.lt
            go_wp2_with (first | (at_builtin; refine ap_int rfl rfl rfl hos rfl hr6 (by omega) htop ?_; intro B9 d9 w9 ho9 hg9 hat9; rw [← List.length_append] at ho9; have hMk9 := hMk0.grown hg9 (fun e => hxB _ e.symm rfl); clear hM_l hM_3 hX_l hX_0; have hM_l := hMk9.lt; have hM_f := hMk9.frozen; have hM_3 := hMk9.cell 3 _ rfl; have hou9 := hC1.ou.grown hg9 (fun e => hxO2 _ e.symm rfl); have hou9_l := hou9.lt; have hou9_1 := hou9.cell 1 _ rfl; have hCo := hC1.outs ho9 hg9 hat9; rw [show (Value.slice B9 (ol ++ r1).length d9) = .slice B9 (ol.length + r1.length) d9 by rw [List.length_append]] at hCo) | (at_builtin; refine ap_hdv (y := (⟨yA, r1.length, yc⟩ : Hd)) rfl rfl rfl (by have := (hCo.keep ((Bl.refl _).alloc (.cells #[.slice yA r1.length yc] 27))).wi; rw [HSL.out] at this; exact this) rfl (rd_hd1 _ (⟨yA, r1.length, yc⟩ : Hd)) (by omega) (hCo.keep ((Bl.refl _).alloc (.cells #[.slice yA r1.length yc] 27))).bl.sz ?_; intro WA4 c4 y4 ho4 hg4 hat4; have hC := (hCo.keep ((Bl.refl _).alloc (.cells #[.slice yA r1.length yc] 27))).pushW (y := (⟨yA, r1.length, yc⟩ : Hd)) (by rw [HSL.out]; exact ho4) hg4 hat4; clear ho4 hg4 hat4 hou9_1 hou9_l; have hou_l' := hC.ou.lt; have hou_f' := hC.ou.frozen; have hou_1' := hC.ou.cell 1 _ rfl))
            clear hou_l' hou_f' hou_1'
            replace hC := hC.store 1 (.slice WA4 (k + 1) c4)
            obtain ⟨cG, hMk, _⟩ := hC.mkr
            have hgc := hMk.cell 2 _ rfl
            have hMk_l := hMk.lt
            clear hMk
            generalize hyy : y4.setCell ⟨Q.bO, 1, none⟩ (.slice WA4 (k + 1) c4) = yy at hC hgc hMk_l ⊢
            clear hyy
            generalize hWZ : y4.heap.size = tz at hC
            clear hWZ
            refine region_F (fun _ => True) (fun w' => w'.cell? ⟨Q.bO, 2, none⟩ = some (.slice EA k ec) ∧ w'.cell? ⟨Q.x, 2, none⟩ = some (.slice A1 nG cG)) 11 (by kernel_rfl) ?_ (fun hHeld => ?_)
            · (try dsimp only); exact ⟨trivial, hC.ou.cell 2 _ rfl, hgc⟩
            replace hC := hC.keep ((Bl.refl _).drew)
            replace hgc := Bl.cells ((Bl.refl _).drew) hgc
            generalize yy.drew = y0 at hC hgc hHeld ⊢
            refine f_takeC (i := 0) (d := 147) (v := ?_) [0] rfl rfl (by kernel_rfl) (by kernel_rfl) (by kernel_rfl) (by kernel_rfl) (by kernel_rfl) (by kernel_rfl) (fun _ _ _ h => h) (by decide) (Or.inl ⟨by rfl, ?_⟩) hHeld ?_
            rotate_left
            · (intro w hSw; (try dsimp only at hSw); go_simp; (try with_reducible rfl))
            simp only [List.set_cons_zero, List.set_cons_succ]
            refine f_takeC (i := 1) (d := 148) (v := ?_) [1] rfl rfl (by kernel_rfl) (by kernel_rfl) (by kernel_rfl) (by kernel_rfl) (by kernel_rfl) (by kernel_rfl) (fun _ _ _ h => h) (by decide) (Or.inl ⟨by rfl, ?_⟩) hHeld ?_
            rotate_left
            · (intro w hSw; (try dsimp only at hSw); go_simp; (try with_reducible rfl))
            simp only [List.set_cons_zero, List.set_cons_succ]
            refine f_takeC (i := 2) (d := 149) (v := ?_) [2] rfl rfl (by kernel_rfl) (by kernel_rfl) (by kernel_rfl) (by kernel_rfl) (by kernel_rfl) (by kernel_rfl) (fun _ _ _ h => h) (by decide) (Or.inl ⟨by rfl, ?_⟩) hHeld ?_
            rotate_left
            · (intro w hSw; (try dsimp only at hSw); go_simp; (try with_reducible rfl))
            simp only [List.set_cons_zero, List.set_cons_succ]
            refine f_takeC (i := 3) (d := 150) (v := ?_) [3] rfl rfl (by kernel_rfl) (by kernel_rfl) (by kernel_rfl) (by kernel_rfl) (by kernel_rfl) (by kernel_rfl) (fun _ _ _ h => h) (by decide) (Or.inl ⟨by rfl, ?_⟩) hHeld ?_
            rotate_left
            · (intro w hSw; (try dsimp only at hSw); go_simp; (try with_reducible rfl))
            simp only [List.set_cons_zero, List.set_cons_succ]
            refine f_takeC (i := 4) (d := 151) (v := ?_) [4] rfl rfl (by kernel_rfl) (by kernel_rfl) (by kernel_rfl) (by kernel_rfl) (by kernel_rfl) (by kernel_rfl) (fun _ _ _ h => h) (by decide) (Or.inl ⟨by rfl, ?_⟩) hHeld ?_
            rotate_left
            · (intro w hSw; (try dsimp only at hSw); go_simp; (try with_reducible rfl))
            simp only [List.set_cons_zero, List.set_cons_succ]
            refine f_takeC (i := 5) (d := 152) (v := ?_) [5] rfl rfl (by kernel_rfl) (by kernel_rfl) (by kernel_rfl) (by kernel_rfl) (by kernel_rfl) (by kernel_rfl) (fun _ _ _ h => h) (by decide) (Or.inl ⟨by rfl, ?_⟩) hHeld ?_
            rotate_left
            · (intro w hSw; (try dsimp only at hSw); go_simp; (try with_reducible rfl))
            simp only [List.set_cons_zero, List.set_cons_succ]
            refine f_takeC (i := 6) (d := 153) (v := ?_) [6] rfl rfl (by kernel_rfl) (by kernel_rfl) (by kernel_rfl) (by kernel_rfl) (by kernel_rfl) (by kernel_rfl) (fun _ _ _ h => h) (by decide) (Or.inl ⟨by rfl, ?_⟩) hHeld ?_
            rotate_left
            · (intro w hSw; (try dsimp only at hSw); go_simp; (try with_reducible rfl))
            simp only [List.set_cons_zero, List.set_cons_succ]
            refine f_takeC (i := 7) (d := 154) (v := ?_) [7] rfl rfl (by kernel_rfl) (by kernel_rfl) (by kernel_rfl) (by kernel_rfl) (by kernel_rfl) (by kernel_rfl) (fun _ _ _ h => h) (by decide) (Or.inl ⟨by rfl, ?_⟩) hHeld ?_
            rotate_left
            · (intro w hSw; (try dsimp only at hSw); go_simp; (try with_reducible rfl))
            simp only [List.set_cons_zero, List.set_cons_succ]
            refine f_step (i := 8) (by kernel_rfl) rfl (fun K hK => ?_)
            go_simp
            have hIL := rd_new1 y0 3 ((nG : Nat) : Int)
            replace hC := hC.keep ((Bl.refl _).alloc (.cells #[.int .i64 (nG : Nat)] 3))
            replace hgc := Bl.cells ((Bl.refl _).alloc (.cells #[.int .i64 (nG : Nat)] 3)) hgc
            generalize y0.alloc (.cells #[.int .i64 (nG : Nat)] 3) = y8 at hC hgc hIL ⊢
            generalize y0.heap.size = z8 at hIL ⊢
            refine hK.out _ _ ?_ (fun hHeld => ?_)
            · (try dsimp only); exact ⟨trivial, hC.ou.cell 2 _ rfl, hgc⟩
            clear hK K
            (try simp only [Act.put]); (try simp only [List.setIfInBounds_toArray]); (try simp only [List.set_cons_succ]); (try simp only [List.set_cons_zero])
            refine f_step (i := 9) (by kernel_rfl) rfl (fun K hK => ?_)
            refine ap_int_step rfl rfl rfl hC.en rfl hIL (by omega) hC.bl.sz ?_; intro EA4 c14 y9 ho14 hg14 hat14; replace hgc := hg14.cell hgc (fun e => hC.at_ 4 rfl (j := 0) rfl (by decide) _ e.symm rfl); replace hC := hC.pushE ho14 hg14 hat14; clear ho14 hg14 hat14 hIL
            refine hK.out _ _ ?_ (fun hHeld => ?_)
            · (try dsimp only); exact ⟨trivial, hC.ou.cell 2 _ rfl, hgc⟩
            clear hK K
            (try simp only [Act.put]); (try simp only [List.setIfInBounds_toArray]); (try simp only [List.set_cons_succ]); (try simp only [List.set_cons_zero])
            refine f_takeC (i := 10) (d := 157) (v := ?_) [10] rfl rfl (by kernel_rfl) (by kernel_rfl) (by kernel_rfl) (by kernel_rfl) (by kernel_rfl) (by kernel_rfl) (fun _ _ _ h => h) (by decide) (Or.inl ⟨by rfl, ?_⟩) hHeld ?_
            rotate_left
            · (intro w hSw; (try dsimp only at hSw); go_simp; (try with_reducible rfl))
            simp only [List.set_cons_zero, List.set_cons_succ]
            refine f_last (i := 11) (by kernel_rfl) rfl (by simp) (fun K hK => ?_)
            have hof := hC.ou.frozen
            have hol := hC.ou.lt
            have hoc := hC.ou.cell 2 _ rfl
            go_simp
            replace hC := hC.store 2 (.slice EA4 (k + 1) c14)
            clear hof hol hoc
            refine hK.out _ _ ?_ (fun hHeld => ?_)
            · exact trivial
            clear hK K
            (try simp only [Act.put]); (try simp only [List.setIfInBounds_toArray]); (try simp only [List.set_cons_succ]); (try simp only [List.set_cons_zero])
            refine f_done (by kernel_rfl) ?_ _
            go_wp2_with fail
            go_roundw
            case rel => exact ⟨k + 1, _, _, c4, c14, _, _, _, WA4, EA4, hs ++ [(⟨yA, r1.length, yc⟩ : Hd)], _, _, by omega, by go_num, by rw [HFIN.out]; exact HRS2.out.push HMEM.out, by rw [HFIN.out]; exact hC⟩
            case measure => simp [intOf]; omega

    · have hkn : k = n := by omega
      subst hkn
      have j1 : ¬ (k : Int) < k := by omega
      obtain ⟨cG, hMk, hGs⟩ := hC.mkr
      have hos := hC.me.os
      dsimp only at hos
      have hnG := hC.me.len
      have hou := hC.ou
      have hou_l := hou.lt
      have hou_0 := hou.cell 0 _ rfl
      have hou_1 := hou.cell 1 _ rfl
      have hou_2 := hou.cell 2 _ rfl
      have hR := hR2.keep hbl
      have hR_l := hR.lt
      have hR_f := hR.frozen
      have hR_0 := hR.cell 0 _ rfl
      have hR_1 := hR.cell 1 _ rfl
      have hR_2 := hR.cell 2 _ rfl
      go_wp2_with fail
      have hA4 := HAB.out
      have hx3 : w3.heap.size ≤ Q.x := by have := hC.xlt; rw [HW.out] at this; omega
      have hbase : w3.heap.size ≤ Q.base := by have := hC.me.far; dsimp only at this; omega
      have hlt3 := hR2.lt
      have hB4 := hB2.call hbl
      refine bodyPost_ret (v := .agg #[.pointer (some ⟨Q.x, 0, none⟩), .slice WA k wc, .slice EA k ec]) (by simp only [results, Tryz.results84]; go_simp) rfl ?_
      have hg6 := grownBy_trans (grownBy_trans (grownBy_setCell wh w.heap.size 0 (.pointer (some ⟨Q.x, 0, none⟩))) (grownBy_setCell _ w.heap.size 1 (.slice WA k wc))) (grownBy_setCell _ w.heap.size 2 (.slice EA k ec))
      have hGf := hGs.grown hg6 (fun q hq e => by injection e with e; have := (hGs.blk q.block (by rw [hq]; rfl)).1; omega)
      have hOf := hos.grown hg6 (fun q hq e => by injection e with e; have := (hos.blk q.block (by rw [hq]; rfl)).1; omega)
      have hMf := hMk.grown hg6 (fun e => by injection e with e; omega)
      rw [HT.out, hA4.1, hA4.2] at hMf
      have hcpk := HCP.out k
      exact ⟨Q.x, nG, A1, cG, B1, d, WA, wc, EA, ec, rfl, by rw [hcpk]; exact hnG.symm, by rw [hcpk, HFA.out, HFB.out]; exact hMf, by rw [hcpk]; exact hGf.rd, by rw [hcpk]; exact hOf.rd, hB4.grown hg6 (fun q e => by injection e with e; omega)⟩
end Go.Proofs.YtjggecbaladiiaaGreatDoor
