/- Contract of the program's least answer.
   Conditions: the library's tables are laid. -/
import Derived.Test.YtjggecbaladiiaaGreatDoorLnc
namespace Go.Proofs.YtjggecbaladiiaaGreatDoor
open Go.RowKit Go.WideElems
set_option linter.unusedVariables false
theorem law_s : Maps.Keyed Tryz.prog 9 := Maps.string_keyed Tryz.underlying9
theorem zero_int (w : World) : (zeroValue 3).run Tryz.prog w = .ok (.int .i64 0) w := by kernel_rfl
theorem tIl_len {l : List Int} (h : allR l 0 1000 = true) : (tIl l).length ≤ 22 * l.length := by
  induction l with
  | nil => exact Nat.le_refl _
  | cons x r ih =>
    have h2 : inR x 0 1000 = true ∧ allR r 0 1000 = true := by simpa [allR] using h
    have h3 := itoa_size (inR_iff.1 h2.1)
    rw [toB_size] at h3
    have h4 := ih h2.2
    show (32 :: Lib.itoa x ++ tIl r).length ≤ _
    rw [List.length_append, List.length_cons, List.length_cons]
    omega
theorem tI_size {l : List Int} (h : allR l 0 1000 = true) : (tI l).size ≤ 22 * l.length + 1 := by
  unfold tI
  rw [toB_size, List.length_append]
  exact Nat.add_le_add_right (tIl_len h) 1
theorem grown_of {w w' : World} (h : Bl w w') : w.grownBy w' none := ⟨h.os, h.tape, h.output, h.size, fun i hi _ => h.block i hi⟩
abbrev ownM (w : World) (B j : Nat) (D : DataW Unit) : Prop := w.ownsMap Tryz.prog 9 (plainElem Tryz.prog 3) B j D
theorem ownM.keep_ {w w' : World} {B j : Nat} {D : DataW Unit} (h : ownM w B j D) (hb : Bl w w') : ownM w' B j D := World.ownsMap.kept h (grown_of hb) (by simp)
theorem allR_up10 {l : List Int} (h : allR l 1 10 = true) : allR l 0 1000 = true := List.all_eq_true.2 fun u hu => by
  have := inR_iff.1 (List.all_eq_true.1 h u hu)
  exact inR_iff.2 ⟨by omega, by omega⟩
theorem sh8 : ∀ S, S < 9 → wrap64 (2 ^ S) = ((2 ^ S : Nat) : Int) := by decide +kernel
set_option maxRecDepth 20000 in
set_option maxHeartbeats 4000000 in
theorem impl_Least_0 (k : Nat) (hk : k < 12) (b : Int) (hb4 : 1 ≤ b ∧ b ≤ 4) (A : Option Addr) (n c : Nat) (x : List Int) (w : World) (hx : RdI w A n c x) (ht : Tb w) (h10 : Lib.TabIs Tryz.prog w "internal/strconv.uint64pow10" .u64 Lib.pow10Tab) (hf : fitR x (insL (pgL k b) 0) = true) (S : Nat) (hS : (insL (pgL k b) 1).sum = (S : Int)) :
    Calls Tryz.prog 15 #[.int .i64 (k : Nat), .int .i64 b, .int .i64 0, .slice A n c] w fun e w' => e = .returned (.tuple #[.int .i64 (lsB (laT tI k b 0 x (insL (pgL k b) 1) S) (2 ^ S) : Nat), .bool true]) ∧ Bl w w' := by
  have hbI : inR b 1 4 = true := inR_iff.2 hb4
  have hpg : pgB k b = true := by unfold pgB; rw [hbI, Bool.and_true]; exact inR_iff.2 ⟨by omega, by omega⟩
  have hR : pgR k b = pgL k b := by unfold pgR; rw [if_pos hpg, Int.toNat_natCast]
  obtain ⟨hg, hok⟩ := pg_oks hk hbI
  obtain ⟨wsA, hwsA, _⟩ := goodB_at hg
  have HIW := Lib.hid (fun (p : Int) (hp : inR p 0 1 = true) A1 n1 c1 l1 w (h : RdL w A1 n1 c1 l1) (e : l1.map (·.2) = pgL k b) => impl_InputWidths p hp A1 n1 c1 l1 wsA w h (by rw [e]; exact hg) (by rw [e]; exact hwsA) (by rw [e]; exact hok))
  have HA := Lib.hid (ask_p hk hb4 (p := 0) (by omega))
  have HASK := Lib.hid (fun j => (la_ask hk hb4 (p := 0) (by omega) hf hS j).2 rfl)
  have HW1 := Lib.hid (ins_w hg 0)
  have HPG := Lib.hid hpg
  have HRR := Lib.hid hR
  have HF := Lib.hid hf
  have HSM := Lib.hid hS
  have hp0 : inR 0 0 1 = true := by decide
  have hp1 : inR 1 0 1 = true := by decide
  have hS8 : S ≤ 8 := by
    have := HA.out.2.2.1
    rw [show (1 : Int) - 0 = 1 from rfl, hS] at this
    omega
  have hN256 : 2 ^ S ≤ 2 ^ 8 := Nat.pow_le_pow_right (by decide) hS8
  have hsh := sh8 S (by omega)
  obtain ⟨N, hN⟩ : ∃ N, 2 ^ S = N := ⟨_, rfl⟩
  rw [hN] at hN256 hsh ⊢
  have HSH := Lib.hid hsh
  have hN1 : 1 ≤ N := by rw [← hN]; exact Nat.one_le_two_pow
  have HJ := Lib.hid (show ∀ j, j < N → (laT tI k b 0 x (insL (pgL k b) 1) S)[j]? = some (tI (laV k b 0 x (insL (pgL k b) 1) S j)) from fun j hj => laT_at _ _ _ _ _ _ _ (by rw [hN]; exact hj))
  have HLT := Lib.hid (show (laT tI k b 0 x (insL (pgL k b) 1) S).length = N by rw [laT_len, hN])
  clear hg hok hwsA hpg hR hf hS hbI hN hsh
  obtain ⟨a1, a2, a3, a4⟩ := HA.out
  rw [show (1 : Int) - 0 = 1 from rfl] at a1 a2 a3 a4
  have HASK2 : Hid (∀ j : Nat, askR (pgL k b) x (nmsL (insL (pgL k b) 1) (bitL j S)) = true) := Lib.hid (fun j => HASK.out j)
  obtain ⟨ws, hws⟩ : ∃ ws, insL (pgL k b) 1 = ws := ⟨_, rfl⟩
  rw [hws] at a1 a2 a3 a4 HASK2 HJ HLT HSM ⊢
  have HWS := Lib.hid hws
  have HW10 := Lib.hid (allR_up10 a1)
  have HW4 := Lib.hid a1
  clear hws HASK HA a1
  obtain ⟨T, hT⟩ : ∃ T, laT tI k b 0 x ws S = T := ⟨_, rfl⟩
  rw [hT] at HJ HLT ⊢
  clear hT
  go_enter Tryz.func15, Tryz.ntmps15
  go_wp2_with fail
  refine (impl_ProgramFor k b _ ht).mono ?_
  rintro e w1 ⟨A1, n1, c1, l1, rfl, ho1, hm1, hb1⟩
  rw [HPG.out]
  rw [HRR.out] at hm1
  have HM := Lib.hid hm1
  clear hm1
  go_wp2_with fail
  refine (HIW.out 0 hp0 A1 n1 c1 l1 _ ho1.rd HM.out (ht.keep hb1).m).mono ?_
  rintro e w2 ⟨A2, m2, c2, rfl, hm2, ho2, hb2⟩
  rw [HM.out] at ho2
  have hB2 := hb1.call hb2
  go_wp2_with fail
  refine (impl_fitWidths A A2 n c m2 c2 x _ w2 (hx.keep hB2) ho2.rd HW1.out).mono ?_
  rintro e w3 ⟨rfl, rfl⟩
  rw [HF.out]
  go_wp2_with fail
  refine (HIW.out 1 hp1 A1 n1 c1 l1 _ (ho1.rd.keep hb2) HM.out (ht.keep hB2).m).mono ?_
  rintro e w4 ⟨A4, m4, c4, rfl, hm4, ho4, hb4_⟩
  rw [HM.out] at ho4
  have hwB := hB2.call hb4_
  rw [HWS.out] at ho4
  have hm4l := ho4.length
  clear HIW hm2 ho2
  have hmm := @run_makeMap Tryz.prog
  have hM0 : ownM (w4.alloc (.map #[] 0)) w4.heap.size 0 (.map []) := World.ownsMap_made _ _ _ _
  have hV0 := (Bl.refl w4).alloc (.map #[] 0)
  go_wp2_with fail
  generalize w4.alloc (.map #[] 0) = v0 at hM0 hV0 ⊢
  refine (lb_sumOf A4 m4 c4 ws v0 (ho4.rd.keep hV0) (by omega) HW10.out).mono ?_
  rintro e w5 ⟨rfl, rfl⟩
  rw [HSM.out]
  go_wp2_with fail
  rw [HSH.out]
  generalize hMB : w4.heap.size = B at hM0 ⊢
  have hBs : w4.heap.size = B := hMB
  have hA4 : ∀ q, A4.map (·.block) = some q → q < B := fun q hq => by rw [← hBs]; exact (ho4.blk q hq).2
  go_loopw [59] (fun i wr => ∃ (j : Nat) (D : DataW Unit), j ≤ N ∧ i = .int .i64 (j : Nat) ∧ ownM wr B j D ∧ Hid (MapT (T.take j) D) ∧ Bl w4 wr) (fun i _ => N - (intOf i).toNat)
  case atStart => exact ⟨0, _, by omega, rfl, hM0, Lib.hid MapT.nil, hV0⟩
  case round =>
    clear hM0 hV0
    obtain ⟨j, D, hj, rfl, hM, HMT, hV⟩ := hrel
    have ho4w := ho4.keep hV
    by_cases hlt : j < N
    · have ij : (j : Int) < N := by omega
      have hq := HASK2.out j
      have HE := Lib.hid (show laV k b 0 x ws S j = exR k b x (nmsL ws (bitL j S)) from if_neg (by decide))
      have hTj := HJ.out j hlt
      rw [HE.out] at hTj
      have HB := Lib.hid (ex_bd hk hb4 hq)
      have HL := Lib.hid (show (exR k b x (nmsL ws (bitL j S))).length ≤ 1000 from exL_len _ _ _ _ _)
      have HQ := Lib.hid hq
      have HTJ := Lib.hid hTj
      clear hq hTj
      go_wp2_with fail
      refine (lb_sumOf A4 m4 c4 ws _ ho4w.rd (by omega) HW10.out).mono ?_
      rintro e w5 ⟨rfl, rfl⟩
      rw [HSM.out]
      go_wp2_with fail
      refine (impl_bitsOf j S (by omega) (by omega) _).mono ?_
      rintro e w6 ⟨S6, c6, rfl, ho6, hb6⟩
      go_wp2_with fail
      refine (impl_numbersOf A4 S6 m4 c4 S c6 ws (bitL j S) w6 (ho4w.rd.keep hb6) ho6.rd HW4.out HSM.out bitL_01 (by omega) (by omega)).mono ?_
      rintro e w7 ⟨A7, c7, rfl, ho7, hb7⟩
      have hB7 := hV.call (hb6.call hb7)
      have hM7 := (hM.keep_ hb6).keep_ hb7
      go_wp2_with fail
      refine (impl_expected k hk b hb4 A A7 n c m4 c7 x _ w7 (hx.keep (hwB.call hB7)) ho7.rd HQ.out).mono ?_
      rintro e w8 ⟨A8, n8, c8, rfl, ho8, hb8⟩
      obtain ⟨V, hVV⟩ : ∃ V, exR k b x (nmsL ws (bitL j S)) = V := ⟨_, rfl⟩
      rw [hVV] at ho8 HB HL HTJ
      clear hVV
      have hn8 : n8 ≤ 1000 := by rw [← ho8.length]; exact HL.out
      go_wp2_with fail
      refine (impl_line A8 n8 c8 V _ ho8.rd (allR_up HB.out (by decide)) hn8 (tab_keep h10 (hwB.call (hB7.call hb8)))).mono ?_
      rintro e w9 ⟨rfl, hb9⟩
      have hM9 := (hM7.keep_ hb8).keep_ hb9
      have hB9 := (hB7.call hb8).call hb9
      have hsz : (tI V).size ≤ maxLen := by
        have := tI_size (allR_up HB.out (by decide : (999 : Int) ≤ 1000))
        rw [ho8.length] at this
        unfold maxLen; omega
      obtain ⟨s, hs⟩ : ∃ s, tI V = s := ⟨_, rfl⟩
      rw [hs] at HTJ hsz ⊢
      clear hs
      go_wp2_with (first
        | (at_lookup; refine wpList_lookup_own_int _ rfl _ _ 74 rfl 9 3 .i64 law_s Tryz.underlying74 Tryz.underlying3 (zero_int _) B j D rfl hM9 _ _ rfl (WideMaps.keyOf_string_mk Tryz.underlying9 hsz) ?_; intro cc hat hwc; obtain ⟨hcc, hst⟩ := HMT.out.step (s := s) trivial hat; have hcb := cnB_le (T.take j) s; rw [List.length_take, HLT.out] at hcb; have hc0 : 0 ≤ cc := (by omega); have hc1 : cc ≤ 256 := (by omega); have HST := Lib.hid hst; clear hat hcc hst)
        | (at_mapUpdate; refine wpList_mapUpdate_own _ rfl _ _ _ 74 rfl 9 3 law_s Tryz.underlying74 _ B j D rfl hM9 (by unfold maxLen; omega) _ _ _ rfl rfl (WideMaps.keyOf_string_mk Tryz.underlying9 hsz) _ [] (plainElem_int Tryz.underlying3 (WalkArith.wf_i64 (by omega))) ?_; intro w10 hM10 hg10))
      exact ⟨⟨j + 1, _, by omega, by go_num, hM10, Lib.hid (by rw [List.take_add_one, HTJ.out]; exact HST.out), Bl.grown hB9 hg10 (fun q hq => by injection hq with hq; omega)⟩, by simp [intOf]; omega⟩
    · obtain rfl : j = N := by omega
      have ij : ¬ (j : Int) < j := by omega
      have HMF := Lib.hid (show MapT T D by have := HMT.out; rwa [List.take_of_length_le (by rw [HLT.out]; exact Nat.le_refl _)] at this)
      have hL0 := Lst.start HMF.out
      rw [HLT.out] at hL0
      obtain ⟨wh, hwh⟩ : ∃ wh, wh = wr := ⟨_, rfl⟩
      subst hwh
      go_wp2_with fail
      refine (lb_sumOf A4 m4 c4 ws _ ho4w.rd (by omega) HW10.out).mono ?_
      rintro e w5 ⟨rfl, rfl⟩
      rw [HSM.out]
      go_wp2_with (at_range; refine wpList_range_own _ rfl _ 74 rfl 9 3 law_s Tryz.underlying74 _ B j _ rfl hM ?_; intro w0 hrg0 hg0 hs0)
      rw [HSH.out]
      go_frame
      go_loopw [20] (fun o wr => ∃ (left : Lit → Bool) (cnt v : Nat), o = .int .i64 (v : Nat) ∧ v ≤ j ∧ wr.ranges Tryz.prog 9 (plainElem Tryz.prog 3) B wh.heap.size j D left cnt ∧ Hid (Lst T left v) ∧ Bl wh wr) (fun _ wr => wr.rangeLeft B wh.heap.size)
      case atStart => exact ⟨_, _, j, rfl, Nat.le_refl _, hrg0, Lib.hid hL0, Bl.grown (Bl.refl _) hg0 (fun q hq => by cases hq)⟩
      case round =>
        clear hrg0 hL0 hg0
        obtain ⟨left, cnt, v, rfl, hvj, hrg, HL, hV2⟩ := hrel
        go_wp2_with (at_next; refine next_si rfl _ rfl 9 3 law_s Tryz.underlying9 Tryz.underlying3 B wh.heap.size j D left cnt rfl hrg ?_ ?_)
        · intro _ hl0
          have HFI := Lib.hid (HL.out.fin hl0)
          go_wp2_with fail
          go_ret2
          exact ⟨by rw [HFI.out, HLT.out]; rfl, hwB.call (hV.call hV2)⟩
        · intro s cc w7 cnt7 hat hrg7 hlt7 hg7 hs7 hen
          obtain ⟨hcc, hst⟩ := HL.out.step HMF.out hat
          have hcb := cnB_le T s
          rw [HLT.out] at hcb
          obtain ⟨q, hq⟩ : ∃ q, cnB T s = q := ⟨_, rfl⟩
          rw [hq] at hcc hst hcb
          subst hcc
          have HST := Lib.hid hst
          clear hst hat hq
          go_wp2_with fail
          exact ⟨⟨_, cnt7, min v q, by congr 1; omega, by omega, hrg7, HST, Bl.grown hV2 hg7 (fun u hu => by injection hu with hu; omega)⟩, by rw [hrg7.left_eq, hrg.left_eq]; exact hlt7⟩
set_option maxRecDepth 20000 in
set_option maxHeartbeats 4000000 in
theorem impl_Least_1 (k : Nat) (hk : k < 12) (b : Int) (hb4 : 1 ≤ b ∧ b ≤ 4) (A : Option Addr) (n c : Nat) (x : List Int) (w : World) (hx : RdI w A n c x) (ht : Tb w) (h10 : Lib.TabIs Tryz.prog w "internal/strconv.uint64pow10" .u64 Lib.pow10Tab) (hf : fitR x (insL (pgL k b) 1) = true) (S : Nat) (hS : (insL (pgL k b) 0).sum = (S : Int)) :
    Calls Tryz.prog 15 #[.int .i64 (k : Nat), .int .i64 b, .int .i64 1, .slice A n c] w fun e w' => e = .returned (.tuple #[.int .i64 (lsB (laT tI k b 1 x (insL (pgL k b) 0) S) (2 ^ S) : Nat), .bool true]) ∧ Bl w w' := by
  have hbI : inR b 1 4 = true := inR_iff.2 hb4
  have hpg : pgB k b = true := by unfold pgB; rw [hbI, Bool.and_true]; exact inR_iff.2 ⟨by omega, by omega⟩
  have hR : pgR k b = pgL k b := by unfold pgR; rw [if_pos hpg, Int.toNat_natCast]
  obtain ⟨hg, hok⟩ := pg_oks hk hbI
  obtain ⟨wsA, hwsA, _⟩ := goodB_at hg
  have HIW := Lib.hid (fun (p : Int) (hp : inR p 0 1 = true) A1 n1 c1 l1 w (h : RdL w A1 n1 c1 l1) (e : l1.map (·.2) = pgL k b) => impl_InputWidths p hp A1 n1 c1 l1 wsA w h (by rw [e]; exact hg) (by rw [e]; exact hwsA) (by rw [e]; exact hok))
  have HA := Lib.hid (ask_p hk hb4 (p := 1) (by omega))
  have HASK := Lib.hid (fun j => (la_ask hk hb4 (p := 1) (by omega) hf hS j).1 rfl)
  have HW1 := Lib.hid (ins_w hg 1)
  have HPG := Lib.hid hpg
  have HRR := Lib.hid hR
  have HF := Lib.hid hf
  have HSM := Lib.hid hS
  have hp0 : inR 0 0 1 = true := by decide
  have hp1 : inR 1 0 1 = true := by decide
  have hS8 : S ≤ 8 := by
    have := HA.out.2.2.1
    rw [show (1 : Int) - 1 = 0 from rfl, hS] at this
    omega
  have hN256 : 2 ^ S ≤ 2 ^ 8 := Nat.pow_le_pow_right (by decide) hS8
  have hsh := sh8 S (by omega)
  obtain ⟨N, hN⟩ : ∃ N, 2 ^ S = N := ⟨_, rfl⟩
  rw [hN] at hN256 hsh ⊢
  have HSH := Lib.hid hsh
  have hN1 : 1 ≤ N := by rw [← hN]; exact Nat.one_le_two_pow
  have HJ := Lib.hid (show ∀ j, j < N → (laT tI k b 1 x (insL (pgL k b) 0) S)[j]? = some (tI (laV k b 1 x (insL (pgL k b) 0) S j)) from fun j hj => laT_at _ _ _ _ _ _ _ (by rw [hN]; exact hj))
  have HLT := Lib.hid (show (laT tI k b 1 x (insL (pgL k b) 0) S).length = N by rw [laT_len, hN])
  clear hg hok hwsA hpg hR hf hS hbI hN hsh
  obtain ⟨a1, a2, a3, a4⟩ := HA.out
  rw [show (1 : Int) - 1 = 0 from rfl] at a1 a2 a3 a4
  have HASK2 : Hid (∀ j : Nat, askR (pgL k b) (nmsL (insL (pgL k b) 0) (bitL j S)) x = true) := Lib.hid (fun j => HASK.out j)
  obtain ⟨ws, hws⟩ : ∃ ws, insL (pgL k b) 0 = ws := ⟨_, rfl⟩
  rw [hws] at a1 a2 a3 a4 HASK2 HJ HLT HSM ⊢
  have HWS := Lib.hid hws
  have HW10 := Lib.hid (allR_up10 a1)
  have HW4 := Lib.hid a1
  clear hws HASK HA a1
  obtain ⟨T, hT⟩ : ∃ T, laT tI k b 1 x ws S = T := ⟨_, rfl⟩
  rw [hT] at HJ HLT ⊢
  clear hT
  go_enter Tryz.func15, Tryz.ntmps15
  go_wp2_with fail
  refine (impl_ProgramFor k b _ ht).mono ?_
  rintro e w1 ⟨A1, n1, c1, l1, rfl, ho1, hm1, hb1⟩
  rw [HPG.out]
  rw [HRR.out] at hm1
  have HM := Lib.hid hm1
  clear hm1
  go_wp2_with fail
  refine (HIW.out 1 hp1 A1 n1 c1 l1 _ ho1.rd HM.out (ht.keep hb1).m).mono ?_
  rintro e w2 ⟨A2, m2, c2, rfl, hm2, ho2, hb2⟩
  rw [HM.out] at ho2
  have hB2 := hb1.call hb2
  go_wp2_with fail
  refine (impl_fitWidths A A2 n c m2 c2 x _ w2 (hx.keep hB2) ho2.rd HW1.out).mono ?_
  rintro e w3 ⟨rfl, rfl⟩
  rw [HF.out]
  go_wp2_with fail
  refine (HIW.out 0 hp0 A1 n1 c1 l1 _ (ho1.rd.keep hb2) HM.out (ht.keep hB2).m).mono ?_
  rintro e w4 ⟨A4, m4, c4, rfl, hm4, ho4, hb4_⟩
  rw [HM.out] at ho4
  have hwB := hB2.call hb4_
  rw [HWS.out] at ho4
  have hm4l := ho4.length
  clear HIW hm2 ho2
  have hmm := @run_makeMap Tryz.prog
  have hM0 : ownM (w4.alloc (.map #[] 0)) w4.heap.size 0 (.map []) := World.ownsMap_made _ _ _ _
  have hV0 := (Bl.refl w4).alloc (.map #[] 0)
  go_wp2_with fail
  generalize w4.alloc (.map #[] 0) = v0 at hM0 hV0 ⊢
  refine (lb_sumOf A4 m4 c4 ws v0 (ho4.rd.keep hV0) (by omega) HW10.out).mono ?_
  rintro e w5 ⟨rfl, rfl⟩
  rw [HSM.out]
  go_wp2_with fail
  rw [HSH.out]
  generalize hMB : w4.heap.size = B at hM0 ⊢
  have hBs : w4.heap.size = B := hMB
  have hA4 : ∀ q, A4.map (·.block) = some q → q < B := fun q hq => by rw [← hBs]; exact (ho4.blk q hq).2
  go_loopw [59] (fun i wr => ∃ (j : Nat) (D : DataW Unit), j ≤ N ∧ i = .int .i64 (j : Nat) ∧ ownM wr B j D ∧ Hid (MapT (T.take j) D) ∧ Bl w4 wr) (fun i _ => N - (intOf i).toNat)
  case atStart => exact ⟨0, _, by omega, rfl, hM0, Lib.hid MapT.nil, hV0⟩
  case round =>
    clear hM0 hV0
    obtain ⟨j, D, hj, rfl, hM, HMT, hV⟩ := hrel
    have ho4w := ho4.keep hV
    by_cases hlt : j < N
    · have ij : (j : Int) < N := by omega
      have hq := HASK2.out j
      have HE := Lib.hid (show laV k b 1 x ws S j = exR k b (nmsL ws (bitL j S)) x from if_pos rfl)
      have hTj := HJ.out j hlt
      rw [HE.out] at hTj
      have HB := Lib.hid (ex_bd hk hb4 hq)
      have HL := Lib.hid (show (exR k b (nmsL ws (bitL j S)) x).length ≤ 1000 from exL_len _ _ _ _ _)
      have HQ := Lib.hid hq
      have HTJ := Lib.hid hTj
      clear hq hTj
      go_wp2_with fail
      refine (lb_sumOf A4 m4 c4 ws _ ho4w.rd (by omega) HW10.out).mono ?_
      rintro e w5 ⟨rfl, rfl⟩
      rw [HSM.out]
      go_wp2_with fail
      refine (impl_bitsOf j S (by omega) (by omega) _).mono ?_
      rintro e w6 ⟨S6, c6, rfl, ho6, hb6⟩
      go_wp2_with fail
      refine (impl_numbersOf A4 S6 m4 c4 S c6 ws (bitL j S) w6 (ho4w.rd.keep hb6) ho6.rd HW4.out HSM.out bitL_01 (by omega) (by omega)).mono ?_
      rintro e w7 ⟨A7, c7, rfl, ho7, hb7⟩
      have hB7 := hV.call (hb6.call hb7)
      have hM7 := (hM.keep_ hb6).keep_ hb7
      go_wp2_with fail
      refine (impl_expected k hk b hb4 A7 A m4 c7 n c _ x w7 ho7.rd (hx.keep (hwB.call hB7)) HQ.out).mono ?_
      rintro e w8 ⟨A8, n8, c8, rfl, ho8, hb8⟩
      obtain ⟨V, hVV⟩ : ∃ V, exR k b (nmsL ws (bitL j S)) x = V := ⟨_, rfl⟩
      rw [hVV] at ho8 HB HL HTJ
      clear hVV
      have hn8 : n8 ≤ 1000 := by rw [← ho8.length]; exact HL.out
      go_wp2_with fail
      refine (impl_line A8 n8 c8 V _ ho8.rd (allR_up HB.out (by decide)) hn8 (tab_keep h10 (hwB.call (hB7.call hb8)))).mono ?_
      rintro e w9 ⟨rfl, hb9⟩
      have hM9 := (hM7.keep_ hb8).keep_ hb9
      have hB9 := (hB7.call hb8).call hb9
      have hsz : (tI V).size ≤ maxLen := by
        have := tI_size (allR_up HB.out (by decide : (999 : Int) ≤ 1000))
        rw [ho8.length] at this
        unfold maxLen; omega
      obtain ⟨s, hs⟩ : ∃ s, tI V = s := ⟨_, rfl⟩
      rw [hs] at HTJ hsz ⊢
      clear hs
      go_wp2_with (first
        | (at_lookup; refine wpList_lookup_own_int _ rfl _ _ 74 rfl 9 3 .i64 law_s Tryz.underlying74 Tryz.underlying3 (zero_int _) B j D rfl hM9 _ _ rfl (WideMaps.keyOf_string_mk Tryz.underlying9 hsz) ?_; intro cc hat hwc; obtain ⟨hcc, hst⟩ := HMT.out.step (s := s) trivial hat; have hcb := cnB_le (T.take j) s; rw [List.length_take, HLT.out] at hcb; have hc0 : 0 ≤ cc := (by omega); have hc1 : cc ≤ 256 := (by omega); have HST := Lib.hid hst; clear hat hcc hst)
        | (at_mapUpdate; refine wpList_mapUpdate_own _ rfl _ _ _ 74 rfl 9 3 law_s Tryz.underlying74 _ B j D rfl hM9 (by unfold maxLen; omega) _ _ _ rfl rfl (WideMaps.keyOf_string_mk Tryz.underlying9 hsz) _ [] (plainElem_int Tryz.underlying3 (WalkArith.wf_i64 (by omega))) ?_; intro w10 hM10 hg10))
      exact ⟨⟨j + 1, _, by omega, by go_num, hM10, Lib.hid (by rw [List.take_add_one, HTJ.out]; exact HST.out), Bl.grown hB9 hg10 (fun q hq => by injection hq with hq; omega)⟩, by simp [intOf]; omega⟩
    · obtain rfl : j = N := by omega
      have ij : ¬ (j : Int) < j := by omega
      have HMF := Lib.hid (show MapT T D by have := HMT.out; rwa [List.take_of_length_le (by rw [HLT.out]; exact Nat.le_refl _)] at this)
      have hL0 := Lst.start HMF.out
      rw [HLT.out] at hL0
      obtain ⟨wh, hwh⟩ : ∃ wh, wh = wr := ⟨_, rfl⟩
      subst hwh
      go_wp2_with fail
      refine (lb_sumOf A4 m4 c4 ws _ ho4w.rd (by omega) HW10.out).mono ?_
      rintro e w5 ⟨rfl, rfl⟩
      rw [HSM.out]
      go_wp2_with (at_range; refine wpList_range_own _ rfl _ 74 rfl 9 3 law_s Tryz.underlying74 _ B j _ rfl hM ?_; intro w0 hrg0 hg0 hs0)
      rw [HSH.out]
      go_frame
      go_loopw [20] (fun o wr => ∃ (left : Lit → Bool) (cnt v : Nat), o = .int .i64 (v : Nat) ∧ v ≤ j ∧ wr.ranges Tryz.prog 9 (plainElem Tryz.prog 3) B wh.heap.size j D left cnt ∧ Hid (Lst T left v) ∧ Bl wh wr) (fun _ wr => wr.rangeLeft B wh.heap.size)
      case atStart => exact ⟨_, _, j, rfl, Nat.le_refl _, hrg0, Lib.hid hL0, Bl.grown (Bl.refl _) hg0 (fun q hq => by cases hq)⟩
      case round =>
        clear hrg0 hL0 hg0
        obtain ⟨left, cnt, v, rfl, hvj, hrg, HL, hV2⟩ := hrel
        go_wp2_with (at_next; refine next_si rfl _ rfl 9 3 law_s Tryz.underlying9 Tryz.underlying3 B wh.heap.size j D left cnt rfl hrg ?_ ?_)
        · intro _ hl0
          have HFI := Lib.hid (HL.out.fin hl0)
          go_wp2_with fail
          go_ret2
          exact ⟨by rw [HFI.out, HLT.out]; rfl, hwB.call (hV.call hV2)⟩
        · intro s cc w7 cnt7 hat hrg7 hlt7 hg7 hs7 hen
          obtain ⟨hcc, hst⟩ := HL.out.step HMF.out hat
          have hcb := cnB_le T s
          rw [HLT.out] at hcb
          obtain ⟨q, hq⟩ : ∃ q, cnB T s = q := ⟨_, rfl⟩
          rw [hq] at hcc hst hcb
          subst hcc
          have HST := Lib.hid hst
          clear hst hat hq
          go_wp2_with fail
          exact ⟨⟨_, cnt7, min v q, by congr 1; omega, by omega, hrg7, HST, Bl.grown hV2 hg7 (fun u hu => by injection hu with hu; omega)⟩, by rw [hrg7.left_eq, hrg.left_eq]; exact hlt7⟩
theorem iw_bad (p : Int) (hp : inR p 0 1 = false) (A : Option Addr) (n c : Nat) (w : World) :
    Calls Tryz.prog 54 #[.slice A n c, .int .i64 p] w fun e w' => e = .returned (.tuple #[.slice none 0 0, .bool false]) ∧ Bl w w' := by
  have hV := (Bl.refl w).alloc (.cells #[.int .i64 p] 3)
  go_enter Tryz.func54, Tryz.ntmps54
  go_wp2_with fail
  refine (impl_isBit p _).mono ?_
  rintro e w1 ⟨rfl, rfl⟩
  rw [hp]
  go_wp2_with fail
  go_ret2
  exact ⟨rfl, hV⟩
theorem nil_facts : goodB [] = true ∧ wdsL [] = some [] ∧ okI [] = true := by decide +kernel
set_option maxRecDepth 20000 in
set_option maxHeartbeats 4000000 in
theorem impl_LeastAnswer (a b p : Int) (A : Option Addr) (n c : Nat) (x : List Int) (w : World) (hx : RdI w A n c x) (ht : Tb w) (h10 : Lib.TabIs Tryz.prog w "internal/strconv.uint64pow10" .u64 Lib.pow10Tab) :
    Calls Tryz.prog 15 #[.int .i64 a, .int .i64 b, .int .i64 p, .slice A n c] w fun e w' => e = .returned (.tuple #[.int .i64 (lqV a b p x), .bool (lqB a b p x)]) ∧ Bl w w' := by
  have HWp := Lib.hid (fun A1 n1 c1 w => iw_bad p (A := A1) (n := n1) (c := c1) (w := w))
  rcases hp : inR p 0 1 with _ | _
  · have hB : lqB a b p x = false := by unfold lqB; rw [hp, Bool.and_false, Bool.false_and]
    have HE := Lib.hid (show lqV a b p x = 0 by unfold lqV; rw [hB]; rfl)
    have HF := Lib.hid hB
    have HP := Lib.hid hp
    clear hB hp
    rcases hpg : pgB a b with _ | _
    all_goals
      have HPG := Lib.hid hpg
      clear hpg
      go_enter Tryz.func15, Tryz.ntmps15
      go_wp2_with fail
      refine (impl_ProgramFor a b _ ht).mono ?_
      rintro e w1 ⟨A1, n1, c1, l1, rfl, ho1, hm1, hb1⟩
      rw [HPG.out]
      clear hm1
      go_wp2_with fail
      refine (HWp.out A1 n1 c1 _ HP.out).mono ?_
      rintro e w2 ⟨rfl, hb2⟩
      go_wp2_with fail
      go_ret2
      exact ⟨by rw [HE.out, HF.out]; rfl, hb1.call hb2⟩
  rcases hpg : pgB a b with _ | _
  · have hB : lqB a b p x = false := by unfold lqB; rw [hpg, Bool.false_and, Bool.false_and]
    have HE := Lib.hid (show lqV a b p x = 0 by unfold lqV; rw [hB]; rfl)
    have HF := Lib.hid hB
    have HP := Lib.hid hp
    have HR := Lib.hid (show pgR a b = [] by unfold pgR; rw [hpg]; rfl)
    have HPG := Lib.hid hpg
    clear hB hp hpg
    go_enter Tryz.func15, Tryz.ntmps15
    go_wp2_with fail
    refine (impl_ProgramFor a b _ ht).mono ?_
    rintro e w1 ⟨A1, n1, c1, l1, rfl, ho1, hm1, hb1⟩
    rw [HPG.out]
    have hl : l1.map (·.2) = [] := by rw [hm1, HR.out]
    have HM := Lib.hid hl
    clear hm1 hl
    go_wp2_with fail
    refine (impl_InputWidths p HP.out A1 n1 c1 l1 [] w1 ho1.rd (by rw [HM.out]; exact nil_facts.1) (by rw [HM.out]; exact nil_facts.2.1) (by rw [HM.out]; exact nil_facts.2.2) (ht.keep hb1).m).mono ?_
    rintro e w2 ⟨A2, m2, c2, rfl, hm2, ho2, hb2⟩
    go_wp2_with fail
    go_ret2
    exact ⟨by rw [HE.out, HF.out]; rfl, hb1.call hb2⟩
  obtain ⟨k, rfl, hk, hbI, hR⟩ := pgB_at hpg
  have hb4 := inR_iff.1 hbI
  have hpp := inR_iff.1 hp
  rcases hf : fitR x (insL (pgL k b) p) with _ | _
  · have hB : lqB k b p x = false := by unfold lqB; rw [hR, hf, Bool.and_false]
    have HE := Lib.hid (show lqV k b p x = 0 by unfold lqV; rw [hB]; rfl)
    have HF := Lib.hid hB
    have HP := Lib.hid hp
    obtain ⟨hg, hok⟩ := pg_oks hk hbI
    obtain ⟨wsA, hwsA, _⟩ := goodB_at hg
    have HIW := Lib.hid (fun A1 n1 c1 l1 w (h : RdL w A1 n1 c1 l1) (e : l1.map (·.2) = pgL k b) => impl_InputWidths p hp A1 n1 c1 l1 wsA w h (by rw [e]; exact hg) (by rw [e]; exact hwsA) (by rw [e]; exact hok))
    have HW1 := Lib.hid (ins_w hg p)
    have HPG := Lib.hid hpg
    have HRR := Lib.hid hR
    have HFX := Lib.hid hf
    clear hB hp hpg hR hf hg hok hwsA
    go_enter Tryz.func15, Tryz.ntmps15
    go_wp2_with fail
    refine (impl_ProgramFor k b _ ht).mono ?_
    rintro e w1 ⟨A1, n1, c1, l1, rfl, ho1, hm1, hb1⟩
    rw [HPG.out]
    rw [HRR.out] at hm1
    have HM := Lib.hid hm1
    clear hm1
    go_wp2_with fail
    refine (HIW.out A1 n1 c1 l1 _ ho1.rd HM.out (ht.keep hb1).m).mono ?_
    rintro e w2 ⟨A2, m2, c2, rfl, hm2, ho2, hb2⟩
    rw [HM.out] at ho2
    have hB2 := hb1.call hb2
    go_wp2_with fail
    refine (impl_fitWidths A A2 n c m2 c2 x _ w2 (hx.keep hB2) ho2.rd HW1.out).mono ?_
    rintro e w3 ⟨rfl, rfl⟩
    rw [HFX.out]
    go_wp2_with fail
    go_ret2
    exact ⟨by rw [HE.out, HF.out]; rfl, hB2⟩
  · have hB : lqB k b p x = true := by unfold lqB; rw [hR, hf, hpg, hp]; rfl
    have hS : ∃ S : Nat, (insL (pgL k b) (1 - p)).sum = (S : Int) := ⟨(insL (pgL k b) (1 - p)).sum.toNat, by have := (ask_p hk hb4 (p := p) (by omega)).2.1; omega⟩
    obtain ⟨S, hS⟩ := hS
    have hE : lqV k b p x = (lsB (laT tI k b p x (insL (pgL k b) (1 - p)) S) (2 ^ S) : Nat) := by
      unfold lqV lqW
      rw [hB, hR, hS, Int.toNat_natCast, Int.toNat_natCast]
      rfl
    rw [hB, hE]
    rcases (by omega : p = 0 ∨ p = 1) with rfl | rfl
    · exact impl_Least_0 k hk b hb4 A n c x w hx ht h10 hf S hS
    · exact impl_Least_1 k hk b hb4 A n c x w hx ht h10 hf S hS
end Go.Proofs.YtjggecbaladiiaaGreatDoor
