/- Contract of the reference's least answer.
   Conditions: none. -/
import Derived.Test.YtjggecbaladiiaaGreatDoorLne
namespace Go.Proofs.YtjggecbaladiiaaGreatDoor
open Go.RowKit Go.WideElems
set_option linter.unusedVariables false
theorem tSl_len {l : List Int} (h : allR l 0 1000 = true) : ∀ k, (toB (tSl (l.take k))).size ≤ 22 * k := by
  intro k
  induction k with
  | zero => exact Nat.le_refl _
  | succ k ih =>
    rcases hx : l[k]? with _ | x
    · rw [List.take_add_one, hx]
      simp only [Option.toList_none, List.append_nil]
      omega
    · rw [tSl_step hx, ByteArray.size_append, ByteArray.size_append]
      have h3 := itoa_size (inR_iff.1 (List.all_eq_true.1 h x (List.mem_of_getElem? hx)))
      have h4 : (toB [32]).size = 1 := rfl
      omega
set_option maxRecDepth 20000 in
set_option maxHeartbeats 4000000 in
theorem spec_Least_0 (k : Nat) (hk : k < 12) (b : Int) (hb4 : 1 ≤ b ∧ b ≤ 4) (A : Option Addr) (n c : Nat) (x : List Int) (w : World) (hx : RdI w A n c x) (hf : fitR x (insL (pgL k b) 0) = true) (S : Nat) (hS : (insL (pgL k b) 1).sum = (S : Int)) :
    Calls Tryz.prog 13 #[.int .i64 (k : Nat), .int .i64 b, .int .i64 0, .slice A n c] w fun e w' => e = .returned (.tuple #[.int .i64 (lsB (laT tS k b 0 x (insL (pgL k b) 1) S) (2 ^ S) : Nat), .bool true]) ∧ Bl w w' := by
  have hbI : inR b 1 4 = true := inR_iff.2 hb4
  have hpg : pgB k b = true := by unfold pgB; rw [hbI, Bool.and_true]; exact inR_iff.2 ⟨by omega, by omega⟩
  obtain ⟨hg, hok⟩ := pg_oks hk hbI
  have hgl : (pgL k b).length ≤ 30 := by obtain ⟨_, _, h30, _⟩ := goodB_at hg; exact h30
  have HGL := Lib.hid (fun (A1 : Option Addr) (n1 c1 : Nat) (l1 : List (Hd × Ln)) (w : World) (h : RdL w A1 n1 c1 l1) (e : l1.map (·.2) = pgL k b) => (show n1 ≤ 1000 by have := congrArg List.length e; rw [List.length_map, h.len] at this; omega))
  have HA := Lib.hid (ask_p hk hb4 (p := 0) (by omega))
  have HASK := Lib.hid (fun j => (la_ask hk hb4 (p := 0) (by omega) hf hS j).2 rfl)
  have HW1 := Lib.hid (ins_w hg 0)
  have HPG := Lib.hid hpg
  have HF := Lib.hid hf
  have HSM := Lib.hid hS
  have hp0 : inR 0 0 1 = true := by decide
  have hp1 : inR 1 0 1 = true := by decide
  have hS8 : S ≤ 8 := by
    have := HA.out.2.2.1
    rw [show (1 : Int) - 0 = 1 from rfl, hS] at this
    omega
  have hN256 : 2 ^ S ≤ 2 ^ 8 := Nat.pow_le_pow_right (by decide) hS8
  have hsh := sh8 S (by omega)
  obtain ⟨N, hN⟩ : ∃ N, 2 ^ S = N := ⟨_, rfl⟩
  rw [hN] at hN256 hsh ⊢
  have HSH := Lib.hid hsh
  have HJ := Lib.hid (show ∀ j, j < N → (laT tS k b 0 x (insL (pgL k b) 1) S)[j]? = some (tS (laV k b 0 x (insL (pgL k b) 1) S j)) from fun j hj => laT_at _ _ _ _ _ _ _ (by rw [hN]; exact hj))
  have HLT := Lib.hid (show (laT tS k b 0 x (insL (pgL k b) 1) S).length = N by rw [laT_len, hN])
  clear hg hok hpg hf hS hN hsh hgl
  obtain ⟨a1, a2, a3, a4⟩ := HA.out
  rw [show (1 : Int) - 0 = 1 from rfl] at a1 a2 a3 a4
  have HASK2 : Hid (∀ j : Nat, askR (pgL k b) x (nmsL (insL (pgL k b) 1) (bitL j S)) = true) := Lib.hid (fun j => HASK.out j)
  obtain ⟨ws, hws⟩ : ∃ ws, insL (pgL k b) 1 = ws := ⟨_, rfl⟩
  rw [hws] at a1 a2 a3 a4 HASK2 HJ HLT HSM ⊢
  have HWS := Lib.hid hws
  have HW10 := Lib.hid (allR_up10 a1)
  have HW4 := Lib.hid a1
  clear hws HASK HA a1
  obtain ⟨T, hT⟩ : ∃ T, laT tS k b 0 x ws S = T := ⟨_, rfl⟩
  rw [hT] at HJ HLT ⊢
  clear hT
  have HBI := Lib.hid hbI
  clear hbI
  go_enter Tryz.func13, Tryz.ntmps13
  go_wp2_with fail
  refine (spec_pgGood k b _).mono ?_
  rintro e w0 ⟨rfl, rfl⟩
  rw [HPG.out]
  go_wp2_with fail
  refine (spec_l1In 0 0 1 _).mono ?_
  rintro e w0 ⟨rfl, rfl⟩
  rw [hp0]
  go_wp2_with fail
  refine (spec_pgFor k hk b HBI.out _).mono ?_
  rintro e w1 ⟨A1, n1, c1, l1, rfl, hl1, hm1, hb1⟩
  have HM := Lib.hid hm1
  clear hm1
  go_wp2_with fail
  refine (spec_laInputs A1 n1 c1 l1 0 _ hl1 (HGL.out A1 n1 c1 l1 w1 hl1 HM.out)).mono ?_
  rintro e w2 ⟨A2, m2, c2, rfl, hm2, ho2, hb2⟩
  rw [HM.out] at ho2
  have hB2 := hb1.call hb2
  go_wp2_with fail
  refine (spec_laFit A A2 n c m2 c2 x _ w2 (hx.keep hB2) ho2.rd HW1.out).mono ?_
  rintro e w3 ⟨rfl, rfl⟩
  rw [HF.out]
  clear hm2 ho2 HM hl1
  go_wp2_with fail
  refine (spec_pgFor k hk b HBI.out _).mono ?_
  rintro e w3 ⟨A3, n3, c3, l3, rfl, hl3, hm3, hb3⟩
  have HM := Lib.hid hm3
  clear hm3
  go_wp2_with fail
  refine (spec_laInputs A3 n3 c3 l3 1 _ hl3 (HGL.out A3 n3 c3 l3 w3 hl3 HM.out)).mono ?_
  rintro e w4 ⟨A4, m4, c4, rfl, hm4, ho4, hb4_⟩
  rw [HM.out, HWS.out] at ho4
  have hm4l := ho4.length
  have hwB := (hB2.call hb3).call hb4_
  clear hm4 hl3 HM HGL
  have hO0 := OwnS.nil w4.heap.size w4
  go_wp2_with fail
  go_loopw [11, 12] (fun t i wr => ∃ (j cT : Nat) (AT : Option Addr), j ≤ N ∧ i = .int .i64 (j : Nat) ∧ t = .slice AT j cT ∧ OwnS w4.heap.size wr AT j cT (T.take j) ∧ Bl w4 wr) (fun _ i _ => N - (intOf i).toNat)
  case atStart => exact ⟨0, 0, none, by omega, rfl, rfl, hO0, Bl.refl _⟩
  case round =>
    clear hO0
    obtain ⟨j, cT, AT, hj, rfl, rfl, hO, hV⟩ := hrel
    have ho4w := ho4.keep hV
    by_cases hlt : j < N
    · have ij : (j : Int) < N := by omega
      obtain ⟨wh, hwh⟩ : ∃ wh, wh = wr := ⟨_, rfl⟩
      subst hwh
      have hq := HASK2.out j
      have HE := Lib.hid (show laV k b 0 x ws S j = exR k b x (nmsL ws (bitL j S)) from if_neg (by decide))
      have hTj := HJ.out j hlt
      rw [HE.out] at hTj
      have HB := Lib.hid (ex_bd hk hb4 hq)
      have HL := Lib.hid (show (exR k b x (nmsL ws (bitL j S))).length ≤ 1000 from exL_len _ _ _ _ _)
      have HQ := Lib.hid hq
      have HTJ := Lib.hid hTj
      clear hq hTj
      go_wp2_with fail
      refine (spec_laSum A4 m4 c4 ws _ ho4w.rd (by omega) HW10.out).mono ?_
      rintro e w5 ⟨rfl, rfl⟩
      rw [HSM.out]
      have hsh := HSH.out
      go_wp2_with fail
      clear hsh
      refine (spec_laSum A4 m4 c4 ws _ ho4w.rd (by omega) HW10.out).mono ?_
      rintro e w5 ⟨rfl, rfl⟩
      rw [HSM.out]
      go_wp2_with fail
      refine (spec_btOf j S (by omega) (by omega) _).mono ?_
      rintro e w6 ⟨S6, c6, rfl, ho6, hb6⟩
      go_wp2_with fail
      refine (spec_coNumbers A4 S6 m4 c4 S c6 ws (bitL j S) w6 (ho4w.rd.keep hb6) ho6.rd HW4.out HSM.out bitL_01 (by omega) (by omega)).mono ?_
      rintro e w7 ⟨A7, c7, rfl, ho7, hb7⟩
      have hB7 := hV.call (hb6.call hb7)
      go_wp2_with fail
      refine (spec_pgExpected k hk b hb4 A A7 n c m4 c7 x _ w7 (hx.keep (hwB.call hB7)) ho7.rd HQ.out).mono ?_
      rintro e w8 ⟨A8, n8, c8, rfl, ho8, hb8⟩
      obtain ⟨V, hVV⟩ : ∃ V, exR k b x (nmsL ws (bitL j S)) = V := ⟨_, rfl⟩
      rw [hVV] at ho8 HB HL HTJ
      clear hVV
      have hn8 : n8 ≤ 1000 := by rw [← ho8.length]; exact HL.out
      have HL8 := Lib.hid ho8.length
      have hB8 := hB7.call hb8
      have hO8 := ((hO.keep hb6).keep hb7).keep hb8
      have hle8 := ho8.rd.le
      have HSZ := Lib.hid (tSl_len (allR_up HB.out (by decide : (999 : Int) ≤ 1000)))
      go_wp2_with fail
      go_loopw [16, 76] (fun s i wr => ∃ (q : Nat) (sq : ByteArray), q ≤ n8 ∧ i = .int .i64 (q : Nat) ∧ s = .string sq ∧ Hid (toB (tSl (V.take q)) = sq) ∧ Bl w8 wr) (fun _ i _ => n8 - (intOf i).toNat)
      case atStart => exact ⟨0, _, by omega, rfl, rfl, Lib.hid rfl, Bl.refl _⟩
      case round =>
        obtain ⟨q, sq, hq, rfl, rfl, HSQ, hVq⟩ := hrel
        have hsq := HSZ.out q
        rw [HSQ.out] at hsq
        by_cases hlq : q < n8
        · obtain ⟨ad, y, rfl, hadb, hy, hcell⟩ := (ho8.rd.keep hVq).at_ hlq
          have hyb := inR_iff.1 (List.all_eq_true.1 HB.out y (List.mem_of_getElem? hy))
          have HST := Lib.hid (show toB (tSl (V.take (q + 1))) = sq ++ (toB (Lib.itoa y) ++ toB [32]) by rw [tSl_step hy, HSQ.out])
          have hd1 := itoa_size (x := y) (by omega)
          obtain ⟨dy, hdy⟩ : ∃ dy, toB (Lib.itoa y) = dy := ⟨_, rfl⟩
          rw [hdy] at HST hd1
          have HD := Lib.hid hdy
          have h32 : (⟨#[32]⟩ : ByteArray).size = 1 := rfl
          have hs1 : (dy ++ ⟨#[32]⟩ : ByteArray).size ≤ 22 := by rw [ByteArray.size_append]; omega
          have hs2 : (sq ++ (dy ++ ⟨#[32]⟩ : ByteArray)).size ≤ 22 * (q + 1) := by rw [ByteArray.size_append]; omega
          have iq : (q : Int) < n8 := by omega
          clear hy hdy
          go_wp2_with fail
          refine (spec_l1NumT y (by omega) (by omega) _).mono ?_
          rintro e w9 ⟨rfl, hb9⟩
          rw [HD.out]
          go_wp2_with fail
          go_roundw
          case rel => exact ⟨q + 1, _, by omega, by go_num, rfl, HST, hVq.call hb9⟩
          case measure => simp [intOf]; omega
        · obtain rfl : q = n8 := by omega
          have iq : ¬ (q : Int) < q := by omega
          have HTS := Lib.hid (show T[j]? = some sq by rw [HTJ.out, ← HSQ.out, List.take_of_length_le (by rw [HL8.out]; exact Nat.le_refl _)]; rfl)
          have hO9 := hO8.keep hVq
          go_wp2_with (at_builtin; refine ap_strs rfl rfl rfl (OwnS.keep hO9 ((Bl.refl _).alloc _)) rfl (own_strs _ [sq] rfl (Nat.le_refl _) (by simp)).rd (by simp; omega) (by have := hV.sz; have := hB8.sz; have := hVq.sz; simp; omega) ?_; intro A9 c9 w9 ho9 hg9 hat9)
          exact ⟨⟨j + 1, _, _, by omega, by go_num, rfl, by rw [List.take_add_one, HTS.out]; exact ho9, Bl.grown ((hB8.call hVq).alloc _) hg9 (fun q hq => (OwnV.blk hO9 q hq).1)⟩, by simp [intOf]; omega⟩
    · obtain rfl : j = N := by omega
      have ij : ¬ (j : Int) < j := by omega
      have hTT : T.take j = T := List.take_of_length_le (by rw [HLT.out]; exact Nat.le_refl _)
      rw [hTT] at hO
      have hle := hO.rd.le
      obtain ⟨wh, hwh⟩ : ∃ wh, wh = wr := ⟨_, rfl⟩
      subst hwh
      clear hTT
      go_wp2_with fail
      refine (spec_laSum A4 m4 c4 ws _ ho4w.rd (by omega) HW10.out).mono ?_
      rintro e w5 ⟨rfl, rfl⟩
      rw [HSM.out]
      have hsh := HSH.out
      go_wp2_with fail
      clear hsh
      go_loopw [19, 94] (fun m i wr => ∃ q : Nat, q ≤ j ∧ i = .int .i64 (q : Nat) ∧ m = .int .i64 (lsB T q : Nat) ∧ wr = wh) (fun _ i _ => j - (intOf i).toNat)
      case atStart => exact ⟨0, by omega, rfl, by rw [lsB, HLT.out], rfl⟩
      case round =>
        obtain ⟨q, hq, rfl, rfl, rfl⟩ := hrel
        by_cases hlq : q < j
        · obtain ⟨ad, s, rfl, hadb, hs, hcell⟩ := hO.rd.at_ hlq
          have HLS := Lib.hid (lsB_step hs)
          have htop := lsB_top T q
          rw [HLT.out] at htop
          have iq : (q : Int) < j := by omega
          clear hs
          generalize lsB T q = lq at HLS htop ⊢
          go_wp2_with fail
          go_loop [22, 100] (fun m i => ∃ r : Nat, r ≤ j ∧ i = .int .i64 (r : Nat) ∧ m = .int .i64 (cnB (T.take r) s : Nat)) (fun _ i => j - (intOf i).toNat)
          case atStart => exact ⟨0, by omega, rfl, rfl⟩
          case round =>
            obtain ⟨r, hr, rfl, rfl⟩ := hrel
            have hcr := cnB_le (T.take r) s
            rw [List.length_take, HLT.out] at hcr
            by_cases hlr : r < j
            · obtain ⟨ad2, u, e2, hadb2, hu, hcell2⟩ := hO.rd.at_ hlr
              injection e2 with e2
              subst e2
              have ir : (r : Int) < j := by omega
              have HCS := Lib.hid (show cnB (T.take (r + 1)) s = cnB (T.take r) s + if u = s then 1 else 0 by rw [List.take_add_one, hu]; exact cnB_snoc _ _ _)
              clear hu
              generalize cnB (T.take r) s = cr at HCS hcr ⊢
              by_cases hsu : s = u
              · subst hsu
                have HC2 := Lib.hid (show cnB (T.take (r + 1)) s = cr + 1 by rw [HCS.out, if_pos rfl])
                clear HCS
                go_wp2_with fail
                go_round
                case rel => exact ⟨r + 1, by omega, by go_num, by rw [HC2.out]; rfl⟩
                case measure => simp [intOf]; omega
              · have HC2 := Lib.hid (show cnB (T.take (r + 1)) s = cr by rw [HCS.out, if_neg (fun e => hsu e.symm)]; rfl)
                clear HCS
                have hsb : (s.toList == u.toList) = false := by rw [sb_eq]; exact decide_eq_false hsu
                go_wp2_with fail
                go_round
                case rel => exact ⟨r + 1, by omega, by go_num, by rw [HC2.out]⟩
                case measure => simp [intOf]; omega
            · obtain rfl : r = j := by omega
              have ir : ¬ (r : Int) < r := by omega
              have HTK := Lib.hid (show T.take r = T from List.take_of_length_le (by rw [HLT.out]; exact Nat.le_refl _))
              rw [HTK.out] at hcr ⊢
              have HLS2 := Lib.hid (show lsB T (q + 1) = min lq (cnB T s) from HLS.out)
              generalize cnB T s = cr at HLS2 hcr ⊢
              go_wp2_with fail
              refine (spec_l1LeastE _ _ _).mono ?_
              rintro e w9 ⟨rfl, rfl⟩
              go_wp2_with fail
              exact ⟨⟨q + 1, by omega, by go_num, by rw [HLS2.out]; congr 1; omega, trivial⟩, by simp [intOf]; omega⟩
        · obtain rfl : q = j := by omega
          have iq : ¬ (q : Int) < q := by omega
          go_wp2_with fail
          go_ret2
          exact ⟨rfl, hwB.call hV⟩
set_option maxRecDepth 20000 in
set_option maxHeartbeats 4000000 in
theorem spec_Least_1 (k : Nat) (hk : k < 12) (b : Int) (hb4 : 1 ≤ b ∧ b ≤ 4) (A : Option Addr) (n c : Nat) (x : List Int) (w : World) (hx : RdI w A n c x) (hf : fitR x (insL (pgL k b) 1) = true) (S : Nat) (hS : (insL (pgL k b) 0).sum = (S : Int)) :
    Calls Tryz.prog 13 #[.int .i64 (k : Nat), .int .i64 b, .int .i64 1, .slice A n c] w fun e w' => e = .returned (.tuple #[.int .i64 (lsB (laT tS k b 1 x (insL (pgL k b) 0) S) (2 ^ S) : Nat), .bool true]) ∧ Bl w w' := by
  have hbI : inR b 1 4 = true := inR_iff.2 hb4
  have hpg : pgB k b = true := by unfold pgB; rw [hbI, Bool.and_true]; exact inR_iff.2 ⟨by omega, by omega⟩
  obtain ⟨hg, hok⟩ := pg_oks hk hbI
  have hgl : (pgL k b).length ≤ 30 := by obtain ⟨_, _, h30, _⟩ := goodB_at hg; exact h30
  have HGL := Lib.hid (fun (A1 : Option Addr) (n1 c1 : Nat) (l1 : List (Hd × Ln)) (w : World) (h : RdL w A1 n1 c1 l1) (e : l1.map (·.2) = pgL k b) => (show n1 ≤ 1000 by have := congrArg List.length e; rw [List.length_map, h.len] at this; omega))
  have HA := Lib.hid (ask_p hk hb4 (p := 1) (by omega))
  have HASK := Lib.hid (fun j => (la_ask hk hb4 (p := 1) (by omega) hf hS j).1 rfl)
  have HW1 := Lib.hid (ins_w hg 1)
  have HPG := Lib.hid hpg
  have HF := Lib.hid hf
  have HSM := Lib.hid hS
  have hp0 : inR 0 0 1 = true := by decide
  have hp1 : inR 1 0 1 = true := by decide
  have hS8 : S ≤ 8 := by
    have := HA.out.2.2.1
    rw [show (1 : Int) - 1 = 0 from rfl, hS] at this
    omega
  have hN256 : 2 ^ S ≤ 2 ^ 8 := Nat.pow_le_pow_right (by decide) hS8
  have hsh := sh8 S (by omega)
  obtain ⟨N, hN⟩ : ∃ N, 2 ^ S = N := ⟨_, rfl⟩
  rw [hN] at hN256 hsh ⊢
  have HSH := Lib.hid hsh
  have HJ := Lib.hid (show ∀ j, j < N → (laT tS k b 1 x (insL (pgL k b) 0) S)[j]? = some (tS (laV k b 1 x (insL (pgL k b) 0) S j)) from fun j hj => laT_at _ _ _ _ _ _ _ (by rw [hN]; exact hj))
  have HLT := Lib.hid (show (laT tS k b 1 x (insL (pgL k b) 0) S).length = N by rw [laT_len, hN])
  clear hg hok hpg hf hS hN hsh hgl
  obtain ⟨a1, a2, a3, a4⟩ := HA.out
  rw [show (1 : Int) - 1 = 0 from rfl] at a1 a2 a3 a4
  have HASK2 : Hid (∀ j : Nat, askR (pgL k b) (nmsL (insL (pgL k b) 0) (bitL j S)) x = true) := Lib.hid (fun j => HASK.out j)
  obtain ⟨ws, hws⟩ : ∃ ws, insL (pgL k b) 0 = ws := ⟨_, rfl⟩
  rw [hws] at a1 a2 a3 a4 HASK2 HJ HLT HSM ⊢
  have HWS := Lib.hid hws
  have HW10 := Lib.hid (allR_up10 a1)
  have HW4 := Lib.hid a1
  clear hws HASK HA a1
  obtain ⟨T, hT⟩ : ∃ T, laT tS k b 1 x ws S = T := ⟨_, rfl⟩
  rw [hT] at HJ HLT ⊢
  clear hT
  have HBI := Lib.hid hbI
  clear hbI
  go_enter Tryz.func13, Tryz.ntmps13
  go_wp2_with fail
  refine (spec_pgGood k b _).mono ?_
  rintro e w0 ⟨rfl, rfl⟩
  rw [HPG.out]
  go_wp2_with fail
  refine (spec_l1In 1 0 1 _).mono ?_
  rintro e w0 ⟨rfl, rfl⟩
  rw [hp1]
  go_wp2_with fail
  refine (spec_pgFor k hk b HBI.out _).mono ?_
  rintro e w1 ⟨A1, n1, c1, l1, rfl, hl1, hm1, hb1⟩
  have HM := Lib.hid hm1
  clear hm1
  go_wp2_with fail
  refine (spec_laInputs A1 n1 c1 l1 1 _ hl1 (HGL.out A1 n1 c1 l1 w1 hl1 HM.out)).mono ?_
  rintro e w2 ⟨A2, m2, c2, rfl, hm2, ho2, hb2⟩
  rw [HM.out] at ho2
  have hB2 := hb1.call hb2
  go_wp2_with fail
  refine (spec_laFit A A2 n c m2 c2 x _ w2 (hx.keep hB2) ho2.rd HW1.out).mono ?_
  rintro e w3 ⟨rfl, rfl⟩
  rw [HF.out]
  clear hm2 ho2 HM hl1
  go_wp2_with fail
  refine (spec_pgFor k hk b HBI.out _).mono ?_
  rintro e w3 ⟨A3, n3, c3, l3, rfl, hl3, hm3, hb3⟩
  have HM := Lib.hid hm3
  clear hm3
  go_wp2_with fail
  refine (spec_laInputs A3 n3 c3 l3 0 _ hl3 (HGL.out A3 n3 c3 l3 w3 hl3 HM.out)).mono ?_
  rintro e w4 ⟨A4, m4, c4, rfl, hm4, ho4, hb4_⟩
  rw [HM.out, HWS.out] at ho4
  have hm4l := ho4.length
  have hwB := (hB2.call hb3).call hb4_
  clear hm4 hl3 HM HGL
  have hO0 := OwnS.nil w4.heap.size w4
  go_wp2_with fail
  go_loopw [11, 12] (fun t i wr => ∃ (j cT : Nat) (AT : Option Addr), j ≤ N ∧ i = .int .i64 (j : Nat) ∧ t = .slice AT j cT ∧ OwnS w4.heap.size wr AT j cT (T.take j) ∧ Bl w4 wr) (fun _ i _ => N - (intOf i).toNat)
  case atStart => exact ⟨0, 0, none, by omega, rfl, rfl, hO0, Bl.refl _⟩
  case round =>
    clear hO0
    obtain ⟨j, cT, AT, hj, rfl, rfl, hO, hV⟩ := hrel
    have ho4w := ho4.keep hV
    by_cases hlt : j < N
    · have ij : (j : Int) < N := by omega
      obtain ⟨wh, hwh⟩ : ∃ wh, wh = wr := ⟨_, rfl⟩
      subst hwh
      have hq := HASK2.out j
      have HE := Lib.hid (show laV k b 1 x ws S j = exR k b (nmsL ws (bitL j S)) x from if_pos rfl)
      have hTj := HJ.out j hlt
      rw [HE.out] at hTj
      have HB := Lib.hid (ex_bd hk hb4 hq)
      have HL := Lib.hid (show (exR k b (nmsL ws (bitL j S)) x).length ≤ 1000 from exL_len _ _ _ _ _)
      have HQ := Lib.hid hq
      have HTJ := Lib.hid hTj
      clear hq hTj
      go_wp2_with fail
      refine (spec_laSum A4 m4 c4 ws _ ho4w.rd (by omega) HW10.out).mono ?_
      rintro e w5 ⟨rfl, rfl⟩
      rw [HSM.out]
      have hsh := HSH.out
      go_wp2_with fail
      clear hsh
      refine (spec_laSum A4 m4 c4 ws _ ho4w.rd (by omega) HW10.out).mono ?_
      rintro e w5 ⟨rfl, rfl⟩
      rw [HSM.out]
      go_wp2_with fail
      refine (spec_btOf j S (by omega) (by omega) _).mono ?_
      rintro e w6 ⟨S6, c6, rfl, ho6, hb6⟩
      go_wp2_with fail
      refine (spec_coNumbers A4 S6 m4 c4 S c6 ws (bitL j S) w6 (ho4w.rd.keep hb6) ho6.rd HW4.out HSM.out bitL_01 (by omega) (by omega)).mono ?_
      rintro e w7 ⟨A7, c7, rfl, ho7, hb7⟩
      have hB7 := hV.call (hb6.call hb7)
      go_wp2_with fail
      refine (spec_pgExpected k hk b hb4 A7 A m4 c7 n c _ x w7 ho7.rd (hx.keep (hwB.call hB7)) HQ.out).mono ?_
      rintro e w8 ⟨A8, n8, c8, rfl, ho8, hb8⟩
      obtain ⟨V, hVV⟩ : ∃ V, exR k b (nmsL ws (bitL j S)) x = V := ⟨_, rfl⟩
      rw [hVV] at ho8 HB HL HTJ
      clear hVV
      have hn8 : n8 ≤ 1000 := by rw [← ho8.length]; exact HL.out
      have HL8 := Lib.hid ho8.length
      have hB8 := hB7.call hb8
      have hO8 := ((hO.keep hb6).keep hb7).keep hb8
      have hle8 := ho8.rd.le
      have HSZ := Lib.hid (tSl_len (allR_up HB.out (by decide : (999 : Int) ≤ 1000)))
      go_wp2_with fail
      go_loopw [16, 76] (fun s i wr => ∃ (q : Nat) (sq : ByteArray), q ≤ n8 ∧ i = .int .i64 (q : Nat) ∧ s = .string sq ∧ Hid (toB (tSl (V.take q)) = sq) ∧ Bl w8 wr) (fun _ i _ => n8 - (intOf i).toNat)
      case atStart => exact ⟨0, _, by omega, rfl, rfl, Lib.hid rfl, Bl.refl _⟩
      case round =>
        obtain ⟨q, sq, hq, rfl, rfl, HSQ, hVq⟩ := hrel
        have hsq := HSZ.out q
        rw [HSQ.out] at hsq
        by_cases hlq : q < n8
        · obtain ⟨ad, y, rfl, hadb, hy, hcell⟩ := (ho8.rd.keep hVq).at_ hlq
          have hyb := inR_iff.1 (List.all_eq_true.1 HB.out y (List.mem_of_getElem? hy))
          have HST := Lib.hid (show toB (tSl (V.take (q + 1))) = sq ++ (toB (Lib.itoa y) ++ toB [32]) by rw [tSl_step hy, HSQ.out])
          have hd1 := itoa_size (x := y) (by omega)
          obtain ⟨dy, hdy⟩ : ∃ dy, toB (Lib.itoa y) = dy := ⟨_, rfl⟩
          rw [hdy] at HST hd1
          have HD := Lib.hid hdy
          have h32 : (⟨#[32]⟩ : ByteArray).size = 1 := rfl
          have hs1 : (dy ++ ⟨#[32]⟩ : ByteArray).size ≤ 22 := by rw [ByteArray.size_append]; omega
          have hs2 : (sq ++ (dy ++ ⟨#[32]⟩ : ByteArray)).size ≤ 22 * (q + 1) := by rw [ByteArray.size_append]; omega
          have iq : (q : Int) < n8 := by omega
          clear hy hdy
          go_wp2_with fail
          refine (spec_l1NumT y (by omega) (by omega) _).mono ?_
          rintro e w9 ⟨rfl, hb9⟩
          rw [HD.out]
          go_wp2_with fail
          go_roundw
          case rel => exact ⟨q + 1, _, by omega, by go_num, rfl, HST, hVq.call hb9⟩
          case measure => simp [intOf]; omega
        · obtain rfl : q = n8 := by omega
          have iq : ¬ (q : Int) < q := by omega
          have HTS := Lib.hid (show T[j]? = some sq by rw [HTJ.out, ← HSQ.out, List.take_of_length_le (by rw [HL8.out]; exact Nat.le_refl _)]; rfl)
          have hO9 := hO8.keep hVq
          go_wp2_with (at_builtin; refine ap_strs rfl rfl rfl (OwnS.keep hO9 ((Bl.refl _).alloc _)) rfl (own_strs _ [sq] rfl (Nat.le_refl _) (by simp)).rd (by simp; omega) (by have := hV.sz; have := hB8.sz; have := hVq.sz; simp; omega) ?_; intro A9 c9 w9 ho9 hg9 hat9)
          exact ⟨⟨j + 1, _, _, by omega, by go_num, rfl, by rw [List.take_add_one, HTS.out]; exact ho9, Bl.grown ((hB8.call hVq).alloc _) hg9 (fun q hq => (OwnV.blk hO9 q hq).1)⟩, by simp [intOf]; omega⟩
    · obtain rfl : j = N := by omega
      have ij : ¬ (j : Int) < j := by omega
      have hTT : T.take j = T := List.take_of_length_le (by rw [HLT.out]; exact Nat.le_refl _)
      rw [hTT] at hO
      have hle := hO.rd.le
      obtain ⟨wh, hwh⟩ : ∃ wh, wh = wr := ⟨_, rfl⟩
      subst hwh
      clear hTT
      go_wp2_with fail
      refine (spec_laSum A4 m4 c4 ws _ ho4w.rd (by omega) HW10.out).mono ?_
      rintro e w5 ⟨rfl, rfl⟩
      rw [HSM.out]
      have hsh := HSH.out
      go_wp2_with fail
      clear hsh
      go_loopw [19, 94] (fun m i wr => ∃ q : Nat, q ≤ j ∧ i = .int .i64 (q : Nat) ∧ m = .int .i64 (lsB T q : Nat) ∧ wr = wh) (fun _ i _ => j - (intOf i).toNat)
      case atStart => exact ⟨0, by omega, rfl, by rw [lsB, HLT.out], rfl⟩
      case round =>
        obtain ⟨q, hq, rfl, rfl, rfl⟩ := hrel
        by_cases hlq : q < j
        · obtain ⟨ad, s, rfl, hadb, hs, hcell⟩ := hO.rd.at_ hlq
          have HLS := Lib.hid (lsB_step hs)
          have htop := lsB_top T q
          rw [HLT.out] at htop
          have iq : (q : Int) < j := by omega
          clear hs
          generalize lsB T q = lq at HLS htop ⊢
          go_wp2_with fail
          go_loop [22, 100] (fun m i => ∃ r : Nat, r ≤ j ∧ i = .int .i64 (r : Nat) ∧ m = .int .i64 (cnB (T.take r) s : Nat)) (fun _ i => j - (intOf i).toNat)
          case atStart => exact ⟨0, by omega, rfl, rfl⟩
          case round =>
            obtain ⟨r, hr, rfl, rfl⟩ := hrel
            have hcr := cnB_le (T.take r) s
            rw [List.length_take, HLT.out] at hcr
            by_cases hlr : r < j
            · obtain ⟨ad2, u, e2, hadb2, hu, hcell2⟩ := hO.rd.at_ hlr
              injection e2 with e2
              subst e2
              have ir : (r : Int) < j := by omega
              have HCS := Lib.hid (show cnB (T.take (r + 1)) s = cnB (T.take r) s + if u = s then 1 else 0 by rw [List.take_add_one, hu]; exact cnB_snoc _ _ _)
              clear hu
              generalize cnB (T.take r) s = cr at HCS hcr ⊢
              by_cases hsu : s = u
              · subst hsu
                have HC2 := Lib.hid (show cnB (T.take (r + 1)) s = cr + 1 by rw [HCS.out, if_pos rfl])
                clear HCS
                go_wp2_with fail
                go_round
                case rel => exact ⟨r + 1, by omega, by go_num, by rw [HC2.out]; rfl⟩
                case measure => simp [intOf]; omega
              · have HC2 := Lib.hid (show cnB (T.take (r + 1)) s = cr by rw [HCS.out, if_neg (fun e => hsu e.symm)]; rfl)
                clear HCS
                have hsb : (s.toList == u.toList) = false := by rw [sb_eq]; exact decide_eq_false hsu
                go_wp2_with fail
                go_round
                case rel => exact ⟨r + 1, by omega, by go_num, by rw [HC2.out]⟩
                case measure => simp [intOf]; omega
            · obtain rfl : r = j := by omega
              have ir : ¬ (r : Int) < r := by omega
              have HTK := Lib.hid (show T.take r = T from List.take_of_length_le (by rw [HLT.out]; exact Nat.le_refl _))
              rw [HTK.out] at hcr ⊢
              have HLS2 := Lib.hid (show lsB T (q + 1) = min lq (cnB T s) from HLS.out)
              generalize cnB T s = cr at HLS2 hcr ⊢
              go_wp2_with fail
              refine (spec_l1LeastE _ _ _).mono ?_
              rintro e w9 ⟨rfl, rfl⟩
              go_wp2_with fail
              exact ⟨⟨q + 1, by omega, by go_num, by rw [HLS2.out]; congr 1; omega, trivial⟩, by simp [intOf]; omega⟩
        · obtain rfl : q = j := by omega
          have iq : ¬ (q : Int) < q := by omega
          go_wp2_with fail
          go_ret2
          exact ⟨rfl, hwB.call hV⟩
set_option maxRecDepth 20000 in
set_option maxHeartbeats 4000000 in
theorem spec_LeastAnswer (a b p : Int) (A : Option Addr) (n c : Nat) (x : List Int) (w : World) (hx : RdI w A n c x) :
    Calls Tryz.prog 13 #[.int .i64 a, .int .i64 b, .int .i64 p, .slice A n c] w fun e w' => e = .returned (.tuple #[.int .i64 (lqV a b p x), .bool (lqB a b p x)]) ∧ Bl w w' := by
  rcases hpg : pgB a b with _ | _
  · have hB : lqB a b p x = false := by unfold lqB; rw [hpg, Bool.false_and, Bool.false_and]
    have HE := Lib.hid (show lqV a b p x = 0 by unfold lqV; rw [hB]; rfl)
    have HF := Lib.hid hB
    have HPG := Lib.hid hpg
    clear hB hpg
    go_enter Tryz.func13, Tryz.ntmps13
    go_wp2_with fail
    refine (spec_pgGood a b _).mono ?_
    rintro e w0 ⟨rfl, rfl⟩
    rw [HPG.out]
    go_wp2_with fail
    go_ret2
    exact ⟨by rw [HE.out, HF.out]; rfl, Bl.refl _⟩
  rcases hp : inR p 0 1 with _ | _
  · have hB : lqB a b p x = false := by unfold lqB; rw [hp, Bool.and_false, Bool.false_and]
    have HE := Lib.hid (show lqV a b p x = 0 by unfold lqV; rw [hB]; rfl)
    have HF := Lib.hid hB
    have HP := Lib.hid hp
    have HPG := Lib.hid hpg
    clear hB hp hpg
    go_enter Tryz.func13, Tryz.ntmps13
    go_wp2_with fail
    refine (spec_pgGood a b _).mono ?_
    rintro e w0 ⟨rfl, rfl⟩
    rw [HPG.out]
    go_wp2_with fail
    refine (spec_l1In p 0 1 _).mono ?_
    rintro e w0 ⟨rfl, rfl⟩
    rw [HP.out]
    go_wp2_with fail
    go_ret2
    exact ⟨by rw [HE.out, HF.out]; rfl, Bl.refl _⟩
  obtain ⟨k, rfl, hk, hbI, hR⟩ := pgB_at hpg
  have hb4 := inR_iff.1 hbI
  have hpp := inR_iff.1 hp
  rcases hf : fitR x (insL (pgL k b) p) with _ | _
  · have hB : lqB k b p x = false := by unfold lqB; rw [hR, hf, Bool.and_false]
    have HE := Lib.hid (show lqV k b p x = 0 by unfold lqV; rw [hB]; rfl)
    have HF := Lib.hid hB
    have HP := Lib.hid hp
    obtain ⟨hg, hok⟩ := pg_oks hk hbI
    have hgl : (pgL k b).length ≤ 30 := by obtain ⟨_, _, h30, _⟩ := goodB_at hg; exact h30
    have HGL := Lib.hid (fun (A1 : Option Addr) (n1 c1 : Nat) (l1 : List (Hd × Ln)) (w : World) (h : RdL w A1 n1 c1 l1) (e : l1.map (·.2) = pgL k b) => (show n1 ≤ 1000 by have := congrArg List.length e; rw [List.length_map, h.len] at this; omega))
    have HW1 := Lib.hid (ins_w hg p)
    have HPG := Lib.hid hpg
    have HFX := Lib.hid hf
    have HBI := Lib.hid hbI
    clear hB hp hpg hR hf hg hok hgl hbI
    go_enter Tryz.func13, Tryz.ntmps13
    go_wp2_with fail
    refine (spec_pgGood k b _).mono ?_
    rintro e w0 ⟨rfl, rfl⟩
    rw [HPG.out]
    go_wp2_with fail
    refine (spec_l1In p 0 1 _).mono ?_
    rintro e w0 ⟨rfl, rfl⟩
    rw [HP.out]
    go_wp2_with fail
    refine (spec_pgFor k hk b HBI.out _).mono ?_
    rintro e w1 ⟨A1, n1, c1, l1, rfl, hl1, hm1, hb1⟩
    have HM := Lib.hid hm1
    clear hm1
    go_wp2_with fail
    refine (spec_laInputs A1 n1 c1 l1 p _ hl1 (HGL.out A1 n1 c1 l1 w1 hl1 HM.out)).mono ?_
    rintro e w2 ⟨A2, m2, c2, rfl, hm2, ho2, hb2⟩
    rw [HM.out] at ho2
    have hB2 := hb1.call hb2
    go_wp2_with fail
    refine (spec_laFit A A2 n c m2 c2 x _ w2 (hx.keep hB2) ho2.rd HW1.out).mono ?_
    rintro e w3 ⟨rfl, rfl⟩
    rw [HFX.out]
    go_wp2_with fail
    go_ret2
    exact ⟨by rw [HE.out, HF.out]; rfl, hB2⟩
  · have hB : lqB k b p x = true := by unfold lqB; rw [hR, hf, hpg, hp]; rfl
    have hS : ∃ S : Nat, (insL (pgL k b) (1 - p)).sum = (S : Int) := ⟨(insL (pgL k b) (1 - p)).sum.toNat, by have := (ask_p hk hb4 (p := p) (by omega)).2.1; omega⟩
    obtain ⟨S, hS⟩ := hS
    have hE : lqV k b p x = (lsB (laT tS k b p x (insL (pgL k b) (1 - p)) S) (2 ^ S) : Nat) := by
      unfold lqV lqW
      rw [hB, hR, hS, Int.toNat_natCast, Int.toNat_natCast, if_pos rfl, la_same]
    rw [hB, hE]
    rcases (by omega : p = 0 ∨ p = 1) with rfl | rfl
    · exact spec_Least_0 k hk b hb4 A n c x w hx hf S hS
    · exact spec_Least_1 k hk b hb4 A n c x w hx hf S hS
end Go.Proofs.YtjggecbaladiiaaGreatDoor
