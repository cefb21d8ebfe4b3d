/- The law on rounds, walked.
   Conditions: both texts are ones of bytes. -/
import Derived.Test.YtlmlffiajgofeaaFre
import Derived.Test.YtlmlffiajgofeaaFrf
import Derived.Test.YtlmlffiajgofeaaFri
namespace Go.Proofs.Ytlmlffiajgofeaa
open Go.RowKit
set_option linter.unusedVariables false
theorem xo_xo {x f : Int} (hx : x = 0 ∨ x = 1) (hf : f = 0 ∨ f = 1) : bits .xor .i64 (xo x f) f = x ∧ bits .xor .i64 f (xo x f) = x := by
  rcases hx with rfl | rfl <;> rcases hf with rfl | rfl <;> decide
theorem xoL_at {a b : List Int} {i : Nat} {x y : Int} (ha : a[i]? = some x) (hb : b[i]? = some y) : (xoL a b)[i]? = some (xo x y) := by
  have hi : i < a.length := (List.getElem?_eq_some_iff.1 ha).1
  have e : a[i] = x := by rw [List.getElem?_eq_getElem hi] at ha; exact Option.some.inj ha
  simp [xoL, hi, hb, e]
/-- What two shares give. -/
theorem sh_at {na nb : Nat} {key : Int} {la lb : List Int} (hla : la.length = na) (hlb : lb.length = nb) (hba : Bits la) (hbb : Bits lb) {i : Nat} (hi : i < na + nb) :
    ∃ u v t, (shU na nb key la)[i]? = some u ∧ (shV na nb key lb)[i]? = some v ∧ bits .xor .i64 u v = t ∧ (i < na → la[i]? = some t) ∧ (¬ i < na → lb[i - na]? = some t) := by
  have e1 : (xoL la (bfL [key, 221] (na : Int).toNat)).length = na := by rw [xoL_len, hla]
  have e2 : (bfL [key, 221] (na : Int).toNat).length = na := by rw [bfL_len]; omega
  by_cases h : i < na
  · obtain ⟨x, hx⟩ : ∃ x, la[i]? = some x := ⟨_, List.getElem?_eq_getElem (by omega)⟩
    obtain ⟨f, hf⟩ : ∃ f, (bfL [key, 221] (na : Int).toNat)[i]? = some f := ⟨_, List.getElem?_eq_getElem (by omega)⟩
    refine ⟨xo x f, f, x, ?_, ?_, (xo_xo (hba.at_ hx) ((show Bits _ from bfL_bit _ _).at_ hf)).1, fun _ => hx, fun hn => absurd h hn⟩
    · unfold shU; rw [List.getElem?_append_left (by omega)]; exact xoL_at hx hf
    · unfold shV; rw [List.getElem?_append_left (by omega)]; exact hf
  · obtain ⟨y, hy⟩ : ∃ y, lb[i - na]? = some y := ⟨_, List.getElem?_eq_getElem (by omega)⟩
    obtain ⟨f, hf⟩ : ∃ f, (bfL [key, 222] (nb : Int).toNat)[i - na]? = some f := ⟨_, List.getElem?_eq_getElem (by rw [bfL_len]; omega)⟩
    refine ⟨f, xo y f, y, ?_, ?_, (xo_xo (hbb.at_ hy) ((show Bits _ from bfL_bit _ _).at_ hf)).2, fun hn => absurd hn h, fun _ => hy⟩
    · unfold shU; rw [List.getElem?_append_right (by omega), e1]; exact hf
    · unfold shV; rw [List.getElem?_append_right (by omega), e2]; exact xoL_at hy hf
/-- What the shares hold, for inputs that can be shared. -/
theorem shR_facts {a b key : Int} {gl : List Gt} {ol la lb : List Int} {na nb : Nat} (hla : la.length = na) (hlb : lb.length = nb) (h : shO a b key gl ol la lb = true) :
    (shUR a b key gl ol la lb).length = na + nb ∧ (shVR a b key gl ol la lb).length = na + nb ∧ ∀ i, i < na + nb → ∃ u v t, (shUR a b key gl ol la lb)[i]? = some u ∧ (shVR a b key gl ol la lb)[i]? = some v ∧ bits .xor .i64 u v = t ∧ (i < na → la[i]? = some t) ∧ (¬ i < na → lb[i - na]? = some t) := by
  have hq : askB a b gl ol la lb = true := by unfold shO at h; rw [Bool.and_eq_true] at h; exact h.1
  obtain ⟨_, _, ea, eb, hba, hbb⟩ := asked_facts hq
  rw [hla] at ea
  rw [hlb] at eb
  subst ea eb
  have e1 : shUR na nb key gl ol la lb = shU na nb key la := by unfold shUR; rw [if_pos h]
  have e2 : shVR na nb key gl ol la lb = shV na nb key lb := by unfold shVR; rw [if_pos h]
  rw [e1, e2]
  refine ⟨by simp [shU, xoL_len, bfL_len, hla], by simp [shV, xoL_len, bfL_len, hlb], fun i hi => sh_at hla hlb hba hbb hi⟩
/-- What rounds are, for a valid circuit. -/
theorem round_facts {a b : Int} {gl : List Gt} {ol : List Int} (h : goodC a b gl ol = true) : ((roR a b gl ol).length : Int) = tnR a b gl ol ∧ mxL 0 (roR a b gl ol) = rnR a b gl ol ∧ ∀ x ∈ roR a b gl ol, 1 ≤ x := by
  unfold roR tnR rnR
  rw [if_pos h, if_pos h, if_pos h]
  exact ⟨by rw [ro_len], ro_max _ _ _ _ (Nat.le_refl _), ro_pos _ _ _ _ (Nat.le_refl _)⟩
set_option maxRecDepth 20000 in
set_option maxHeartbeats 8000000 in
theorem law_Rounds (A0 A1 : Option Addr) (n0 c0 n1 c1 : Nat) (l0 l1 : List Int) (w : World) (h0 : RdB w A0 n0 c0 l0) (h1 : RdB w A1 n1 c1 l1) :
    Calls Try.prog 3 #[.slice A0 n0 c0, .slice A1 n1 c1] w fun e w' => e = .returned (.bool true) ∧ Bl w w' := by
  have hW := Bl.refl w
  have e0 := h0.1.cap
  have e1 := h1.1.cap
  by_cases hbig : (1048576 : Int) < wrap64 ((n0 : Int) + n1)
  · go_enter Try.func3, Try.ntmps3
    go_wp2_with fail
    go_ret
    exact ⟨rfl, hW⟩
  have hsm : wrap64 ((n0 : Int) + n1) ≤ 1048576 := by omega
  clear hbig
  go_enter Try.func3, Try.ntmps3
  go_wp2_with fail
  refine (spec_DrawRoundsOf w A0 n0 c0 l0 h0).mono ?_
  rintro e w1 ⟨a, b, A, n, c, gl, B, m, d, ol, rfl, hbd, hO, hb1⟩
  have hX := Blk.new w1 26 #[.int .i64 a, .int .i64 b, .slice A n c, .slice B m d] (g := w1.heap.size)
  have hV := hb1.alloc (.cells #[.int .i64 a, .int .i64 b, .slice A n c, .slice B m d] 26)
  have hO1 := (hO.keep ((Bl.refl w1).alloc (.cells #[.int .i64 a, .int .i64 b, .slice A n c, .slice B m d] 26)))
  have hg := hO1.rd.g; have ho := hO1.rd.o
  have h1c := h1.keep hV
  clear hO hO1 hb1 hsm
  have hX_l := hX.lt; have hX_f := hX.frozen; have hX_0 := hX.cell 0 _ rfl; have hX_1 := hX.cell 1 _ rfl; have hX_2 := hX.cell 2 _ rfl; have hX_3 := hX.cell 3 _ rfl
  go_wp2_with fail
  (try clear hX_l hX_f hX_0 hX_1 hX_2 hX_3)
  generalize hx : w1.heap.size = x
  rw [hx] at hX
  clear hx
  refine (impl_RoundsOf a b A B n c m d gl ol _ hg ho).mono ?_
  rintro e w9 ⟨R1, r1, q1, rfl, o1, hb9⟩
  replace hg := hg.keep hb9; replace ho := ho.keep hb9; replace h1c := h1c.keep hb9; replace hX := hX.keep hb9; replace hV := hV.call hb9
  clear hb9
  have hX_l := hX.lt; have hX_f := hX.frozen; have hX_0 := hX.cell 0 _ rfl; have hX_1 := hX.cell 1 _ rfl; have hX_2 := hX.cell 2 _ rfl; have hX_3 := hX.cell 3 _ rfl
  go_wp2_with fail
  (try clear hX_l hX_f hX_0 hX_1 hX_2 hX_3)
  refine (spec_RoundsOf a b A B n c m d gl ol _ hg ho).mono ?_
  rintro e w9 ⟨R2, r2, q2, rfl, o2, hb9⟩
  replace hg := hg.keep hb9; replace ho := ho.keep hb9; replace h1c := h1c.keep hb9; replace hX := hX.keep hb9; replace o1 := o1.keep hb9; replace hV := hV.call hb9
  clear hb9
  have hX_l := hX.lt; have hX_f := hX.frozen; have hX_0 := hX.cell 0 _ rfl; have hX_1 := hX.cell 1 _ rfl; have hX_2 := hX.cell 2 _ rfl; have hX_3 := hX.cell 3 _ rfl
  go_wp2_with fail
  (try clear hX_l hX_f hX_0 hX_1 hX_2 hX_3)
  refine (impl_TriplesNeeded a b A B n c m d gl ol _ hg ho).mono ?_
  rintro e w9 ⟨rfl, hb9⟩
  replace hg := hg.keep hb9; replace ho := ho.keep hb9; replace h1c := h1c.keep hb9; replace hX := hX.keep hb9; replace o1 := o1.keep hb9; replace o2 := o2.keep hb9; replace hV := hV.call hb9
  clear hb9
  have hX_l := hX.lt; have hX_f := hX.frozen; have hX_0 := hX.cell 0 _ rfl; have hX_1 := hX.cell 1 _ rfl; have hX_2 := hX.cell 2 _ rfl; have hX_3 := hX.cell 3 _ rfl
  go_wp2_with fail
  (try clear hX_l hX_f hX_0 hX_1 hX_2 hX_3)
  refine (spec_TriplesNeeded a b A B n c m d gl ol _ hg ho).mono ?_
  rintro e w9 ⟨rfl, hb9⟩
  replace hg := hg.keep hb9; replace ho := ho.keep hb9; replace h1c := h1c.keep hb9; replace hX := hX.keep hb9; replace o1 := o1.keep hb9; replace o2 := o2.keep hb9; replace hV := hV.call hb9
  clear hb9
  have hX_l := hX.lt; have hX_f := hX.frozen; have hX_0 := hX.cell 0 _ rfl; have hX_1 := hX.cell 1 _ rfl; have hX_2 := hX.cell 2 _ rfl; have hX_3 := hX.cell 3 _ rfl
  go_wp2_with fail
  (try clear hX_l hX_f hX_0 hX_1 hX_2 hX_3)
  refine (impl_RoundsNeeded a b A B n c m d gl ol _ hg ho).mono ?_
  rintro e w9 ⟨rfl, hb9⟩
  replace hg := hg.keep hb9; replace ho := ho.keep hb9; replace h1c := h1c.keep hb9; replace hX := hX.keep hb9; replace o1 := o1.keep hb9; replace o2 := o2.keep hb9; replace hV := hV.call hb9
  clear hb9
  have hX_l := hX.lt; have hX_f := hX.frozen; have hX_0 := hX.cell 0 _ rfl; have hX_1 := hX.cell 1 _ rfl; have hX_2 := hX.cell 2 _ rfl; have hX_3 := hX.cell 3 _ rfl
  go_wp2_with fail
  (try clear hX_l hX_f hX_0 hX_1 hX_2 hX_3)
  refine (spec_RoundsNeeded a b A B n c m d gl ol _ hg ho).mono ?_
  rintro e w9 ⟨rfl, hb9⟩
  replace hg := hg.keep hb9; replace ho := ho.keep hb9; replace h1c := h1c.keep hb9; replace hX := hX.keep hb9; replace o1 := o1.keep hb9; replace o2 := o2.keep hb9; replace hV := hV.call hb9
  clear hb9
  go_wp2_with fail
  refine (spec_DrawShareInputs _ A1 n1 c1 l1 h1c).mono ?_
  rintro e w2 ⟨a2, b2, A2, n2, c2, gl2, B2, m2, d2, ol2, key, I1, i1, s1, la, I2, i2, s2, lb, rfl, hbd2, hO2, hb9, hk, hi1, hi2, p1, p2⟩
  replace o1 := o1.keep hb9; replace o2 := o2.keep hb9; replace hV := hV.call hb9
  clear hb9 hX h1c hg ho
  have hX := Blk.new w2 26 #[.int .i64 a2, .int .i64 b2, .slice A2 n2 c2, .slice B2 m2 d2] (g := w2.heap.size)
  replace o1 := o1.keep ((Bl.refl w2).alloc (.cells #[.int .i64 a2, .int .i64 b2, .slice A2 n2 c2, .slice B2 m2 d2] 26)); replace o2 := o2.keep ((Bl.refl w2).alloc (.cells #[.int .i64 a2, .int .i64 b2, .slice A2 n2 c2, .slice B2 m2 d2] 26)); replace hV := hV.call ((Bl.refl w2).alloc (.cells #[.int .i64 a2, .int .i64 b2, .slice A2 n2 c2, .slice B2 m2 d2] 26))
  have hO3 := hO2.keep ((Bl.refl w2).alloc (.cells #[.int .i64 a2, .int .i64 b2, .slice A2 n2 c2, .slice B2 m2 d2] 26))
  have hg := hO3.rd.g; have ho := hO3.rd.o
  have ha := OwnI.rd (p1.alloc (.cells #[.int .i64 a2, .int .i64 b2, .slice A2 n2 c2, .slice B2 m2 d2] 26)); have hb := OwnI.rd (p2.alloc (.cells #[.int .i64 a2, .int .i64 b2, .slice A2 n2 c2, .slice B2 m2 d2] 26))
  clear hO2 hO3 p1 p2
  have hX_l := hX.lt; have hX_f := hX.frozen; have hX_0 := hX.cell 0 _ rfl; have hX_1 := hX.cell 1 _ rfl; have hX_2 := hX.cell 2 _ rfl; have hX_3 := hX.cell 3 _ rfl
  go_wp2_with fail
  (try clear hX_l hX_f hX_0 hX_1 hX_2 hX_3)
  generalize hx : w2.heap.size = x2
  rw [hx] at hX
  clear hx
  refine (impl_ShareInputs a2 b2 key A2 B2 n2 c2 m2 d2 gl2 ol2 I1 I2 i1 s1 i2 s2 la lb _ hg ho ha hb).mono ?_
  rintro e w9 ⟨U1, u1, f1, V1, v1, g1, rfl, x1, y1, hb9⟩
  replace o1 := o1.keep hb9; replace o2 := o2.keep hb9; replace hg := hg.keep hb9; replace ho := ho.keep hb9; replace ha := ha.keep hb9; replace hb := hb.keep hb9; replace hX := hX.keep hb9; replace hV := hV.call hb9
  clear hb9
  have hX_l := hX.lt; have hX_f := hX.frozen; have hX_0 := hX.cell 0 _ rfl; have hX_1 := hX.cell 1 _ rfl; have hX_2 := hX.cell 2 _ rfl; have hX_3 := hX.cell 3 _ rfl
  go_wp2_with fail
  (try clear hX_l hX_f hX_0 hX_1 hX_2 hX_3)
  refine (spec_ShareInputs a2 b2 key A2 B2 n2 c2 m2 d2 gl2 ol2 I1 I2 i1 s1 i2 s2 la lb _ hg ho ha hb).mono ?_
  rintro e w9 ⟨U2, u2, f2, V2, v2, g2, rfl, x2_, y2, hb9⟩
  replace o1 := o1.keep hb9; replace o2 := o2.keep hb9; replace hg := hg.keep hb9; replace ho := ho.keep hb9; replace ha := ha.keep hb9; replace hb := hb.keep hb9; replace hX := hX.keep hb9; replace x1 := x1.keep hb9; replace y1 := y1.keep hb9; replace hV := hV.call hb9
  clear hb9
  have FR := Lib.hid (fun (h : goodC a b gl ol = true) => round_facts h)
  have FS := Lib.hid (fun (h : shO a2 b2 key gl2 ol2 la lb = true) => shR_facts (key := key) ha.length hb.length h)
  generalize goodC a b gl ol = G at FR ⊢
  generalize shO a2 b2 key gl2 ol2 la lb = H at FS ⊢
  generalize tnR a b gl ol = T at FR ⊢
  generalize rnR a b gl ol = Rn at FR ⊢
  generalize roR a b gl ol = L at FR o1 o2 ⊢
  generalize shUR a2 b2 key gl2 ol2 la lb = U at FS x1 x2_ ⊢
  generalize shVR a2 b2 key gl2 ol2 la lb = V at FS y1 y2 ⊢
  clear hg ho hX hbd hbd2 hk
  go_wp2_with fail
  refine (laws_qInts _ _ _ _ _ _ _ _ o1.rd o2.rd).mono ?_
  rintro e w9 ⟨rfl, hb9⟩
  replace ha := ha.keep hb9; replace hb := hb.keep hb9; replace o2 := o2.keep hb9; replace x1 := x1.keep hb9; replace x2_ := x2_.keep hb9; replace y1 := y1.keep hb9; replace y2 := y2.keep hb9; replace hV := hV.call hb9
  clear hb9
  go_wp2_with fail
  refine (laws_qInts _ _ _ _ _ _ _ _ x1.rd x2_.rd).mono ?_
  rintro e w9 ⟨rfl, hb9⟩
  replace ha := ha.keep hb9; replace hb := hb.keep hb9; replace o2 := o2.keep hb9; replace x1 := x1.keep hb9; replace x2_ := x2_.keep hb9; replace y1 := y1.keep hb9; replace y2 := y2.keep hb9; replace hV := hV.call hb9
  clear hb9
  go_wp2_with fail
  refine (laws_qInts _ _ _ _ _ _ _ _ y1.rd y2.rd).mono ?_
  rintro e w9 ⟨rfl, hb9⟩
  replace ha := ha.keep hb9; replace hb := hb.keep hb9; replace o2 := o2.keep hb9; replace x1 := x1.keep hb9; replace x2_ := x2_.keep hb9; replace y1 := y1.keep hb9; replace y2 := y2.keep hb9; replace hV := hV.call hb9
  clear hb9
  have hL2 := o2.rd.length
  cases H
  · cases G
    · go_wp2_with fail
      go_ret
      exact ⟨rfl, hV⟩
    · obtain ⟨hT, hM, hpos⟩ := FR.out rfl
      rw [hL2] at hT
      subst hT hM
      have HP := Lib.hid hpos
      obtain ⟨hle5, hle6⟩ := o2.rd.le
      clear hpos FR FS
      go_wp2_with fail
      go_loopw [30, 179] (fun m i wr => ∃ k N : Nat, k ≤ r2 ∧ wr = w9.drewN N ∧ i = .int .i64 (k : Nat) ∧ m = .int .i64 (mxL 0 (L.take k))) (fun _ i _ => r2 - (intOf i).toNat)
      case atStart => exact ⟨0, 0, by omega, rfl, rfl, rfl⟩
      case round =>
        obtain ⟨k, N, hk, rfl, rfl, rfl⟩ := hrel
        by_cases hlt : k < r2
        · obtain ⟨ad, x9, rfl, _, hx9, hc9⟩ := o2.rd.at_ hlt
          have i1 : (k : Int) < r2 := by omega
          have p9 : 1 ≤ x9 := HP.out x9 (List.mem_of_getElem? hx9)
          have HS := Lib.hid (mxL_step (m := 0) hx9)
          clear hx9
          generalize mxL 0 (L.take k) = M at HS ⊢
          by_cases hgt : M < x9
          · go_wp2_with fail
            go_roundw
            case rel => exact ⟨k + 1, _, by omega, rfl, by go_num, by rw [HS.out, show max M x9 = x9 by omega]⟩
            case measure => simp [intOf]; omega
          · go_wp2_with fail
            go_roundw
            case rel => exact ⟨k + 1, _, by omega, rfl, by go_num, by rw [HS.out, show max M x9 = M by omega]⟩
            case measure => simp [intOf]; omega
        · obtain rfl : k = r2 := by omega
          have hE : mxL 0 (L.take k) = mxL 0 L := by rw [List.take_of_length_le (by omega)]
          go_wp2_with fail
          go_ret
          exact ⟨by simp, hV.drewN N⟩
  · obtain ⟨lu, lv, hat⟩ := FS.out rfl
    have lu2 := x2_.rd.length; have lv2 := y2.rd.length
    obtain ⟨hle1, hle2⟩ := x2_.rd.le
    obtain ⟨hle3, hle4⟩ := y2.rd.le
    have HA := Lib.hid hat
    clear hat FS
    go_wp2_with fail
    go_loopw [145] (fun i wr => ∃ k N : Nat, k ≤ u2 ∧ wr = w9.drewN N ∧ i = .int .i64 (k : Nat)) (fun i _ => u2 - (intOf i).toNat)
    case atStart => exact ⟨0, 0, by omega, rfl, rfl⟩
    case round =>
      obtain ⟨k, N, hk, rfl, rfl⟩ := hrel
      by_cases hlt : k < u2
      · obtain ⟨u, v, t, hu, hv, hxt, hlo, hhi⟩ := HA.out k (by omega)
        obtain ⟨ad1, z1, rfl, _, hz1, hc1⟩ := x2_.rd.at_ hlt
        obtain rfl := Option.some.inj (hu.symm.trans hz1)
        obtain ⟨ad2, z2, rfl, _, hz2, hc2⟩ := y2.rd.at_ (k := k) (by omega)
        obtain rfl := Option.some.inj (hv.symm.trans hz2)
        clear hu hv hz1 hz2
        have j1 : (k : Int) < u2 := by omega
        have j2 : (k : Int) < v2 := by omega
        by_cases hk1 : k < i1
        · obtain ⟨ad3, z3, rfl, _, hz3, hc3⟩ := ha.at_ hk1
          obtain rfl := Option.some.inj ((hlo hk1).symm.trans hz3)
          clear hlo hhi hz3
          have j3 : (k : Int) < i1 := by omega
          go_wp2
          go_quiet (fail)
          go_wp2
          go_roundw
          case rel => exact ⟨k + 1, _, by omega, rfl, by go_num⟩
          case measure => simp [intOf]; omega
        · obtain ⟨j, rfl⟩ : ∃ j, k = i1 + j := ⟨k - i1, by omega⟩
          obtain ⟨ad3, z3, rfl, _, hz3, hc3⟩ := hb.at_ (k := j) (by omega)
          have hh := hhi hk1
          rw [Nat.add_sub_cancel_left] at hh
          obtain rfl := Option.some.inj (hh.symm.trans hz3)
          clear hlo hhi hz3 hh
          have j3 : (i1 : Int) ≤ ((i1 + j : Nat) : Int) := by omega
          have j4 : ((i1 + j : Nat) : Int) - (i1 : Int) = (j : Int) := by omega
          have j5 : (j : Int) < i2 := by omega
          go_wp2
          go_quiet (fail)
          go_wp2
          go_roundw
          case rel => exact ⟨i1 + j + 1, _, by omega, rfl, by go_num⟩
          case measure => simp [intOf]; omega
      · have i9 : k = u2 := by omega
        subst i9
        cases G
        · go_wp2_with fail
          go_ret
          exact ⟨rfl, hV.drewN N⟩
        · obtain ⟨hT, hM, hpos⟩ := FR.out rfl
          rw [hL2] at hT
          subst hT hM
          have HP := Lib.hid hpos
          obtain ⟨hle5, hle6⟩ := o2.rd.le
          clear hpos FR
          go_wp2_with fail
          go_loopw [30, 179] (fun m i wr => ∃ k N : Nat, k ≤ r2 ∧ wr = w9.drewN N ∧ i = .int .i64 (k : Nat) ∧ m = .int .i64 (mxL 0 (L.take k))) (fun _ i _ => r2 - (intOf i).toNat)
          case atStart => exact ⟨0, N, by omega, rfl, rfl, rfl⟩
          case round =>
            obtain ⟨k, N, hk, rfl, rfl, rfl⟩ := hrel
            by_cases hlt : k < r2
            · obtain ⟨ad, x9, rfl, _, hx9, hc9⟩ := o2.rd.at_ hlt
              have i1 : (k : Int) < r2 := by omega
              have p9 : 1 ≤ x9 := HP.out x9 (List.mem_of_getElem? hx9)
              have HS := Lib.hid (mxL_step (m := 0) hx9)
              clear hx9
              generalize mxL 0 (L.take k) = M at HS ⊢
              by_cases hgt : M < x9
              · go_wp2_with fail
                go_roundw
                case rel => exact ⟨k + 1, _, by omega, rfl, by go_num, by rw [HS.out, show max M x9 = x9 by omega]⟩
                case measure => simp [intOf]; omega
              · go_wp2_with fail
                go_roundw
                case rel => exact ⟨k + 1, _, by omega, rfl, by go_num, by rw [HS.out, show max M x9 = M by omega]⟩
                case measure => simp [intOf]; omega
            · obtain rfl : k = r2 := by omega
              have hE : mxL 0 (L.take k) = mxL 0 L := by rw [List.take_of_length_le (by omega)]
              go_wp2_with fail
              go_ret
              exact ⟨by simp, hV.drewN N⟩
end Go.Proofs.Ytlmlffiajgofeaa
