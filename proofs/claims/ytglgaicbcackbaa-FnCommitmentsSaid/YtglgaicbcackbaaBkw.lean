/- Contracts of sameInts, pSum and big, and the walk of the law FnBroken.
   Conditions: the texts are bytes. -/
import Derived.Test.YtglgaicbcackbaaBkl
import Derived.Test.YtglgaicbcackbaaDrw
namespace Go.Proofs.Ytglgaicbcackbaa
open Go.RowKit
set_option linter.unusedVariables false
set_option maxHeartbeats 1000000 in
theorem same_q (A B : Option Addr) (n c m d : Nat) (l l' : List Int) (w : World) (h : RdI w A n c l) (h' : RdI w B m d l') :
    Calls Try.prog 11 #[.slice A n c, .slice B m d] w fun e w' => e = .returned (.bool (decide (l = l'))) ∧ ∃ N, w.drewN N = w' := by
  obtain ⟨hle1, hle2⟩ := h.le
  obtain ⟨hle3, hle4⟩ := h'.le
  have hl := Lib.hid h.length
  have hl' := Lib.hid h'.length
  by_cases hnm : n = m
  · subst hnm
    have hd0 : (!decide (n = n)) = false := by simp
    go_enter Try.func11, Try.ntmps11
    go_wp2
    go_loopw [13] (fun i wr => ∃ k N : Nat, k ≤ n ∧ wr = w.drewN N ∧ i = .int .i64 k ∧ l.take k = l'.take k) (fun i _ => n - (intOf i).toNat)
    case atStart => exact ⟨0, 0, by omega, rfl, rfl, by simp⟩
    case round =>
      obtain ⟨k, N, hk, rfl, rfl, htk⟩ := hrel
      have HT := Lib.hid htk
      clear htk
      by_cases hlt : k < n
      · obtain ⟨ad, x, rfl, hadb, hx, hcell⟩ := h.at_ hlt
        obtain ⟨ad', y, rfl, hadb', hy, hcell'⟩ := h'.at_ hlt
        have HX := Lib.hid hx
        have HY := Lib.hid hy
        clear hx hy
        rcases hxy : (x == y)
        · have hxy' : ¬ x = y := by simpa using hxy
          have hfin := Lib.hid (show decide (l = l') = false by rw [decide_eq_false_iff_not]; exact ne_of_get HX.out HY.out hxy')
          clear hxy'
          have hxd : (x != y) = true := by simpa using hxy
          have i1 : (k : Int) < n := by omega
          go_wp2
          go_quiet (fail)
          go_wp2
          go_ret
          exact ⟨ret_bool hfin.out.symm, _, (drewN_two _ _ _).symm⟩
        · have hxy' : x = y := by simpa using hxy
          subst hxy'
          have i1 : (k : Int) < n := by omega
          have hst := Lib.hid (take_eq_step HT.out HX.out HY.out)
          go_wp2
          go_quiet (fail)
          go_wp2
          go_roundw
          case rel => exact ⟨k + 1, _, by omega, rfl, by go_num, hst.out⟩
          case measure => simp [intOf]; omega
      · have hfin := Lib.hid (show decide (l = l') = true by
          rw [decide_eq_true_iff]; exact eq_of_takes HT.out (by rw [hl.out]; omega) (by rw [hl'.out]; omega))
        go_wp2
        go_ret
        exact ⟨ret_bool hfin.out.symm, _, rfl⟩
  · have hfin := Lib.hid (show decide (l = l') = false by
      rw [decide_eq_false_iff_not]; intro he; exact hnm (by rw [← hl.out, ← hl'.out, he]))
    go_enter Try.func11, Try.ntmps11
    go_wp2
    go_ret
    exact ⟨ret_bool hfin.out.symm, 0, rfl⟩
theorem same (A B : Option Addr) (n c m d : Nat) (l l' : List Int) (w : World) (h : RdI w A n c l) (h' : RdI w B m d l') :
    Calls Try.prog 11 #[.slice A n c, .slice B m d] w fun e w' => e = .returned (.bool (decide (l = l'))) ∧ Bl w w' :=
  (same_q A B n c m d l l' w h h').mono fun _ _ ⟨he, N, hw⟩ => ⟨he, hw ▸ Bl.of_drewN w N⟩
theorem same_t (A B : Option Addr) (n c m d : Nat) (l : List Int) (w : World) (h : RdI w A n c l) (h' : RdI w B m d l) :
    Calls Try.prog 11 #[.slice A n c, .slice B m d] w fun e w' => e = .returned (.bool true) ∧ Bl w w' := by
  refine (same_q A B n c m d l l w h h').mono ?_
  rintro e w' ⟨rfl, N, rfl⟩
  exact ⟨by simp, Bl.of_drewN _ _⟩
theorem sum_take (l : List Int) (k : Nat) (x : Int) (h : l[k]? = some x) : (l.take (k + 1)).sum = (l.take k).sum + x := by
  rw [List.take_add_one, h]; simp
theorem sum_bd (l : List Int) (h : ∀ z ∈ l, 0 ≤ z ∧ z ≤ 200) (k : Nat) : 0 ≤ (l.take k).sum ∧ (l.take k).sum ≤ 200 * k := by
  induction k with
  | zero => simp
  | succ k ih =>
    by_cases hk : k < l.length
    · have hx := h _ (List.getElem_mem hk)
      rw [sum_take l k _ (List.getElem?_eq_getElem hk)]
      omega
    · rw [List.take_of_length_le (by omega)]
      rw [List.take_of_length_le (by omega)] at ih
      omega
set_option maxHeartbeats 2000000 in
theorem pSum_c (A : Option Addr) (n c : Nat) (l : List Int) (w : World) (h : RdI w A n c l) (hb : ∀ z ∈ l, 0 ≤ z ∧ z ≤ 200) (hn : n ≤ 1000) :
    Calls Try.prog 19 #[.slice A n c] w fun e w' => e = .returned (.int .i64 l.sum) ∧ Bl w w' := by
  obtain ⟨hle1, hle2⟩ := h.le
  have hl := Lib.hid h.length
  have hB := Lib.hid hb
  clear hb
  obtain ⟨S, hS0, hSs, hSb, hSn⟩ : ∃ S : Nat → Int, Hid (S 0 = 0) ∧ Hid (∀ k x, l[k]? = some x → S (k + 1) = S k + x) ∧ Hid (∀ k, 0 ≤ S k ∧ S k ≤ 200 * k) ∧ Hid (l.sum = S n) :=
    ⟨fun k => (l.take k).sum, Lib.hid (by simp), Lib.hid fun k x hx => sum_take l k x hx, Lib.hid fun k => sum_bd l hB.out k, Lib.hid (by show l.sum = (l.take n).sum; rw [← hl.out, List.take_length])⟩
  go_enter Try.func19, Try.ntmps19
  go_wp2
  go_loopw [3, 8] (fun a i wr => ∃ k : Nat, k ≤ n ∧ i = .int .i64 (k : Nat) ∧ a = .int .i64 (S k) ∧ Bl w wr) (fun _ i _ => n - (intOf i).toNat)
  case atStart => exact ⟨0, by omega, rfl, by rw [hS0.out], Bl.refl w⟩
  case round =>
    obtain ⟨k, hk, rfl, rfl, hW⟩ := hrel
    by_cases hlt : k < n
    · obtain ⟨ad, x, rfl, hadb, hx, hcell⟩ := (RdI.keep h hW).at_ hlt
      have hs := Lib.hid (hSs.out k x hx)
      have h1 := hSb.out k
      have h2 := hSb.out (k + 1)
      rw [hs.out] at h2
      clear hx
      generalize S k = T at *
      have i1 : (k : Int) < n := by omega
      go_wp2
      go_roundw
      case rel => exact ⟨k + 1, by omega, by go_num, by rw [hs.out], hW⟩
      case measure => simp [intOf]; omega
    · have hf := Lib.hid (show l.sum = S k by rw [hSn.out, show k = n by omega])
      have i1 : ¬ (k : Int) < n := by omega
      go_wp2
      go_ret
      exact ⟨by rw [hf.out]; rfl, hW⟩
theorem bool_or (b : Bool) : Ending.returned (.bool b) = .returned (.bool false) ∨ Ending.returned (.bool b) = .returned (.bool true) := by cases b <;> simp
theorem fc_impl (p a b q U V : Int) (O : Bool) (w : World) (h : fcR p a b q = (U, V, O)) :
    Calls Try.prog 14 #[.int .i64 p, .int .i64 a, .int .i64 b, .int .i64 q] w fun e w' => e = .returned (.tuple #[.int .i64 U, .int .i64 V, .bool O]) ∧ Bl w w' := by
  have := impl_FirstClash p a b q w
  rw [h] at this
  exact this
theorem fc_spec (p a b q U V : Int) (O : Bool) (w : World) (h : fcR p a b q = (U, V, O)) :
    Calls Try.prog 15 #[.int .i64 p, .int .i64 a, .int .i64 b, .int .i64 q] w fun e w' => e = .returned (.tuple #[.int .i64 U, .int .i64 V, .bool O]) ∧ Bl w w' := by
  have := spec_FirstClash p a b q w
  rw [h] at this
  exact this
theorem fc_get (p a b q U V : Int) (h : fcR p a b q = (U, V, true)) : ∃ M, Hid (comB p a U = true ∧ comF p a U = M) ∧ Hid (comB p b V = true ∧ comF p b V = M) := by
  have := fcR_get p a b q
  rw [h] at this
  obtain ⟨h1, h2, h3⟩ := this rfl
  exact ⟨_, Lib.hid ⟨h1, rfl⟩, Lib.hid ⟨h2, h3.symm⟩⟩
theorem com_at (p v k M : Int) (w : World) (h : Hid (comB p v k = true ∧ comF p v k = M)) :
    Calls Try.prog 12 #[.int .i64 p, .int .i64 v, .int .i64 k] w fun e w' => e = .returned (.tuple #[.int .i64 M, .bool true]) ∧ Bl w w' := by
  have := impl_CommitTo p v k w
  rw [h.out.1, h.out.2] at this
  exact this
theorem cc_impl (n f k r : Int) (b : Bool) (w : World) (h : Hid (ccB n f k r = b)) :
    Calls Try.prog 17 #[.int .i64 n, .int .i64 f, .int .i64 k, .int .i64 r] w fun e w' => ∃ A m c, e = .returned (.tuple #[.slice A m c, .bool b]) ∧ RdI w' A m c (ccR n f k r) ∧ Bl w w' := by
  refine (impl_CoinCounts n f k r w).mono ?_
  rintro e w' ⟨A, m, c, he, ho, hb⟩
  rw [h.out] at he
  exact ⟨A, m, c, he, ho.rd, hb⟩
theorem cc_spec (n f k r : Int) (b : Bool) (w : World) (h : Hid (ccB n f k r = b)) :
    Calls Try.prog 18 #[.int .i64 n, .int .i64 f, .int .i64 k, .int .i64 r] w fun e w' => ∃ A m c, e = .returned (.tuple #[.slice A m c, .bool b]) ∧ RdI w' A m c (ccR n f k r) ∧ Bl w w' := by
  refine (spec_CoinCounts n f k r w).mono ?_
  rintro e w' ⟨A, m, c, he, ho, hb⟩
  rw [h.out] at he
  exact ⟨A, m, c, he, ho.rd, hb⟩
theorem ccB_nat {n f k r : Int} (h : ccB n f k r = true) : ∃ N : Nat, n = (N : Int) := by
  simp only [ccB, Bool.and_eq_true] at h
  have h1 := inR_iff.1 h.1.1.1
  exact ⟨n.toNat, by omega⟩
theorem cc_spec1 (N : Nat) (f k r : Int) (w : World) (h : Hid (ccB N f k r = true)) :
    Calls Try.prog 18 #[.int .i64 N, .int .i64 f, .int .i64 k, .int .i64 r] w fun e w' => ∃ A c, e = .returned (.tuple #[.slice A N c, .bool true]) ∧ RdI w' A N c (ccR N f k r) ∧ Bl w w' := by
  refine (cc_spec N f k r true w h).mono ?_
  rintro e w' ⟨A, m, c, rfl, ho, hb⟩
  have h1 := (ccR_sum N f k r h.out).2.1
  rw [ho.length] at h1
  obtain rfl : m = N := by omega
  exact ⟨A, c, rfl, ho, hb⟩
set_option maxHeartbeats 1000000 in
theorem pSum_at (N : Nat) (f k r : Int) (A : Option Addr) (c : Nat) (w : World) (h : Hid (ccB N f k r = true)) (hr : RdI w A N c (ccR N f k r)) :
    Calls Try.prog 19 #[.slice A N c] w fun e w' => e = .returned (.int .i64 r) ∧ Bl w w' := by
  have hs := ccR_sum N f k r h.out
  have hl := ccR_len N f k r
  rw [hr.length] at hl
  have := pSum_c A N c _ w hr hs.2.2 hl
  rw [hs.1] at this
  exact this
set_option maxHeartbeats 1000000 in
theorem big_c (A B : Option Addr) (n c m d : Nat) (l l' : List Int) (w : World) (h : RdB w A n c l) (h' : RdB w B m d l') :
    Calls Try.prog 7 #[.slice A n c, .slice B m d] w fun e w' => ∃ b, e = .returned (.bool b) ∧ w = w' := by
  have h1 := h.1.cap
  have h2 := h.1.max
  have h3 := h'.1.cap
  have h4 := h'.1.max
  unfold maxLen at h2 h4
  by_cases hn : 1048576 < n
  · go_enter Try.func7, Try.ntmps7
    go_wp2
    go_ret
    first | exact ⟨_, rfl, rfl⟩ | exact ⟨bool_or _, rfl⟩ | exact bool_or _
  · by_cases hm : (1048576 : Int) - n < m
    · go_enter Try.func7, Try.ntmps7
      go_wp2
      go_ret
      first | exact ⟨_, rfl, rfl⟩ | exact ⟨bool_or _, rfl⟩ | exact bool_or _
    · go_enter Try.func7, Try.ntmps7
      go_wp2
      go_ret
      first | exact ⟨_, rfl, rfl⟩ | exact ⟨bool_or _, rfl⟩ | exact bool_or _
set_option maxRecDepth 20000 in
set_option maxHeartbeats 8000000 in
theorem law_Broken (A B : Option Addr) (n c m d : Nat) (l l' : List Int) (w : World) (hA : RdB w A n c l) (hB : RdB w B m d l') :
    Calls Try.prog 3 #[.slice A n c, .slice B m d] w fun e w' => e = .returned (.bool true) ∧ Bl w w' := by
  have hW := Bl.refl w
  go_enter Try.func3, Try.ntmps3
  go_wp2_with (first | (go_at_call 7; refine (big_c _ _ _ _ _ _ _ _ _ hA hB).mono ?_; rintro e w0 ⟨b, rfl, rfl⟩; cases b) | (go_at_call 8; refine (spec_DrawBlindsFor _ _ _ _ _ (hA.keep hW)).mono ?_; rintro e w1 ⟨p, v, mk, q, rfl, hb1⟩; replace hW := hW.call hb1; clear hb1) | (go_at_call 9; refine (impl_BlindsFor _ _ _ _ _).mono ?_; rintro e w2 ⟨A1, n1, c1, rfl, ho1, hb2⟩; replace hW := hW.call hb2; have hr1 := ho1.rd; clear ho1 hb2) | (go_at_call 10; refine (spec_BlindsFor _ _ _ _ _).mono ?_; rintro e w3 ⟨A2, n2, c2, rfl, ho2, hb3⟩; replace hW := hW.call hb3; have hr2 := ho2.rd; replace hr1 := hr1.keep hb3; clear ho2 hb3) | (go_at_call 11; refine (same_t _ _ _ _ _ _ _ _ hr1 hr2).mono ?_; rintro e w4 ⟨rfl, hb4⟩; replace hW := hW.call hb4; replace hr2 := hr2.keep hb4; clear hb4 hr1))
  rotate_left
  · go_ret
    exact ⟨rfl, hW⟩
  have hM := Lib.hid (blindsR_mem p v mk q)
  have hlen := hr2.length
  have hcap := hr2.le
  generalize blindsR p v mk q = L at *
  go_loopw [76] (fun i wr => ∃ k : Nat, k ≤ n2 ∧ i = .int .i64 (k : Nat) ∧ Bl w wr ∧ RdI wr A2 n2 c2 L) (fun i _ => n2 - (intOf i).toNat)
  case atStart => exact ⟨0, by omega, rfl, hW, hr2⟩
  case round =>
    clear hW hr2
    obtain ⟨k, hk, rfl, hW, hr2⟩ := hrel
    by_cases hlt : k < n2
    · have i1 : (k : Int) < n2 := by omega
      obtain ⟨ad, x, rfl, hadb, hx, hcell⟩ := hr2.at_ hlt
      have hmx := hM.out x (List.mem_of_getElem? hx)
      have hcb := Lib.hid hmx.1
      have hcf := Lib.hid hmx.2
      clear hmx hx
      go_wp2_with (go_at_call 12; refine (impl_CommitTo p v x _).mono ?_; rintro e w5 ⟨rfl, hb5⟩; replace hW := hW.call hb5; replace hr2 := hr2.keep hb5; clear hb5; rw [hcb.out, hcf.out])
      go_roundw
      case rel => exact ⟨k + 1, by omega, by go_num, hW, hr2⟩
      case measure => simp [intOf]; omega
    · have i1 : ¬ (k : Int) < n2 := by omega
      clear hr2 hM
      go_wp2_with (first | (go_at_call 13; refine (spec_DrawFirstClash _ _ _ _ _ (hB.keep hW)).mono ?_; rintro e w1 ⟨p2, a2, b2, q2, rfl, hb1⟩; replace hW := hW.call hb1; clear hb1; obtain ⟨U, V, O, hR⟩ : ∃ U V O, Hid (fcR p2 a2 b2 q2 = (U, V, O)) := ⟨_, _, _, Lib.hid rfl⟩; cases O; rotate_left; (obtain ⟨M, hu, hv⟩ := fc_get _ _ _ _ _ _ hR.out); rotate_left) | (go_at_call 14; refine (fc_impl _ _ _ _ _ _ _ _ hR.out).mono ?_; rintro e w2 ⟨rfl, hb2⟩; replace hW := hW.call hb2; clear hb2) | (go_at_call 15; refine (fc_spec _ _ _ _ _ _ _ _ hR.out).mono ?_; rintro e w3 ⟨rfl, hb3⟩; replace hW := hW.call hb3; clear hb3) | (go_at_call 12; first | (refine (com_at _ _ _ _ _ hu).mono ?_; rintro e w5 ⟨rfl, hb5⟩; replace hW := hW.call hb5; clear hb5 hu) | (refine (com_at _ _ _ _ _ hv).mono ?_; rintro e w6 ⟨rfl, hb6⟩; replace hW := hW.call hb6; clear hb6)) | (go_at_call 16; refine (spec_DrawCoinCounts _ _ _ _ _ (hB.keep hW)).mono ?_; rintro e w1 ⟨n3, f3, k3, r3, rfl, hb1⟩; replace hW := hW.call hb1; clear hb1; rcases hcc0 : ccB n3 f3 k3 r3; rotate_left; (obtain ⟨N3, rfl⟩ := ccB_nat hcc0); rotate_left; all_goals (have hcc := Lib.hid hcc0; clear hcc0)) | (go_at_call 17; refine (cc_impl _ _ _ _ _ _ hcc).mono ?_; rintro e w2 ⟨A1, n1, c1, rfl, hr1, hb2⟩; replace hW := hW.call hb2; clear hb2) | (go_at_call 18; first | (refine (cc_spec1 _ _ _ _ _ hcc).mono ?_; rintro e w3 ⟨A2, c2, rfl, hr2, hb3⟩; replace hW := hW.call hb3; replace hr1 := hr1.keep hb3; clear hb3) | (refine (cc_spec _ _ _ _ _ _ hcc).mono ?_; rintro e w3 ⟨A2, n4, c2, rfl, hr2, hb3⟩; replace hW := hW.call hb3; replace hr1 := hr1.keep hb3; clear hb3)) | (go_at_call 11; refine (same_t _ _ _ _ _ _ _ _ hr1 hr2).mono ?_; rintro e w4 ⟨rfl, hb4⟩; replace hW := hW.call hb4; replace hr2 := hr2.keep hb4; clear hb4 hr1) | (go_at_call 19; refine (pSum_at _ _ _ _ _ _ _ hcc hr2).mono ?_; rintro e w5 ⟨rfl, hb5⟩; replace hW := hW.call hb5; clear hb5))
      all_goals (go_ret; exact ⟨rfl, hW⟩)
end Go.Proofs.Ytglgaicbcackbaa
