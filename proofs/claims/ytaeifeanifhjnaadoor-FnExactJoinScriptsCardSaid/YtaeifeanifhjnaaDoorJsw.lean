/- Contracts of the functions that JoinScripts reaches: each call returns what the plain words say and leaves old memory alone.
   Conditions: the texts' lengths are bounded; the library's variable MaxLen holds a number. -/
import Derived.Test.YtaeifeanifhjnaaDoorJsb
namespace Go.Proofs.YtaeifeanifhjnaaDoor
open Go.RowKit
set_option linter.unusedVariables false
theorem byte_at (s : ByteArray) (k : Nat) (h : k < s.size) : ((((s[k]'h).toNat : Nat) : Int) == 10) = decide (s.data.toList[k]'(by rw [← Lib.size_eq]; exact h) = 10) := by
  have e : s.data.toList[k]'(by rw [← Lib.size_eq]; exact h) = s[k]'h := by simp [ByteArray.getElem_eq_getElem_data]
  rw [e, Bool.eq_iff_iff, beq_iff_eq, decide_eq_true_eq, ← UInt8.toNat_inj]
  simp; omega
set_option maxHeartbeats 2000000 in
theorem spec_l1Split (s : ByteArray) (w : World) (hs : s.size ≤ 3000000) :
    Calls Tryd.prog 8 #[.string s, .int .u8 10] w fun e w' => ∃ A n c, e = .returned (.slice A n c) ∧ n = s.data.toList.count 10 + 1 ∧ n ≤ c ∧ c ≤ maxLen ∧ Bl w w' := by
  have hl := Lib.hid (Lib.size_eq s)
  have hown0 := OwnV.nil 9 1 w.heap.size w
  have hW0 := Bl.refl w
  go_enter Tryd.func8, Tryd.ntmps8
  go_wp2
  go_loopw [5, 6, 7] (fun o f i wr => ∃ (A : Option Addr) (n c : Nat) (xs : List Value) (k m : Nat), k ≤ s.size ∧ m ≤ k ∧ i = .int .i64 (k : Nat) ∧ f = .int .i64 (m : Nat) ∧ o = .slice A n c ∧ OwnV 9 1 w.heap.size wr A n c xs ∧ n = (s.data.toList.take k).count 10 ∧ Bl w wr) (fun _ _ i _ => s.size - (RowKit.intOf i).toNat)
  case atStart => exact ⟨none, 0, 0, [], 0, 0, by omega, by omega, rfl, rfl, rfl, hown0, by simp, hW0⟩
  case round =>
    obtain ⟨A, n, c, xs, k, m, hk, hm, rfl, rfl, rfl, hown, hn, hW⟩ := hrel
    clear hown0 hW0
    have hnk : n ≤ k := by have := List.count_le_length (a := (10 : UInt8)) (l := s.data.toList.take k); rw [← hn, List.length_take] at this; omega
    have HN := Lib.hid hn
    clear hn
    by_cases hlt : k < s.size
    · have i1 : (k : Int) < s.size := by omega
      have hll : k < s.data.toList.length := by rw [← hl.out]; exact hlt
      have HC := Lib.hid (count_take s.data.toList k hll)
      have HB := Lib.hid (byte_at s k hlt)
      go_wp2_with (at_builtin; refine ap_str rfl rfl rfl (OwnV.alloc hown _) rfl (rd_str _ _) (by omega) (by have := hW.size; simp; omega) ?_; intro A2 c2 w2 hown2 hg2)
      · rename_i hc
        go_roundw
        case rel =>
          refine ⟨A2, n + 1, c2, _, k + 1, k + 1, by omega, by omega, by go_num, by go_num, rfl, hown2, ?_, (hW.alloc _).grown hg2 (fun q hq => (OwnV.blk hown q hq).1)⟩
          have := HB.out; rw [hc] at this
          rw [HC.out, ← HN.out, if_pos (by simpa using this.symm)]
        case measure => simp [RowKit.intOf]; omega
      · rename_i hc
        go_roundw
        case rel =>
          refine ⟨A, n, c, xs, k + 1, m, by omega, by omega, by go_num, rfl, rfl, hown, ?_, hW⟩
          have h0 : ((((s[k]'hlt).toNat : Nat) : Int) == 10) = false := by simpa using hc
          have := HB.out; rw [h0] at this
          rw [HC.out, ← HN.out, if_neg (by simpa using this.symm)]; rfl
        case measure => simp [RowKit.intOf]; omega
    · have he : k = s.size := by omega
      go_wp2_with (at_builtin; refine ap_str rfl rfl rfl (OwnV.alloc hown _) rfl (rd_str _ _) (by omega) (by have := hW.size; simp; omega) ?_; intro A2 c2 w2 hown2 hg2)
      go_ret
      have h2 := OwnV.rd hown2
      refine ⟨A2, n + 1, c2, rfl, ?_, h2.cap, h2.max, (hW.alloc _).grown hg2 (fun q hq => (OwnV.blk hown q hq).1)⟩
      rw [HN.out, he, hl.out, List.take_length]
theorem ret_two {v : Value} {a b : Bool} (h : a = b) : Ending.returned (.tuple #[v, .bool a]) = .returned (.tuple #[v, .bool b]) := by rw [h]
theorem empty_iff (s : ByteArray) : s.toList.isEmpty = decide (s.size = 0) := by
  rw [Lib.toList_data, Lib.size_eq]
  cases s.data.toList <;> simp
set_option maxHeartbeats 2000000 in
theorem spec_csLines (s : ByteArray) (w : World) (hs : s.size ≤ 3000000) :
    Calls Tryd.prog 6 #[.string s] w fun e w' => ∃ v, e = .returned (.tuple #[v, .bool (lsOk s)]) ∧ Bl w w' := by
  have HS := Lib.hid (spec_l1Split s w hs)
  have HE := empty_iff s
  rcases Nat.lt_or_ge 2000 s.size with h1 | h1
  · have HR := Lib.hid (lsOk_long h1)
    have i1 : (2000 : Int) < s.size := by omega
    rw [decide_eq_false (by omega)] at HE
    have i2 : 0 < s.size := by omega
    go_enter Tryd.func6, Tryd.ntmps6
    go_wp2
    go_ret2
    exact ⟨_, ret_two HR.out.symm, Bl.refl w⟩
  · have i1 : (s.size : Int) ≤ 2000 := by omega
    rcases Nat.eq_zero_or_pos s.size with h0 | h0
    · have HR := Lib.hid (lsOk_rest h1 (.inl h0))
      rw [decide_eq_true h0] at HE
      go_enter Tryd.func6, Tryd.ntmps6
      go_wp2_with (go_at_call 8; refine (HS.out).mono ?_; rintro e w1 ⟨A, n, c, rfl, hn, hnc, hcm, hb⟩; have hn1 : 1 ≤ n := (by omega); have hcm2 : c ≤ 9223372036854775807 := (by unfold maxLen at hcm; exact hcm); clear hcm; have HN := Lib.hid hn; clear hn)
      go_ret2
      exact ⟨_, ret_two (by rw [HR.out, Bool.eq_iff_iff, decide_eq_true_eq, decide_eq_true_eq]; have := HN.out; omega), hb⟩
    · rw [decide_eq_false (by omega)] at HE
      have HL := (lsOk_spec s h0).symm
      have i0 : (1 : Int) ≤ s.size := by omega
      have i3 : (s.size : Int) - 1 < s.size := by omega
      cases hh : Lib.hasSuffix s.data.toList [10]
      · have HR := Lib.hid (lsOk_open h0 hh)
        rw [hh] at HL
        have HM : ((((s[s.size - 1]'(by omega)).toNat : Nat) : Int) != 10) = true := by unfold bne; rw [HL]; rfl
        go_enter Tryd.func6, Tryd.ntmps6
        go_wp2
        go_ret2
        exact ⟨_, ret_two HR.out.symm, Bl.refl w⟩
      · have HR := Lib.hid (lsOk_rest h1 (.inr hh))
        rw [hh] at HL
        have HM : ((((s[s.size - 1]'(by omega)).toNat : Nat) : Int) != 10) = false := by unfold bne; rw [HL]; rfl
        go_enter Tryd.func6, Tryd.ntmps6
        go_wp2_with (go_at_call 8; refine (HS.out).mono ?_; rintro e w1 ⟨A, n, c, rfl, hn, hnc, hcm, hb⟩; have hn1 : 1 ≤ n := (by omega); have hcm2 : c ≤ 9223372036854775807 := (by unfold maxLen at hcm; exact hcm); clear hcm; have HN := Lib.hid hn; clear hn)
        go_ret2
        exact ⟨_, ret_two (by rw [HR.out, Bool.eq_iff_iff, decide_eq_true_eq, decide_eq_true_eq]; have := HN.out; omega), hb⟩
set_option maxHeartbeats 2000000 in
theorem impl_scriptLines (s : ByteArray) (m : Int) (w : World) (hs : s.size ≤ 3000000) (hm : w.cell? ⟨0, 0, none⟩ = some (.int .i64 m)) :
    Calls Tryd.prog 7 #[.string s] w fun e w' => ∃ v, e = .returned (.tuple #[v, .bool (lsOk s)]) ∧ Bl w w' := by
  have hr := rest_size s
  have HE := empty_iff s
  rcases Nat.eq_zero_or_pos s.size with h0 | h0
  · have HR := Lib.hid (lsOk_zero s h0)
    rw [decide_eq_true h0] at HE
    go_enter Tryd.func7, Tryd.ntmps7
    go_wp2
    go_ret2
    exact ⟨_, ret_two HR.out.symm, Bl.refl w⟩
  · rw [decide_eq_false (by omega)] at HE
    have HI := Lib.hid (lsOk_impl s (by omega))
    have cC := Tryd.strings_CutSuffix s ⟨#[10]⟩ w (by omega)
    have cS := Tryd.strings_Split ⟨(Lib.trimSuffix s.data.toList [10]).toArray⟩ ⟨#[10]⟩ m w (by omega) hm (by decide)
    have hk : Lib.countB ⟨(Lib.trimSuffix s.data.toList [10]).toArray⟩ ⟨#[10]⟩ ≤ s.size := Nat.le_trans (Lib.countB_le _ (by decide) _ _ (Nat.le_refl _)) hr
    obtain ⟨b, hb⟩ : ∃ b, Lib.hasSuffix s.data.toList [10] = b := ⟨_, rfl⟩
    obtain ⟨q, hq⟩ : ∃ q, Lib.countB ⟨(Lib.trimSuffix s.data.toList [10]).toArray⟩ ⟨#[10]⟩ = q := ⟨_, rfl⟩
    obtain ⟨R, hR⟩ : ∃ R : Array Value, ((Lib.splitB ⟨#[10]⟩ 0 q ⟨(Lib.trimSuffix s.data.toList [10]).toArray⟩).map Value.string).toArray = R := ⟨_, rfl⟩
    rw [show (⟨#[10]⟩ : ByteArray).data.toList = [10] from rfl, hb] at cC
    rw [hq, hR] at cS
    rw [hq] at hk
    obtain ⟨r, hr2⟩ : ∃ r : ByteArray, (⟨(Lib.trimSuffix s.data.toList [10]).toArray⟩ : ByteArray) = r := ⟨_, rfl⟩
    rw [hr2] at cC cS
    have HC := Lib.hid cC
    have HS := Lib.hid cS
    have HJ := Lib.hid (show lsOk s = (decide (s.size ≤ 2000) && b && decide (q + 1 ≤ 40)) by rw [HI.out, hb, hq])
    clear cC cS HI hb hq hR hr2 hr
    rcases b with _ | _ <;> rcases Nat.lt_or_ge 2000 s.size with h1 | h1 <;> rcases Nat.lt_or_ge 40 (q + 1) with h2 | h2
    all_goals first | (have i1 : (2000 : Int) < s.size := by omega) | (have i1 : (s.size : Int) ≤ 2000 := by omega)
    all_goals first | (have i2 : (40 : Int) < (q : Int) + 1 := by omega) | (have i2 : (q : Int) + 1 ≤ 40 := by omega)
    all_goals
      go_enter Tryd.func7, Tryd.ntmps7
      go_wp2_with (first
        | (go_at_call 9; refine HC.out.mono ?_; rintro e w1 ⟨rfl, rfl⟩)
        | (go_at_call 10; refine HS.out.mono ?_; rintro e w1 ⟨rfl, rfl⟩))
      go_ret2
      exact ⟨_, ret_two (by rw [HJ.out]; first | (simp; done) | (simp; omega)), (Bl.refl _).alloc _⟩
set_option maxHeartbeats 2000000 in
theorem spec_JoinScripts (a b : ByteArray) (w : World) (ha : a.size ≤ 1048576) (hb : b.size ≤ 1048576) :
    Calls Tryd.prog 4 #[.string a, .string b] w fun e w' => e = .returned (.tuple #[.string (if lsOk a && lsOk b && lsOk (a ++ b) then a ++ b else ByteArray.empty), .bool (lsOk a && lsOk b && lsOk (a ++ b))]) ∧ Bl w w' := by
  have hc : (a ++ b).size ≤ 3000000 := by rw [ByteArray.size_append]; omega
  obtain ⟨d, hd⟩ : ∃ d, a ++ b = d := ⟨_, rfl⟩
  rw [hd] at hc ⊢
  have HA := Lib.hid (spec_csLines a w (by omega))
  have HB := Lib.hid (fun v (_ : Bl w v) => spec_csLines b v (by omega))
  have HC := Lib.hid (fun v (_ : Bl w v) => spec_csLines d v hc)
  generalize lsOk a = x, lsOk b = y, lsOk d = z at *
  rcases x with _ | _ <;> rcases y with _ | _ <;> rcases z with _ | _
  all_goals
    go_enter Tryd.func4, Tryd.ntmps4
    go_wp2_with (first
      | (go_at_call 6; with_reducible refine (HA.out).mono ?_; rintro e w1 ⟨v1, rfl, hb1⟩)
      | (go_at_call 6; with_reducible refine (HB.out _ hb1).mono ?_; rintro e w2 ⟨v2, rfl, hb2⟩)
      | (go_at_call 6; with_reducible refine (HC.out _ (hb1.call hb2)).mono ?_; rintro e w3 ⟨v3, rfl, hb3⟩))
    all_goals go_ret2
    all_goals exact ⟨rfl, (hb1.call hb2).call hb3⟩
set_option maxHeartbeats 2000000 in
theorem impl_JoinScripts (a b : ByteArray) (m : Int) (w : World) (ha : a.size ≤ 1048576) (hb : b.size ≤ 1048576) (hm : w.cell? ⟨0, 0, none⟩ = some (.int .i64 m)) :
    Calls Tryd.prog 5 #[.string a, .string b] w fun e w' => e = .returned (.tuple #[.string (if lsOk a && lsOk b && lsOk (a ++ b) then a ++ b else ByteArray.empty), .bool (lsOk a && lsOk b && lsOk (a ++ b))]) ∧ Bl w w' := by
  have hc : (a ++ b).size ≤ 3000000 := by rw [ByteArray.size_append]; omega
  obtain ⟨d, hd⟩ : ∃ d, a ++ b = d := ⟨_, rfl⟩
  rw [hd] at hc ⊢
  have HA := Lib.hid (impl_scriptLines a m w (by omega) hm)
  have HB := Lib.hid (fun v (h : Bl w v) => impl_scriptLines b m v (by omega) (h.cells hm))
  have HC := Lib.hid (fun v (h : Bl w v) => impl_scriptLines d m v hc (h.cells hm))
  generalize lsOk a = x, lsOk b = y, lsOk d = z at *
  rcases x with _ | _ <;> rcases y with _ | _ <;> rcases z with _ | _
  all_goals
    go_enter Tryd.func5, Tryd.ntmps5
    go_wp2_with (first
      | (go_at_call 7; with_reducible refine (HA.out).mono ?_; rintro e w1 ⟨v1, rfl, hb1⟩)
      | (go_at_call 7; with_reducible refine (HB.out _ hb1).mono ?_; rintro e w2 ⟨v2, rfl, hb2⟩)
      | (go_at_call 7; with_reducible refine (HC.out _ (hb1.call hb2)).mono ?_; rintro e w3 ⟨v3, rfl, hb3⟩))
    all_goals go_ret2
    all_goals exact ⟨rfl, (hb1.call hb2).call hb3⟩
set_option maxHeartbeats 2000000 in
theorem law_JoinScripts (a b : ByteArray) (m : Int) (w : World) (hm : w.cell? ⟨0, 0, none⟩ = some (.int .i64 m)) :
    Calls Tryd.prog 3 #[.string a, .string b] w fun e w' => e = .returned (.bool true) ∧ Bl w w' := by
  rcases Nat.lt_or_ge 1048576 a.size with ha | ha
  · have i1 : (1048576 : Int) < a.size := by omega
    go_enter Tryd.func3, Tryd.ntmps3
    go_wp2
    go_ret
    exact ⟨rfl, Bl.refl w⟩
  · have i1 : (a.size : Int) ≤ 1048576 := by omega
    rcases Nat.lt_or_ge 1048576 b.size with hb | hb
    · have i2 : (1048576 : Int) < b.size := by omega
      go_enter Tryd.func3, Tryd.ntmps3
      go_wp2
      go_ret
      exact ⟨rfl, Bl.refl w⟩
    · have i2 : (b.size : Int) ≤ 1048576 := by omega
      have HS := Lib.hid (spec_JoinScripts a b w ha hb)
      have HI := Lib.hid (fun v (h : Bl w v) => impl_JoinScripts a b m v ha hb (h.cells hm))
      generalize (if lsOk a && lsOk b && lsOk (a ++ b) then a ++ b else ByteArray.empty) = r, (lsOk a && lsOk b && lsOk (a ++ b)) = x at *
      have hr : (r.toList == r.toList) = true := by simp
      go_enter Tryd.func3, Tryd.ntmps3
      go_wp2_with (first
        | (go_at_call 4; with_reducible refine (HS.out).mono ?_; rintro e w1 ⟨rfl, hb1⟩)
        | (go_at_call 5; with_reducible refine (HI.out _ hb1).mono ?_; rintro e w2 ⟨rfl, hb2⟩))
      all_goals go_ret
      all_goals exact ⟨rfl, hb1.call hb2⟩
end Go.Proofs.YtaeifeanifhjnaaDoor
