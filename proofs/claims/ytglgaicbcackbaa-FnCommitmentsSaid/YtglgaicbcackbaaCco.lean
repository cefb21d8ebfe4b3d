/- Contracts of CoinCounts, and the walk of its law.
   Conditions: none beyond the calls' own tests. -/
import Derived.Test.YtglgaicbcackbaaSeh
import Derived.Test.YtglgaicbcackbaaLst
import Derived.Test.YtglgaicbcackbaaMak
namespace Go.Proofs.Ytglgaicbcackbaa
open Go.RowKit
set_option linter.unusedVariables false
/-- The coin of a second value. -/
def coinAt (n first key : Int) (v : Int) : Int :=
  coinF 0 (markF 0 first (blindF 0 first key)) first (blindF 0 first key) true 1 (markF 1 v (blindF 1 v key)) v (blindF 1 v key) true n
theorem coinAt_bd (n first key v : Int) (h : 1 ≤ n) : 0 ≤ coinAt n first key v ∧ coinAt n first key v < n := by
  unfold coinAt coinF
  split
  · exact ⟨Int.emod_nonneg _ (by omega), Int.emod_lt_of_pos _ (by omega)⟩
  · omega
def ccB (n first key runs : Int) : Bool := inR n 1 1000 && inR first 0 65535 && inR key 0 1000000000 && inR runs 0 200
def ccR (n first key runs : Int) : List Int := if ccB n first key runs then tally n.toNat (fun v => (coinAt n first key v).toNat) runs.toNat else []
theorem ccR_len (n first key runs : Int) : (ccR n first key runs).length ≤ 1000 := by
  unfold ccR
  split
  · rename_i h
    have h1 : inR n 1 1000 = true := by simp only [ccB, Bool.and_eq_true] at h; exact h.1.1.1
    have := inR_iff.1 h1
    rw [tally_length]; omega
  · simp
set_option maxRecDepth 20000 in
set_option maxHeartbeats 2000000 in
theorem spec_CoinCounts (n first key runs : Int) (w : World) :
    Calls Try.prog 18 #[.int .i64 n, .int .i64 first, .int .i64 key, .int .i64 runs] w fun e w' => ∃ A m c, e = .returned (.tuple #[.slice A m c, .bool (ccB n first key runs)]) ∧ OwnI w.heap.size w' A m c (ccR n first key runs) ∧ Bl w w' := by
  rcases hB : ccB n first key runs
  · go_enter Try.func18, Try.ntmps18
    go_wp2_with (first | (go_at_call 80; refine (spec_l1In _ _ _ _).mono ?_; rintro e w' ⟨rfl, rfl⟩) | (go_at_call 78; refine (spec_cmValue _ _).mono ?_; rintro e w' ⟨rfl, rfl⟩) | (go_at_call 86; refine (spec_shKey _ _).mono ?_; rintro e w' ⟨rfl, rfl⟩))
    all_goals first
      | (exfalso; simp_all [ccB]; done)
      | (go_ret2; exact ⟨none, 0, 0, rfl, by simpa [ccR, hB] using OwnI.nil w.heap.size w, Bl.refl w⟩)
  · have hb : inR n 1 1000 = true ∧ inR first 0 65535 = true ∧ inR key 0 1000000000 = true ∧ inR runs 0 200 = true := by simpa [ccB, and_assoc] using hB
    obtain ⟨h1, h2, h3, h4⟩ := hb
    have i1 := inR_iff.1 h1
    have i2 := inR_iff.1 h2
    have i3 := inR_iff.1 h3
    have i4 := inR_iff.1 h4
    have HB := Lib.hid hB
    clear hB
    obtain ⟨N, rfl⟩ : ∃ N : Nat, n = N := ⟨n.toNat, by omega⟩
    obtain ⟨R, rfl⟩ : ∃ R : Nat, runs = R := ⟨runs.toNat, by omega⟩
    have hmk := make_ints N (by omega)
    have hown0 := own_zeros w N (by omega)
    have hW0 := (Bl.refl w).alloc (.cells (madeCells #[.int .i64 0] N) 3)
    go_enter Try.func18, Try.ntmps18
    go_wp2_with (first | (go_at_call 80; refine (spec_l1In _ _ _ _).mono ?_; rintro e w' ⟨rfl, rfl⟩) | (go_at_call 78; refine (spec_cmValue _ _).mono ?_; rintro e w' ⟨rfl, rfl⟩) | (go_at_call 86; refine (spec_shKey _ _).mono ?_; rintro e w' ⟨rfl, rfl⟩))
    go_loopw [11] (fun i wr => ∃ k, k ≤ R ∧ i = .int .i64 (k : Nat) ∧ OwnI w.heap.size wr (some ⟨w.heap.size, 0, none⟩) N N (tally N (fun v => (coinAt N first key v).toNat) k) ∧ Bl w wr) (fun i _ => R - (intOf i).toNat)
    case atStart => exact ⟨0, by omega, rfl, hown0, hW0⟩
    case round =>
      obtain ⟨k, hk, rfl, hown, hW⟩ := hrel
      clear hmk hown0 hW0
      by_cases hlt : k < R
      · have hbd := coinAt_bd N first key k (by omega)
        obtain ⟨C, hC⟩ : ∃ C : Nat, coinAt N first key k = C := ⟨(coinAt N first key k).toNat, by omega⟩
        have hcc := Lib.hid (show coinF 0 (markF 0 first (blindF 0 first key)) first (blindF 0 first key) true 1 (markF 1 k (blindF 1 k key)) k (blindF 1 k key) true N = C from hC)
        have hCN : C < N := by omega
        have htb := tally_bd N (fun v => (coinAt N first key v).toNat) k C
        have htl := Lib.hid (tally_length N (fun v => (coinAt N first key v).toNat) k)
        have hst := Lib.hid (show tally N (fun v => (coinAt N first key v).toNat) (k + 1) = bump (tally N (fun v => (coinAt N first key v).toNat) k) C by rw [tally, hC]; rfl)
        clear hbd hC
        generalize tally N (fun v => (coinAt N first key v).toNat) k = T at *
        have hget := Lib.hid (List.getElem?_eq_getElem (show C < T.length by rw [htl.out]; exact hCN))
        have hgd := Lib.hid (show T[C]?.getD 0 = T[C]'(by rw [htl.out]; exact hCN) by rw [hget.out]; rfl)
        rw [hgd.out] at htb
        generalize T[C]'(by rw [htl.out]; exact hCN) = X at *
        go_wp2_with (first | (go_at_call 87; refine (spec_cmSeal _ _ _ _ (by omega) (by omega) (by omega)).mono ?_; rintro e w1 ⟨rfl, hb1⟩; replace hown := hown.keep hb1; replace hW := hW.call hb1) | (go_at_call 28; refine (spec_CommonCoin _ _ _ _ _ _ _ _ _ _ _ _).mono ?_; rintro e w1 ⟨rfl, hb1⟩; replace hown := hown.keep hb1; replace hW := hW.call hb1; rw [hcc.out]; obtain ⟨g, he, hbg, hgl, hcell, hfr⟩ := hown.form (by omega); have hx := hcell _ _ hget.out; have hf := hfr C; clear hcell hfr; injection he with he; injection he with he; subst he))
        go_roundw
        case rel => exact ⟨k + 1, by omega, by go_num, by rw [hst.out]; unfold bump; rw [hgd.out]; exact hown.set_ C _ hCN, hW.setCell (Nat.le_refl _) _⟩
        case measure => simp [intOf]; omega
      · have he : k = R := by omega
        subst he
        have hR := Lib.hid (show ccR N first key k = tally N (fun v => (coinAt N first key v).toNat) k by unfold ccR; rw [HB.out]; rfl)
        go_wp2
        go_ret2
        exact ⟨_, N, N, rfl, by rw [hR.out]; exact hown, hW⟩
set_option maxRecDepth 20000 in
set_option maxHeartbeats 2000000 in
theorem impl_CoinCounts (n first key runs : Int) (w : World) :
    Calls Try.prog 17 #[.int .i64 n, .int .i64 first, .int .i64 key, .int .i64 runs] w fun e w' => ∃ A m c, e = .returned (.tuple #[.slice A m c, .bool (ccB n first key runs)]) ∧ OwnI w.heap.size w' A m c (ccR n first key runs) ∧ Bl w w' := by
  rcases hB : ccB n first key runs
  · go_enter Try.func17, Try.ntmps17
    go_wp2_with (first | (go_at_call 75; refine (impl_within _ _ _ _).mono ?_; rintro e w' ⟨rfl, rfl⟩) | (go_at_call 73; refine (impl_isValue _ _).mono ?_; rintro e w' ⟨rfl, rfl⟩) | (go_at_call 81; refine (impl_isKey _ _).mono ?_; rintro e w' ⟨rfl, rfl⟩))
    all_goals first
      | (exfalso; simp_all [ccB]; done)
      | (go_ret2; exact ⟨none, 0, 0, rfl, by simpa [ccR, hB] using OwnI.nil w.heap.size w, Bl.refl w⟩)
  · have hb : inR n 1 1000 = true ∧ inR first 0 65535 = true ∧ inR key 0 1000000000 = true ∧ inR runs 0 200 = true := by simpa [ccB, and_assoc] using hB
    obtain ⟨h1, h2, h3, h4⟩ := hb
    have i1 := inR_iff.1 h1
    have i2 := inR_iff.1 h2
    have i3 := inR_iff.1 h3
    have i4 := inR_iff.1 h4
    have HB := Lib.hid hB
    clear hB
    obtain ⟨N, rfl⟩ : ∃ N : Nat, n = N := ⟨n.toNat, by omega⟩
    obtain ⟨R, rfl⟩ : ∃ R : Nat, runs = R := ⟨runs.toNat, by omega⟩
    have hmk := make_ints N (by omega)
    have hown0 := own_zeros w N (by omega)
    have hW0 := (Bl.refl w).alloc (.cells (madeCells #[.int .i64 0] N) 3)
    go_enter Try.func17, Try.ntmps17
    go_wp2_with (first | (go_at_call 75; refine (impl_within _ _ _ _).mono ?_; rintro e w' ⟨rfl, rfl⟩) | (go_at_call 73; refine (impl_isValue _ _).mono ?_; rintro e w' ⟨rfl, rfl⟩) | (go_at_call 81; refine (impl_isKey _ _).mono ?_; rintro e w' ⟨rfl, rfl⟩))
    go_loopw [35] (fun i wr => ∃ k, k ≤ R ∧ i = .int .i64 (k : Nat) ∧ OwnI w.heap.size wr (some ⟨w.heap.size, 0, none⟩) N N (tally N (fun v => (coinAt N first key v).toNat) k) ∧ Bl w wr) (fun i _ => R - (intOf i).toNat)
    case atStart => exact ⟨0, by omega, rfl, hown0, hW0⟩
    case round =>
      obtain ⟨k, hk, rfl, hown, hW⟩ := hrel
      clear hmk hown0 hW0
      by_cases hlt : k < R
      · have hbd := coinAt_bd N first key k (by omega)
        obtain ⟨C, hC⟩ : ∃ C : Nat, coinAt N first key k = C := ⟨(coinAt N first key k).toNat, by omega⟩
        have hcc := Lib.hid (show coinF 0 (markF 0 first (blindF 0 first key)) first (blindF 0 first key) true 1 (markF 1 k (blindF 1 k key)) k (blindF 1 k key) true N = C from hC)
        have hCN : C < N := by omega
        have htb := tally_bd N (fun v => (coinAt N first key v).toNat) k C
        have htl := Lib.hid (tally_length N (fun v => (coinAt N first key v).toNat) k)
        have hst := Lib.hid (show tally N (fun v => (coinAt N first key v).toNat) (k + 1) = bump (tally N (fun v => (coinAt N first key v).toNat) k) C by rw [tally, hC]; rfl)
        clear hbd hC
        generalize tally N (fun v => (coinAt N first key v).toNat) k = T at *
        have hget := Lib.hid (List.getElem?_eq_getElem (show C < T.length by rw [htl.out]; exact hCN))
        have hgd := Lib.hid (show T[C]?.getD 0 = T[C]'(by rw [htl.out]; exact hCN) by rw [hget.out]; rfl)
        rw [hgd.out] at htb
        generalize T[C]'(by rw [htl.out]; exact hCN) = X at *
        go_wp2_with (first | (go_at_call 85; refine (impl_sealed _ _ _ _ (by omega) (by omega) (by omega)).mono ?_; rintro e w1 ⟨rfl, hb1⟩; replace hown := hown.keep hb1; replace hW := hW.call hb1) | (go_at_call 27; refine (impl_CommonCoin _ _ _ _ _ _ _ _ _ _ _ _).mono ?_; rintro e w1 ⟨rfl, hb1⟩; replace hown := hown.keep hb1; replace hW := hW.call hb1; rw [hcc.out]; obtain ⟨g, he, hbg, hgl, hcell, hfr⟩ := hown.form (by omega); have hx := hcell _ _ hget.out; have hf := hfr C; clear hcell hfr; injection he with he; injection he with he; subst he))
        go_roundw
        case rel => exact ⟨k + 1, by omega, by go_num, by rw [hst.out]; unfold bump; rw [hgd.out]; exact hown.set_ C _ hCN, hW.setCell (Nat.le_refl _) _⟩
        case measure => simp [intOf]; omega
      · have he : k = R := by omega
        subst he
        have hR := Lib.hid (show ccR N first key k = tally N (fun v => (coinAt N first key v).toNat) k by unfold ccR; rw [HB.out]; rfl)
        go_wp2
        go_ret2
        exact ⟨_, N, N, rfl, by rw [hR.out]; exact hown, hW⟩
end Go.Proofs.Ytglgaicbcackbaa
