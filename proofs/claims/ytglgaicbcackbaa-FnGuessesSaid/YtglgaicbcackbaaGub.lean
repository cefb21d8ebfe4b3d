/- The contract of the program's guesses.
   Conditions: the function value answers below the bound and only makes new blocks. -/
import Derived.Test.YtglgaicbcackbaaGue
import Derived.Test.YtglgaicbcackbaaAll
import Derived.Test.YtglgaicbcackbaaHel
import Derived.Test.YtglgaicbcackbaaRan
import Derived.Test.YtglgaicbcackbaaAps
import Derived.Test.YtglgaicbcackbaaLst
namespace Go.Proofs.Ytglgaicbcackbaa
open Go.RowKit
set_option linter.unusedVariables false
/-- The sum over the first k places of the greater counter. -/
def sumMax (a b : List Int) : Nat → Int
  | 0 => 0
  | k + 1 => sumMax a b k + max (a[k]?.getD 0) (b[k]?.getD 0)
theorem sumMax_bd (a b : List Int) (h : ∀ c : Nat, 0 ≤ a[c]?.getD 0 ∧ a[c]?.getD 0 ≤ 512) (h2 : ∀ c : Nat, 0 ≤ b[c]?.getD 0 ∧ b[c]?.getD 0 ≤ 512) : ∀ k, 0 ≤ sumMax a b k ∧ sumMax a b k ≤ 512 * k
  | 0 => by simp [sumMax]
  | k + 1 => by
    have := sumMax_bd a b h h2 k
    have := h k
    have := h2 k
    simp only [sumMax]; omega
set_option maxRecDepth 20000 in
set_option maxHeartbeats 4000000 in
theorem impl_guesses (N K : Nat) (caps : Array Value) (f : Nat → Nat → Nat) (w : World) (hN0 : 0 < N) (hN : N ≤ 4096) (hK : Enters K) (hg : Guess w K caps f) (hf : ∀ o c, o ≤ 1 → c < 512 → f o c < N) :
    Calls Try.prog 99 #[.int .i64 N, .func (.func K) #[] caps] w fun e w' => e = .returned (.int .i64 (sumMax (tally N (f 0) 512) (tally N (f 1) 512) N)) ∧ Bl w w' := by
  have HG := Lib.hid hg
  have HF := Lib.hid hf
  clear hg hf
  unfold Enters at hK
  have hp2 := Lib.hid (show pw 2 9 = 512 by decide)
  obtain ⟨t, ht0⟩ : ∃ t : (Nat → Nat) → Nat → List Int, t = tally N := ⟨_, rfl⟩
  have ht := Lib.hid ht0
  clear ht0
  have hmk := make_ints N (by omega)
  go_enter Try.func99, Try.ntmps99
  go_upto_region 1 with fail
  go_cut [5] (fun s5 wx => ∃ g g0 g1 : Nat, s5 = .pointer (some ⟨g, 0, none⟩) ∧ Two w wx g g0 g1 N (List.replicate N 0) (List.replicate N 0))
  case first =>
    go_region
    all_goals (go_wp2_with fail)
    all_goals go_meet
    all_goals first
      | exact ⟨_, _, _, rfl, two_of hN (three_a _ _ _ _) (three_b _ _ _ _) (three_c _ _ _ _) (three_bl _ _ _ _) (by omega) (by omega) (by omega) (by omega) (by omega) (by omega)⟩
      | exact ⟨_, _, _, rfl, two_of hN (three_a _ _ _ _) (three_c _ _ _ _) (three_b _ _ _ _) (three_bl _ _ _ _) (by omega) (by omega) (by omega) (by omega) (by omega) (by omega)⟩
      | exact ⟨_, _, _, rfl, two_of hN (three_b _ _ _ _) (three_a _ _ _ _) (three_c _ _ _ _) (three_bl _ _ _ _) (by omega) (by omega) (by omega) (by omega) (by omega) (by omega)⟩
      | exact ⟨_, _, _, rfl, two_of hN (three_b _ _ _ _) (three_c _ _ _ _) (three_a _ _ _ _) (three_bl _ _ _ _) (by omega) (by omega) (by omega) (by omega) (by omega) (by omega)⟩
      | exact ⟨_, _, _, rfl, two_of hN (three_c _ _ _ _) (three_a _ _ _ _) (three_b _ _ _ _) (three_bl _ _ _ _) (by omega) (by omega) (by omega) (by omega) (by omega) (by omega)⟩
      | exact ⟨_, _, _, rfl, two_of hN (three_c _ _ _ _) (three_b _ _ _ _) (three_a _ _ _ _) (three_bl _ _ _ _) (by omega) (by omega) (by omega) (by omega) (by omega) (by omega)⟩
  case rest =>
    obtain ⟨g, g0, g1, rfl, hT⟩ := hcut
    go_wp2_with fail
    go_loopw [15] (fun i wr => ∃ k : Nat, k ≤ 2 ∧ i = .int .i64 (k : Nat) ∧ Two w wr g g0 g1 N (t (f 0) (if 1 ≤ k then 512 else 0)) (t (f 1) (if 2 ≤ k then 512 else 0))) (fun i _ => 2 - (intOf i).toNat)
    case atStart => exact ⟨0, by omega, rfl, by rw [ht.out]; exact hT⟩
    case round =>
      obtain ⟨k, hk, rfl, hT⟩ := hrel
      have hc : k = 0 ∨ k = 1 ∨ k = 2 := by omega
      rcases hc with rfl | rfl | rfl
      · go_wp2_with (first | (go_at_call 112; refine (impl_powerOf 2 9 _ (by omega) (by omega) (by omega)).mono ?_; rintro e w' ⟨rfl, rfl⟩; rw [hp2.out]))
        go_loopw [19] (fun j wr => ∃ m : Nat, m ≤ 512 ∧ j = .int .i64 (m : Nat) ∧ Two w wr g g0 g1 N (t (f 0) m) (t (f 1) 0)) (fun j _ => 512 - (intOf j).toNat)
        case atStart => exact ⟨0, by omega, rfl, hT⟩
        case round =>
          obtain ⟨m, hm, rfl, hT⟩ := hrel
          by_cases hlt : m < 512
          · have hCN := HF.out 0 m (by omega) hlt
            have hcall := Lib.hid (fun c A W' => HG.out 0 m c A W' (by omega) hlt)
            have hst := Lib.hid (show t (f 0) (m + 1) = bump (t (f 0) m) (f 0 m) by rw [ht.out]; rfl)
            have htb := (show 0 ≤ (t (f 0) m)[f 0 m]?.getD 0 ∧ (t (f 0) m)[f 0 m]?.getD 0 ≤ m by rw [ht.out]; exact tally_bd N (f 0) m (f 0 m))
            have htl := Lib.hid (show (t (f 0) m).length = N by rw [ht.out]; exact tally_length N (f 0) m)
            generalize f 0 m = C at hCN hcall hst htb
            generalize t (f 0) m = T at hst htb htl hT
            have hget := Lib.hid (List.getElem?_eq_getElem (show C < T.length by rw [htl.out]; exact hCN))
            have hgd := Lib.hid (show T[C]?.getD 0 = T[C]'(by rw [htl.out]; exact hCN) by rw [hget.out]; rfl)
            rw [hgd.out] at htb
            generalize T[C]'(by rw [htl.out]; exact hCN) = X at htb hget hgd
            obtain ⟨b0, b1, bf, c0, c1, z0, z1⟩ := hT.read hN0; have hx := c0 _ _ hget.out; have hz := z0; clear c0 c1 z0 z1
            go_upto_region 8 with fail
            refine region_G (fun w' => w'.cell? ⟨g, 0, none⟩ = some (.slice (some ⟨g0, 0, none⟩) N N) ∧ w'.cell? ⟨g, 1, none⟩ = some (.slice (some ⟨g1, 0, none⟩) N N) ∧ (∀ i, w'.frozen? ⟨g, i, none⟩ = false) ∧ w'.cell? ⟨g0, C, none⟩ = some (.int .i64 X) ∧ ∀ k, w'.frozen? ⟨g0, k, none⟩ = false) 12 (by kernel_rfl) ?_ (fun hHeld => ?_)
            · (try dsimp only); exact ⟨b0, b1, bf, hx, hz⟩
            refine g_take (i := 0) (d := 22) (v := ?_) [0] rfl rfl (by kernel_rfl) (by kernel_rfl) (by kernel_rfl) (by kernel_rfl) (by kernel_rfl) (by kernel_rfl) (fun _ _ _ h => h) (by decide) (by kernel_rfl) (Or.inl ⟨by rfl, ?_⟩) (by assumption) ?_
            rotate_left
            · (intro w hSw; (try dsimp only at hSw); go_simp; (try with_reducible rfl))
            simp only [List.set_cons_zero, List.set_cons_succ]
            refine g_take (i := 1) (d := 23) (v := ?_) [1] rfl rfl (by kernel_rfl) (by kernel_rfl) (by kernel_rfl) (by kernel_rfl) (by kernel_rfl) (by kernel_rfl) (fun _ _ _ h => h) (by decide) (by kernel_rfl) (Or.inl ⟨by rfl, ?_⟩) (by assumption) ?_
            rotate_left
            · (intro w hSw; (try dsimp only at hSw); go_simp; (try with_reducible rfl))
            simp only [List.set_cons_zero, List.set_cons_succ]
            refine g_take (i := 2) (d := 24) (v := ?_) [2] rfl rfl (by kernel_rfl) (by kernel_rfl) (by kernel_rfl) (by kernel_rfl) (by kernel_rfl) (by kernel_rfl) (fun _ _ _ h => h) (by decide) (by kernel_rfl) (Or.inl ⟨by rfl, ?_⟩) (by assumption) ?_
            rotate_left
            · (intro w hSw; (try dsimp only at hSw); go_simp; (try with_reducible rfl))
            simp only [List.set_cons_zero, List.set_cons_succ]
            refine g_take (i := 3) (d := 25) (v := ?_) [3] rfl rfl (by kernel_rfl) (by kernel_rfl) (by kernel_rfl) (by kernel_rfl) (by kernel_rfl) (by kernel_rfl) (fun _ _ _ h => h) (by decide) (by kernel_rfl) (Or.inl ⟨by rfl, ?_⟩) (by assumption) ?_
            rotate_left
            · (intro w hSw; (try dsimp only at hSw); go_simp; (try with_reducible rfl))
            simp only [List.set_cons_zero, List.set_cons_succ]
            refine g_take (i := 4) (d := 26) (v := ?_) [4] rfl rfl (by kernel_rfl) (by kernel_rfl) (by kernel_rfl) (by kernel_rfl) (by kernel_rfl) (by kernel_rfl) (fun _ _ _ h => h) (by decide) (by kernel_rfl) (Or.inl ⟨by rfl, ?_⟩) (by assumption) ?_
            rotate_left
            · (intro w hSw; (try dsimp only at hSw); go_simp; (try with_reducible rfl))
            simp only [List.set_cons_zero, List.set_cons_succ]
            refine g_take (i := 5) (d := 27) (v := ?_) [5] rfl rfl (by kernel_rfl) (by kernel_rfl) (by kernel_rfl) (by kernel_rfl) (by kernel_rfl) (by kernel_rfl) (fun _ _ _ h => h) (by decide) (by kernel_rfl) (Or.inl ⟨by rfl, ?_⟩) (by assumption) ?_
            rotate_left
            · (intro w hSw; (try dsimp only at hSw); go_simp; (try with_reducible rfl))
            simp only [List.set_cons_zero, List.set_cons_succ]
            refine g_step (i := 6) (by kernel_rfl) rfl (fun K hK => ?_)
            go_simp
            (first | (go_at_call 113; refine (impl_digitsOf 2 m 9 _ (by omega) (by omega) (by omega) (by omega) (by omega)).mono ?_; rintro e w2 ⟨A2, n2, rfl, ho2, hb2⟩; replace hT := (by first | exact hT.keep hb2 | exact hT.keep ((Bl.refl _).drew.call hb2)); obtain ⟨b0, b1, bf, c0, c1, z0, z1⟩ := hT.read hN0; have hx := c0 _ _ hget.out; have hz := z0; clear c0 c1 z0 z1) | (refine (hcall.out _ _ _ hT.2.2.2.2.2.2.2 ho2.rd).mono ?_; rintro e w3 ⟨rfl, hb3⟩; replace hT := hT.keep hb3; obtain ⟨b0, b1, bf, c0, c1, z0, z1⟩ := hT.read hN0; have hx := c0 _ _ hget.out; have hz := z0; clear c0 c1 z0 z1))
            go_wp2_with fail
            refine hK.out _ _ ?_ (fun hHeld => ?_)
            · (try dsimp only); exact ⟨b0, b1, bf, hx, hz⟩
            clear hK K
            (try simp only [List.set_cons_succ]); (try simp only [List.set_cons_zero])
            refine g_step (i := 7) (by kernel_rfl) rfl (fun K hK => ?_)
            go_simp
            (first | (go_at_call 113; refine (impl_digitsOf 2 m 9 _ (by omega) (by omega) (by omega) (by omega) (by omega)).mono ?_; rintro e w2 ⟨A2, n2, rfl, ho2, hb2⟩; replace hT := (by first | exact hT.keep hb2 | exact hT.keep ((Bl.refl _).drew.call hb2)); obtain ⟨b0, b1, bf, c0, c1, z0, z1⟩ := hT.read hN0; have hx := c0 _ _ hget.out; have hz := z0; clear c0 c1 z0 z1) | (refine (hcall.out _ _ _ hT.2.2.2.2.2.2.2 ho2.rd).mono ?_; rintro e w3 ⟨rfl, hb3⟩; replace hT := hT.keep hb3; obtain ⟨b0, b1, bf, c0, c1, z0, z1⟩ := hT.read hN0; have hx := c0 _ _ hget.out; have hz := z0; clear c0 c1 z0 z1))
            go_wp2_with fail
            refine hK.out _ _ ?_ (fun hHeld => ?_)
            · (try dsimp only); exact ⟨b0, b1, bf, hx, hz⟩
            clear hK K
            (try simp only [List.set_cons_succ]); (try simp only [List.set_cons_zero])
            refine g_take (i := 8) (d := 30) (v := ?_) [8] rfl rfl (by kernel_rfl) (by kernel_rfl) (by kernel_rfl) (by kernel_rfl) (by kernel_rfl) (by kernel_rfl) (fun _ _ _ h => h) (by decide) (by kernel_rfl) (Or.inl ⟨by rfl, ?_⟩) (by assumption) ?_
            rotate_left
            · (intro w hSw; (try dsimp only at hSw); go_simp; (try with_reducible rfl))
            simp only [List.set_cons_zero, List.set_cons_succ]
            refine g_take (i := 9) (d := 31) (v := ?_) [9] rfl rfl (by kernel_rfl) (by kernel_rfl) (by kernel_rfl) (by kernel_rfl) (by kernel_rfl) (by kernel_rfl) (fun _ _ _ h => h) (by decide) (by kernel_rfl) (Or.inl ⟨by rfl, ?_⟩) (by assumption) ?_
            rotate_left
            · (intro w hSw; (try dsimp only at hSw); go_simp; (try with_reducible rfl))
            simp only [List.set_cons_zero, List.set_cons_succ]
            refine g_take (i := 10) (d := 32) (v := ?_) [10] rfl rfl (by kernel_rfl) (by kernel_rfl) (by kernel_rfl) (by kernel_rfl) (by kernel_rfl) (by kernel_rfl) (fun _ _ _ h => h) (by decide) (by kernel_rfl) (Or.inl ⟨by rfl, ?_⟩) (by assumption) ?_
            rotate_left
            · (intro w hSw; (try dsimp only at hSw); go_simp; (try with_reducible rfl))
            simp only [List.set_cons_zero, List.set_cons_succ]
            refine g_take (i := 11) (d := 33) (v := ?_) [11] rfl rfl (by kernel_rfl) (by kernel_rfl) (by kernel_rfl) (by kernel_rfl) (by kernel_rfl) (by kernel_rfl) (fun _ _ _ h => h) (by decide) (by kernel_rfl) (Or.inl ⟨by rfl, ?_⟩) (by assumption) ?_
            rotate_left
            · (intro w hSw; (try dsimp only at hSw); go_simp; (try with_reducible rfl))
            simp only [List.set_cons_zero, List.set_cons_succ]
            refine g_last (by kernel_rfl) rfl (by simp) (fun K hK => ?_)
            go_simp
            refine hK.out _ _ ?_
            clear hK K
            refine g_done (by kernel_rfl) ?_ _
            go_wp2
            go_roundw
            case rel => exact ⟨m + 1, by omega, by go_num, by rw [hst.out]; unfold bump; rw [hgd.out]; exact hT.set0 C _ hCN⟩
            case measure => simp [intOf]; omega
          · have he : m = 512 := by omega
            subst he
            go_wp2
            go_roundw
            case rel => exact ⟨1, by omega, by go_num, hT⟩
            case measure => simp [intOf]
      · go_wp2_with (first | (go_at_call 112; refine (impl_powerOf 2 9 _ (by omega) (by omega) (by omega)).mono ?_; rintro e w' ⟨rfl, rfl⟩; rw [hp2.out]))
        go_loopw [19] (fun j wr => ∃ m : Nat, m ≤ 512 ∧ j = .int .i64 (m : Nat) ∧ Two w wr g g0 g1 N (t (f 0) 512) (t (f 1) m)) (fun j _ => 512 - (intOf j).toNat)
        case atStart => exact ⟨0, by omega, rfl, hT⟩
        case round =>
          obtain ⟨m, hm, rfl, hT⟩ := hrel
          by_cases hlt : m < 512
          · have hCN := HF.out 1 m (by omega) hlt
            have hcall := Lib.hid (fun c A W' => HG.out 1 m c A W' (by omega) hlt)
            have hst := Lib.hid (show t (f 1) (m + 1) = bump (t (f 1) m) (f 1 m) by rw [ht.out]; rfl)
            have htb := (show 0 ≤ (t (f 1) m)[f 1 m]?.getD 0 ∧ (t (f 1) m)[f 1 m]?.getD 0 ≤ m by rw [ht.out]; exact tally_bd N (f 1) m (f 1 m))
            have htl := Lib.hid (show (t (f 1) m).length = N by rw [ht.out]; exact tally_length N (f 1) m)
            generalize f 1 m = C at hCN hcall hst htb
            generalize t (f 1) m = T at hst htb htl hT
            have hget := Lib.hid (List.getElem?_eq_getElem (show C < T.length by rw [htl.out]; exact hCN))
            have hgd := Lib.hid (show T[C]?.getD 0 = T[C]'(by rw [htl.out]; exact hCN) by rw [hget.out]; rfl)
            rw [hgd.out] at htb
            generalize T[C]'(by rw [htl.out]; exact hCN) = X at htb hget hgd
            obtain ⟨b0, b1, bf, c0, c1, z0, z1⟩ := hT.read hN0; have hx := c1 _ _ hget.out; have hz := z1; clear c0 c1 z0 z1
            go_upto_region 8 with fail
            refine region_G (fun w' => w'.cell? ⟨g, 0, none⟩ = some (.slice (some ⟨g0, 0, none⟩) N N) ∧ w'.cell? ⟨g, 1, none⟩ = some (.slice (some ⟨g1, 0, none⟩) N N) ∧ (∀ i, w'.frozen? ⟨g, i, none⟩ = false) ∧ w'.cell? ⟨g1, C, none⟩ = some (.int .i64 X) ∧ ∀ k, w'.frozen? ⟨g1, k, none⟩ = false) 12 (by kernel_rfl) ?_ (fun hHeld => ?_)
            · (try dsimp only); exact ⟨b0, b1, bf, hx, hz⟩
            refine g_take (i := 0) (d := 22) (v := ?_) [0] rfl rfl (by kernel_rfl) (by kernel_rfl) (by kernel_rfl) (by kernel_rfl) (by kernel_rfl) (by kernel_rfl) (fun _ _ _ h => h) (by decide) (by kernel_rfl) (Or.inl ⟨by rfl, ?_⟩) (by assumption) ?_
            rotate_left
            · (intro w hSw; (try dsimp only at hSw); go_simp; (try with_reducible rfl))
            simp only [List.set_cons_zero, List.set_cons_succ]
            refine g_take (i := 1) (d := 23) (v := ?_) [1] rfl rfl (by kernel_rfl) (by kernel_rfl) (by kernel_rfl) (by kernel_rfl) (by kernel_rfl) (by kernel_rfl) (fun _ _ _ h => h) (by decide) (by kernel_rfl) (Or.inl ⟨by rfl, ?_⟩) (by assumption) ?_
            rotate_left
            · (intro w hSw; (try dsimp only at hSw); go_simp; (try with_reducible rfl))
            simp only [List.set_cons_zero, List.set_cons_succ]
            refine g_take (i := 2) (d := 24) (v := ?_) [2] rfl rfl (by kernel_rfl) (by kernel_rfl) (by kernel_rfl) (by kernel_rfl) (by kernel_rfl) (by kernel_rfl) (fun _ _ _ h => h) (by decide) (by kernel_rfl) (Or.inl ⟨by rfl, ?_⟩) (by assumption) ?_
            rotate_left
            · (intro w hSw; (try dsimp only at hSw); go_simp; (try with_reducible rfl))
            simp only [List.set_cons_zero, List.set_cons_succ]
            refine g_take (i := 3) (d := 25) (v := ?_) [3] rfl rfl (by kernel_rfl) (by kernel_rfl) (by kernel_rfl) (by kernel_rfl) (by kernel_rfl) (by kernel_rfl) (fun _ _ _ h => h) (by decide) (by kernel_rfl) (Or.inl ⟨by rfl, ?_⟩) (by assumption) ?_
            rotate_left
            · (intro w hSw; (try dsimp only at hSw); go_simp; (try with_reducible rfl))
            simp only [List.set_cons_zero, List.set_cons_succ]
            refine g_take (i := 4) (d := 26) (v := ?_) [4] rfl rfl (by kernel_rfl) (by kernel_rfl) (by kernel_rfl) (by kernel_rfl) (by kernel_rfl) (by kernel_rfl) (fun _ _ _ h => h) (by decide) (by kernel_rfl) (Or.inl ⟨by rfl, ?_⟩) (by assumption) ?_
            rotate_left
            · (intro w hSw; (try dsimp only at hSw); go_simp; (try with_reducible rfl))
            simp only [List.set_cons_zero, List.set_cons_succ]
            refine g_take (i := 5) (d := 27) (v := ?_) [5] rfl rfl (by kernel_rfl) (by kernel_rfl) (by kernel_rfl) (by kernel_rfl) (by kernel_rfl) (by kernel_rfl) (fun _ _ _ h => h) (by decide) (by kernel_rfl) (Or.inl ⟨by rfl, ?_⟩) (by assumption) ?_
            rotate_left
            · (intro w hSw; (try dsimp only at hSw); go_simp; (try with_reducible rfl))
            simp only [List.set_cons_zero, List.set_cons_succ]
            refine g_step (i := 6) (by kernel_rfl) rfl (fun K hK => ?_)
            go_simp
            (first | (go_at_call 113; refine (impl_digitsOf 2 m 9 _ (by omega) (by omega) (by omega) (by omega) (by omega)).mono ?_; rintro e w2 ⟨A2, n2, rfl, ho2, hb2⟩; replace hT := (by first | exact hT.keep hb2 | exact hT.keep ((Bl.refl _).drew.call hb2)); obtain ⟨b0, b1, bf, c0, c1, z0, z1⟩ := hT.read hN0; have hx := c1 _ _ hget.out; have hz := z1; clear c0 c1 z0 z1) | (refine (hcall.out _ _ _ hT.2.2.2.2.2.2.2 ho2.rd).mono ?_; rintro e w3 ⟨rfl, hb3⟩; replace hT := hT.keep hb3; obtain ⟨b0, b1, bf, c0, c1, z0, z1⟩ := hT.read hN0; have hx := c1 _ _ hget.out; have hz := z1; clear c0 c1 z0 z1))
            go_wp2_with fail
            refine hK.out _ _ ?_ (fun hHeld => ?_)
            · (try dsimp only); exact ⟨b0, b1, bf, hx, hz⟩
            clear hK K
            (try simp only [List.set_cons_succ]); (try simp only [List.set_cons_zero])
            refine g_step (i := 7) (by kernel_rfl) rfl (fun K hK => ?_)
            go_simp
            (first | (go_at_call 113; refine (impl_digitsOf 2 m 9 _ (by omega) (by omega) (by omega) (by omega) (by omega)).mono ?_; rintro e w2 ⟨A2, n2, rfl, ho2, hb2⟩; replace hT := (by first | exact hT.keep hb2 | exact hT.keep ((Bl.refl _).drew.call hb2)); obtain ⟨b0, b1, bf, c0, c1, z0, z1⟩ := hT.read hN0; have hx := c1 _ _ hget.out; have hz := z1; clear c0 c1 z0 z1) | (refine (hcall.out _ _ _ hT.2.2.2.2.2.2.2 ho2.rd).mono ?_; rintro e w3 ⟨rfl, hb3⟩; replace hT := hT.keep hb3; obtain ⟨b0, b1, bf, c0, c1, z0, z1⟩ := hT.read hN0; have hx := c1 _ _ hget.out; have hz := z1; clear c0 c1 z0 z1))
            go_wp2_with fail
            refine hK.out _ _ ?_ (fun hHeld => ?_)
            · (try dsimp only); exact ⟨b0, b1, bf, hx, hz⟩
            clear hK K
            (try simp only [List.set_cons_succ]); (try simp only [List.set_cons_zero])
            refine g_take (i := 8) (d := 30) (v := ?_) [8] rfl rfl (by kernel_rfl) (by kernel_rfl) (by kernel_rfl) (by kernel_rfl) (by kernel_rfl) (by kernel_rfl) (fun _ _ _ h => h) (by decide) (by kernel_rfl) (Or.inl ⟨by rfl, ?_⟩) (by assumption) ?_
            rotate_left
            · (intro w hSw; (try dsimp only at hSw); go_simp; (try with_reducible rfl))
            simp only [List.set_cons_zero, List.set_cons_succ]
            refine g_take (i := 9) (d := 31) (v := ?_) [9] rfl rfl (by kernel_rfl) (by kernel_rfl) (by kernel_rfl) (by kernel_rfl) (by kernel_rfl) (by kernel_rfl) (fun _ _ _ h => h) (by decide) (by kernel_rfl) (Or.inl ⟨by rfl, ?_⟩) (by assumption) ?_
            rotate_left
            · (intro w hSw; (try dsimp only at hSw); go_simp; (try with_reducible rfl))
            simp only [List.set_cons_zero, List.set_cons_succ]
            refine g_take (i := 10) (d := 32) (v := ?_) [10] rfl rfl (by kernel_rfl) (by kernel_rfl) (by kernel_rfl) (by kernel_rfl) (by kernel_rfl) (by kernel_rfl) (fun _ _ _ h => h) (by decide) (by kernel_rfl) (Or.inl ⟨by rfl, ?_⟩) (by assumption) ?_
            rotate_left
            · (intro w hSw; (try dsimp only at hSw); go_simp; (try with_reducible rfl))
            simp only [List.set_cons_zero, List.set_cons_succ]
            refine g_take (i := 11) (d := 33) (v := ?_) [11] rfl rfl (by kernel_rfl) (by kernel_rfl) (by kernel_rfl) (by kernel_rfl) (by kernel_rfl) (by kernel_rfl) (fun _ _ _ h => h) (by decide) (by kernel_rfl) (Or.inl ⟨by rfl, ?_⟩) (by assumption) ?_
            rotate_left
            · (intro w hSw; (try dsimp only at hSw); go_simp; (try with_reducible rfl))
            simp only [List.set_cons_zero, List.set_cons_succ]
            refine g_last (by kernel_rfl) rfl (by simp) (fun K hK => ?_)
            go_simp
            refine hK.out _ _ ?_
            clear hK K
            refine g_done (by kernel_rfl) ?_ _
            go_wp2
            go_roundw
            case rel => exact ⟨m + 1, by omega, by go_num, by rw [hst.out]; unfold bump; rw [hgd.out]; exact hT.set1 C _ hCN⟩
            case measure => simp [intOf]; omega
          · have he : m = 512 := by omega
            subst he
            go_wp2
            go_roundw
            case rel => exact ⟨2, by omega, by go_num, hT⟩
            case measure => simp [intOf]
      · have hb0 : ∀ c : Nat, 0 ≤ (t (f 0) 512)[c]?.getD 0 ∧ (t (f 0) 512)[c]?.getD 0 ≤ 512 := by rw [ht.out]; exact fun c => tally_bd N (f 0) 512 c
        have hb1 : ∀ c : Nat, 0 ≤ (t (f 1) 512)[c]?.getD 0 ∧ (t (f 1) 512)[c]?.getD 0 ≤ 512 := by rw [ht.out]; exact fun c => tally_bd N (f 1) 512 c
        have hl0 := Lib.hid (show (t (f 0) 512).length = N by rw [ht.out]; exact tally_length N (f 0) 512)
        have hl1 := Lib.hid (show (t (f 1) 512).length = N by rw [ht.out]; exact tally_length N (f 1) 512)
        have hR := Lib.hid (show sumMax (tally N (f 0) 512) (tally N (f 1) 512) N = sumMax (t (f 0) 512) (t (f 1) 512) N by rw [ht.out])
        replace hT : Two w wr g g0 g1 N (t (f 0) 512) (t (f 1) 512) := hT
        generalize t (f 0) 512 = T0 at hb0 hl0 hR hT
        generalize t (f 1) 512 = T1 at hb1 hl1 hR hT
        have HB := Lib.hid (sumMax_bd T0 T1 hb0 hb1)
        have HB0 := Lib.hid hb0
        have HB1 := Lib.hid hb1
        clear hb0 hb1
        go_wp2_with fail
        go_loopw [8, 37] (fun a i wr => ∃ k : Nat, k ≤ N ∧ i = .int .i64 (k : Nat) ∧ a = .int .i64 (sumMax T0 T1 k) ∧ Two w wr g g0 g1 N T0 T1) (fun _ i _ => N - (intOf i).toNat)
        case atStart => exact ⟨0, by omega, rfl, rfl, hT⟩
        case round =>
          obtain ⟨k, hk, rfl, rfl, hT⟩ := hrel
          by_cases hlt : k < N
          · have h1 := HB.out k
            have h2 := HB0.out k
            have h3 := HB1.out k
            have hq0 := Lib.hid (List.getElem?_eq_getElem (show k < T0.length by rw [hl0.out]; exact hlt))
            have hq1 := Lib.hid (List.getElem?_eq_getElem (show k < T1.length by rw [hl1.out]; exact hlt))
            have hs := Lib.hid (show sumMax T0 T1 (k + 1) = sumMax T0 T1 k + max (T0[k]?.getD 0) (T1[k]?.getD 0) from rfl)
            rw [hq0.out] at h2 hs
            rw [hq1.out] at h3 hs
            obtain ⟨b0, b1, bf, c0, c1, z0, z1⟩ := hT.read hN0
            have hx0 := c0 _ _ hq0.out
            have hx1 := c1 _ _ hq1.out
            clear c0 c1
            simp only [Option.getD_some] at h2 h3 hs
            generalize T0[k]'(by rw [hl0.out]; exact hlt) = X at h2 hs hx0
            generalize T1[k]'(by rw [hl1.out]; exact hlt) = Y at h3 hs hx1
            have i1 : (k : Int) < N := by omega
            go_wp2_with fail
            go_quiet (fail)
            go_wp2
            go_roundw
            case rel => exact ⟨k + 1, by omega, by go_num, by rw [hs.out]; go_num, hT.keep (Bl.of_drewN _ _)⟩
            case measure => simp [intOf]; omega
          · have he : k = N := by omega
            subst he
            go_wp2
            go_ret
            exact ⟨by rw [hR.out]; rfl, hT.2.2.2.2.2.2.2⟩
end Go.Proofs.Ytglgaicbcackbaa
