/- Contracts of BestGuesses, and the walk of its law.
   Conditions: none beyond the calls' own tests. -/
import Derived.Test.YtglgaicbcackbaaBgs
namespace Go.Proofs.Ytglgaicbcackbaa
open Go.RowKit
set_option linter.unusedVariables false
theorem bump_left (a b : List Int) (c : Nat) (h : c < a.length) : bump (a ++ b) c = bump a c ++ b := by
  unfold bump
  rw [List.getElem?_append_left h, List.set_append_left _ _ h]
theorem bump_right (a b : List Int) (c : Nat) : bump (a ++ b) (a.length + c) = a ++ bump b c := by
  unfold bump
  rw [List.getElem?_append_right (by omega), List.set_append_right _ _ (by omega), show a.length + c - a.length = c by omega]
def cntV (Z T0 T1 : List Int) (v : Nat) : List Int := (if v = 0 then Z else T0) ++ (if v ≤ 1 then Z else T1)
theorem cntV_0 (Z T0 T1 : List Int) : cntV Z T0 T1 0 = Z ++ Z := rfl
theorem cntV_1 (Z T0 T1 : List Int) : cntV Z T0 T1 1 = T0 ++ Z := rfl
theorem cntV_2 (Z T0 T1 : List Int) : cntV Z T0 T1 2 = T0 ++ T1 := rfl
theorem zeros2 : (List.replicate 4096 0 ++ List.replicate 4096 0 : List Int) = List.replicate 8192 0 := by rw [List.replicate_append_replicate]
theorem spec_l1Most (x y : Int) (w : World) : Calls Try.prog 109 #[.int .i64 x, .int .i64 y] w fun e w' => e = .returned (.int .i64 (max x y)) ∧ w = w' := by
  by_cases h : y < x
  · have hm := Lib.hid (show max x y = x by omega)
    go_enter Try.func109, Try.ntmps109
    go_wp2
    go_ret
    exact ⟨by rw [hm.out]; rfl, rfl⟩
  · have hm := Lib.hid (show max x y = y by omega)
    go_enter Try.func109, Try.ntmps109
    go_wp2
    go_ret
    exact ⟨by rw [hm.out]; rfl, rfl⟩
theorem vwExtra_any (q e : Int) (hq : q = 0 ∨ q = 1) (he : 0 ≤ e ∧ e ≤ 3) (l : List Int) (A : Option Addr) (c : Nat) (w : World) (hl : RdI w A 9 c l) (hall : ∀ z ∈ l, 0 ≤ z ∧ z < 2) :
    Calls Try.prog 107 #[.int .i64 q, .int .i64 e, .slice A 9 c] w fun r w' => r = .returned (.int .i64 (exF q e l)) ∧ Bl w w' := by
  obtain ⟨r0, r1, r2, r3, r4, r5, r6, r7, r8, rfl⟩ := nine hl.length
  have he4 : e = 0 ∨ e = 1 ∨ e = 2 ∨ e = 3 := by omega
  rcases hq with rfl | rfl
  · rcases he4 with rfl | rfl | rfl | rfl
    · exact vwExtra_00 r0 r1 r2 r3 r4 r5 r6 r7 r8 A c w hl hall
    · exact vwExtra_01 r0 r1 r2 r3 r4 r5 r6 r7 r8 A c w hl hall
    · exact vwExtra_02 r0 r1 r2 r3 r4 r5 r6 r7 r8 A c w hl hall
    · exact vwExtra_03 r0 r1 r2 r3 r4 r5 r6 r7 r8 A c w hl hall
  · rcases he4 with rfl | rfl | rfl | rfl
    · exact vwExtra_10 r0 r1 r2 r3 r4 r5 r6 r7 r8 A c w hl hall
    · exact vwExtra_11 r0 r1 r2 r3 r4 r5 r6 r7 r8 A c w hl hall
    · exact vwExtra_12 r0 r1 r2 r3 r4 r5 r6 r7 r8 A c w hl hall
    · exact vwExtra_13 r0 r1 r2 r3 r4 r5 r6 r7 r8 A c w hl hall
theorem BestGuesses_1 (q e i o : Int) (hq : q = 0 ∨ q = 1) (he : 0 ≤ e ∧ e ≤ 3) (l : List Int) (gi gq ge : Nat) (A : Option Addr) (c : Nat) (w : World) (hl : RdI w A 9 c l) (hi : 0 ≤ i ∧ i < 2) (ho : 0 ≤ o ∧ o < 2) (hall0 : ∀ z ∈ l, 0 ≤ z ∧ z < 2)
    (ki : w.cell? ⟨gi, 0, none⟩ = some (.int .i64 i)) (kq : w.cell? ⟨gq, 0, none⟩ = some (.int .i64 q)) (ke : w.cell? ⟨ge, 0, none⟩ = some (.int .i64 e)) :
    Calls Try.prog 100 #[.int .i64 o, .slice A 9 c, .pointer (some ⟨gi, 0, none⟩), .pointer (some ⟨gq, 0, none⟩), .pointer (some ⟨ge, 0, none⟩)] w fun r w' => r = .returned (.int .i64 (2 * vcF 2 (rvL 2 (if q = 0 then i else o) (if q = 0 then o else i) q l) + exF q e l)) ∧ Bl w w' := by
  have he4 : e = 0 ∨ e = 1 ∨ e = 2 ∨ e = 3 := by omega
  rcases hq with rfl | rfl
  · rcases he4 with rfl | rfl | rfl | rfl
    · exact BestGuesses_1_00 i o l gi gq ge A c w hl hi ho hall0 ki kq ke
    · exact BestGuesses_1_01 i o l gi gq ge A c w hl hi ho hall0 ki kq ke
    · exact BestGuesses_1_02 i o l gi gq ge A c w hl hi ho hall0 ki kq ke
    · exact BestGuesses_1_03 i o l gi gq ge A c w hl hi ho hall0 ki kq ke
  · rcases he4 with rfl | rfl | rfl | rfl
    · exact BestGuesses_1_10 i o l gi gq ge A c w hl hi ho hall0 ki kq ke
    · exact BestGuesses_1_11 i o l gi gq ge A c w hl hi ho hall0 ki kq ke
    · exact BestGuesses_1_12 i o l gi gq ge A c w hl hi ho hall0 ki kq ke
    · exact BestGuesses_1_13 i o l gi gq ge A c w hl hi ho hall0 ki kq ke
set_option maxRecDepth 20000 in
set_option maxHeartbeats 8000000 in
theorem spec_BestGuesses_0 (i e : Int) (w : World) (hB : bgB 0 i e = true) :
    Calls Try.prog 40 #[.int .i64 0, .int .i64 i, .int .i64 e] w fun e' w' => e' = .returned (.tuple #[.int .i64 (sumMax (tally 4096 (bgS 0 i e 0) 512) (tally 4096 (bgS 0 i e 1) 512) 4096), .bool true]) ∧ Bl w w' := by
  simp only [bgB, Bool.and_eq_true] at hB
  have b1 := inR_iff.1 hB.1.2
  have b2 := inR_iff.1 hB.2
  have hi : 0 ≤ i ∧ i < 2 := by omega
  have he : 0 ≤ e ∧ e ≤ 3 := by omega
  have hall : allR [0, i] 0 1 = true := by simp [allR, hB.1.2]; decide
  have h2 := hB.2
  clear hB
  obtain ⟨T0, hT0⟩ : ∃ T0, tally 4096 (bgS 0 i e 0) 512 = T0 := ⟨_, rfl⟩
  obtain ⟨T1, hT1⟩ : ∃ T1, tally 4096 (bgS 0 i e 1) 512 = T1 := ⟨_, rfl⟩
  have HT0l := Lib.hid (show T0.length = 4096 by rw [← hT0, tally_length])
  have HT1l := Lib.hid (show T1.length = 4096 by rw [← hT1, tally_length])
  have HT0b := Lib.hid (show ∀ c : Nat, (0 : Int) ≤ T0[c]?.getD 0 ∧ T0[c]?.getD 0 ≤ 512 from fun c => by
    have h := tally_bd 4096 (bgS 0 i e 0) 512 c
    rw [hT0] at h
    exact ⟨h.1, by have := h.2; omega⟩)
  have HT1b := Lib.hid (show ∀ c : Nat, (0 : Int) ≤ T1[c]?.getD 0 ∧ T1[c]?.getD 0 ≤ 512 from fun c => by
    have h := tally_bd 4096 (bgS 0 i e 1) 512 c
    rw [hT1] at h
    exact ⟨h.1, by have := h.2; omega⟩)
  have HT0 := Lib.hid hT0
  have HT1 := Lib.hid hT1
  rw [hT0, hT1]
  clear hT0 hT1
  obtain ⟨Z, hZ⟩ : ∃ Z : List Int, List.replicate 4096 0 = Z := ⟨_, rfl⟩
  have HZ := Lib.hid hZ
  have HZl := Lib.hid (show Z.length = 4096 by rw [← hZ, List.length_replicate])
  have hZZ : Z ++ Z = List.replicate 8192 0 := by rw [← hZ]; exact zeros2
  have HZZ := Lib.hid hZZ
  clear hZ hZZ
  obtain ⟨R, hRe⟩ : ∃ R, sumMax T0 T1 4096 = R := ⟨_, rfl⟩
  have HR := Lib.hid hRe
  rw [hRe]
  clear hRe
  have hmk : ∀ w : World, (Instr.makeSlice 26 (.int .i64 8192) (.int .i64 8192)).run Try.prog w = .ok (.slice (some ⟨w.heap.size, 0, none⟩) 8192 8192) (w.alloc (.cells (madeCells #[.int .i64 0] 8192) 3)) := make_ints 8192 (by omega)
  go_enter Try.func40, Try.ntmps40
  go_wp2_with (first | (go_at_call 104; refine (spec_l1All _ _ _ [0, i] _ _ _ (rd_new2 _ 3 _ _)).mono ?_; rintro e' w' ⟨rfl, rfl⟩; rw [hall]) | (go_at_call 80; refine (spec_l1In _ _ _ _).mono ?_; rintro e' w' ⟨rfl, rfl⟩))
  have hown0 : OwnI w.heap.size ((w.alloc (.cells #[.int .i64 0, .int .i64 i] 3)).alloc (.cells (madeCells #[.int .i64 0] 8192) 3)) (some ⟨w.heap.size + 1, 0, none⟩) 8192 8192 (cntV Z T0 T1 0) := by
    have := OwnI.mono (base' := w.heap.size) (own_zeros (w.alloc (.cells #[.int .i64 0, .int .i64 i] 3)) 8192 (by omega) (g := w.heap.size + 1) (by simp)) (by simp)
    rw [cntV_0, HZZ.out]; exact this
  have hW0 := ((Bl.refl w).alloc (.cells #[.int .i64 0, .int .i64 i] 3)).alloc (.cells (madeCells #[.int .i64 0] 8192) 3)
  obtain ⟨g8, hg8⟩ : ∃ g8, w.heap.size + 1 = g8 := ⟨_, rfl⟩
  rw [hg8] at hown0 ⊢
  have hg8w : w.heap.size < g8 := by omega
  clear hg8 hmk
  go_loopw [9] (fun i' wr => ∃ v : Nat, v ≤ 2 ∧ i' = .int .i64 (v : Nat) ∧ OwnI w.heap.size wr (some ⟨g8, 0, none⟩) 8192 8192 (cntV Z T0 T1 v) ∧ Bl w wr) (fun i' _ => 2 - (intOf i').toNat)
  case atStart => exact ⟨0, by omega, rfl, hown0, hW0⟩
  case round =>
    clear hown0 hW0
    obtain ⟨v, hv, hie, hown, hW⟩ := hrel
    have hv3 : v = 0 ∨ v = 1 ∨ v = 2 := by omega
    clear hv
    rcases hv3 with rfl | rfl | rfl
    · replace hie := hie.trans (show _ = Value.int .i64 0 from rfl)
      subst hie
      have hc0 := Lib.hid (show cntV Z T0 T1 0 = tally 4096 (bgS 0 i e 0) 0 ++ Z by rw [cntV_0, tally, HZ.out])
      have hI := Blk.new wr 3 #[.int .i64 i, .int .i64 0]
      replace hW := hW.alloc (.cells #[.int .i64 i, .int .i64 0] 3)
      have h8 := (hown.blk g8 rfl)
      replace hown : OwnI w.heap.size (wr.alloc (.cells #[.int .i64 i, .int .i64 0] 3)) (some ⟨g8, 0, none⟩) 8192 8192 (tally 4096 (bgS 0 i e 0) 0 ++ Z) := by have := hown.alloc (.cells #[.int .i64 i, .int .i64 0] 3); rw [hc0.out] at this; exact this
      go_wp2
      obtain ⟨gI, hgI⟩ : ∃ gI, wr.heap.size = gI := ⟨_, rfl⟩
      rw [hgI] at hI h8 ⊢
      clear hgI
      go_loopw [11] (fun i' wq => ∃ k : Nat, k ≤ 512 ∧ i' = .int .i64 k ∧ OwnI w.heap.size wq (some ⟨g8, 0, none⟩) 8192 8192 (tally 4096 (bgS 0 i e 0) k ++ Z) ∧ Blk wq gI 3 #[.int .i64 i, .int .i64 0] ∧ Bl w wq) (fun i' _ => 512 - (intOf i').toNat)
      case atStart => exact ⟨0, by omega, rfl, hown, hI, hW⟩
      case round =>
        clear hown hI hW
        obtain ⟨k, hk, rfl, hown, hI, hW⟩ := hrel
        by_cases hlt : k < 512
        · have ik : (k : Int) < 512 := by omega
          have hC := bgC_bd 0 i hi 0 k (by omega)
          have hE := bgE_bd 0 e k
          have hr := bgI_rho 0 i e hi 0 k (by omega)
          obtain ⟨C, hCe⟩ : ∃ C, bgS 0 i e 0 k = C := ⟨_, rfl⟩
          have hC4 : C < 4096 := by rw [← hCe]; exact hr.2
          have hvm := rvL_mem 2 i 0 0 (digs 2 k 9).1 (by omega) (by omega) (by omega) (digs_len 2 k 9) (digs_mem 2 k (by omega) 9)
          have hxb := exF_bd 0 e (digs 2 k 9).1 (digs_mem 2 k (by omega) 9)
          have hm12 := Lib.hid (show ∀ z ∈ rvL 2 i 0 0 (digs 2 k 9).1 ++ [exF 0 e (digs 2 k 9).1], 0 ≤ z ∧ z < 2 from fun z hz => by
            simp only [List.mem_append, List.mem_singleton] at hz
            rcases hz with hz | rfl
            · exact hvm.2 z hz
            · exact hxb)
          have hvc := Lib.hid (show vcF 2 (rvL 2 i 0 0 (digs 2 k 9).1 ++ [exF 0 e (digs 2 k 9).1]) = (C : Int) by
            rw [vcF_snoc, hvm.1, show pw 2 11 = 2048 by decide, ← hCe]
            have h1 : vcF 2 (rvL 2 i 0 0 (digs 2 k 9).1) = bgC 0 i 0 k := hC.1
            rw [h1, hE.1]
            unfold bgS
            omega)
          have hdm := Lib.hid (digs_mem 2 (k : Int) (by omega) 9)
          have htb := tally_bd 4096 (bgS 0 i e 0) k C
          have htl := tally_length 4096 (bgS 0 i e 0) k
          have hst := Lib.hid (show tally 4096 (bgS 0 i e 0) (k + 1) ++ Z = (tally 4096 (bgS 0 i e 0) k ++ Z).set (C) ((tally 4096 (bgS 0 i e 0) k)[C]?.getD 0 + 1) by
            rw [tally, hCe]
            unfold bump
            rw [List.set_append_left _ _ (by rw [tally_length]; exact hC4)])
          have hLl : (tally 4096 (bgS 0 i e 0) k ++ Z).length = 8192 := by rw [List.length_append, tally_length, HZl.out]
          have hgd : (tally 4096 (bgS 0 i e 0) k ++ Z)[C]? = some ((tally 4096 (bgS 0 i e 0) k)[C]?.getD 0) := by
            rw [List.getElem?_append_left (by rw [tally_length]; exact hC4), List.getElem?_eq_getElem (by rw [tally_length]; exact hC4)]; rfl
          have hget := Lib.hid hgd
          clear hC hE hr hvm hxb hLl hgd hCe
          generalize tally 4096 (bgS 0 i e 0) k ++ Z = LT at *
          generalize (tally 4096 (bgS 0 i e 0) k)[C]?.getD 0 = X at *
          have kI0 := hI.cell 0 _ rfl
          have kI1 := hI.cell 1 _ rfl
          have kIl := hI.lt
          go_wp2_with (go_at_call 105; refine (spec_vwDigits 2 k 9 _ (by omega) (by omega) (by omega) (by omega) (by omega)).mono ?_; rintro r w1 ⟨A1, c1, rfl, ho1, hb1⟩; replace hown := hown.keep hb1; replace hI := hI.keep hb1; replace hW := hW.call hb1; clear kI0 kI1 kIl; have kI0 := hI.cell 0 _ rfl; have kI1 := hI.cell 1 _ rfl; have kIl := hI.lt)
          refine wp_region_held_drew (S := (fun w' => w'.cell? ⟨gI, 0, none⟩ = some (.int .i64 i) ∧ w'.cell? ⟨gI, 1, none⟩ = some (.int .i64 0))) (by kernel_rfl) ?_ (fun hHeld => ?_)
          · (try dsimp only); exact ⟨Bl.cells (by (repeat (first | assumption | with_reducible exact Bl.refl _ | with_reducible refine Bl.drewN ?_ _ | with_reducible refine Bl.drew ?_ | with_reducible refine Bl.alloc ?_ _ | (with_reducible refine Bl.call ?_ (by assumption))))) kI0, Bl.cells (by (repeat (first | assumption | with_reducible exact Bl.refl _ | with_reducible refine Bl.drewN ?_ _ | with_reducible refine Bl.drew ?_ | with_reducible refine Bl.alloc ?_ _ | (with_reducible refine Bl.call ?_ (by assumption))))) kI1⟩
          refine held_take (i := 0) (d := 44) (v := ?_) rfl rfl (by kernel_rfl) (by kernel_rfl) (by kernel_rfl) (fun _ _ _ h => h) (Or.inl ⟨by rfl, ?_⟩) (by assumption) ?_
          rotate_left
          · (intro w hSw; (try dsimp only at hSw); go_simp; (try with_reducible rfl))
          (try simp only [List.set_cons_zero, List.set_cons_succ])
          refine held_take (i := 1) (d := 45) (v := ?_) rfl rfl (by kernel_rfl) (by kernel_rfl) (by kernel_rfl) (fun _ _ _ h => h) (Or.inl ⟨by rfl, ?_⟩) (by assumption) ?_
          rotate_left
          · (intro w hSw; (try dsimp only at hSw); go_simp; (try with_reducible rfl))
          (try simp only [List.set_cons_zero, List.set_cons_succ])
          refine held_take (i := 2) (d := 46) (v := ?_) rfl rfl (by kernel_rfl) (by kernel_rfl) (by kernel_rfl) (fun _ _ _ h => h) (Or.inl ⟨by rfl, ?_⟩) (by assumption) ?_
          rotate_left
          · (intro w hSw; (try dsimp only at hSw); go_simp; (try with_reducible rfl))
          (try simp only [List.set_cons_zero, List.set_cons_succ])
          refine held_take (i := 3) (d := 47) (v := ?_) rfl rfl (by kernel_rfl) (by kernel_rfl) (by kernel_rfl) (fun _ _ _ h => h) (Or.inl ⟨by rfl, ?_⟩) (by assumption) ?_
          rotate_left
          · (intro w hSw; (try dsimp only at hSw); go_simp; (try with_reducible rfl))
          (try simp only [List.set_cons_zero, List.set_cons_succ])
          refine held_take (i := 4) (d := 48) (v := ?_) rfl rfl (by kernel_rfl) (by kernel_rfl) (by kernel_rfl) (fun _ _ _ h => h) (Or.inl ⟨by rfl, ?_⟩) (by assumption) ?_
          rotate_left
          · (intro w hSw; (try dsimp only at hSw); go_simp; (try with_reducible rfl))
          (try simp only [List.set_cons_zero, List.set_cons_succ])
          refine held_take (i := 5) (d := 49) (v := ?_) rfl rfl (by kernel_rfl) (by kernel_rfl) (by kernel_rfl) (fun _ _ _ h => h) (Or.inl ⟨by rfl, ?_⟩) (by assumption) ?_
          rotate_left
          · (intro w hSw; (try dsimp only at hSw); go_simp; (try with_reducible rfl))
          (try simp only [List.set_cons_zero, List.set_cons_succ])
          refine held_take (i := 6) (d := 50) (v := ?_) rfl rfl (by kernel_rfl) (by kernel_rfl) (by kernel_rfl) (fun _ _ _ h => h) (Or.inl ⟨by rfl, ?_⟩) (by assumption) ?_
          rotate_left
          · (intro w hSw; (try dsimp only at hSw); go_simp; (try with_reducible rfl))
          (try simp only [List.set_cons_zero, List.set_cons_succ])
          refine held_take (i := 7) (d := 51) (v := ?_) rfl rfl (by kernel_rfl) (by kernel_rfl) (by kernel_rfl) (fun _ _ _ h => h) (Or.inl ⟨by rfl, ?_⟩) (by assumption) ?_
          rotate_left
          · (intro w hSw; (try dsimp only at hSw); go_simp; (try with_reducible rfl))
          (try simp only [List.set_cons_zero, List.set_cons_succ])
          refine held_take (i := 9) (d := 53) (v := ?_) rfl rfl (by kernel_rfl) (by kernel_rfl) (by kernel_rfl) (fun _ _ _ h => h) (Or.inl ⟨by rfl, ?_⟩) (by assumption) ?_
          rotate_left
          · (intro w hSw; (try dsimp only at hSw); go_simp; (try with_reducible rfl))
          (try simp only [List.set_cons_zero, List.set_cons_succ])
          refine held_take (i := 10) (d := 54) (v := ?_) rfl rfl (by kernel_rfl) (by kernel_rfl) (by kernel_rfl) (fun _ _ _ h => h) (Or.inl ⟨by rfl, ?_⟩) (by assumption) ?_
          rotate_left
          · (intro w hSw; (try dsimp only at hSw); go_simp; (try with_reducible rfl))
          (try simp only [List.set_cons_zero, List.set_cons_succ])
          refine held_take (i := 11) (d := 55) (v := ?_) rfl rfl (by kernel_rfl) (by kernel_rfl) (by kernel_rfl) (fun _ _ _ h => h) (Or.inl ⟨by rfl, ?_⟩) (by assumption) ?_
          rotate_left
          · (intro w hSw; (try dsimp only at hSw); go_simp; (try with_reducible rfl))
          (try simp only [List.set_cons_zero, List.set_cons_succ])
          refine wpAnyH_ready (rs := [8]) (by kernel_rfl) (by simp) ?_
          refine AllReadyH.cons rfl (fun K hK => ?_) AllReadyH.nil
          go_simp
          (refine (vwReal_L 2 i 0 0 (digs 2 k 9).1 A1 c1 _ (ho1.rd.keep (by (repeat (first | assumption | with_reducible exact Bl.refl _ | with_reducible refine Bl.drewN ?_ _ | with_reducible refine Bl.drew ?_ | with_reducible refine Bl.alloc ?_ _ | (with_reducible refine Bl.call ?_ (by assumption)))))) (by omega) hi (by omega) (by omega) hdm.out).mono ?_; rintro r w2 ⟨A2, c2, rfl, ho2, hb2⟩)
          go_wp2_with fail
          refine hK.out _ _ ?_ (fun hHeld => ?_)
          · (try dsimp only); exact ⟨Bl.cells (by (repeat (first | assumption | with_reducible exact Bl.refl _ | with_reducible refine Bl.drewN ?_ _ | with_reducible refine Bl.drew ?_ | with_reducible refine Bl.alloc ?_ _ | (with_reducible refine Bl.call ?_ (by assumption))))) kI0, Bl.cells (by (repeat (first | assumption | with_reducible exact Bl.refl _ | with_reducible refine Bl.drewN ?_ _ | with_reducible refine Bl.drew ?_ | with_reducible refine Bl.alloc ?_ _ | (with_reducible refine Bl.call ?_ (by assumption))))) kI1⟩
          clear hK K
          (try simp only [Act.put]); (try simp only [List.setIfInBounds_toArray]); (try simp only [List.set_cons_succ]); (try simp only [List.set_cons_zero])
          refine wpAnyH_ready (rs := [12]) (by kernel_rfl) (by simp) ?_
          refine AllReadyH.cons rfl (fun K hK => ?_) AllReadyH.nil
          go_simp
          (refine (vwExtra_any 0 e (by omega) he (digs 2 k 9).1 A1 c1 _ (ho1.rd.keep (by (repeat (first | assumption | with_reducible exact Bl.refl _ | with_reducible refine Bl.drewN ?_ _ | with_reducible refine Bl.drew ?_ | with_reducible refine Bl.alloc ?_ _ | (with_reducible refine Bl.call ?_ (by assumption)))))) hdm.out).mono ?_; rintro r w4 ⟨rfl, hb4⟩)
          go_wp2_with fail
          refine hK.out _ _ ?_ (fun hHeld => ?_)
          · (try dsimp only); exact ⟨Bl.cells (by (repeat (first | assumption | with_reducible exact Bl.refl _ | with_reducible refine Bl.drewN ?_ _ | with_reducible refine Bl.drew ?_ | with_reducible refine Bl.alloc ?_ _ | (with_reducible refine Bl.call ?_ (by assumption))))) kI0, Bl.cells (by (repeat (first | assumption | with_reducible exact Bl.refl _ | with_reducible refine Bl.drewN ?_ _ | with_reducible refine Bl.drew ?_ | with_reducible refine Bl.alloc ?_ _ | (with_reducible refine Bl.call ?_ (by assumption))))) kI1⟩
          clear hK K
          (try simp only [Act.put]); (try simp only [List.setIfInBounds_toArray]); (try simp only [List.set_cons_succ]); (try simp only [List.set_cons_zero])
          refine wpAnyH_ready (rs := [13]) (by kernel_rfl) (by simp) ?_
          refine AllReadyH.cons rfl (fun K hK => ?_) AllReadyH.nil
          go_simp
          refine hK.out _ _ ?_ (fun hHeld => ?_)
          · (try dsimp only); exact ⟨Bl.cells (by (repeat (first | assumption | with_reducible exact Bl.refl _ | with_reducible refine Bl.drewN ?_ _ | with_reducible refine Bl.drew ?_ | with_reducible refine Bl.alloc ?_ _ | (with_reducible refine Bl.call ?_ (by assumption))))) kI0, Bl.cells (by (repeat (first | assumption | with_reducible exact Bl.refl _ | with_reducible refine Bl.drewN ?_ _ | with_reducible refine Bl.drew ?_ | with_reducible refine Bl.alloc ?_ _ | (with_reducible refine Bl.call ?_ (by assumption))))) kI1⟩
          clear hK K
          (try simp only [Act.put]); (try simp only [List.setIfInBounds_toArray]); (try simp only [List.set_cons_succ]); (try simp only [List.set_cons_zero])
          refine wpAnyH_ready (rs := [14]) (by kernel_rfl) (by simp) ?_
          refine AllReadyH.cons rfl (fun K hK => ?_) AllReadyH.nil
          (refine ap_int_step (l' := [exF 0 e (digs 2 k 9).1]) rfl rfl rfl (ho2.keep ?_) rfl ?_ ?_ ?_ ?_; (· ((repeat (first | assumption | with_reducible exact Bl.refl _ | with_reducible refine Bl.drewN ?_ _ | with_reducible refine Bl.drew ?_ | with_reducible refine Bl.alloc ?_ _ | (with_reducible refine Bl.call ?_ (by assumption)))); done)); (· (refine RdI.keep (rd_new1 ?_ 3 _ (hg := ?_)) ?_; rotate_left 2; (· ((repeat (first | assumption | with_reducible exact Bl.refl _ | with_reducible refine Bl.drewN ?_ _ | with_reducible refine Bl.drew ?_ | with_reducible refine Bl.alloc ?_ _ | (with_reducible refine Bl.call ?_ (by assumption)))); done)); first | rfl | simp)); (· omega); (· (exact Nat.le_trans hb2.sz (Bl.sz (by (repeat (first | assumption | with_reducible exact Bl.refl _ | with_reducible refine Bl.drewN ?_ _ | with_reducible refine Bl.drew ?_ | with_reducible refine Bl.alloc ?_ _ | (with_reducible refine Bl.call ?_ (by assumption)))))))); intro A9 c9 w9 ho9 hg9 hat9; have hb9 : Bl w1 w9 := Bl.grown (by (repeat (first | assumption | with_reducible exact Bl.refl _ | with_reducible refine Bl.drewN ?_ _ | with_reducible refine Bl.drew ?_ | with_reducible refine Bl.alloc ?_ _ | (with_reducible refine Bl.call ?_ (by assumption))))) hg9 (fun k hk => Nat.le_trans (Bl.sz (W := w1) (by (repeat (first | assumption | with_reducible exact Bl.refl _ | with_reducible refine Bl.drewN ?_ _ | with_reducible refine Bl.drew ?_ | with_reducible refine Bl.alloc ?_ _ | (with_reducible refine Bl.call ?_ (by assumption)))))) (ho2.blk k hk).1))
          refine hK.out _ _ ?_ (fun hHeld => ?_)
          · (try dsimp only); exact ⟨Bl.cells (by (repeat (first | assumption | with_reducible exact Bl.refl _ | with_reducible refine Bl.drewN ?_ _ | with_reducible refine Bl.drew ?_ | with_reducible refine Bl.alloc ?_ _ | (with_reducible refine Bl.call ?_ (by assumption))))) kI0, Bl.cells (by (repeat (first | assumption | with_reducible exact Bl.refl _ | with_reducible refine Bl.drewN ?_ _ | with_reducible refine Bl.drew ?_ | with_reducible refine Bl.alloc ?_ _ | (with_reducible refine Bl.call ?_ (by assumption))))) kI1⟩
          clear hK K
          (try simp only [Act.put]); (try simp only [List.setIfInBounds_toArray]); (try simp only [List.set_cons_succ]); (try simp only [List.set_cons_zero])
          refine held_take (i := 15) (d := 13) (v := ?_) rfl rfl (by kernel_rfl) (by kernel_rfl) (by kernel_rfl) (fun _ _ _ h => h) (Or.inl ⟨by rfl, ?_⟩) (by assumption) ?_
          rotate_left
          · (intro w hSw; (try dsimp only at hSw); go_simp; (try with_reducible rfl))
          (try simp only [List.set_cons_zero, List.set_cons_succ])
          refine wpAnyH_done (by kernel_rfl) ?_ _
          replace hown := hown.keep hb9
          replace hI := hI.keep hb9
          replace hW := hW.call hb9
          clear kI0 kI1 kIl
          obtain ⟨g, he2, hbg, hgl, hcell, hfr⟩ := hown.form (by omega)
          injection he2 with he2; injection he2 with he2; subst he2
          have hx2 := hcell (C) _ hget.out
          have hfz := hfr (C)
          clear hcell hfr
          go_wp2_with (go_at_call 108; refine (spec_vwCode A9 12 c9 _ 2 _ ho9.rd (by omega) (by omega) (by omega) hm12.out).mono ?_; rintro r w5 ⟨rfl, rfl⟩; rw [hvc.out])
          go_roundw
          case rel => exact ⟨k + 1, by omega, by go_num, by rw [hst.out]; exact hown.set_ (C) _ (by omega), hI.far (by dsimp only; omega) _, hW.setCell (by dsimp only; omega) _⟩
          case measure => simp [intOf]; omega
        · have hk5 : tally 4096 (bgS 0 i e 0) k = T0 := by rw [(Nat.le_antisymm hk (Nat.le_of_not_lt hlt) : k = 512)]; exact HT0.out
          have hce := Lib.hid (show cntV Z T0 T1 1 = tally 4096 (bgS 0 i e 0) k ++ Z by rw [hk5, cntV_1])
          clear hk5
          generalize tally 4096 (bgS 0 i e 0) k ++ Z = LT at *
          clear HT0b HT1b HT0 HT1 HZ HZZ HR
          go_wp2
          go_roundw
          case rel => exact ⟨1, by omega, by go_num, by rw [hce.out]; exact hown, hW⟩
          case measure => simp [intOf]
    · replace hie := hie.trans (show _ = Value.int .i64 1 from rfl)
      subst hie
      have hc0 := Lib.hid (show cntV Z T0 T1 1 = T0 ++ tally 4096 (bgS 0 i e 1) 0 by rw [cntV_1, tally, HZ.out])
      have hI := Blk.new wr 3 #[.int .i64 i, .int .i64 1]
      replace hW := hW.alloc (.cells #[.int .i64 i, .int .i64 1] 3)
      have h8 := (hown.blk g8 rfl)
      replace hown : OwnI w.heap.size (wr.alloc (.cells #[.int .i64 i, .int .i64 1] 3)) (some ⟨g8, 0, none⟩) 8192 8192 (T0 ++ tally 4096 (bgS 0 i e 1) 0) := by have := hown.alloc (.cells #[.int .i64 i, .int .i64 1] 3); rw [hc0.out] at this; exact this
      go_wp2
      obtain ⟨gI, hgI⟩ : ∃ gI, wr.heap.size = gI := ⟨_, rfl⟩
      rw [hgI] at hI h8 ⊢
      clear hgI
      go_loopw [11] (fun i' wq => ∃ k : Nat, k ≤ 512 ∧ i' = .int .i64 k ∧ OwnI w.heap.size wq (some ⟨g8, 0, none⟩) 8192 8192 (T0 ++ tally 4096 (bgS 0 i e 1) k) ∧ Blk wq gI 3 #[.int .i64 i, .int .i64 1] ∧ Bl w wq) (fun i' _ => 512 - (intOf i').toNat)
      case atStart => exact ⟨0, by omega, rfl, hown, hI, hW⟩
      case round =>
        clear hown hI hW
        obtain ⟨k, hk, rfl, hown, hI, hW⟩ := hrel
        by_cases hlt : k < 512
        · have ik : (k : Int) < 512 := by omega
          have hC := bgC_bd 0 i hi 1 k (by omega)
          have hE := bgE_bd 0 e k
          have hr := bgI_rho 0 i e hi 1 k (by omega)
          obtain ⟨C, hCe⟩ : ∃ C, bgS 0 i e 1 k = C := ⟨_, rfl⟩
          have hC4 : C < 4096 := by rw [← hCe]; exact hr.2
          have hvm := rvL_mem 2 i 1 0 (digs 2 k 9).1 (by omega) (by omega) (by omega) (digs_len 2 k 9) (digs_mem 2 k (by omega) 9)
          have hxb := exF_bd 0 e (digs 2 k 9).1 (digs_mem 2 k (by omega) 9)
          have hm12 := Lib.hid (show ∀ z ∈ rvL 2 i 1 0 (digs 2 k 9).1 ++ [exF 0 e (digs 2 k 9).1], 0 ≤ z ∧ z < 2 from fun z hz => by
            simp only [List.mem_append, List.mem_singleton] at hz
            rcases hz with hz | rfl
            · exact hvm.2 z hz
            · exact hxb)
          have hvc := Lib.hid (show vcF 2 (rvL 2 i 1 0 (digs 2 k 9).1 ++ [exF 0 e (digs 2 k 9).1]) = (C : Int) by
            rw [vcF_snoc, hvm.1, show pw 2 11 = 2048 by decide, ← hCe]
            have h1 : vcF 2 (rvL 2 i 1 0 (digs 2 k 9).1) = bgC 0 i 1 k := hC.1
            rw [h1, hE.1]
            unfold bgS
            omega)
          have hdm := Lib.hid (digs_mem 2 (k : Int) (by omega) 9)
          have htb := tally_bd 4096 (bgS 0 i e 1) k C
          have htl := tally_length 4096 (bgS 0 i e 1) k
          have hst := Lib.hid (show T0 ++ tally 4096 (bgS 0 i e 1) (k + 1) = (T0 ++ tally 4096 (bgS 0 i e 1) k).set (4096 + C) ((tally 4096 (bgS 0 i e 1) k)[C]?.getD 0 + 1) by
            rw [tally, hCe]
            have := bump_right T0 (tally 4096 (bgS 0 i e 1) k) C
            rw [HT0l.out] at this
            rw [← this]
            unfold bump
            rw [List.getElem?_append_right (by rw [HT0l.out]; omega), HT0l.out, show 4096 + C - 4096 = C by omega])
          have hLl : (T0 ++ tally 4096 (bgS 0 i e 1) k).length = 8192 := by rw [List.length_append, tally_length, HT0l.out]
          have hgd : (T0 ++ tally 4096 (bgS 0 i e 1) k)[4096 + C]? = some ((tally 4096 (bgS 0 i e 1) k)[C]?.getD 0) := by
            rw [List.getElem?_append_right (by rw [HT0l.out]; omega), HT0l.out, show 4096 + C - 4096 = C by omega, List.getElem?_eq_getElem (by rw [tally_length]; exact hC4)]; rfl
          have hget := Lib.hid hgd
          clear hC hE hr hvm hxb hLl hgd hCe
          generalize T0 ++ tally 4096 (bgS 0 i e 1) k = LT at *
          generalize (tally 4096 (bgS 0 i e 1) k)[C]?.getD 0 = X at *
          have kI0 := hI.cell 0 _ rfl
          have kI1 := hI.cell 1 _ rfl
          have kIl := hI.lt
          go_wp2_with (go_at_call 105; refine (spec_vwDigits 2 k 9 _ (by omega) (by omega) (by omega) (by omega) (by omega)).mono ?_; rintro r w1 ⟨A1, c1, rfl, ho1, hb1⟩; replace hown := hown.keep hb1; replace hI := hI.keep hb1; replace hW := hW.call hb1; clear kI0 kI1 kIl; have kI0 := hI.cell 0 _ rfl; have kI1 := hI.cell 1 _ rfl; have kIl := hI.lt)
          refine wp_region_held_drew (S := (fun w' => w'.cell? ⟨gI, 0, none⟩ = some (.int .i64 i) ∧ w'.cell? ⟨gI, 1, none⟩ = some (.int .i64 1))) (by kernel_rfl) ?_ (fun hHeld => ?_)
          · (try dsimp only); exact ⟨Bl.cells (by (repeat (first | assumption | with_reducible exact Bl.refl _ | with_reducible refine Bl.drewN ?_ _ | with_reducible refine Bl.drew ?_ | with_reducible refine Bl.alloc ?_ _ | (with_reducible refine Bl.call ?_ (by assumption))))) kI0, Bl.cells (by (repeat (first | assumption | with_reducible exact Bl.refl _ | with_reducible refine Bl.drewN ?_ _ | with_reducible refine Bl.drew ?_ | with_reducible refine Bl.alloc ?_ _ | (with_reducible refine Bl.call ?_ (by assumption))))) kI1⟩
          refine held_take (i := 0) (d := 44) (v := ?_) rfl rfl (by kernel_rfl) (by kernel_rfl) (by kernel_rfl) (fun _ _ _ h => h) (Or.inl ⟨by rfl, ?_⟩) (by assumption) ?_
          rotate_left
          · (intro w hSw; (try dsimp only at hSw); go_simp; (try with_reducible rfl))
          (try simp only [List.set_cons_zero, List.set_cons_succ])
          refine held_take (i := 1) (d := 45) (v := ?_) rfl rfl (by kernel_rfl) (by kernel_rfl) (by kernel_rfl) (fun _ _ _ h => h) (Or.inl ⟨by rfl, ?_⟩) (by assumption) ?_
          rotate_left
          · (intro w hSw; (try dsimp only at hSw); go_simp; (try with_reducible rfl))
          (try simp only [List.set_cons_zero, List.set_cons_succ])
          refine held_take (i := 2) (d := 46) (v := ?_) rfl rfl (by kernel_rfl) (by kernel_rfl) (by kernel_rfl) (fun _ _ _ h => h) (Or.inl ⟨by rfl, ?_⟩) (by assumption) ?_
          rotate_left
          · (intro w hSw; (try dsimp only at hSw); go_simp; (try with_reducible rfl))
          (try simp only [List.set_cons_zero, List.set_cons_succ])
          refine held_take (i := 3) (d := 47) (v := ?_) rfl rfl (by kernel_rfl) (by kernel_rfl) (by kernel_rfl) (fun _ _ _ h => h) (Or.inl ⟨by rfl, ?_⟩) (by assumption) ?_
          rotate_left
          · (intro w hSw; (try dsimp only at hSw); go_simp; (try with_reducible rfl))
          (try simp only [List.set_cons_zero, List.set_cons_succ])
          refine held_take (i := 4) (d := 48) (v := ?_) rfl rfl (by kernel_rfl) (by kernel_rfl) (by kernel_rfl) (fun _ _ _ h => h) (Or.inl ⟨by rfl, ?_⟩) (by assumption) ?_
          rotate_left
          · (intro w hSw; (try dsimp only at hSw); go_simp; (try with_reducible rfl))
          (try simp only [List.set_cons_zero, List.set_cons_succ])
          refine held_take (i := 5) (d := 49) (v := ?_) rfl rfl (by kernel_rfl) (by kernel_rfl) (by kernel_rfl) (fun _ _ _ h => h) (Or.inl ⟨by rfl, ?_⟩) (by assumption) ?_
          rotate_left
          · (intro w hSw; (try dsimp only at hSw); go_simp; (try with_reducible rfl))
          (try simp only [List.set_cons_zero, List.set_cons_succ])
          refine held_take (i := 6) (d := 50) (v := ?_) rfl rfl (by kernel_rfl) (by kernel_rfl) (by kernel_rfl) (fun _ _ _ h => h) (Or.inl ⟨by rfl, ?_⟩) (by assumption) ?_
          rotate_left
          · (intro w hSw; (try dsimp only at hSw); go_simp; (try with_reducible rfl))
          (try simp only [List.set_cons_zero, List.set_cons_succ])
          refine held_take (i := 7) (d := 51) (v := ?_) rfl rfl (by kernel_rfl) (by kernel_rfl) (by kernel_rfl) (fun _ _ _ h => h) (Or.inl ⟨by rfl, ?_⟩) (by assumption) ?_
          rotate_left
          · (intro w hSw; (try dsimp only at hSw); go_simp; (try with_reducible rfl))
          (try simp only [List.set_cons_zero, List.set_cons_succ])
          refine held_take (i := 9) (d := 53) (v := ?_) rfl rfl (by kernel_rfl) (by kernel_rfl) (by kernel_rfl) (fun _ _ _ h => h) (Or.inl ⟨by rfl, ?_⟩) (by assumption) ?_
          rotate_left
          · (intro w hSw; (try dsimp only at hSw); go_simp; (try with_reducible rfl))
          (try simp only [List.set_cons_zero, List.set_cons_succ])
          refine held_take (i := 10) (d := 54) (v := ?_) rfl rfl (by kernel_rfl) (by kernel_rfl) (by kernel_rfl) (fun _ _ _ h => h) (Or.inl ⟨by rfl, ?_⟩) (by assumption) ?_
          rotate_left
          · (intro w hSw; (try dsimp only at hSw); go_simp; (try with_reducible rfl))
          (try simp only [List.set_cons_zero, List.set_cons_succ])
          refine held_take (i := 11) (d := 55) (v := ?_) rfl rfl (by kernel_rfl) (by kernel_rfl) (by kernel_rfl) (fun _ _ _ h => h) (Or.inl ⟨by rfl, ?_⟩) (by assumption) ?_
          rotate_left
          · (intro w hSw; (try dsimp only at hSw); go_simp; (try with_reducible rfl))
          (try simp only [List.set_cons_zero, List.set_cons_succ])
          refine wpAnyH_ready (rs := [8]) (by kernel_rfl) (by simp) ?_
          refine AllReadyH.cons rfl (fun K hK => ?_) AllReadyH.nil
          go_simp
          (refine (vwReal_L 2 i 1 0 (digs 2 k 9).1 A1 c1 _ (ho1.rd.keep (by (repeat (first | assumption | with_reducible exact Bl.refl _ | with_reducible refine Bl.drewN ?_ _ | with_reducible refine Bl.drew ?_ | with_reducible refine Bl.alloc ?_ _ | (with_reducible refine Bl.call ?_ (by assumption)))))) (by omega) hi (by omega) (by omega) hdm.out).mono ?_; rintro r w2 ⟨A2, c2, rfl, ho2, hb2⟩)
          go_wp2_with fail
          refine hK.out _ _ ?_ (fun hHeld => ?_)
          · (try dsimp only); exact ⟨Bl.cells (by (repeat (first | assumption | with_reducible exact Bl.refl _ | with_reducible refine Bl.drewN ?_ _ | with_reducible refine Bl.drew ?_ | with_reducible refine Bl.alloc ?_ _ | (with_reducible refine Bl.call ?_ (by assumption))))) kI0, Bl.cells (by (repeat (first | assumption | with_reducible exact Bl.refl _ | with_reducible refine Bl.drewN ?_ _ | with_reducible refine Bl.drew ?_ | with_reducible refine Bl.alloc ?_ _ | (with_reducible refine Bl.call ?_ (by assumption))))) kI1⟩
          clear hK K
          (try simp only [Act.put]); (try simp only [List.setIfInBounds_toArray]); (try simp only [List.set_cons_succ]); (try simp only [List.set_cons_zero])
          refine wpAnyH_ready (rs := [12]) (by kernel_rfl) (by simp) ?_
          refine AllReadyH.cons rfl (fun K hK => ?_) AllReadyH.nil
          go_simp
          (refine (vwExtra_any 0 e (by omega) he (digs 2 k 9).1 A1 c1 _ (ho1.rd.keep (by (repeat (first | assumption | with_reducible exact Bl.refl _ | with_reducible refine Bl.drewN ?_ _ | with_reducible refine Bl.drew ?_ | with_reducible refine Bl.alloc ?_ _ | (with_reducible refine Bl.call ?_ (by assumption)))))) hdm.out).mono ?_; rintro r w4 ⟨rfl, hb4⟩)
          go_wp2_with fail
          refine hK.out _ _ ?_ (fun hHeld => ?_)
          · (try dsimp only); exact ⟨Bl.cells (by (repeat (first | assumption | with_reducible exact Bl.refl _ | with_reducible refine Bl.drewN ?_ _ | with_reducible refine Bl.drew ?_ | with_reducible refine Bl.alloc ?_ _ | (with_reducible refine Bl.call ?_ (by assumption))))) kI0, Bl.cells (by (repeat (first | assumption | with_reducible exact Bl.refl _ | with_reducible refine Bl.drewN ?_ _ | with_reducible refine Bl.drew ?_ | with_reducible refine Bl.alloc ?_ _ | (with_reducible refine Bl.call ?_ (by assumption))))) kI1⟩
          clear hK K
          (try simp only [Act.put]); (try simp only [List.setIfInBounds_toArray]); (try simp only [List.set_cons_succ]); (try simp only [List.set_cons_zero])
          refine wpAnyH_ready (rs := [13]) (by kernel_rfl) (by simp) ?_
          refine AllReadyH.cons rfl (fun K hK => ?_) AllReadyH.nil
          go_simp
          refine hK.out _ _ ?_ (fun hHeld => ?_)
          · (try dsimp only); exact ⟨Bl.cells (by (repeat (first | assumption | with_reducible exact Bl.refl _ | with_reducible refine Bl.drewN ?_ _ | with_reducible refine Bl.drew ?_ | with_reducible refine Bl.alloc ?_ _ | (with_reducible refine Bl.call ?_ (by assumption))))) kI0, Bl.cells (by (repeat (first | assumption | with_reducible exact Bl.refl _ | with_reducible refine Bl.drewN ?_ _ | with_reducible refine Bl.drew ?_ | with_reducible refine Bl.alloc ?_ _ | (with_reducible refine Bl.call ?_ (by assumption))))) kI1⟩
          clear hK K
          (try simp only [Act.put]); (try simp only [List.setIfInBounds_toArray]); (try simp only [List.set_cons_succ]); (try simp only [List.set_cons_zero])
          refine wpAnyH_ready (rs := [14]) (by kernel_rfl) (by simp) ?_
          refine AllReadyH.cons rfl (fun K hK => ?_) AllReadyH.nil
          (refine ap_int_step (l' := [exF 0 e (digs 2 k 9).1]) rfl rfl rfl (ho2.keep ?_) rfl ?_ ?_ ?_ ?_; (· ((repeat (first | assumption | with_reducible exact Bl.refl _ | with_reducible refine Bl.drewN ?_ _ | with_reducible refine Bl.drew ?_ | with_reducible refine Bl.alloc ?_ _ | (with_reducible refine Bl.call ?_ (by assumption)))); done)); (· (refine RdI.keep (rd_new1 ?_ 3 _ (hg := ?_)) ?_; rotate_left 2; (· ((repeat (first | assumption | with_reducible exact Bl.refl _ | with_reducible refine Bl.drewN ?_ _ | with_reducible refine Bl.drew ?_ | with_reducible refine Bl.alloc ?_ _ | (with_reducible refine Bl.call ?_ (by assumption)))); done)); first | rfl | simp)); (· omega); (· (exact Nat.le_trans hb2.sz (Bl.sz (by (repeat (first | assumption | with_reducible exact Bl.refl _ | with_reducible refine Bl.drewN ?_ _ | with_reducible refine Bl.drew ?_ | with_reducible refine Bl.alloc ?_ _ | (with_reducible refine Bl.call ?_ (by assumption)))))))); intro A9 c9 w9 ho9 hg9 hat9; have hb9 : Bl w1 w9 := Bl.grown (by (repeat (first | assumption | with_reducible exact Bl.refl _ | with_reducible refine Bl.drewN ?_ _ | with_reducible refine Bl.drew ?_ | with_reducible refine Bl.alloc ?_ _ | (with_reducible refine Bl.call ?_ (by assumption))))) hg9 (fun k hk => Nat.le_trans (Bl.sz (W := w1) (by (repeat (first | assumption | with_reducible exact Bl.refl _ | with_reducible refine Bl.drewN ?_ _ | with_reducible refine Bl.drew ?_ | with_reducible refine Bl.alloc ?_ _ | (with_reducible refine Bl.call ?_ (by assumption)))))) (ho2.blk k hk).1))
          refine hK.out _ _ ?_ (fun hHeld => ?_)
          · (try dsimp only); exact ⟨Bl.cells (by (repeat (first | assumption | with_reducible exact Bl.refl _ | with_reducible refine Bl.drewN ?_ _ | with_reducible refine Bl.drew ?_ | with_reducible refine Bl.alloc ?_ _ | (with_reducible refine Bl.call ?_ (by assumption))))) kI0, Bl.cells (by (repeat (first | assumption | with_reducible exact Bl.refl _ | with_reducible refine Bl.drewN ?_ _ | with_reducible refine Bl.drew ?_ | with_reducible refine Bl.alloc ?_ _ | (with_reducible refine Bl.call ?_ (by assumption))))) kI1⟩
          clear hK K
          (try simp only [Act.put]); (try simp only [List.setIfInBounds_toArray]); (try simp only [List.set_cons_succ]); (try simp only [List.set_cons_zero])
          refine held_take (i := 15) (d := 13) (v := ?_) rfl rfl (by kernel_rfl) (by kernel_rfl) (by kernel_rfl) (fun _ _ _ h => h) (Or.inl ⟨by rfl, ?_⟩) (by assumption) ?_
          rotate_left
          · (intro w hSw; (try dsimp only at hSw); go_simp; (try with_reducible rfl))
          (try simp only [List.set_cons_zero, List.set_cons_succ])
          refine wpAnyH_done (by kernel_rfl) ?_ _
          replace hown := hown.keep hb9
          replace hI := hI.keep hb9
          replace hW := hW.call hb9
          clear kI0 kI1 kIl
          obtain ⟨g, he2, hbg, hgl, hcell, hfr⟩ := hown.form (by omega)
          injection he2 with he2; injection he2 with he2; subst he2
          have hx2 := hcell (4096 + C) _ hget.out
          have hfz := hfr (4096 + C)
          clear hcell hfr
          go_wp2_with (go_at_call 108; refine (spec_vwCode A9 12 c9 _ 2 _ ho9.rd (by omega) (by omega) (by omega) hm12.out).mono ?_; rintro r w5 ⟨rfl, rfl⟩; rw [hvc.out])
          go_roundw
          case rel => exact ⟨k + 1, by omega, by go_num, by rw [hst.out]; exact hown.set_ (4096 + C) _ (by omega), hI.far (by dsimp only; omega) _, hW.setCell (by dsimp only; omega) _⟩
          case measure => simp [intOf]; omega
        · have hk5 : tally 4096 (bgS 0 i e 1) k = T1 := by rw [(Nat.le_antisymm hk (Nat.le_of_not_lt hlt) : k = 512)]; exact HT1.out
          have hce := Lib.hid (show cntV Z T0 T1 2 = T0 ++ tally 4096 (bgS 0 i e 1) k by rw [hk5, cntV_2])
          clear hk5
          generalize T0 ++ tally 4096 (bgS 0 i e 1) k = LT at *
          clear HT0b HT1b HT0 HT1 HZ HZZ HR
          go_wp2
          go_roundw
          case rel => exact ⟨2, by omega, by go_num, by rw [hce.out]; exact hown, hW⟩
          case measure => simp [intOf]
    · replace hie := hie.trans (show _ = Value.int .i64 2 from rfl)
      subst hie
      have hc2 : cntV Z T0 T1 2 = T0 ++ T1 := cntV_2 Z T0 T1
      rw [hc2] at hown
      clear hc2
      obtain ⟨SM, HS0, HSs, HSb, HSR⟩ : ∃ SM : Nat → Int, Hid (SM 0 = 0) ∧ Hid (∀ k, SM (k + 1) = SM k + max (T0[k]?.getD 0) (T1[k]?.getD 0)) ∧ Hid (∀ k, 0 ≤ SM k ∧ SM k ≤ 512 * k) ∧ Hid (SM 4096 = R) :=
        ⟨sumMax T0 T1, Lib.hid rfl, Lib.hid fun k => rfl, Lib.hid fun k => sumMax_bd T0 T1 HT0b.out HT1b.out k, HR⟩
      clear HR
      obtain ⟨F0, hF0⟩ : ∃ F0 : Nat → Int, ∀ k, T0[k]?.getD 0 = F0 k := ⟨_, fun _ => rfl⟩
      obtain ⟨F1, hF1⟩ : ∃ F1 : Nat → Int, ∀ k, T1[k]?.getD 0 = F1 k := ⟨_, fun _ => rfl⟩
      have HSs' := Lib.hid (show ∀ k, SM (k + 1) = SM k + max (F0 k) (F1 k) from fun k => by rw [HSs.out, hF0, hF1])
      have HFb := Lib.hid (show ∀ k, ((0 : Int) ≤ F0 k ∧ F0 k ≤ 512) ∧ ((0 : Int) ≤ F1 k ∧ F1 k ≤ 512) from fun k => by rw [← hF0, ← hF1]; exact ⟨HT0b.out k, HT1b.out k⟩)
      have HL := Lib.hid (show ∀ k : Nat, k < 4096 → (T0 ++ T1)[k]? = some (F0 k) ∧ (T0 ++ T1)[4096 + k]? = some (F1 k) from fun k hk => by
        refine ⟨?_, ?_⟩
        · rw [List.getElem?_append_left (by rw [HT0l.out]; exact hk), ← hF0, List.getElem?_eq_getElem (by rw [HT0l.out]; exact hk)]; rfl
        · rw [List.getElem?_append_right (by rw [HT0l.out]; omega), HT0l.out, show 4096 + k - 4096 = k by omega, ← hF1, List.getElem?_eq_getElem (by rw [HT1l.out]; exact hk)]; rfl)
      clear hF0 hF1 HSs HT0b HT1b HT0 HT1 HZ HZZ
      generalize T0 ++ T1 = LT at *
      clear HT0l HT1l HZl
      clear h2 hall
      go_wp2
      go_loopw [14, 15] (fun a' i' wr => ∃ k : Nat, k ≤ 4096 ∧ i' = .int .i64 (k : Nat) ∧ a' = .int .i64 (SM k) ∧ OwnI w.heap.size wr (some ⟨g8, 0, none⟩) 8192 8192 LT ∧ Bl w wr) (fun _ i' _ => 4096 - (intOf i').toNat)
      case atStart => exact ⟨0, by omega, rfl, by rw [HS0.out], hown, hW⟩
      case round =>
        clear hown hW
        obtain ⟨k, hk, rfl, rfl, hown, hW⟩ := hrel
        by_cases hlt : k < 4096
        · have hs := Lib.hid (HSs'.out k)
          have h1 := HSb.out k
          have h3 := HFb.out k
          obtain ⟨g, he2, hbg, hgl, hcell, hfr⟩ := hown.form (by omega)
          injection he2 with he2; injection he2 with he2; subst he2
          have hx0 := hcell k _ (HL.out k hlt).1
          have hx1 := hcell (4096 + k) _ (HL.out k hlt).2
          clear hcell hfr
          generalize F0 k = X at *
          generalize F1 k = Y at *
          generalize SM k = S at *
          have i1 : (k : Int) < 4096 := by omega
          go_wp2_with fail
          go_quiet ((go_at_call 109; refine quiet_gen (spec_l1Most _ _ _) _ rfl))
          go_wp2
          go_roundw
          case rel => exact ⟨k + 1, by omega, by go_num, by rw [hs.out], hown.keep (Bl.of_drewN _ _), hW.call (Bl.of_drewN _ _)⟩
          case measure => simp [intOf]; omega
        · have hke := Lib.hid (show R = SM k by rw [← HSR.out, show k = 4096 by omega])
          go_wp2
          go_ret2
          exact ⟨by rw [hke.out]; rfl, hW⟩
set_option maxRecDepth 20000 in
set_option maxHeartbeats 8000000 in
theorem spec_BestGuesses_1 (i e : Int) (w : World) (hB : bgB 1 i e = true) :
    Calls Try.prog 40 #[.int .i64 1, .int .i64 i, .int .i64 e] w fun e' w' => e' = .returned (.tuple #[.int .i64 (sumMax (tally 4096 (bgS 1 i e 0) 512) (tally 4096 (bgS 1 i e 1) 512) 4096), .bool true]) ∧ Bl w w' := by
  simp only [bgB, Bool.and_eq_true] at hB
  have b1 := inR_iff.1 hB.1.2
  have b2 := inR_iff.1 hB.2
  have hi : 0 ≤ i ∧ i < 2 := by omega
  have he : 0 ≤ e ∧ e ≤ 3 := by omega
  have hall : allR [1, i] 0 1 = true := by simp [allR, hB.1.2]; decide
  have h2 := hB.2
  clear hB
  obtain ⟨T0, hT0⟩ : ∃ T0, tally 4096 (bgS 1 i e 0) 512 = T0 := ⟨_, rfl⟩
  obtain ⟨T1, hT1⟩ : ∃ T1, tally 4096 (bgS 1 i e 1) 512 = T1 := ⟨_, rfl⟩
  have HT0l := Lib.hid (show T0.length = 4096 by rw [← hT0, tally_length])
  have HT1l := Lib.hid (show T1.length = 4096 by rw [← hT1, tally_length])
  have HT0b := Lib.hid (show ∀ c : Nat, (0 : Int) ≤ T0[c]?.getD 0 ∧ T0[c]?.getD 0 ≤ 512 from fun c => by
    have h := tally_bd 4096 (bgS 1 i e 0) 512 c
    rw [hT0] at h
    exact ⟨h.1, by have := h.2; omega⟩)
  have HT1b := Lib.hid (show ∀ c : Nat, (0 : Int) ≤ T1[c]?.getD 0 ∧ T1[c]?.getD 0 ≤ 512 from fun c => by
    have h := tally_bd 4096 (bgS 1 i e 1) 512 c
    rw [hT1] at h
    exact ⟨h.1, by have := h.2; omega⟩)
  have HT0 := Lib.hid hT0
  have HT1 := Lib.hid hT1
  rw [hT0, hT1]
  clear hT0 hT1
  obtain ⟨Z, hZ⟩ : ∃ Z : List Int, List.replicate 4096 0 = Z := ⟨_, rfl⟩
  have HZ := Lib.hid hZ
  have HZl := Lib.hid (show Z.length = 4096 by rw [← hZ, List.length_replicate])
  have hZZ : Z ++ Z = List.replicate 8192 0 := by rw [← hZ]; exact zeros2
  have HZZ := Lib.hid hZZ
  clear hZ hZZ
  obtain ⟨R, hRe⟩ : ∃ R, sumMax T0 T1 4096 = R := ⟨_, rfl⟩
  have HR := Lib.hid hRe
  rw [hRe]
  clear hRe
  have hmk : ∀ w : World, (Instr.makeSlice 26 (.int .i64 8192) (.int .i64 8192)).run Try.prog w = .ok (.slice (some ⟨w.heap.size, 0, none⟩) 8192 8192) (w.alloc (.cells (madeCells #[.int .i64 0] 8192) 3)) := make_ints 8192 (by omega)
  go_enter Try.func40, Try.ntmps40
  go_wp2_with (first | (go_at_call 104; refine (spec_l1All _ _ _ [1, i] _ _ _ (rd_new2 _ 3 _ _)).mono ?_; rintro e' w' ⟨rfl, rfl⟩; rw [hall]) | (go_at_call 80; refine (spec_l1In _ _ _ _).mono ?_; rintro e' w' ⟨rfl, rfl⟩))
  have hown0 : OwnI w.heap.size ((w.alloc (.cells #[.int .i64 1, .int .i64 i] 3)).alloc (.cells (madeCells #[.int .i64 0] 8192) 3)) (some ⟨w.heap.size + 1, 0, none⟩) 8192 8192 (cntV Z T0 T1 0) := by
    have := OwnI.mono (base' := w.heap.size) (own_zeros (w.alloc (.cells #[.int .i64 1, .int .i64 i] 3)) 8192 (by omega) (g := w.heap.size + 1) (by simp)) (by simp)
    rw [cntV_0, HZZ.out]; exact this
  have hW0 := ((Bl.refl w).alloc (.cells #[.int .i64 1, .int .i64 i] 3)).alloc (.cells (madeCells #[.int .i64 0] 8192) 3)
  obtain ⟨g8, hg8⟩ : ∃ g8, w.heap.size + 1 = g8 := ⟨_, rfl⟩
  rw [hg8] at hown0 ⊢
  have hg8w : w.heap.size < g8 := by omega
  clear hg8 hmk
  go_loopw [9] (fun i' wr => ∃ v : Nat, v ≤ 2 ∧ i' = .int .i64 (v : Nat) ∧ OwnI w.heap.size wr (some ⟨g8, 0, none⟩) 8192 8192 (cntV Z T0 T1 v) ∧ Bl w wr) (fun i' _ => 2 - (intOf i').toNat)
  case atStart => exact ⟨0, by omega, rfl, hown0, hW0⟩
  case round =>
    clear hown0 hW0
    obtain ⟨v, hv, hie, hown, hW⟩ := hrel
    have hv3 : v = 0 ∨ v = 1 ∨ v = 2 := by omega
    clear hv
    rcases hv3 with rfl | rfl | rfl
    · replace hie := hie.trans (show _ = Value.int .i64 0 from rfl)
      subst hie
      have hc0 := Lib.hid (show cntV Z T0 T1 0 = tally 4096 (bgS 1 i e 0) 0 ++ Z by rw [cntV_0, tally, HZ.out])
      have hI := Blk.new wr 3 #[.int .i64 0, .int .i64 i]
      replace hW := hW.alloc (.cells #[.int .i64 0, .int .i64 i] 3)
      have h8 := (hown.blk g8 rfl)
      replace hown : OwnI w.heap.size (wr.alloc (.cells #[.int .i64 0, .int .i64 i] 3)) (some ⟨g8, 0, none⟩) 8192 8192 (tally 4096 (bgS 1 i e 0) 0 ++ Z) := by have := hown.alloc (.cells #[.int .i64 0, .int .i64 i] 3); rw [hc0.out] at this; exact this
      go_wp2
      obtain ⟨gI, hgI⟩ : ∃ gI, wr.heap.size = gI := ⟨_, rfl⟩
      rw [hgI] at hI h8 ⊢
      clear hgI
      go_loopw [11] (fun i' wq => ∃ k : Nat, k ≤ 512 ∧ i' = .int .i64 k ∧ OwnI w.heap.size wq (some ⟨g8, 0, none⟩) 8192 8192 (tally 4096 (bgS 1 i e 0) k ++ Z) ∧ Blk wq gI 3 #[.int .i64 0, .int .i64 i] ∧ Bl w wq) (fun i' _ => 512 - (intOf i').toNat)
      case atStart => exact ⟨0, by omega, rfl, hown, hI, hW⟩
      case round =>
        clear hown hI hW
        obtain ⟨k, hk, rfl, hown, hI, hW⟩ := hrel
        by_cases hlt : k < 512
        · have ik : (k : Int) < 512 := by omega
          have hC := bgC_bd 1 i hi 0 k (by omega)
          have hE := bgE_bd 1 e k
          have hr := bgI_rho 1 i e hi 0 k (by omega)
          obtain ⟨C, hCe⟩ : ∃ C, bgS 1 i e 0 k = C := ⟨_, rfl⟩
          have hC4 : C < 4096 := by rw [← hCe]; exact hr.2
          have hvm := rvL_mem 2 0 i 1 (digs 2 k 9).1 (by omega) (by omega) (by omega) (digs_len 2 k 9) (digs_mem 2 k (by omega) 9)
          have hxb := exF_bd 1 e (digs 2 k 9).1 (digs_mem 2 k (by omega) 9)
          have hm12 := Lib.hid (show ∀ z ∈ rvL 2 0 i 1 (digs 2 k 9).1 ++ [exF 1 e (digs 2 k 9).1], 0 ≤ z ∧ z < 2 from fun z hz => by
            simp only [List.mem_append, List.mem_singleton] at hz
            rcases hz with hz | rfl
            · exact hvm.2 z hz
            · exact hxb)
          have hvc := Lib.hid (show vcF 2 (rvL 2 0 i 1 (digs 2 k 9).1 ++ [exF 1 e (digs 2 k 9).1]) = (C : Int) by
            rw [vcF_snoc, hvm.1, show pw 2 11 = 2048 by decide, ← hCe]
            have h1 : vcF 2 (rvL 2 0 i 1 (digs 2 k 9).1) = bgC 1 i 0 k := hC.1
            rw [h1, hE.1]
            unfold bgS
            omega)
          have hdm := Lib.hid (digs_mem 2 (k : Int) (by omega) 9)
          have htb := tally_bd 4096 (bgS 1 i e 0) k C
          have htl := tally_length 4096 (bgS 1 i e 0) k
          have hst := Lib.hid (show tally 4096 (bgS 1 i e 0) (k + 1) ++ Z = (tally 4096 (bgS 1 i e 0) k ++ Z).set (C) ((tally 4096 (bgS 1 i e 0) k)[C]?.getD 0 + 1) by
            rw [tally, hCe]
            unfold bump
            rw [List.set_append_left _ _ (by rw [tally_length]; exact hC4)])
          have hLl : (tally 4096 (bgS 1 i e 0) k ++ Z).length = 8192 := by rw [List.length_append, tally_length, HZl.out]
          have hgd : (tally 4096 (bgS 1 i e 0) k ++ Z)[C]? = some ((tally 4096 (bgS 1 i e 0) k)[C]?.getD 0) := by
            rw [List.getElem?_append_left (by rw [tally_length]; exact hC4), List.getElem?_eq_getElem (by rw [tally_length]; exact hC4)]; rfl
          have hget := Lib.hid hgd
          clear hC hE hr hvm hxb hLl hgd hCe
          generalize tally 4096 (bgS 1 i e 0) k ++ Z = LT at *
          generalize (tally 4096 (bgS 1 i e 0) k)[C]?.getD 0 = X at *
          have kI0 := hI.cell 0 _ rfl
          have kI1 := hI.cell 1 _ rfl
          have kIl := hI.lt
          go_wp2_with (go_at_call 105; refine (spec_vwDigits 2 k 9 _ (by omega) (by omega) (by omega) (by omega) (by omega)).mono ?_; rintro r w1 ⟨A1, c1, rfl, ho1, hb1⟩; replace hown := hown.keep hb1; replace hI := hI.keep hb1; replace hW := hW.call hb1; clear kI0 kI1 kIl; have kI0 := hI.cell 0 _ rfl; have kI1 := hI.cell 1 _ rfl; have kIl := hI.lt)
          refine wp_region_held_drew (S := (fun w' => w'.cell? ⟨gI, 0, none⟩ = some (.int .i64 0) ∧ w'.cell? ⟨gI, 1, none⟩ = some (.int .i64 i))) (by kernel_rfl) ?_ (fun hHeld => ?_)
          · (try dsimp only); exact ⟨Bl.cells (by (repeat (first | assumption | with_reducible exact Bl.refl _ | with_reducible refine Bl.drewN ?_ _ | with_reducible refine Bl.drew ?_ | with_reducible refine Bl.alloc ?_ _ | (with_reducible refine Bl.call ?_ (by assumption))))) kI0, Bl.cells (by (repeat (first | assumption | with_reducible exact Bl.refl _ | with_reducible refine Bl.drewN ?_ _ | with_reducible refine Bl.drew ?_ | with_reducible refine Bl.alloc ?_ _ | (with_reducible refine Bl.call ?_ (by assumption))))) kI1⟩
          refine held_take (i := 0) (d := 44) (v := ?_) rfl rfl (by kernel_rfl) (by kernel_rfl) (by kernel_rfl) (fun _ _ _ h => h) (Or.inl ⟨by rfl, ?_⟩) (by assumption) ?_
          rotate_left
          · (intro w hSw; (try dsimp only at hSw); go_simp; (try with_reducible rfl))
          (try simp only [List.set_cons_zero, List.set_cons_succ])
          refine held_take (i := 1) (d := 45) (v := ?_) rfl rfl (by kernel_rfl) (by kernel_rfl) (by kernel_rfl) (fun _ _ _ h => h) (Or.inl ⟨by rfl, ?_⟩) (by assumption) ?_
          rotate_left
          · (intro w hSw; (try dsimp only at hSw); go_simp; (try with_reducible rfl))
          (try simp only [List.set_cons_zero, List.set_cons_succ])
          refine held_take (i := 2) (d := 46) (v := ?_) rfl rfl (by kernel_rfl) (by kernel_rfl) (by kernel_rfl) (fun _ _ _ h => h) (Or.inl ⟨by rfl, ?_⟩) (by assumption) ?_
          rotate_left
          · (intro w hSw; (try dsimp only at hSw); go_simp; (try with_reducible rfl))
          (try simp only [List.set_cons_zero, List.set_cons_succ])
          refine held_take (i := 3) (d := 47) (v := ?_) rfl rfl (by kernel_rfl) (by kernel_rfl) (by kernel_rfl) (fun _ _ _ h => h) (Or.inl ⟨by rfl, ?_⟩) (by assumption) ?_
          rotate_left
          · (intro w hSw; (try dsimp only at hSw); go_simp; (try with_reducible rfl))
          (try simp only [List.set_cons_zero, List.set_cons_succ])
          refine held_take (i := 4) (d := 48) (v := ?_) rfl rfl (by kernel_rfl) (by kernel_rfl) (by kernel_rfl) (fun _ _ _ h => h) (Or.inl ⟨by rfl, ?_⟩) (by assumption) ?_
          rotate_left
          · (intro w hSw; (try dsimp only at hSw); go_simp; (try with_reducible rfl))
          (try simp only [List.set_cons_zero, List.set_cons_succ])
          refine held_take (i := 5) (d := 49) (v := ?_) rfl rfl (by kernel_rfl) (by kernel_rfl) (by kernel_rfl) (fun _ _ _ h => h) (Or.inl ⟨by rfl, ?_⟩) (by assumption) ?_
          rotate_left
          · (intro w hSw; (try dsimp only at hSw); go_simp; (try with_reducible rfl))
          (try simp only [List.set_cons_zero, List.set_cons_succ])
          refine held_take (i := 6) (d := 50) (v := ?_) rfl rfl (by kernel_rfl) (by kernel_rfl) (by kernel_rfl) (fun _ _ _ h => h) (Or.inl ⟨by rfl, ?_⟩) (by assumption) ?_
          rotate_left
          · (intro w hSw; (try dsimp only at hSw); go_simp; (try with_reducible rfl))
          (try simp only [List.set_cons_zero, List.set_cons_succ])
          refine held_take (i := 7) (d := 51) (v := ?_) rfl rfl (by kernel_rfl) (by kernel_rfl) (by kernel_rfl) (fun _ _ _ h => h) (Or.inl ⟨by rfl, ?_⟩) (by assumption) ?_
          rotate_left
          · (intro w hSw; (try dsimp only at hSw); go_simp; (try with_reducible rfl))
          (try simp only [List.set_cons_zero, List.set_cons_succ])
          refine held_take (i := 9) (d := 53) (v := ?_) rfl rfl (by kernel_rfl) (by kernel_rfl) (by kernel_rfl) (fun _ _ _ h => h) (Or.inl ⟨by rfl, ?_⟩) (by assumption) ?_
          rotate_left
          · (intro w hSw; (try dsimp only at hSw); go_simp; (try with_reducible rfl))
          (try simp only [List.set_cons_zero, List.set_cons_succ])
          refine held_take (i := 10) (d := 54) (v := ?_) rfl rfl (by kernel_rfl) (by kernel_rfl) (by kernel_rfl) (fun _ _ _ h => h) (Or.inl ⟨by rfl, ?_⟩) (by assumption) ?_
          rotate_left
          · (intro w hSw; (try dsimp only at hSw); go_simp; (try with_reducible rfl))
          (try simp only [List.set_cons_zero, List.set_cons_succ])
          refine held_take (i := 11) (d := 55) (v := ?_) rfl rfl (by kernel_rfl) (by kernel_rfl) (by kernel_rfl) (fun _ _ _ h => h) (Or.inl ⟨by rfl, ?_⟩) (by assumption) ?_
          rotate_left
          · (intro w hSw; (try dsimp only at hSw); go_simp; (try with_reducible rfl))
          (try simp only [List.set_cons_zero, List.set_cons_succ])
          refine wpAnyH_ready (rs := [8]) (by kernel_rfl) (by simp) ?_
          refine AllReadyH.cons rfl (fun K hK => ?_) AllReadyH.nil
          go_simp
          (refine (vwReal_L 2 0 i 1 (digs 2 k 9).1 A1 c1 _ (ho1.rd.keep (by (repeat (first | assumption | with_reducible exact Bl.refl _ | with_reducible refine Bl.drewN ?_ _ | with_reducible refine Bl.drew ?_ | with_reducible refine Bl.alloc ?_ _ | (with_reducible refine Bl.call ?_ (by assumption)))))) (by omega) (by omega) hi (by omega) hdm.out).mono ?_; rintro r w2 ⟨A2, c2, rfl, ho2, hb2⟩)
          go_wp2_with fail
          refine hK.out _ _ ?_ (fun hHeld => ?_)
          · (try dsimp only); exact ⟨Bl.cells (by (repeat (first | assumption | with_reducible exact Bl.refl _ | with_reducible refine Bl.drewN ?_ _ | with_reducible refine Bl.drew ?_ | with_reducible refine Bl.alloc ?_ _ | (with_reducible refine Bl.call ?_ (by assumption))))) kI0, Bl.cells (by (repeat (first | assumption | with_reducible exact Bl.refl _ | with_reducible refine Bl.drewN ?_ _ | with_reducible refine Bl.drew ?_ | with_reducible refine Bl.alloc ?_ _ | (with_reducible refine Bl.call ?_ (by assumption))))) kI1⟩
          clear hK K
          (try simp only [Act.put]); (try simp only [List.setIfInBounds_toArray]); (try simp only [List.set_cons_succ]); (try simp only [List.set_cons_zero])
          refine wpAnyH_ready (rs := [12]) (by kernel_rfl) (by simp) ?_
          refine AllReadyH.cons rfl (fun K hK => ?_) AllReadyH.nil
          go_simp
          (refine (vwExtra_any 1 e (by omega) he (digs 2 k 9).1 A1 c1 _ (ho1.rd.keep (by (repeat (first | assumption | with_reducible exact Bl.refl _ | with_reducible refine Bl.drewN ?_ _ | with_reducible refine Bl.drew ?_ | with_reducible refine Bl.alloc ?_ _ | (with_reducible refine Bl.call ?_ (by assumption)))))) hdm.out).mono ?_; rintro r w4 ⟨rfl, hb4⟩)
          go_wp2_with fail
          refine hK.out _ _ ?_ (fun hHeld => ?_)
          · (try dsimp only); exact ⟨Bl.cells (by (repeat (first | assumption | with_reducible exact Bl.refl _ | with_reducible refine Bl.drewN ?_ _ | with_reducible refine Bl.drew ?_ | with_reducible refine Bl.alloc ?_ _ | (with_reducible refine Bl.call ?_ (by assumption))))) kI0, Bl.cells (by (repeat (first | assumption | with_reducible exact Bl.refl _ | with_reducible refine Bl.drewN ?_ _ | with_reducible refine Bl.drew ?_ | with_reducible refine Bl.alloc ?_ _ | (with_reducible refine Bl.call ?_ (by assumption))))) kI1⟩
          clear hK K
          (try simp only [Act.put]); (try simp only [List.setIfInBounds_toArray]); (try simp only [List.set_cons_succ]); (try simp only [List.set_cons_zero])
          refine wpAnyH_ready (rs := [13]) (by kernel_rfl) (by simp) ?_
          refine AllReadyH.cons rfl (fun K hK => ?_) AllReadyH.nil
          go_simp
          refine hK.out _ _ ?_ (fun hHeld => ?_)
          · (try dsimp only); exact ⟨Bl.cells (by (repeat (first | assumption | with_reducible exact Bl.refl _ | with_reducible refine Bl.drewN ?_ _ | with_reducible refine Bl.drew ?_ | with_reducible refine Bl.alloc ?_ _ | (with_reducible refine Bl.call ?_ (by assumption))))) kI0, Bl.cells (by (repeat (first | assumption | with_reducible exact Bl.refl _ | with_reducible refine Bl.drewN ?_ _ | with_reducible refine Bl.drew ?_ | with_reducible refine Bl.alloc ?_ _ | (with_reducible refine Bl.call ?_ (by assumption))))) kI1⟩
          clear hK K
          (try simp only [Act.put]); (try simp only [List.setIfInBounds_toArray]); (try simp only [List.set_cons_succ]); (try simp only [List.set_cons_zero])
          refine wpAnyH_ready (rs := [14]) (by kernel_rfl) (by simp) ?_
          refine AllReadyH.cons rfl (fun K hK => ?_) AllReadyH.nil
          (refine ap_int_step (l' := [exF 1 e (digs 2 k 9).1]) rfl rfl rfl (ho2.keep ?_) rfl ?_ ?_ ?_ ?_; (· ((repeat (first | assumption | with_reducible exact Bl.refl _ | with_reducible refine Bl.drewN ?_ _ | with_reducible refine Bl.drew ?_ | with_reducible refine Bl.alloc ?_ _ | (with_reducible refine Bl.call ?_ (by assumption)))); done)); (· (refine RdI.keep (rd_new1 ?_ 3 _ (hg := ?_)) ?_; rotate_left 2; (· ((repeat (first | assumption | with_reducible exact Bl.refl _ | with_reducible refine Bl.drewN ?_ _ | with_reducible refine Bl.drew ?_ | with_reducible refine Bl.alloc ?_ _ | (with_reducible refine Bl.call ?_ (by assumption)))); done)); first | rfl | simp)); (· omega); (· (exact Nat.le_trans hb2.sz (Bl.sz (by (repeat (first | assumption | with_reducible exact Bl.refl _ | with_reducible refine Bl.drewN ?_ _ | with_reducible refine Bl.drew ?_ | with_reducible refine Bl.alloc ?_ _ | (with_reducible refine Bl.call ?_ (by assumption)))))))); intro A9 c9 w9 ho9 hg9 hat9; have hb9 : Bl w1 w9 := Bl.grown (by (repeat (first | assumption | with_reducible exact Bl.refl _ | with_reducible refine Bl.drewN ?_ _ | with_reducible refine Bl.drew ?_ | with_reducible refine Bl.alloc ?_ _ | (with_reducible refine Bl.call ?_ (by assumption))))) hg9 (fun k hk => Nat.le_trans (Bl.sz (W := w1) (by (repeat (first | assumption | with_reducible exact Bl.refl _ | with_reducible refine Bl.drewN ?_ _ | with_reducible refine Bl.drew ?_ | with_reducible refine Bl.alloc ?_ _ | (with_reducible refine Bl.call ?_ (by assumption)))))) (ho2.blk k hk).1))
          refine hK.out _ _ ?_ (fun hHeld => ?_)
          · (try dsimp only); exact ⟨Bl.cells (by (repeat (first | assumption | with_reducible exact Bl.refl _ | with_reducible refine Bl.drewN ?_ _ | with_reducible refine Bl.drew ?_ | with_reducible refine Bl.alloc ?_ _ | (with_reducible refine Bl.call ?_ (by assumption))))) kI0, Bl.cells (by (repeat (first | assumption | with_reducible exact Bl.refl _ | with_reducible refine Bl.drewN ?_ _ | with_reducible refine Bl.drew ?_ | with_reducible refine Bl.alloc ?_ _ | (with_reducible refine Bl.call ?_ (by assumption))))) kI1⟩
          clear hK K
          (try simp only [Act.put]); (try simp only [List.setIfInBounds_toArray]); (try simp only [List.set_cons_succ]); (try simp only [List.set_cons_zero])
          refine held_take (i := 15) (d := 13) (v := ?_) rfl rfl (by kernel_rfl) (by kernel_rfl) (by kernel_rfl) (fun _ _ _ h => h) (Or.inl ⟨by rfl, ?_⟩) (by assumption) ?_
          rotate_left
          · (intro w hSw; (try dsimp only at hSw); go_simp; (try with_reducible rfl))
          (try simp only [List.set_cons_zero, List.set_cons_succ])
          refine wpAnyH_done (by kernel_rfl) ?_ _
          replace hown := hown.keep hb9
          replace hI := hI.keep hb9
          replace hW := hW.call hb9
          clear kI0 kI1 kIl
          obtain ⟨g, he2, hbg, hgl, hcell, hfr⟩ := hown.form (by omega)
          injection he2 with he2; injection he2 with he2; subst he2
          have hx2 := hcell (C) _ hget.out
          have hfz := hfr (C)
          clear hcell hfr
          go_wp2_with (go_at_call 108; refine (spec_vwCode A9 12 c9 _ 2 _ ho9.rd (by omega) (by omega) (by omega) hm12.out).mono ?_; rintro r w5 ⟨rfl, rfl⟩; rw [hvc.out])
          go_roundw
          case rel => exact ⟨k + 1, by omega, by go_num, by rw [hst.out]; exact hown.set_ (C) _ (by omega), hI.far (by dsimp only; omega) _, hW.setCell (by dsimp only; omega) _⟩
          case measure => simp [intOf]; omega
        · have hk5 : tally 4096 (bgS 1 i e 0) k = T0 := by rw [(Nat.le_antisymm hk (Nat.le_of_not_lt hlt) : k = 512)]; exact HT0.out
          have hce := Lib.hid (show cntV Z T0 T1 1 = tally 4096 (bgS 1 i e 0) k ++ Z by rw [hk5, cntV_1])
          clear hk5
          generalize tally 4096 (bgS 1 i e 0) k ++ Z = LT at *
          clear HT0b HT1b HT0 HT1 HZ HZZ HR
          go_wp2
          go_roundw
          case rel => exact ⟨1, by omega, by go_num, by rw [hce.out]; exact hown, hW⟩
          case measure => simp [intOf]
    · replace hie := hie.trans (show _ = Value.int .i64 1 from rfl)
      subst hie
      have hc0 := Lib.hid (show cntV Z T0 T1 1 = T0 ++ tally 4096 (bgS 1 i e 1) 0 by rw [cntV_1, tally, HZ.out])
      have hI := Blk.new wr 3 #[.int .i64 1, .int .i64 i]
      replace hW := hW.alloc (.cells #[.int .i64 1, .int .i64 i] 3)
      have h8 := (hown.blk g8 rfl)
      replace hown : OwnI w.heap.size (wr.alloc (.cells #[.int .i64 1, .int .i64 i] 3)) (some ⟨g8, 0, none⟩) 8192 8192 (T0 ++ tally 4096 (bgS 1 i e 1) 0) := by have := hown.alloc (.cells #[.int .i64 1, .int .i64 i] 3); rw [hc0.out] at this; exact this
      go_wp2
      obtain ⟨gI, hgI⟩ : ∃ gI, wr.heap.size = gI := ⟨_, rfl⟩
      rw [hgI] at hI h8 ⊢
      clear hgI
      go_loopw [11] (fun i' wq => ∃ k : Nat, k ≤ 512 ∧ i' = .int .i64 k ∧ OwnI w.heap.size wq (some ⟨g8, 0, none⟩) 8192 8192 (T0 ++ tally 4096 (bgS 1 i e 1) k) ∧ Blk wq gI 3 #[.int .i64 1, .int .i64 i] ∧ Bl w wq) (fun i' _ => 512 - (intOf i').toNat)
      case atStart => exact ⟨0, by omega, rfl, hown, hI, hW⟩
      case round =>
        clear hown hI hW
        obtain ⟨k, hk, rfl, hown, hI, hW⟩ := hrel
        by_cases hlt : k < 512
        · have ik : (k : Int) < 512 := by omega
          have hC := bgC_bd 1 i hi 1 k (by omega)
          have hE := bgE_bd 1 e k
          have hr := bgI_rho 1 i e hi 1 k (by omega)
          obtain ⟨C, hCe⟩ : ∃ C, bgS 1 i e 1 k = C := ⟨_, rfl⟩
          have hC4 : C < 4096 := by rw [← hCe]; exact hr.2
          have hvm := rvL_mem 2 1 i 1 (digs 2 k 9).1 (by omega) (by omega) (by omega) (digs_len 2 k 9) (digs_mem 2 k (by omega) 9)
          have hxb := exF_bd 1 e (digs 2 k 9).1 (digs_mem 2 k (by omega) 9)
          have hm12 := Lib.hid (show ∀ z ∈ rvL 2 1 i 1 (digs 2 k 9).1 ++ [exF 1 e (digs 2 k 9).1], 0 ≤ z ∧ z < 2 from fun z hz => by
            simp only [List.mem_append, List.mem_singleton] at hz
            rcases hz with hz | rfl
            · exact hvm.2 z hz
            · exact hxb)
          have hvc := Lib.hid (show vcF 2 (rvL 2 1 i 1 (digs 2 k 9).1 ++ [exF 1 e (digs 2 k 9).1]) = (C : Int) by
            rw [vcF_snoc, hvm.1, show pw 2 11 = 2048 by decide, ← hCe]
            have h1 : vcF 2 (rvL 2 1 i 1 (digs 2 k 9).1) = bgC 1 i 1 k := hC.1
            rw [h1, hE.1]
            unfold bgS
            omega)
          have hdm := Lib.hid (digs_mem 2 (k : Int) (by omega) 9)
          have htb := tally_bd 4096 (bgS 1 i e 1) k C
          have htl := tally_length 4096 (bgS 1 i e 1) k
          have hst := Lib.hid (show T0 ++ tally 4096 (bgS 1 i e 1) (k + 1) = (T0 ++ tally 4096 (bgS 1 i e 1) k).set (4096 + C) ((tally 4096 (bgS 1 i e 1) k)[C]?.getD 0 + 1) by
            rw [tally, hCe]
            have := bump_right T0 (tally 4096 (bgS 1 i e 1) k) C
            rw [HT0l.out] at this
            rw [← this]
            unfold bump
            rw [List.getElem?_append_right (by rw [HT0l.out]; omega), HT0l.out, show 4096 + C - 4096 = C by omega])
          have hLl : (T0 ++ tally 4096 (bgS 1 i e 1) k).length = 8192 := by rw [List.length_append, tally_length, HT0l.out]
          have hgd : (T0 ++ tally 4096 (bgS 1 i e 1) k)[4096 + C]? = some ((tally 4096 (bgS 1 i e 1) k)[C]?.getD 0) := by
            rw [List.getElem?_append_right (by rw [HT0l.out]; omega), HT0l.out, show 4096 + C - 4096 = C by omega, List.getElem?_eq_getElem (by rw [tally_length]; exact hC4)]; rfl
          have hget := Lib.hid hgd
          clear hC hE hr hvm hxb hLl hgd hCe
          generalize T0 ++ tally 4096 (bgS 1 i e 1) k = LT at *
          generalize (tally 4096 (bgS 1 i e 1) k)[C]?.getD 0 = X at *
          have kI0 := hI.cell 0 _ rfl
          have kI1 := hI.cell 1 _ rfl
          have kIl := hI.lt
          go_wp2_with (go_at_call 105; refine (spec_vwDigits 2 k 9 _ (by omega) (by omega) (by omega) (by omega) (by omega)).mono ?_; rintro r w1 ⟨A1, c1, rfl, ho1, hb1⟩; replace hown := hown.keep hb1; replace hI := hI.keep hb1; replace hW := hW.call hb1; clear kI0 kI1 kIl; have kI0 := hI.cell 0 _ rfl; have kI1 := hI.cell 1 _ rfl; have kIl := hI.lt)
          refine wp_region_held_drew (S := (fun w' => w'.cell? ⟨gI, 0, none⟩ = some (.int .i64 1) ∧ w'.cell? ⟨gI, 1, none⟩ = some (.int .i64 i))) (by kernel_rfl) ?_ (fun hHeld => ?_)
          · (try dsimp only); exact ⟨Bl.cells (by (repeat (first | assumption | with_reducible exact Bl.refl _ | with_reducible refine Bl.drewN ?_ _ | with_reducible refine Bl.drew ?_ | with_reducible refine Bl.alloc ?_ _ | (with_reducible refine Bl.call ?_ (by assumption))))) kI0, Bl.cells (by (repeat (first | assumption | with_reducible exact Bl.refl _ | with_reducible refine Bl.drewN ?_ _ | with_reducible refine Bl.drew ?_ | with_reducible refine Bl.alloc ?_ _ | (with_reducible refine Bl.call ?_ (by assumption))))) kI1⟩
          refine held_take (i := 0) (d := 44) (v := ?_) rfl rfl (by kernel_rfl) (by kernel_rfl) (by kernel_rfl) (fun _ _ _ h => h) (Or.inl ⟨by rfl, ?_⟩) (by assumption) ?_
          rotate_left
          · (intro w hSw; (try dsimp only at hSw); go_simp; (try with_reducible rfl))
          (try simp only [List.set_cons_zero, List.set_cons_succ])
          refine held_take (i := 1) (d := 45) (v := ?_) rfl rfl (by kernel_rfl) (by kernel_rfl) (by kernel_rfl) (fun _ _ _ h => h) (Or.inl ⟨by rfl, ?_⟩) (by assumption) ?_
          rotate_left
          · (intro w hSw; (try dsimp only at hSw); go_simp; (try with_reducible rfl))
          (try simp only [List.set_cons_zero, List.set_cons_succ])
          refine held_take (i := 2) (d := 46) (v := ?_) rfl rfl (by kernel_rfl) (by kernel_rfl) (by kernel_rfl) (fun _ _ _ h => h) (Or.inl ⟨by rfl, ?_⟩) (by assumption) ?_
          rotate_left
          · (intro w hSw; (try dsimp only at hSw); go_simp; (try with_reducible rfl))
          (try simp only [List.set_cons_zero, List.set_cons_succ])
          refine held_take (i := 3) (d := 47) (v := ?_) rfl rfl (by kernel_rfl) (by kernel_rfl) (by kernel_rfl) (fun _ _ _ h => h) (Or.inl ⟨by rfl, ?_⟩) (by assumption) ?_
          rotate_left
          · (intro w hSw; (try dsimp only at hSw); go_simp; (try with_reducible rfl))
          (try simp only [List.set_cons_zero, List.set_cons_succ])
          refine held_take (i := 4) (d := 48) (v := ?_) rfl rfl (by kernel_rfl) (by kernel_rfl) (by kernel_rfl) (fun _ _ _ h => h) (Or.inl ⟨by rfl, ?_⟩) (by assumption) ?_
          rotate_left
          · (intro w hSw; (try dsimp only at hSw); go_simp; (try with_reducible rfl))
          (try simp only [List.set_cons_zero, List.set_cons_succ])
          refine held_take (i := 5) (d := 49) (v := ?_) rfl rfl (by kernel_rfl) (by kernel_rfl) (by kernel_rfl) (fun _ _ _ h => h) (Or.inl ⟨by rfl, ?_⟩) (by assumption) ?_
          rotate_left
          · (intro w hSw; (try dsimp only at hSw); go_simp; (try with_reducible rfl))
          (try simp only [List.set_cons_zero, List.set_cons_succ])
          refine held_take (i := 6) (d := 50) (v := ?_) rfl rfl (by kernel_rfl) (by kernel_rfl) (by kernel_rfl) (fun _ _ _ h => h) (Or.inl ⟨by rfl, ?_⟩) (by assumption) ?_
          rotate_left
          · (intro w hSw; (try dsimp only at hSw); go_simp; (try with_reducible rfl))
          (try simp only [List.set_cons_zero, List.set_cons_succ])
          refine held_take (i := 7) (d := 51) (v := ?_) rfl rfl (by kernel_rfl) (by kernel_rfl) (by kernel_rfl) (fun _ _ _ h => h) (Or.inl ⟨by rfl, ?_⟩) (by assumption) ?_
          rotate_left
          · (intro w hSw; (try dsimp only at hSw); go_simp; (try with_reducible rfl))
          (try simp only [List.set_cons_zero, List.set_cons_succ])
          refine held_take (i := 9) (d := 53) (v := ?_) rfl rfl (by kernel_rfl) (by kernel_rfl) (by kernel_rfl) (fun _ _ _ h => h) (Or.inl ⟨by rfl, ?_⟩) (by assumption) ?_
          rotate_left
          · (intro w hSw; (try dsimp only at hSw); go_simp; (try with_reducible rfl))
          (try simp only [List.set_cons_zero, List.set_cons_succ])
          refine held_take (i := 10) (d := 54) (v := ?_) rfl rfl (by kernel_rfl) (by kernel_rfl) (by kernel_rfl) (fun _ _ _ h => h) (Or.inl ⟨by rfl, ?_⟩) (by assumption) ?_
          rotate_left
          · (intro w hSw; (try dsimp only at hSw); go_simp; (try with_reducible rfl))
          (try simp only [List.set_cons_zero, List.set_cons_succ])
          refine held_take (i := 11) (d := 55) (v := ?_) rfl rfl (by kernel_rfl) (by kernel_rfl) (by kernel_rfl) (fun _ _ _ h => h) (Or.inl ⟨by rfl, ?_⟩) (by assumption) ?_
          rotate_left
          · (intro w hSw; (try dsimp only at hSw); go_simp; (try with_reducible rfl))
          (try simp only [List.set_cons_zero, List.set_cons_succ])
          refine wpAnyH_ready (rs := [8]) (by kernel_rfl) (by simp) ?_
          refine AllReadyH.cons rfl (fun K hK => ?_) AllReadyH.nil
          go_simp
          (refine (vwReal_L 2 1 i 1 (digs 2 k 9).1 A1 c1 _ (ho1.rd.keep (by (repeat (first | assumption | with_reducible exact Bl.refl _ | with_reducible refine Bl.drewN ?_ _ | with_reducible refine Bl.drew ?_ | with_reducible refine Bl.alloc ?_ _ | (with_reducible refine Bl.call ?_ (by assumption)))))) (by omega) (by omega) hi (by omega) hdm.out).mono ?_; rintro r w2 ⟨A2, c2, rfl, ho2, hb2⟩)
          go_wp2_with fail
          refine hK.out _ _ ?_ (fun hHeld => ?_)
          · (try dsimp only); exact ⟨Bl.cells (by (repeat (first | assumption | with_reducible exact Bl.refl _ | with_reducible refine Bl.drewN ?_ _ | with_reducible refine Bl.drew ?_ | with_reducible refine Bl.alloc ?_ _ | (with_reducible refine Bl.call ?_ (by assumption))))) kI0, Bl.cells (by (repeat (first | assumption | with_reducible exact Bl.refl _ | with_reducible refine Bl.drewN ?_ _ | with_reducible refine Bl.drew ?_ | with_reducible refine Bl.alloc ?_ _ | (with_reducible refine Bl.call ?_ (by assumption))))) kI1⟩
          clear hK K
          (try simp only [Act.put]); (try simp only [List.setIfInBounds_toArray]); (try simp only [List.set_cons_succ]); (try simp only [List.set_cons_zero])
          refine wpAnyH_ready (rs := [12]) (by kernel_rfl) (by simp) ?_
          refine AllReadyH.cons rfl (fun K hK => ?_) AllReadyH.nil
          go_simp
          (refine (vwExtra_any 1 e (by omega) he (digs 2 k 9).1 A1 c1 _ (ho1.rd.keep (by (repeat (first | assumption | with_reducible exact Bl.refl _ | with_reducible refine Bl.drewN ?_ _ | with_reducible refine Bl.drew ?_ | with_reducible refine Bl.alloc ?_ _ | (with_reducible refine Bl.call ?_ (by assumption)))))) hdm.out).mono ?_; rintro r w4 ⟨rfl, hb4⟩)
          go_wp2_with fail
          refine hK.out _ _ ?_ (fun hHeld => ?_)
          · (try dsimp only); exact ⟨Bl.cells (by (repeat (first | assumption | with_reducible exact Bl.refl _ | with_reducible refine Bl.drewN ?_ _ | with_reducible refine Bl.drew ?_ | with_reducible refine Bl.alloc ?_ _ | (with_reducible refine Bl.call ?_ (by assumption))))) kI0, Bl.cells (by (repeat (first | assumption | with_reducible exact Bl.refl _ | with_reducible refine Bl.drewN ?_ _ | with_reducible refine Bl.drew ?_ | with_reducible refine Bl.alloc ?_ _ | (with_reducible refine Bl.call ?_ (by assumption))))) kI1⟩
          clear hK K
          (try simp only [Act.put]); (try simp only [List.setIfInBounds_toArray]); (try simp only [List.set_cons_succ]); (try simp only [List.set_cons_zero])
          refine wpAnyH_ready (rs := [13]) (by kernel_rfl) (by simp) ?_
          refine AllReadyH.cons rfl (fun K hK => ?_) AllReadyH.nil
          go_simp
          refine hK.out _ _ ?_ (fun hHeld => ?_)
          · (try dsimp only); exact ⟨Bl.cells (by (repeat (first | assumption | with_reducible exact Bl.refl _ | with_reducible refine Bl.drewN ?_ _ | with_reducible refine Bl.drew ?_ | with_reducible refine Bl.alloc ?_ _ | (with_reducible refine Bl.call ?_ (by assumption))))) kI0, Bl.cells (by (repeat (first | assumption | with_reducible exact Bl.refl _ | with_reducible refine Bl.drewN ?_ _ | with_reducible refine Bl.drew ?_ | with_reducible refine Bl.alloc ?_ _ | (with_reducible refine Bl.call ?_ (by assumption))))) kI1⟩
          clear hK K
          (try simp only [Act.put]); (try simp only [List.setIfInBounds_toArray]); (try simp only [List.set_cons_succ]); (try simp only [List.set_cons_zero])
          refine wpAnyH_ready (rs := [14]) (by kernel_rfl) (by simp) ?_
          refine AllReadyH.cons rfl (fun K hK => ?_) AllReadyH.nil
          (refine ap_int_step (l' := [exF 1 e (digs 2 k 9).1]) rfl rfl rfl (ho2.keep ?_) rfl ?_ ?_ ?_ ?_; (· ((repeat (first | assumption | with_reducible exact Bl.refl _ | with_reducible refine Bl.drewN ?_ _ | with_reducible refine Bl.drew ?_ | with_reducible refine Bl.alloc ?_ _ | (with_reducible refine Bl.call ?_ (by assumption)))); done)); (· (refine RdI.keep (rd_new1 ?_ 3 _ (hg := ?_)) ?_; rotate_left 2; (· ((repeat (first | assumption | with_reducible exact Bl.refl _ | with_reducible refine Bl.drewN ?_ _ | with_reducible refine Bl.drew ?_ | with_reducible refine Bl.alloc ?_ _ | (with_reducible refine Bl.call ?_ (by assumption)))); done)); first | rfl | simp)); (· omega); (· (exact Nat.le_trans hb2.sz (Bl.sz (by (repeat (first | assumption | with_reducible exact Bl.refl _ | with_reducible refine Bl.drewN ?_ _ | with_reducible refine Bl.drew ?_ | with_reducible refine Bl.alloc ?_ _ | (with_reducible refine Bl.call ?_ (by assumption)))))))); intro A9 c9 w9 ho9 hg9 hat9; have hb9 : Bl w1 w9 := Bl.grown (by (repeat (first | assumption | with_reducible exact Bl.refl _ | with_reducible refine Bl.drewN ?_ _ | with_reducible refine Bl.drew ?_ | with_reducible refine Bl.alloc ?_ _ | (with_reducible refine Bl.call ?_ (by assumption))))) hg9 (fun k hk => Nat.le_trans (Bl.sz (W := w1) (by (repeat (first | assumption | with_reducible exact Bl.refl _ | with_reducible refine Bl.drewN ?_ _ | with_reducible refine Bl.drew ?_ | with_reducible refine Bl.alloc ?_ _ | (with_reducible refine Bl.call ?_ (by assumption)))))) (ho2.blk k hk).1))
          refine hK.out _ _ ?_ (fun hHeld => ?_)
          · (try dsimp only); exact ⟨Bl.cells (by (repeat (first | assumption | with_reducible exact Bl.refl _ | with_reducible refine Bl.drewN ?_ _ | with_reducible refine Bl.drew ?_ | with_reducible refine Bl.alloc ?_ _ | (with_reducible refine Bl.call ?_ (by assumption))))) kI0, Bl.cells (by (repeat (first | assumption | with_reducible exact Bl.refl _ | with_reducible refine Bl.drewN ?_ _ | with_reducible refine Bl.drew ?_ | with_reducible refine Bl.alloc ?_ _ | (with_reducible refine Bl.call ?_ (by assumption))))) kI1⟩
          clear hK K
          (try simp only [Act.put]); (try simp only [List.setIfInBounds_toArray]); (try simp only [List.set_cons_succ]); (try simp only [List.set_cons_zero])
          refine held_take (i := 15) (d := 13) (v := ?_) rfl rfl (by kernel_rfl) (by kernel_rfl) (by kernel_rfl) (fun _ _ _ h => h) (Or.inl ⟨by rfl, ?_⟩) (by assumption) ?_
          rotate_left
          · (intro w hSw; (try dsimp only at hSw); go_simp; (try with_reducible rfl))
          (try simp only [List.set_cons_zero, List.set_cons_succ])
          refine wpAnyH_done (by kernel_rfl) ?_ _
          replace hown := hown.keep hb9
          replace hI := hI.keep hb9
          replace hW := hW.call hb9
          clear kI0 kI1 kIl
          obtain ⟨g, he2, hbg, hgl, hcell, hfr⟩ := hown.form (by omega)
          injection he2 with he2; injection he2 with he2; subst he2
          have hx2 := hcell (4096 + C) _ hget.out
          have hfz := hfr (4096 + C)
          clear hcell hfr
          go_wp2_with (go_at_call 108; refine (spec_vwCode A9 12 c9 _ 2 _ ho9.rd (by omega) (by omega) (by omega) hm12.out).mono ?_; rintro r w5 ⟨rfl, rfl⟩; rw [hvc.out])
          go_roundw
          case rel => exact ⟨k + 1, by omega, by go_num, by rw [hst.out]; exact hown.set_ (4096 + C) _ (by omega), hI.far (by dsimp only; omega) _, hW.setCell (by dsimp only; omega) _⟩
          case measure => simp [intOf]; omega
        · have hk5 : tally 4096 (bgS 1 i e 1) k = T1 := by rw [(Nat.le_antisymm hk (Nat.le_of_not_lt hlt) : k = 512)]; exact HT1.out
          have hce := Lib.hid (show cntV Z T0 T1 2 = T0 ++ tally 4096 (bgS 1 i e 1) k by rw [hk5, cntV_2])
          clear hk5
          generalize T0 ++ tally 4096 (bgS 1 i e 1) k = LT at *
          clear HT0b HT1b HT0 HT1 HZ HZZ HR
          go_wp2
          go_roundw
          case rel => exact ⟨2, by omega, by go_num, by rw [hce.out]; exact hown, hW⟩
          case measure => simp [intOf]
    · replace hie := hie.trans (show _ = Value.int .i64 2 from rfl)
      subst hie
      have hc2 : cntV Z T0 T1 2 = T0 ++ T1 := cntV_2 Z T0 T1
      rw [hc2] at hown
      clear hc2
      obtain ⟨SM, HS0, HSs, HSb, HSR⟩ : ∃ SM : Nat → Int, Hid (SM 0 = 0) ∧ Hid (∀ k, SM (k + 1) = SM k + max (T0[k]?.getD 0) (T1[k]?.getD 0)) ∧ Hid (∀ k, 0 ≤ SM k ∧ SM k ≤ 512 * k) ∧ Hid (SM 4096 = R) :=
        ⟨sumMax T0 T1, Lib.hid rfl, Lib.hid fun k => rfl, Lib.hid fun k => sumMax_bd T0 T1 HT0b.out HT1b.out k, HR⟩
      clear HR
      obtain ⟨F0, hF0⟩ : ∃ F0 : Nat → Int, ∀ k, T0[k]?.getD 0 = F0 k := ⟨_, fun _ => rfl⟩
      obtain ⟨F1, hF1⟩ : ∃ F1 : Nat → Int, ∀ k, T1[k]?.getD 0 = F1 k := ⟨_, fun _ => rfl⟩
      have HSs' := Lib.hid (show ∀ k, SM (k + 1) = SM k + max (F0 k) (F1 k) from fun k => by rw [HSs.out, hF0, hF1])
      have HFb := Lib.hid (show ∀ k, ((0 : Int) ≤ F0 k ∧ F0 k ≤ 512) ∧ ((0 : Int) ≤ F1 k ∧ F1 k ≤ 512) from fun k => by rw [← hF0, ← hF1]; exact ⟨HT0b.out k, HT1b.out k⟩)
      have HL := Lib.hid (show ∀ k : Nat, k < 4096 → (T0 ++ T1)[k]? = some (F0 k) ∧ (T0 ++ T1)[4096 + k]? = some (F1 k) from fun k hk => by
        refine ⟨?_, ?_⟩
        · rw [List.getElem?_append_left (by rw [HT0l.out]; exact hk), ← hF0, List.getElem?_eq_getElem (by rw [HT0l.out]; exact hk)]; rfl
        · rw [List.getElem?_append_right (by rw [HT0l.out]; omega), HT0l.out, show 4096 + k - 4096 = k by omega, ← hF1, List.getElem?_eq_getElem (by rw [HT1l.out]; exact hk)]; rfl)
      clear hF0 hF1 HSs HT0b HT1b HT0 HT1 HZ HZZ
      generalize T0 ++ T1 = LT at *
      clear HT0l HT1l HZl
      clear h2 hall
      go_wp2
      go_loopw [14, 15] (fun a' i' wr => ∃ k : Nat, k ≤ 4096 ∧ i' = .int .i64 (k : Nat) ∧ a' = .int .i64 (SM k) ∧ OwnI w.heap.size wr (some ⟨g8, 0, none⟩) 8192 8192 LT ∧ Bl w wr) (fun _ i' _ => 4096 - (intOf i').toNat)
      case atStart => exact ⟨0, by omega, rfl, by rw [HS0.out], hown, hW⟩
      case round =>
        clear hown hW
        obtain ⟨k, hk, rfl, rfl, hown, hW⟩ := hrel
        by_cases hlt : k < 4096
        · have hs := Lib.hid (HSs'.out k)
          have h1 := HSb.out k
          have h3 := HFb.out k
          obtain ⟨g, he2, hbg, hgl, hcell, hfr⟩ := hown.form (by omega)
          injection he2 with he2; injection he2 with he2; subst he2
          have hx0 := hcell k _ (HL.out k hlt).1
          have hx1 := hcell (4096 + k) _ (HL.out k hlt).2
          clear hcell hfr
          generalize F0 k = X at *
          generalize F1 k = Y at *
          generalize SM k = S at *
          have i1 : (k : Int) < 4096 := by omega
          go_wp2_with fail
          go_quiet ((go_at_call 109; refine quiet_gen (spec_l1Most _ _ _) _ rfl))
          go_wp2
          go_roundw
          case rel => exact ⟨k + 1, by omega, by go_num, by rw [hs.out], hown.keep (Bl.of_drewN _ _), hW.call (Bl.of_drewN _ _)⟩
          case measure => simp [intOf]; omega
        · have hke := Lib.hid (show R = SM k by rw [← HSR.out, show k = 4096 by omega])
          go_wp2
          go_ret2
          exact ⟨by rw [hke.out]; rfl, hW⟩
set_option maxHeartbeats 2000000 in
theorem spec_BestGuesses (q i e : Int) (w : World) :
    Calls Try.prog 40 #[.int .i64 q, .int .i64 i, .int .i64 e] w fun e' w' => e' = .returned (.tuple #[.int .i64 (bgR q i e), .bool (bgB q i e)]) ∧ Bl w w' := by
  rcases hB : bgB q i e
  · have hR := Lib.hid (show bgR q i e = 0 by simp [bgR, hB])
    have hall : allR [q, i] 0 1 = (inR q 0 1 && inR i 0 1) := by simp [allR]
    rcases h1 : (inR q 0 1 && inR i 0 1)
    · rw [h1] at hall
      go_enter Try.func40, Try.ntmps40
      go_wp2_with (first | (go_at_call 104; refine (spec_l1All _ _ _ [q, i] _ _ _ (rd_new2 _ 3 _ _)).mono ?_; rintro e' w' ⟨rfl, rfl⟩; rw [hall]) | (go_at_call 80; refine (spec_l1In _ _ _ _).mono ?_; rintro e' w' ⟨rfl, rfl⟩))
      go_ret2
      exact ⟨by rw [hR.out]; rfl, (by (repeat (first | assumption | with_reducible exact Bl.refl _ | with_reducible refine Bl.drewN ?_ _ | with_reducible refine Bl.drew ?_ | with_reducible refine Bl.alloc ?_ _ | (with_reducible refine Bl.call ?_ (by assumption)))))⟩
    · rw [h1] at hall
      have h2 : inR e 0 3 = false := by simpa [bgB, h1] using hB
      go_enter Try.func40, Try.ntmps40
      go_wp2_with (first | (go_at_call 104; refine (spec_l1All _ _ _ [q, i] _ _ _ (rd_new2 _ 3 _ _)).mono ?_; rintro e' w' ⟨rfl, rfl⟩; rw [hall]) | (go_at_call 80; refine (spec_l1In _ _ _ _).mono ?_; rintro e' w' ⟨rfl, rfl⟩))
      go_ret2
      exact ⟨by rw [hR.out]; rfl, (by (repeat (first | assumption | with_reducible exact Bl.refl _ | with_reducible refine Bl.drewN ?_ _ | with_reducible refine Bl.drew ?_ | with_reducible refine Bl.alloc ?_ _ | (with_reducible refine Bl.call ?_ (by assumption)))))⟩
  · have hR : bgR q i e = sumMax (tally 4096 (bgS q i e 0) 512) (tally 4096 (bgS q i e 1) 512) 4096 := by simp [bgR, hB]
    rw [hR]
    have hq : q = 0 ∨ q = 1 := by
      have hB2 := hB
      simp only [bgB, Bool.and_eq_true] at hB2
      have := inR_iff.1 hB2.1.1
      omega
    rcases hq with rfl | rfl
    · exact spec_BestGuesses_0 i e w hB
    · exact spec_BestGuesses_1 i e w hB
set_option maxHeartbeats 2000000 in
theorem impl_BestGuesses (q i e : Int) (w : World) :
    Calls Try.prog 39 #[.int .i64 q, .int .i64 i, .int .i64 e] w fun e' w' => e' = .returned (.tuple #[.int .i64 (bgR q i e), .bool (bgB q i e)]) ∧ Bl w w' := by
  have hW : Bl w (((w.alloc (.cells #[.int .i64 q] 3)).alloc (.cells #[.int .i64 i] 3)).alloc (.cells #[.int .i64 e] 3)) := (((Bl.refl w).alloc _).alloc _).alloc _
  rcases hB : bgB q i e
  · have hR := Lib.hid (show bgR q i e = 0 by simp [bgR, hB])
    rcases h1 : inR q 0 1
    · go_enter Try.func39, Try.ntmps39
      go_wp2_with (first | (go_at_call 72; refine (impl_isBit _ _).mono ?_; rintro e' w' ⟨rfl, rfl⟩) | (go_at_call 75; refine (impl_within _ _ _ _).mono ?_; rintro e' w' ⟨rfl, rfl⟩))
      go_ret2
      exact ⟨by rw [hR.out]; rfl, hW⟩
    · rcases h2 : inR i 0 1
      · go_enter Try.func39, Try.ntmps39
        go_wp2_with (first | (go_at_call 72; refine (impl_isBit _ _).mono ?_; rintro e' w' ⟨rfl, rfl⟩) | (go_at_call 75; refine (impl_within _ _ _ _).mono ?_; rintro e' w' ⟨rfl, rfl⟩))
        go_ret2
        exact ⟨by rw [hR.out]; rfl, hW⟩
      · have h3 : inR e 0 3 = false := by simpa [bgB, h1, h2] using hB
        go_enter Try.func39, Try.ntmps39
        go_wp2_with (first | (go_at_call 72; refine (impl_isBit _ _).mono ?_; rintro e' w' ⟨rfl, rfl⟩) | (go_at_call 75; refine (impl_within _ _ _ _).mono ?_; rintro e' w' ⟨rfl, rfl⟩))
        go_ret2
        exact ⟨by rw [hR.out]; rfl, hW⟩
  · have hB2 := hB
    simp only [bgB, Bool.and_eq_true] at hB2
    obtain ⟨⟨h1, h2⟩, h3⟩ := hB2
    have b0 := inR_iff.1 h1
    have b1 := inR_iff.1 h2
    have b2 := inR_iff.1 h3
    have hq : q = 0 ∨ q = 1 := by omega
    have hR : bgR q i e = sumMax (tally 4096 (bgI q i e 0) 512) (tally 4096 (bgI q i e 1) 512) 4096 := by
      rw [bg_same q i e (by omega)]; simp [bgR, hB]
    have hG : Guess (((w.alloc (.cells #[.int .i64 q] 3)).alloc (.cells #[.int .i64 i] 3)).alloc (.cells #[.int .i64 e] 3)) 100 #[.pointer (some ⟨w.heap.size + 1, 0, none⟩), .pointer (some ⟨w.heap.size, 0, none⟩), .pointer (some ⟨w.heap.size + 1 + 1, 0, none⟩)] (bgI q i e) := fun o code c A W' ho hc hW' hl => by
      have ka := (((Blk.new w 3 #[.int .i64 q]).alloc (.cells #[.int .i64 i] 3)).alloc (.cells #[.int .i64 e] 3)).keep hW'
      have kb := ((Blk.new (w.alloc (.cells #[.int .i64 q] 3)) 3 #[.int .i64 i] (g := w.heap.size + 1) (by simp)).alloc (.cells #[.int .i64 e] 3)).keep hW'
      have kc := (Blk.new ((w.alloc (.cells #[.int .i64 q] 3)).alloc (.cells #[.int .i64 i] 3)) 3 #[.int .i64 e] (g := w.heap.size + 1 + 1) (by simp)).keep hW'
      have hC := (bgC_bd q i (by omega) o code ho).1
      have hE := (bgE_bd q e code).1
      refine (BestGuesses_1 q e i o hq (by omega) _ _ _ _ A c W' hl (by omega) (by omega) (digs_mem 2 code (by omega) 9) (kb.cell 0 _ rfl) (ka.cell 0 _ rfl) (kc.cell 0 _ rfl)).mono ?_
      rintro e' w' ⟨he, hb⟩
      refine ⟨he.trans ?_, hb⟩
      unfold bgV at hC
      rw [hC, hE]
      unfold bgI
      exact ret_int (by omega)
    have HC0 := impl_guesses 4096 100 _ _ _ (by omega) (by omega) enters_BestGuesses_1 hG (by
      intro o c ho _
      have h1 := (bgC_bd q i (by omega) o c ho).2
      have h2 := (bgE_bd q e c).2
      unfold bgI
      omega)
    rw [← hR] at HC0
    have HC := Lib.hid HC0
    clear HC0 hR hG hB
    go_enter Try.func39, Try.ntmps39
    go_wp2_with (first | (go_at_call 72; refine (impl_isBit _ _).mono ?_; rintro e' w' ⟨rfl, rfl⟩) | (go_at_call 75; refine (impl_within _ _ _ _).mono ?_; rintro e' w' ⟨rfl, rfl⟩) | (go_at_call 99; refine HC.out.mono ?_; rintro e' w1 ⟨rfl, hb1⟩))
    go_ret2
    exact ⟨rfl, hW.call hb1⟩
end Go.Proofs.Ytglgaicbcackbaa
