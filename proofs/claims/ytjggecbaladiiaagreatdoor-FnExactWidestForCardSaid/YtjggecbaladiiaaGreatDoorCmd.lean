/- The program's gadgets: the gates they append, exactly.
   Conditions: at most twenty wires a number; products of at most five. -/
import Derived.Test.YtjggecbaladiiaaGreatDoorCmb
import Derived.Test.YtjggecbaladiiaaGreatDoorQui
namespace Go.Proofs.YtjggecbaladiiaaGreatDoor
open Go.RowKit
set_option linter.unusedVariables false
theorem mulS_0 {t : Int} {la lb ls lr : List Int} {N : Nat} {g g1 g2 : List Gt} {k : Nat} {vb : Int} (h : mulS t la lb N g k = (g1, ls)) (hb : lb[k]? = some vb) (hk : k = 0) (hr : andS t la vb g1 N = (g2, lr)) : mulS t la lb N g (k + 1) = (g2, lr) := by
  simp only [mulS, h, List.getD_eq_getElem?_getD, hb, Option.getD_some, if_neg (show ¬ k = 1 by omega), if_pos hk, hr]
theorem mulS_1 {t : Int} {la lb ls lr ld : List Int} {N n1 : Nat} {g g1 g2 g3 : List Gt} {k : Nat} {vb cv : Int} (h : mulS t la lb N g k = (g1, ls)) (hn : g1.length = n1) (hb : lb[k]? = some vb) (hk : k = 1) (hr : andS t la vb (g1 ++ [⟨3, 0, 0⟩] ++ [⟨2, wn t n1, 0⟩]) N = (g2, lr)) (hd : addS t (ls.drop k ++ [wn t (n1 + 1)]) lr g2 N = (g3, ld, cv)) :
    mulS t la lb N g (k + 1) = (g3, ls.take k ++ ld ++ [cv]) := by
  simp only [mulS, h, hn, List.getD_eq_getElem?_getD, hb, Option.getD_some, if_pos hk, if_neg (show ¬ k = 0 by omega), hr, hd]
theorem mulS_s {t : Int} {la lb ls lr ld : List Int} {N : Nat} {g g1 g2 g3 : List Gt} {k : Nat} {vb cv : Int} (h : mulS t la lb N g k = (g1, ls)) (hb : lb[k]? = some vb) (hk : 2 ≤ k) (hr : andS t la vb g1 N = (g2, lr)) (hd : addS t (ls.drop k) lr g2 N = (g3, ld, cv)) :
    mulS t la lb N g (k + 1) = (g3, ls.take k ++ ld ++ [cv]) := by
  simp only [mulS, h, List.getD_eq_getElem?_getD, hb, Option.getD_some, if_neg (show ¬ k = 1 by omega), if_neg (show ¬ k = 0 by omega), hr, hd]
/-- A row of the call's own beside a maker. -/
theorem ME.own {T : TypeId} {X : Mx} {w w' : World} {n : Nat} {g : List Gt} {A S : Option Addr} {m c : Nat} {l : List Int} (h : ME T X w n g A) (hb : Bl w w') (ho : OwnI w.heap.size w' S m c l) : LE T X w w' A A n g S m c l :=
  ⟨h.keep hb, (Fm.refl _ _ _).grew hb (Nat.le_of_lt h.lt), ho, fun k hk => ⟨by have := (ho.blk k hk).1; have := h.lt; omega, fun e => by have := (ho.blk k hk).1; have := (h.at_ k e).2; omega⟩, fun k e => (h.os.blk k e).2⟩
theorem RdI.cut_ {w : World} {ga n c k : Nat} {l : List Int} (h : RdI w (some ⟨ga, 0, none⟩) n c l) (hk : k ≤ n) (hc : ¬ c = k) (h0 : 0 < k) : RdI w (some ⟨ga, k, none⟩) (n - k) (c - k) (l.drop k) := by
  have := Rd.cut h hk
  rw [if_neg hc] at this
  unfold RdI
  rw [show ints (l.drop k) = (ints l).drop (k * 1) by simp [ints]]
  have e : (⟨ga, 0, none⟩ : Addr).add k = ⟨ga, k, none⟩ := by unfold Addr.add; rw [if_neg (by omega)]; simp
  simpa [e] using this
theorem RdI.take_ {w : World} {A : Option Addr} {n c k : Nat} {l : List Int} (h : RdI w A n c l) (hk : k ≤ n) : RdI w A k c (l.take k) := by
  have := Rd.take h hk
  unfold RdI
  rw [show ints (l.take k) = (ints l).take (k * 1) by simp [ints]]
  exact this
set_option maxRecDepth 20000 in
set_option maxHeartbeats 4000000 in
theorem impl_add {w : World} {X : Mx} {n : Nat} {g : List Gt} {A : Option Addr} (h : ME 117 X w n g A) (Sa Sb : Option Addr) (N ca cb : Nat) (la lb : List Int) (hLa : Lx w X.x A Sa N ca la) (hLb : Lx w X.x A Sb N cb lb) (hN : N ≤ 20) (hn : n ≤ 600) :
    Calls Tryz.prog 183 #[.pointer (some ⟨X.x, 0, none⟩), .slice Sa N ca, .slice Sb N cb] w (TupE 117 X w A (addS X.t la lb g N).1 N (addS X.t la lb g N).2.1 (addS X.t la lb g N).2.2) := by
  have hL0 := LE.made h
  have hxl := h.lt
  go_enter Tryz.func183, Tryz.ntmps183
  go_wp2_with fail
  go_loopw [8, 9, 16] (fun o cc i wr => ∃ (k n1 c : Nat) (cv : Int) (A1 S : Option Addr) (g1 : List Gt) (l : List Int), k ≤ N ∧ o = .slice S k c ∧ cc = .int .i64 cv ∧ i = .int .i64 (k : Nat) ∧ n1 ≤ n + 7 * k ∧ ((k = 0 ∧ cv < 0) ∨ (¬ k = 0 ∧ ¬ cv < 0)) ∧ Hid (addS X.t la lb g k = (g1, l, cv)) ∧ LE 117 X w wr A A1 n1 g1 S k c l) (fun _ _ i _ => N - (intOf i).toNat)
  case atStart => exact ⟨0, n, 0, -1, A, _, g, [], by omega, rfl, rfl, rfl, by omega, .inl ⟨rfl, by omega⟩, Lib.hid rfl, hL0⟩
  case round =>
    clear hL0
    obtain ⟨k, n1, c, cv, A1, S, g1, l, hk, rfl, rfl, rfl, hn1, hcv, hSt, hL⟩ := hrel
    by_cases hlt : k < N
    · have ik : (k : Int) < N := by omega
      obtain ⟨ada, va, rfl, hea, hva⟩ := hLa.at_ hlt
      obtain ⟨adb, vb, rfl, heb, hvb⟩ := hLb.at_ hlt
      have hva1 := hva _ _ hL.fm
      have hvb1 := hvb _ _ hL.fm
      have HN := Lib.hid hn1
      have HB := Lib.hid hvb
      have HA := Lib.hid hva
      rcases hcv with ⟨hk0, hc⟩ | ⟨hk0, hc⟩
      · have HS := Lib.hid (addS_0 hSt.out hL.ms.len hea heb hk0)
        have hnn := Lib.hid hL.ms.nn
        have hki : ((k : Int) == 0) = true := by simp; omega
        clear hva hvb hLa hLb hSt hea heb hk0
        go_wp2_with fail
        refine wp_region_held_drew (S := (fun w' => w'.cell? (ada.add k) = some (.int .i64 va) ∧ w'.cell? (adb.add k) = some (.int .i64 vb))) (by kernel_rfl) ?_ (fun hHeld => ?_)
        · (try dsimp only); exact ⟨HA.out _ _ (by first | exact hL.fm | exact (hL.grew ((Bl.refl _).drew)).fm | exact (hL.grew ((Bl.refl _).alloc _)).fm), HB.out _ _ (by first | exact hL.fm | exact (hL.grew ((Bl.refl _).drew)).fm | exact (hL.grew ((Bl.refl _).alloc _)).fm)⟩
        replace hL := hL.grew ((Bl.refl _).drew)
        clear hva1 hvb1
        refine held_take (i := 0) (d := 21) (v := ?_) rfl rfl (by kernel_rfl) (by kernel_rfl) (by kernel_rfl) (fun _ _ _ h => h) (Or.inl ⟨by rfl, ?_⟩) (by assumption) ?_
        rotate_left
        · (intro w hSw; (try dsimp only at hSw); go_simp; (try with_reducible rfl))
        (try simp only [List.set_cons_zero, List.set_cons_succ])
        refine held_take (i := 1) (d := 22) (v := ?_) rfl rfl (by kernel_rfl) (by kernel_rfl) (by kernel_rfl) (fun _ _ _ h => h) (Or.inl ⟨by rfl, ?_⟩) (by assumption) ?_
        rotate_left
        · (intro w hSw; (try dsimp only at hSw); go_simp; (try with_reducible rfl))
        (try simp only [List.set_cons_zero, List.set_cons_succ])
        refine held_take (i := 2) (d := 23) (v := ?_) rfl rfl (by kernel_rfl) (by kernel_rfl) (by kernel_rfl) (fun _ _ _ h => h) (Or.inl ⟨by rfl, ?_⟩) (by assumption) ?_
        rotate_left
        · (intro w hSw; (try dsimp only at hSw); go_simp; (try with_reducible rfl))
        (try simp only [List.set_cons_zero, List.set_cons_succ])
        refine held_take (i := 3) (d := 24) (v := ?_) rfl rfl (by kernel_rfl) (by kernel_rfl) (by kernel_rfl) (fun _ _ _ h => h) (Or.inl ⟨by rfl, ?_⟩) (by assumption) ?_
        rotate_left
        · (intro w hSw; (try dsimp only at hSw); go_simp; (try with_reducible rfl))
        (try simp only [List.set_cons_zero, List.set_cons_succ])
        refine held_take (i := 4) (d := 25) (v := ?_) rfl rfl (by kernel_rfl) (by kernel_rfl) (by kernel_rfl) (fun _ _ _ h => h) (Or.inl ⟨by rfl, ?_⟩) (by assumption) ?_
        rotate_left
        · (intro w hSw; (try dsimp only at hSw); go_simp; (try with_reducible rfl))
        (try simp only [List.set_cons_zero, List.set_cons_succ])
        refine held_take (i := 5) (d := 26) (v := ?_) rfl rfl (by kernel_rfl) (by kernel_rfl) (by kernel_rfl) (fun _ _ _ h => h) (Or.inl ⟨by rfl, ?_⟩) (by assumption) ?_
        rotate_left
        · (intro w hSw; (try dsimp only at hSw); go_simp; (try with_reducible rfl))
        (try simp only [List.set_cons_zero, List.set_cons_succ])
        refine held_take (i := 6) (d := 27) (v := ?_) rfl rfl (by kernel_rfl) (by kernel_rfl) (by kernel_rfl) (fun _ _ _ h => h) (Or.inl ⟨by rfl, ?_⟩) (by assumption) ?_
        rotate_left
        · (intro w hSw; (try dsimp only at hSw); go_simp; (try with_reducible rfl))
        (try simp only [List.set_cons_zero, List.set_cons_succ])
        refine held_take (i := 7) (d := 28) (v := ?_) rfl rfl (by kernel_rfl) (by kernel_rfl) (by kernel_rfl) (fun _ _ _ h => h) (Or.inl ⟨by rfl, ?_⟩) (by assumption) ?_
        rotate_left
        · (intro w hSw; (try dsimp only at hSw); go_simp; (try with_reducible rfl))
        (try simp only [List.set_cons_zero, List.set_cons_succ])
        refine held_take (i := 8) (d := 29) (v := ?_) rfl rfl (by kernel_rfl) (by kernel_rfl) (by kernel_rfl) (fun _ _ _ h => h) (Or.inl ⟨by rfl, ?_⟩) (by assumption) ?_
        rotate_left
        · (intro w hSw; (try dsimp only at hSw); go_simp; (try with_reducible rfl))
        (try simp only [List.set_cons_zero, List.set_cons_succ])
        refine held_take (i := 9) (d := 30) (v := ?_) rfl rfl (by kernel_rfl) (by kernel_rfl) (by kernel_rfl) (fun _ _ _ h => h) (Or.inl ⟨by rfl, ?_⟩) (by assumption) ?_
        rotate_left
        · (intro w hSw; (try dsimp only at hSw); go_simp; (try with_reducible rfl))
        (try simp only [List.set_cons_zero, List.set_cons_succ])
        refine wpAnyH_ready (rs := [10]) (by kernel_rfl) (by simp) ?_
        refine AllReadyH.cons rfl (fun K hK => ?_) AllReadyH.nil
        go_simp
        refine (mi_xor hL.ms (by omega) _ _).mono ?_; rintro e wz ⟨A9, rfl, hm9, hf9⟩; replace hL := hL.step hm9 hf9; clear hm9 hf9
        go_wp2_with fail
        refine hK.out _ _ ?_ (fun hHeld => ?_)
        · (try dsimp only); exact ⟨HA.out _ _ (by first | exact hL.fm | exact (hL.grew ((Bl.refl _).drew)).fm | exact (hL.grew ((Bl.refl _).alloc _)).fm), HB.out _ _ (by first | exact hL.fm | exact (hL.grew ((Bl.refl _).drew)).fm | exact (hL.grew ((Bl.refl _).alloc _)).fm)⟩
        clear hK K
        (try simp only [Act.put]); (try simp only [List.setIfInBounds_toArray]); (try simp only [List.set_cons_succ]); (try simp only [List.set_cons_zero])
        refine wpAnyH_ready (rs := [11]) (by kernel_rfl) (by simp) ?_
        refine AllReadyH.cons rfl (fun K hK => ?_) AllReadyH.nil
        go_simp
        refine hK.out _ _ ?_ (fun hHeld => ?_)
        · (try dsimp only); exact ⟨HA.out _ _ (by first | exact hL.fm | exact (hL.grew ((Bl.refl _).drew)).fm | exact (hL.grew ((Bl.refl _).alloc _)).fm), HB.out _ _ (by first | exact hL.fm | exact (hL.grew ((Bl.refl _).drew)).fm | exact (hL.grew ((Bl.refl _).alloc _)).fm)⟩
        clear hK K
        (try simp only [Act.put]); (try simp only [List.setIfInBounds_toArray]); (try simp only [List.set_cons_succ]); (try simp only [List.set_cons_zero])
        refine wpAnyH_ready (rs := [12]) (by kernel_rfl) (by simp) ?_
        refine AllReadyH.cons rfl (fun K hK => ?_) AllReadyH.nil
        refine ap_int_step rfl rfl rfl (hL.own.alloc _) rfl (rd_new1 _ _ _) (by omega) (by have := hL.fm.size; simp; omega) ?_; intro S9 c9 wz ho9 hg9 hat9; replace hL := hL.app hxl ho9 hg9 hat9; clear ho9 hg9 hat9
        refine hK.out _ _ ?_ (fun hHeld => ?_)
        · (try dsimp only); exact ⟨HA.out _ _ (by first | exact hL.fm | exact (hL.grew ((Bl.refl _).drew)).fm | exact (hL.grew ((Bl.refl _).alloc _)).fm), HB.out _ _ (by first | exact hL.fm | exact (hL.grew ((Bl.refl _).drew)).fm | exact (hL.grew ((Bl.refl _).alloc _)).fm)⟩
        clear hK K
        (try simp only [Act.put]); (try simp only [List.setIfInBounds_toArray]); (try simp only [List.set_cons_succ]); (try simp only [List.set_cons_zero])
        refine held_take (i := 13) (d := 8) (v := ?_) rfl rfl (by kernel_rfl) (by kernel_rfl) (by kernel_rfl) (fun _ _ _ h => h) (Or.inl ⟨by rfl, ?_⟩) (by assumption) ?_
        rotate_left
        · (intro w hSw; (try dsimp only at hSw); go_simp; (try with_reducible rfl))
        (try simp only [List.set_cons_zero, List.set_cons_succ])
        refine wpAnyH_done (by kernel_rfl) ?_ _
        have hva1 := HA.out _ _ hL.fm
        have hvb1 := HB.out _ _ hL.fm
        go_wp2_with fail
        refine wp_region_held_drew (S := (fun w' => w'.cell? (ada.add k) = some (.int .i64 va) ∧ w'.cell? (adb.add k) = some (.int .i64 vb))) (by kernel_rfl) ?_ (fun hHeld => ?_)
        · (try dsimp only); exact ⟨HA.out _ _ (by first | exact hL.fm | exact (hL.grew ((Bl.refl _).drew)).fm | exact (hL.grew ((Bl.refl _).alloc _)).fm), HB.out _ _ (by first | exact hL.fm | exact (hL.grew ((Bl.refl _).drew)).fm | exact (hL.grew ((Bl.refl _).alloc _)).fm)⟩
        replace hL := hL.grew ((Bl.refl _).drew)
        clear hva1 hvb1
        refine held_take (i := 0) (d := 34) (v := ?_) rfl rfl (by kernel_rfl) (by kernel_rfl) (by kernel_rfl) (fun _ _ _ h => h) (Or.inl ⟨by rfl, ?_⟩) (by assumption) ?_
        rotate_left
        · (intro w hSw; (try dsimp only at hSw); go_simp; (try with_reducible rfl))
        (try simp only [List.set_cons_zero, List.set_cons_succ])
        refine held_take (i := 1) (d := 35) (v := ?_) rfl rfl (by kernel_rfl) (by kernel_rfl) (by kernel_rfl) (fun _ _ _ h => h) (Or.inl ⟨by rfl, ?_⟩) (by assumption) ?_
        rotate_left
        · (intro w hSw; (try dsimp only at hSw); go_simp; (try with_reducible rfl))
        (try simp only [List.set_cons_zero, List.set_cons_succ])
        refine held_take (i := 2) (d := 36) (v := ?_) rfl rfl (by kernel_rfl) (by kernel_rfl) (by kernel_rfl) (fun _ _ _ h => h) (Or.inl ⟨by rfl, ?_⟩) (by assumption) ?_
        rotate_left
        · (intro w hSw; (try dsimp only at hSw); go_simp; (try with_reducible rfl))
        (try simp only [List.set_cons_zero, List.set_cons_succ])
        refine held_take (i := 3) (d := 37) (v := ?_) rfl rfl (by kernel_rfl) (by kernel_rfl) (by kernel_rfl) (fun _ _ _ h => h) (Or.inl ⟨by rfl, ?_⟩) (by assumption) ?_
        rotate_left
        · (intro w hSw; (try dsimp only at hSw); go_simp; (try with_reducible rfl))
        (try simp only [List.set_cons_zero, List.set_cons_succ])
        refine held_take (i := 4) (d := 38) (v := ?_) rfl rfl (by kernel_rfl) (by kernel_rfl) (by kernel_rfl) (fun _ _ _ h => h) (Or.inl ⟨by rfl, ?_⟩) (by assumption) ?_
        rotate_left
        · (intro w hSw; (try dsimp only at hSw); go_simp; (try with_reducible rfl))
        (try simp only [List.set_cons_zero, List.set_cons_succ])
        refine held_take (i := 5) (d := 39) (v := ?_) rfl rfl (by kernel_rfl) (by kernel_rfl) (by kernel_rfl) (fun _ _ _ h => h) (Or.inl ⟨by rfl, ?_⟩) (by assumption) ?_
        rotate_left
        · (intro w hSw; (try dsimp only at hSw); go_simp; (try with_reducible rfl))
        (try simp only [List.set_cons_zero, List.set_cons_succ])
        refine held_take (i := 6) (d := 40) (v := ?_) rfl rfl (by kernel_rfl) (by kernel_rfl) (by kernel_rfl) (fun _ _ _ h => h) (Or.inl ⟨by rfl, ?_⟩) (by assumption) ?_
        rotate_left
        · (intro w hSw; (try dsimp only at hSw); go_simp; (try with_reducible rfl))
        (try simp only [List.set_cons_zero, List.set_cons_succ])
        refine held_take (i := 7) (d := 41) (v := ?_) rfl rfl (by kernel_rfl) (by kernel_rfl) (by kernel_rfl) (fun _ _ _ h => h) (Or.inl ⟨by rfl, ?_⟩) (by assumption) ?_
        rotate_left
        · (intro w hSw; (try dsimp only at hSw); go_simp; (try with_reducible rfl))
        (try simp only [List.set_cons_zero, List.set_cons_succ])
        refine held_take (i := 8) (d := 42) (v := ?_) rfl rfl (by kernel_rfl) (by kernel_rfl) (by kernel_rfl) (fun _ _ _ h => h) (Or.inl ⟨by rfl, ?_⟩) (by assumption) ?_
        rotate_left
        · (intro w hSw; (try dsimp only at hSw); go_simp; (try with_reducible rfl))
        (try simp only [List.set_cons_zero, List.set_cons_succ])
        refine wpAnyH_ready (rs := [9]) (by kernel_rfl) (by simp) ?_
        refine AllReadyH.cons rfl (fun K hK => ?_) AllReadyH.nil
        go_simp
        refine (mi_and hL.ms (by omega) _ _).mono ?_; rintro e wz ⟨A9, rfl, hm9, hf9⟩; replace hL := hL.step hm9 hf9; clear hm9 hf9
        go_wp2_with fail
        refine hK.out _ _ ?_ (fun hHeld => ?_)
        · (try dsimp only); exact ⟨HA.out _ _ (by first | exact hL.fm | exact (hL.grew ((Bl.refl _).drew)).fm | exact (hL.grew ((Bl.refl _).alloc _)).fm), HB.out _ _ (by first | exact hL.fm | exact (hL.grew ((Bl.refl _).drew)).fm | exact (hL.grew ((Bl.refl _).alloc _)).fm)⟩
        clear hK K
        (try simp only [Act.put]); (try simp only [List.setIfInBounds_toArray]); (try simp only [List.set_cons_succ]); (try simp only [List.set_cons_zero])
        refine held_take (i := 10) (d := 9) (v := ?_) rfl rfl (by kernel_rfl) (by kernel_rfl) (by kernel_rfl) (fun _ _ _ h => h) (Or.inl ⟨by rfl, ?_⟩) (by assumption) ?_
        rotate_left
        · (intro w hSw; (try dsimp only at hSw); go_simp; (try with_reducible rfl))
        (try simp only [List.set_cons_zero, List.set_cons_succ])
        refine wpAnyH_done (by kernel_rfl) ?_ _
        have hva1 := HA.out _ _ hL.fm
        have hvb1 := HB.out _ _ hL.fm
        go_wp2_with fail
        go_roundw
        case rel => exact ⟨k + 1, _, _, _, _, _, _, _, by omega, rfl, rfl, by go_num, by have := HN.out; omega, .inr ⟨by omega, by have := hnn.out; exact Int.not_lt.2 (this _)⟩, HS, hL⟩
        case measure => simp [intOf]; omega
      · have HS := Lib.hid (addS_s hSt.out hL.ms.len hea heb hk0)
        have hnn := Lib.hid hL.ms.nn
        have hki : ((k : Int) == 0) = false := by simp; omega
        clear hva hvb hLa hLb hSt hea heb hk0
        go_wp2_with (first
          | (go_at_call 188; refine (mi_xor hL.ms (by omega) _ _).mono ?_; rintro e wz ⟨A9, rfl, hm9, hf9⟩; replace hL := hL.step hm9 hf9; clear hm9 hf9; have hva2 := HA.out _ _ hL.fm; have hvb2 := HB.out _ _ hL.fm)
          | (go_at_call 187; refine (mi_and hL.ms (by omega) _ _).mono ?_; rintro e wz ⟨A9, rfl, hm9, hf9⟩; replace hL := hL.step hm9 hf9; clear hm9 hf9; have hva2 := HA.out _ _ hL.fm; have hvb2 := HB.out _ _ hL.fm)
          | (go_at_call 140; refine (mi_not hL.ms (by omega) _).mono ?_; rintro e wz ⟨A9, rfl, hm9, hf9⟩; replace hL := hL.step hm9 hf9; clear hm9 hf9; have hva2 := HA.out _ _ hL.fm; have hvb2 := HB.out _ _ hL.fm)
          | (at_builtin; refine ap_int rfl rfl rfl (hL.own.alloc _) rfl (rd_new1 _ _ _) (by omega) (by have := hL.fm.size; simp; omega) ?_; intro S9 c9 wz ho9 hg9 hat9; replace hL := hL.app hxl ho9 hg9 hat9; clear ho9 hg9 hat9; have hva2 := HA.out _ _ hL.fm; have hvb2 := HB.out _ _ hL.fm))
        go_roundw
        case rel => exact ⟨k + 1, _, _, _, _, _, _, _, by omega, rfl, rfl, by go_num, by have := HN.out; omega, .inr ⟨by omega, by have := hnn.out; exact Int.not_lt.2 (this _)⟩, HS, hL⟩
        case measure => simp [intOf]; omega
    · have ik : ¬ ((k : Int) < N) := by omega
      have hkn : k = N := by omega
      subst hkn
      have HS := hSt
      clear hLa hLb hSt
      go_wp2_with fail
      go_ret2
      exact ⟨A1, _, _, _, by rw [HS.out]; rfl, by rw [HS.out]; exact hL⟩
set_option maxRecDepth 20000 in
set_option maxHeartbeats 4000000 in
theorem impl_subtract {w : World} {X : Mx} {n : Nat} {g : List Gt} {A : Option Addr} (h : ME 117 X w n g A) (Sa Sb : Option Addr) (N ca cb : Nat) (la lb : List Int) (hLa : Lx w X.x A Sa N ca la) (hLb : Lx w X.x A Sb N cb lb) (hN : N ≤ 20) (hn : n ≤ 600) :
    Calls Tryz.prog 184 #[.pointer (some ⟨X.x, 0, none⟩), .slice Sa N ca, .slice Sb N cb] w (TupE 117 X w A (subS X.t la lb g N).1 N (subS X.t la lb g N).2.1 (subS X.t la lb g N).2.2) := by
  have hL0 := LE.made h
  have hxl := h.lt
  go_enter Tryz.func184, Tryz.ntmps184
  go_wp2_with fail
  go_loopw [8, 9, 17] (fun o cc i wr => ∃ (k n1 c : Nat) (cv : Int) (A1 S : Option Addr) (g1 : List Gt) (l : List Int), k ≤ N ∧ o = .slice S k c ∧ cc = .int .i64 cv ∧ i = .int .i64 (k : Nat) ∧ n1 ≤ n + 7 * k ∧ ((k = 0 ∧ cv < 0) ∨ (¬ k = 0 ∧ ¬ cv < 0)) ∧ Hid (subS X.t la lb g k = (g1, l, cv)) ∧ LE 117 X w wr A A1 n1 g1 S k c l) (fun _ _ i _ => N - (intOf i).toNat)
  case atStart => exact ⟨0, n, 0, -1, A, _, g, [], by omega, rfl, rfl, rfl, by omega, .inl ⟨rfl, by omega⟩, Lib.hid rfl, hL0⟩
  case round =>
    clear hL0
    obtain ⟨k, n1, c, cv, A1, S, g1, l, hk, rfl, rfl, rfl, hn1, hcv, hSt, hL⟩ := hrel
    by_cases hlt : k < N
    · have ik : (k : Int) < N := by omega
      obtain ⟨ada, va, rfl, hea, hva⟩ := hLa.at_ hlt
      obtain ⟨adb, vb, rfl, heb, hvb⟩ := hLb.at_ hlt
      have hva1 := hva _ _ hL.fm
      have hvb1 := hvb _ _ hL.fm
      have HN := Lib.hid hn1
      have HB := Lib.hid hvb
      have HA := Lib.hid hva
      rcases hcv with ⟨hk0, hc⟩ | ⟨hk0, hc⟩
      · have HS := Lib.hid (subS_0 hSt.out hL.ms.len hea heb hk0)
        have hnn := Lib.hid hL.ms.nn
        have hki : ((k : Int) == 0) = true := by simp; omega
        clear hva hvb hLa hLb hSt hea heb hk0
        go_wp2_with fail
        refine wp_region_held_drew (S := (fun w' => w'.cell? (ada.add k) = some (.int .i64 va) ∧ w'.cell? (adb.add k) = some (.int .i64 vb))) (by kernel_rfl) ?_ (fun hHeld => ?_)
        · (try dsimp only); exact ⟨HA.out _ _ (by first | exact hL.fm | exact (hL.grew ((Bl.refl _).drew)).fm | exact (hL.grew ((Bl.refl _).alloc _)).fm), HB.out _ _ (by first | exact hL.fm | exact (hL.grew ((Bl.refl _).drew)).fm | exact (hL.grew ((Bl.refl _).alloc _)).fm)⟩
        replace hL := hL.grew ((Bl.refl _).drew)
        clear hva1 hvb1
        refine held_take (i := 0) (d := 22) (v := ?_) rfl rfl (by kernel_rfl) (by kernel_rfl) (by kernel_rfl) (fun _ _ _ h => h) (Or.inl ⟨by rfl, ?_⟩) (by assumption) ?_
        rotate_left
        · (intro w hSw; (try dsimp only at hSw); go_simp; (try with_reducible rfl))
        (try simp only [List.set_cons_zero, List.set_cons_succ])
        refine held_take (i := 1) (d := 23) (v := ?_) rfl rfl (by kernel_rfl) (by kernel_rfl) (by kernel_rfl) (fun _ _ _ h => h) (Or.inl ⟨by rfl, ?_⟩) (by assumption) ?_
        rotate_left
        · (intro w hSw; (try dsimp only at hSw); go_simp; (try with_reducible rfl))
        (try simp only [List.set_cons_zero, List.set_cons_succ])
        refine held_take (i := 2) (d := 24) (v := ?_) rfl rfl (by kernel_rfl) (by kernel_rfl) (by kernel_rfl) (fun _ _ _ h => h) (Or.inl ⟨by rfl, ?_⟩) (by assumption) ?_
        rotate_left
        · (intro w hSw; (try dsimp only at hSw); go_simp; (try with_reducible rfl))
        (try simp only [List.set_cons_zero, List.set_cons_succ])
        refine held_take (i := 3) (d := 25) (v := ?_) rfl rfl (by kernel_rfl) (by kernel_rfl) (by kernel_rfl) (fun _ _ _ h => h) (Or.inl ⟨by rfl, ?_⟩) (by assumption) ?_
        rotate_left
        · (intro w hSw; (try dsimp only at hSw); go_simp; (try with_reducible rfl))
        (try simp only [List.set_cons_zero, List.set_cons_succ])
        refine held_take (i := 4) (d := 26) (v := ?_) rfl rfl (by kernel_rfl) (by kernel_rfl) (by kernel_rfl) (fun _ _ _ h => h) (Or.inl ⟨by rfl, ?_⟩) (by assumption) ?_
        rotate_left
        · (intro w hSw; (try dsimp only at hSw); go_simp; (try with_reducible rfl))
        (try simp only [List.set_cons_zero, List.set_cons_succ])
        refine held_take (i := 5) (d := 27) (v := ?_) rfl rfl (by kernel_rfl) (by kernel_rfl) (by kernel_rfl) (fun _ _ _ h => h) (Or.inl ⟨by rfl, ?_⟩) (by assumption) ?_
        rotate_left
        · (intro w hSw; (try dsimp only at hSw); go_simp; (try with_reducible rfl))
        (try simp only [List.set_cons_zero, List.set_cons_succ])
        refine held_take (i := 6) (d := 28) (v := ?_) rfl rfl (by kernel_rfl) (by kernel_rfl) (by kernel_rfl) (fun _ _ _ h => h) (Or.inl ⟨by rfl, ?_⟩) (by assumption) ?_
        rotate_left
        · (intro w hSw; (try dsimp only at hSw); go_simp; (try with_reducible rfl))
        (try simp only [List.set_cons_zero, List.set_cons_succ])
        refine held_take (i := 7) (d := 29) (v := ?_) rfl rfl (by kernel_rfl) (by kernel_rfl) (by kernel_rfl) (fun _ _ _ h => h) (Or.inl ⟨by rfl, ?_⟩) (by assumption) ?_
        rotate_left
        · (intro w hSw; (try dsimp only at hSw); go_simp; (try with_reducible rfl))
        (try simp only [List.set_cons_zero, List.set_cons_succ])
        refine held_take (i := 8) (d := 30) (v := ?_) rfl rfl (by kernel_rfl) (by kernel_rfl) (by kernel_rfl) (fun _ _ _ h => h) (Or.inl ⟨by rfl, ?_⟩) (by assumption) ?_
        rotate_left
        · (intro w hSw; (try dsimp only at hSw); go_simp; (try with_reducible rfl))
        (try simp only [List.set_cons_zero, List.set_cons_succ])
        refine held_take (i := 9) (d := 31) (v := ?_) rfl rfl (by kernel_rfl) (by kernel_rfl) (by kernel_rfl) (fun _ _ _ h => h) (Or.inl ⟨by rfl, ?_⟩) (by assumption) ?_
        rotate_left
        · (intro w hSw; (try dsimp only at hSw); go_simp; (try with_reducible rfl))
        (try simp only [List.set_cons_zero, List.set_cons_succ])
        refine wpAnyH_ready (rs := [10]) (by kernel_rfl) (by simp) ?_
        refine AllReadyH.cons rfl (fun K hK => ?_) AllReadyH.nil
        go_simp
        refine (mi_xor hL.ms (by omega) _ _).mono ?_; rintro e wz ⟨A9, rfl, hm9, hf9⟩; replace hL := hL.step hm9 hf9; clear hm9 hf9
        go_wp2_with fail
        refine hK.out _ _ ?_ (fun hHeld => ?_)
        · (try dsimp only); exact ⟨HA.out _ _ (by first | exact hL.fm | exact (hL.grew ((Bl.refl _).drew)).fm | exact (hL.grew ((Bl.refl _).alloc _)).fm), HB.out _ _ (by first | exact hL.fm | exact (hL.grew ((Bl.refl _).drew)).fm | exact (hL.grew ((Bl.refl _).alloc _)).fm)⟩
        clear hK K
        (try simp only [Act.put]); (try simp only [List.setIfInBounds_toArray]); (try simp only [List.set_cons_succ]); (try simp only [List.set_cons_zero])
        refine wpAnyH_ready (rs := [11]) (by kernel_rfl) (by simp) ?_
        refine AllReadyH.cons rfl (fun K hK => ?_) AllReadyH.nil
        go_simp
        refine hK.out _ _ ?_ (fun hHeld => ?_)
        · (try dsimp only); exact ⟨HA.out _ _ (by first | exact hL.fm | exact (hL.grew ((Bl.refl _).drew)).fm | exact (hL.grew ((Bl.refl _).alloc _)).fm), HB.out _ _ (by first | exact hL.fm | exact (hL.grew ((Bl.refl _).drew)).fm | exact (hL.grew ((Bl.refl _).alloc _)).fm)⟩
        clear hK K
        (try simp only [Act.put]); (try simp only [List.setIfInBounds_toArray]); (try simp only [List.set_cons_succ]); (try simp only [List.set_cons_zero])
        refine wpAnyH_ready (rs := [12]) (by kernel_rfl) (by simp) ?_
        refine AllReadyH.cons rfl (fun K hK => ?_) AllReadyH.nil
        refine ap_int_step rfl rfl rfl (hL.own.alloc _) rfl (rd_new1 _ _ _) (by omega) (by have := hL.fm.size; simp; omega) ?_; intro S9 c9 wz ho9 hg9 hat9; replace hL := hL.app hxl ho9 hg9 hat9; clear ho9 hg9 hat9
        refine hK.out _ _ ?_ (fun hHeld => ?_)
        · (try dsimp only); exact ⟨HA.out _ _ (by first | exact hL.fm | exact (hL.grew ((Bl.refl _).drew)).fm | exact (hL.grew ((Bl.refl _).alloc _)).fm), HB.out _ _ (by first | exact hL.fm | exact (hL.grew ((Bl.refl _).drew)).fm | exact (hL.grew ((Bl.refl _).alloc _)).fm)⟩
        clear hK K
        (try simp only [Act.put]); (try simp only [List.setIfInBounds_toArray]); (try simp only [List.set_cons_succ]); (try simp only [List.set_cons_zero])
        refine held_take (i := 13) (d := 8) (v := ?_) rfl rfl (by kernel_rfl) (by kernel_rfl) (by kernel_rfl) (fun _ _ _ h => h) (Or.inl ⟨by rfl, ?_⟩) (by assumption) ?_
        rotate_left
        · (intro w hSw; (try dsimp only at hSw); go_simp; (try with_reducible rfl))
        (try simp only [List.set_cons_zero, List.set_cons_succ])
        refine wpAnyH_done (by kernel_rfl) ?_ _
        have hva1 := HA.out _ _ hL.fm
        have hvb1 := HB.out _ _ hL.fm
        go_wp2_with fail
        refine wp_region_held_drew (S := (fun w' => w'.cell? (ada.add k) = some (.int .i64 va) ∧ w'.cell? (adb.add k) = some (.int .i64 vb))) (by kernel_rfl) ?_ (fun hHeld => ?_)
        · (try dsimp only); exact ⟨HA.out _ _ (by first | exact hL.fm | exact (hL.grew ((Bl.refl _).drew)).fm | exact (hL.grew ((Bl.refl _).alloc _)).fm), HB.out _ _ (by first | exact hL.fm | exact (hL.grew ((Bl.refl _).drew)).fm | exact (hL.grew ((Bl.refl _).alloc _)).fm)⟩
        replace hL := hL.grew ((Bl.refl _).drew)
        clear hva1 hvb1
        refine held_take (i := 0) (d := 35) (v := ?_) rfl rfl (by kernel_rfl) (by kernel_rfl) (by kernel_rfl) (fun _ _ _ h => h) (Or.inl ⟨by rfl, ?_⟩) (by assumption) ?_
        rotate_left
        · (intro w hSw; (try dsimp only at hSw); go_simp; (try with_reducible rfl))
        (try simp only [List.set_cons_zero, List.set_cons_succ])
        refine held_take (i := 1) (d := 36) (v := ?_) rfl rfl (by kernel_rfl) (by kernel_rfl) (by kernel_rfl) (fun _ _ _ h => h) (Or.inl ⟨by rfl, ?_⟩) (by assumption) ?_
        rotate_left
        · (intro w hSw; (try dsimp only at hSw); go_simp; (try with_reducible rfl))
        (try simp only [List.set_cons_zero, List.set_cons_succ])
        refine held_take (i := 2) (d := 37) (v := ?_) rfl rfl (by kernel_rfl) (by kernel_rfl) (by kernel_rfl) (fun _ _ _ h => h) (Or.inl ⟨by rfl, ?_⟩) (by assumption) ?_
        rotate_left
        · (intro w hSw; (try dsimp only at hSw); go_simp; (try with_reducible rfl))
        (try simp only [List.set_cons_zero, List.set_cons_succ])
        refine held_take (i := 3) (d := 38) (v := ?_) rfl rfl (by kernel_rfl) (by kernel_rfl) (by kernel_rfl) (fun _ _ _ h => h) (Or.inl ⟨by rfl, ?_⟩) (by assumption) ?_
        rotate_left
        · (intro w hSw; (try dsimp only at hSw); go_simp; (try with_reducible rfl))
        (try simp only [List.set_cons_zero, List.set_cons_succ])
        refine held_take (i := 4) (d := 39) (v := ?_) rfl rfl (by kernel_rfl) (by kernel_rfl) (by kernel_rfl) (fun _ _ _ h => h) (Or.inl ⟨by rfl, ?_⟩) (by assumption) ?_
        rotate_left
        · (intro w hSw; (try dsimp only at hSw); go_simp; (try with_reducible rfl))
        (try simp only [List.set_cons_zero, List.set_cons_succ])
        refine held_take (i := 5) (d := 40) (v := ?_) rfl rfl (by kernel_rfl) (by kernel_rfl) (by kernel_rfl) (fun _ _ _ h => h) (Or.inl ⟨by rfl, ?_⟩) (by assumption) ?_
        rotate_left
        · (intro w hSw; (try dsimp only at hSw); go_simp; (try with_reducible rfl))
        (try simp only [List.set_cons_zero, List.set_cons_succ])
        refine held_take (i := 7) (d := 42) (v := ?_) rfl rfl (by kernel_rfl) (by kernel_rfl) (by kernel_rfl) (fun _ _ _ h => h) (Or.inl ⟨by rfl, ?_⟩) (by assumption) ?_
        rotate_left
        · (intro w hSw; (try dsimp only at hSw); go_simp; (try with_reducible rfl))
        (try simp only [List.set_cons_zero, List.set_cons_succ])
        refine held_take (i := 8) (d := 43) (v := ?_) rfl rfl (by kernel_rfl) (by kernel_rfl) (by kernel_rfl) (fun _ _ _ h => h) (Or.inl ⟨by rfl, ?_⟩) (by assumption) ?_
        rotate_left
        · (intro w hSw; (try dsimp only at hSw); go_simp; (try with_reducible rfl))
        (try simp only [List.set_cons_zero, List.set_cons_succ])
        refine held_take (i := 9) (d := 44) (v := ?_) rfl rfl (by kernel_rfl) (by kernel_rfl) (by kernel_rfl) (fun _ _ _ h => h) (Or.inl ⟨by rfl, ?_⟩) (by assumption) ?_
        rotate_left
        · (intro w hSw; (try dsimp only at hSw); go_simp; (try with_reducible rfl))
        (try simp only [List.set_cons_zero, List.set_cons_succ])
        refine held_take (i := 10) (d := 45) (v := ?_) rfl rfl (by kernel_rfl) (by kernel_rfl) (by kernel_rfl) (fun _ _ _ h => h) (Or.inl ⟨by rfl, ?_⟩) (by assumption) ?_
        rotate_left
        · (intro w hSw; (try dsimp only at hSw); go_simp; (try with_reducible rfl))
        (try simp only [List.set_cons_zero, List.set_cons_succ])
        refine wpAnyH_ready (rs := [6]) (by kernel_rfl) (by simp) ?_
        refine AllReadyH.cons rfl (fun K hK => ?_) AllReadyH.nil
        go_simp
        refine (mi_not hL.ms (by omega) _).mono ?_; rintro e wz ⟨A9, rfl, hm9, hf9⟩; replace hL := hL.step hm9 hf9; clear hm9 hf9
        go_wp2_with fail
        refine hK.out _ _ ?_ (fun hHeld => ?_)
        · (try dsimp only); exact ⟨HA.out _ _ (by first | exact hL.fm | exact (hL.grew ((Bl.refl _).drew)).fm | exact (hL.grew ((Bl.refl _).alloc _)).fm), HB.out _ _ (by first | exact hL.fm | exact (hL.grew ((Bl.refl _).drew)).fm | exact (hL.grew ((Bl.refl _).alloc _)).fm)⟩
        clear hK K
        (try simp only [Act.put]); (try simp only [List.setIfInBounds_toArray]); (try simp only [List.set_cons_succ]); (try simp only [List.set_cons_zero])
        refine wpAnyH_ready (rs := [11]) (by kernel_rfl) (by simp) ?_
        refine AllReadyH.cons rfl (fun K hK => ?_) AllReadyH.nil
        go_simp
        refine (mi_and hL.ms (by omega) _ _).mono ?_; rintro e wz ⟨A9, rfl, hm9, hf9⟩; replace hL := hL.step hm9 hf9; clear hm9 hf9
        go_wp2_with fail
        refine hK.out _ _ ?_ (fun hHeld => ?_)
        · (try dsimp only); exact ⟨HA.out _ _ (by first | exact hL.fm | exact (hL.grew ((Bl.refl _).drew)).fm | exact (hL.grew ((Bl.refl _).alloc _)).fm), HB.out _ _ (by first | exact hL.fm | exact (hL.grew ((Bl.refl _).drew)).fm | exact (hL.grew ((Bl.refl _).alloc _)).fm)⟩
        clear hK K
        (try simp only [Act.put]); (try simp only [List.setIfInBounds_toArray]); (try simp only [List.set_cons_succ]); (try simp only [List.set_cons_zero])
        refine held_take (i := 12) (d := 9) (v := ?_) rfl rfl (by kernel_rfl) (by kernel_rfl) (by kernel_rfl) (fun _ _ _ h => h) (Or.inl ⟨by rfl, ?_⟩) (by assumption) ?_
        rotate_left
        · (intro w hSw; (try dsimp only at hSw); go_simp; (try with_reducible rfl))
        (try simp only [List.set_cons_zero, List.set_cons_succ])
        refine wpAnyH_done (by kernel_rfl) ?_ _
        have hva1 := HA.out _ _ hL.fm
        have hvb1 := HB.out _ _ hL.fm
        go_wp2_with fail
        go_roundw
        case rel => exact ⟨k + 1, _, _, _, _, _, _, _, by omega, rfl, rfl, by go_num, by have := HN.out; omega, .inr ⟨by omega, by have := hnn.out; exact Int.not_lt.2 (this _)⟩, HS, hL⟩
        case measure => simp [intOf]; omega
      · have HS := Lib.hid (subS_s hSt.out hL.ms.len hea heb hk0)
        have hnn := Lib.hid hL.ms.nn
        have hki : ((k : Int) == 0) = false := by simp; omega
        clear hva hvb hLa hLb hSt hea heb hk0
        go_wp2_with (first
          | (go_at_call 188; refine (mi_xor hL.ms (by omega) _ _).mono ?_; rintro e wz ⟨A9, rfl, hm9, hf9⟩; replace hL := hL.step hm9 hf9; clear hm9 hf9; have hva2 := HA.out _ _ hL.fm; have hvb2 := HB.out _ _ hL.fm)
          | (go_at_call 187; refine (mi_and hL.ms (by omega) _ _).mono ?_; rintro e wz ⟨A9, rfl, hm9, hf9⟩; replace hL := hL.step hm9 hf9; clear hm9 hf9; have hva2 := HA.out _ _ hL.fm; have hvb2 := HB.out _ _ hL.fm)
          | (go_at_call 140; refine (mi_not hL.ms (by omega) _).mono ?_; rintro e wz ⟨A9, rfl, hm9, hf9⟩; replace hL := hL.step hm9 hf9; clear hm9 hf9; have hva2 := HA.out _ _ hL.fm; have hvb2 := HB.out _ _ hL.fm)
          | (at_builtin; refine ap_int rfl rfl rfl (hL.own.alloc _) rfl (rd_new1 _ _ _) (by omega) (by have := hL.fm.size; simp; omega) ?_; intro S9 c9 wz ho9 hg9 hat9; replace hL := hL.app hxl ho9 hg9 hat9; clear ho9 hg9 hat9; have hva2 := HA.out _ _ hL.fm; have hvb2 := HB.out _ _ hL.fm))
        go_roundw
        case rel => exact ⟨k + 1, _, _, _, _, _, _, _, by omega, rfl, rfl, by go_num, by have := HN.out; omega, .inr ⟨by omega, by have := hnn.out; exact Int.not_lt.2 (this _)⟩, HS, hL⟩
        case measure => simp [intOf]; omega
    · have ik : ¬ ((k : Int) < N) := by omega
      have hkn : k = N := by omega
      subst hkn
      have HS := hSt
      clear hLa hLb hSt
      go_wp2_with fail
      go_ret2
      exact ⟨A1, _, _, _, by rw [HS.out]; rfl, by rw [HS.out]; exact hL⟩
set_option maxRecDepth 20000 in
set_option maxHeartbeats 4000000 in
theorem impl_choose {w : World} {X : Mx} {n : Nat} {g : List Gt} {A : Option Addr} (h : ME 117 X w n g A) (s : Int) (Sa Sb : Option Addr) (N ca cb : Nat) (la lb : List Int) (hLa : Lx w X.x A Sa N ca la) (hLb : Lx w X.x A Sb N cb lb) (hN : N ≤ 20) (hn : n ≤ 600) :
    Calls Tryz.prog 141 #[.pointer (some ⟨X.x, 0, none⟩), .int .i64 s, .slice Sa N ca, .slice Sb N cb] w (GadE 117 X w A (pickS X.t s la lb g N).1 N (pickS X.t s la lb g N).2) := by
  have hL0 := LE.made h
  have hxl := h.lt
  go_enter Tryz.func141, Tryz.ntmps141
  go_wp2_with fail
  go_loopw [9, 15] (fun o i wr => ∃ (k n1 c : Nat) (A1 S : Option Addr) (g1 : List Gt) (l : List Int), k ≤ N ∧ o = .slice S k c ∧ i = .int .i64 (k : Nat) ∧ n1 ≤ n + 7 * k ∧ Hid (pickS X.t s la lb g k = (g1, l)) ∧ LE 117 X w wr A A1 n1 g1 S k c l) (fun _ i _ => N - (intOf i).toNat)
  case atStart => exact ⟨0, n, 0, A, _, g, [], by omega, rfl, rfl, by omega, Lib.hid rfl, hL0⟩
  case round =>
    clear hL0
    obtain ⟨k, n1, c, A1, S, g1, l, hk, rfl, rfl, hn1, hSt, hL⟩ := hrel
    by_cases hlt : k < N
    · have ik : (k : Int) < N := by omega
      obtain ⟨ada, va, rfl, hea, hva⟩ := hLa.at_ hlt
      obtain ⟨adb, vb, rfl, heb, hvb⟩ := hLb.at_ hlt
      have hva1 := hva _ _ hL.fm
      have hvb1 := hvb _ _ hL.fm
      have HN := Lib.hid hn1
      have HB := Lib.hid hvb
      have HA := Lib.hid hva
      have HS := Lib.hid (pickS_s hSt.out hL.ms.len hea heb)
      clear hva hvb hLa hLb hSt hea heb
      go_wp2_with fail
      refine wp_region_held_drew (S := (fun w' => w'.cell? (ada.add k) = some (.int .i64 va) ∧ w'.cell? (adb.add k) = some (.int .i64 vb))) (by kernel_rfl) ?_ (fun hHeld => ?_)
      · (try dsimp only); exact ⟨HA.out _ _ (by first | exact hL.fm | exact (hL.grew ((Bl.refl _).drew)).fm | exact (hL.grew ((Bl.refl _).alloc _)).fm), HB.out _ _ (by first | exact hL.fm | exact (hL.grew ((Bl.refl _).drew)).fm | exact (hL.grew ((Bl.refl _).alloc _)).fm)⟩
      replace hL := hL.grew ((Bl.refl _).drew)
      clear hva1 hvb1
      refine held_take (i := 0) (d := 18) (v := ?_) rfl rfl (by kernel_rfl) (by kernel_rfl) (by kernel_rfl) (fun _ _ _ h => h) (Or.inl ⟨by rfl, ?_⟩) (by assumption) ?_
      rotate_left
      · (intro w hSw; (try dsimp only at hSw); go_simp; (try with_reducible rfl))
      (try simp only [List.set_cons_zero, List.set_cons_succ])
      refine held_take (i := 1) (d := 19) (v := ?_) rfl rfl (by kernel_rfl) (by kernel_rfl) (by kernel_rfl) (fun _ _ _ h => h) (Or.inl ⟨by rfl, ?_⟩) (by assumption) ?_
      rotate_left
      · (intro w hSw; (try dsimp only at hSw); go_simp; (try with_reducible rfl))
      (try simp only [List.set_cons_zero, List.set_cons_succ])
      refine held_take (i := 2) (d := 20) (v := ?_) rfl rfl (by kernel_rfl) (by kernel_rfl) (by kernel_rfl) (fun _ _ _ h => h) (Or.inl ⟨by rfl, ?_⟩) (by assumption) ?_
      rotate_left
      · (intro w hSw; (try dsimp only at hSw); go_simp; (try with_reducible rfl))
      (try simp only [List.set_cons_zero, List.set_cons_succ])
      refine held_take (i := 3) (d := 21) (v := ?_) rfl rfl (by kernel_rfl) (by kernel_rfl) (by kernel_rfl) (fun _ _ _ h => h) (Or.inl ⟨by rfl, ?_⟩) (by assumption) ?_
      rotate_left
      · (intro w hSw; (try dsimp only at hSw); go_simp; (try with_reducible rfl))
      (try simp only [List.set_cons_zero, List.set_cons_succ])
      refine held_take (i := 4) (d := 22) (v := ?_) rfl rfl (by kernel_rfl) (by kernel_rfl) (by kernel_rfl) (fun _ _ _ h => h) (Or.inl ⟨by rfl, ?_⟩) (by assumption) ?_
      rotate_left
      · (intro w hSw; (try dsimp only at hSw); go_simp; (try with_reducible rfl))
      (try simp only [List.set_cons_zero, List.set_cons_succ])
      refine held_take (i := 5) (d := 23) (v := ?_) rfl rfl (by kernel_rfl) (by kernel_rfl) (by kernel_rfl) (fun _ _ _ h => h) (Or.inl ⟨by rfl, ?_⟩) (by assumption) ?_
      rotate_left
      · (intro w hSw; (try dsimp only at hSw); go_simp; (try with_reducible rfl))
      (try simp only [List.set_cons_zero, List.set_cons_succ])
      refine held_take (i := 6) (d := 24) (v := ?_) rfl rfl (by kernel_rfl) (by kernel_rfl) (by kernel_rfl) (fun _ _ _ h => h) (Or.inl ⟨by rfl, ?_⟩) (by assumption) ?_
      rotate_left
      · (intro w hSw; (try dsimp only at hSw); go_simp; (try with_reducible rfl))
      (try simp only [List.set_cons_zero, List.set_cons_succ])
      refine held_take (i := 7) (d := 25) (v := ?_) rfl rfl (by kernel_rfl) (by kernel_rfl) (by kernel_rfl) (fun _ _ _ h => h) (Or.inl ⟨by rfl, ?_⟩) (by assumption) ?_
      rotate_left
      · (intro w hSw; (try dsimp only at hSw); go_simp; (try with_reducible rfl))
      (try simp only [List.set_cons_zero, List.set_cons_succ])
      refine held_take (i := 8) (d := 26) (v := ?_) rfl rfl (by kernel_rfl) (by kernel_rfl) (by kernel_rfl) (fun _ _ _ h => h) (Or.inl ⟨by rfl, ?_⟩) (by assumption) ?_
      rotate_left
      · (intro w hSw; (try dsimp only at hSw); go_simp; (try with_reducible rfl))
      (try simp only [List.set_cons_zero, List.set_cons_succ])
      refine held_take (i := 9) (d := 27) (v := ?_) rfl rfl (by kernel_rfl) (by kernel_rfl) (by kernel_rfl) (fun _ _ _ h => h) (Or.inl ⟨by rfl, ?_⟩) (by assumption) ?_
      rotate_left
      · (intro w hSw; (try dsimp only at hSw); go_simp; (try with_reducible rfl))
      (try simp only [List.set_cons_zero, List.set_cons_succ])
      refine held_take (i := 10) (d := 28) (v := ?_) rfl rfl (by kernel_rfl) (by kernel_rfl) (by kernel_rfl) (fun _ _ _ h => h) (Or.inl ⟨by rfl, ?_⟩) (by assumption) ?_
      rotate_left
      · (intro w hSw; (try dsimp only at hSw); go_simp; (try with_reducible rfl))
      (try simp only [List.set_cons_zero, List.set_cons_succ])
      refine wpAnyH_ready (rs := [11]) (by kernel_rfl) (by simp) ?_
      refine AllReadyH.cons rfl (fun K hK => ?_) AllReadyH.nil
      go_simp
      refine (mi_xor hL.ms (by omega) _ _).mono ?_; rintro e wz ⟨A9, rfl, hm9, hf9⟩; replace hL := hL.step hm9 hf9; clear hm9 hf9
      go_wp2_with fail
      refine hK.out _ _ ?_ (fun hHeld => ?_)
      · (try dsimp only); exact ⟨HA.out _ _ (by first | exact hL.fm | exact (hL.grew ((Bl.refl _).drew)).fm | exact (hL.grew ((Bl.refl _).alloc _)).fm), HB.out _ _ (by first | exact hL.fm | exact (hL.grew ((Bl.refl _).drew)).fm | exact (hL.grew ((Bl.refl _).alloc _)).fm)⟩
      clear hK K
      (try simp only [Act.put]); (try simp only [List.setIfInBounds_toArray]); (try simp only [List.set_cons_succ]); (try simp only [List.set_cons_zero])
      refine wpAnyH_ready (rs := [12]) (by kernel_rfl) (by simp) ?_
      refine AllReadyH.cons rfl (fun K hK => ?_) AllReadyH.nil
      go_simp
      refine (mi_and hL.ms (by omega) _ _).mono ?_; rintro e wz ⟨A9, rfl, hm9, hf9⟩; replace hL := hL.step hm9 hf9; clear hm9 hf9
      go_wp2_with fail
      refine hK.out _ _ ?_ (fun hHeld => ?_)
      · (try dsimp only); exact ⟨HA.out _ _ (by first | exact hL.fm | exact (hL.grew ((Bl.refl _).drew)).fm | exact (hL.grew ((Bl.refl _).alloc _)).fm), HB.out _ _ (by first | exact hL.fm | exact (hL.grew ((Bl.refl _).drew)).fm | exact (hL.grew ((Bl.refl _).alloc _)).fm)⟩
      clear hK K
      (try simp only [Act.put]); (try simp only [List.setIfInBounds_toArray]); (try simp only [List.set_cons_succ]); (try simp only [List.set_cons_zero])
      refine held_take (i := 13) (d := 11) (v := ?_) rfl rfl (by kernel_rfl) (by kernel_rfl) (by kernel_rfl) (fun _ _ _ h => h) (Or.inl ⟨by rfl, ?_⟩) (by assumption) ?_
      rotate_left
      · (intro w hSw; (try dsimp only at hSw); go_simp; (try with_reducible rfl))
      (try simp only [List.set_cons_zero, List.set_cons_succ])
      refine wpAnyH_done (by kernel_rfl) ?_ _
      have hva1 := HA.out _ _ hL.fm
      have hvb1 := HB.out _ _ hL.fm
      go_wp2_with (first
        | (go_at_call 188; refine (mi_xor hL.ms (by omega) _ _).mono ?_; rintro e wz ⟨A9, rfl, hm9, hf9⟩; replace hL := hL.step hm9 hf9; clear hm9 hf9; have hva2 := HA.out _ _ hL.fm; have hvb2 := HB.out _ _ hL.fm)
        | (go_at_call 187; refine (mi_and hL.ms (by omega) _ _).mono ?_; rintro e wz ⟨A9, rfl, hm9, hf9⟩; replace hL := hL.step hm9 hf9; clear hm9 hf9; have hva2 := HA.out _ _ hL.fm; have hvb2 := HB.out _ _ hL.fm)
        | (go_at_call 140; refine (mi_not hL.ms (by omega) _).mono ?_; rintro e wz ⟨A9, rfl, hm9, hf9⟩; replace hL := hL.step hm9 hf9; clear hm9 hf9; have hva2 := HA.out _ _ hL.fm; have hvb2 := HB.out _ _ hL.fm)
        | (at_builtin; refine ap_int rfl rfl rfl (hL.own.alloc _) rfl (rd_new1 _ _ _) (by omega) (by have := hL.fm.size; simp; omega) ?_; intro S9 c9 wz ho9 hg9 hat9; replace hL := hL.app hxl ho9 hg9 hat9; clear ho9 hg9 hat9; have hva2 := HA.out _ _ hL.fm; have hvb2 := HB.out _ _ hL.fm))
      go_roundw
      case rel => exact ⟨k + 1, _, _, _, _, _, _, by omega, rfl, by go_num, by have := HN.out; omega, HS, hL⟩
      case measure => simp [intOf]; omega
    · have ik : ¬ ((k : Int) < N) := by omega
      have hkn : k = N := by omega
      subst hkn
      have HS := hSt
      clear hLa hLb hSt
      go_wp2_with fail
      go_ret
      exact ⟨A1, _, _, _, rfl, by rw [HS.out]; exact hL⟩
set_option maxRecDepth 20000 in
set_option maxHeartbeats 4000000 in
theorem impl_equal {w : World} {X : Mx} {n : Nat} {g : List Gt} {A : Option Addr} (h : ME 117 X w n g A) (Sa Sb : Option Addr) (N ca cb : Nat) (la lb : List Int) (hLa : Lx w X.x A Sa N ca la) (hLb : Lx w X.x A Sb N cb lb) (hN : N ≤ 20) (hN0 : 0 < N) (hn : n ≤ 600) :
    Calls Tryz.prog 185 #[.pointer (some ⟨X.x, 0, none⟩), .slice Sa N ca, .slice Sb N cb] w (WirE 117 X w A (eqS X.t la lb g N).1 (eqS X.t la lb g N).2) := by
  have hL0 := LE.made h
  have hxl := h.lt
  go_enter Tryz.func185, Tryz.ntmps185
  go_wp2_with fail
  go_loopw [7, 15] (fun o i wr => ∃ (k n1 c : Nat) (A1 S : Option Addr) (g1 : List Gt) (l : List Int), k ≤ N ∧ o = .slice S k c ∧ i = .int .i64 (k : Nat) ∧ n1 ≤ n + 4 * k ∧ Hid (eqA X.t la lb g k = (g1, l)) ∧ LE 117 X w wr A A1 n1 g1 S k c l) (fun _ i _ => N - (intOf i).toNat)
  case atStart => exact ⟨0, n, 0, A, _, g, [], by omega, rfl, rfl, by omega, Lib.hid rfl, hL0⟩
  case round =>
    clear hL0
    obtain ⟨k, n1, c, A1, S, g1, l, hk, rfl, rfl, hn1, hSt, hL⟩ := hrel
    by_cases hlt : k < N
    · have ik : (k : Int) < N := by omega
      obtain ⟨ada, va, rfl, hea, hva⟩ := hLa.at_ hlt
      obtain ⟨adb, vb, rfl, heb, hvb⟩ := hLb.at_ hlt
      have hva1 := hva _ _ hL.fm
      have hvb1 := hvb _ _ hL.fm
      have HN := Lib.hid hn1
      have HB := Lib.hid hvb
      have HA := Lib.hid hva
      have HS := Lib.hid (eqA_s hSt.out hL.ms.len hea heb)
      clear hva hvb hLa hLb hSt hea heb
      go_wp2_with fail
      refine wp_region_held_drew (S := (fun w' => w'.cell? (ada.add k) = some (.int .i64 va) ∧ w'.cell? (adb.add k) = some (.int .i64 vb))) (by kernel_rfl) ?_ (fun hHeld => ?_)
      · (try dsimp only); exact ⟨HA.out _ _ (by first | exact hL.fm | exact (hL.grew ((Bl.refl _).drew)).fm | exact (hL.grew ((Bl.refl _).alloc _)).fm), HB.out _ _ (by first | exact hL.fm | exact (hL.grew ((Bl.refl _).drew)).fm | exact (hL.grew ((Bl.refl _).alloc _)).fm)⟩
      replace hL := hL.grew ((Bl.refl _).drew)
      clear hva1 hvb1
      refine held_take (i := 0) (d := 18) (v := ?_) rfl rfl (by kernel_rfl) (by kernel_rfl) (by kernel_rfl) (fun _ _ _ h => h) (Or.inl ⟨by rfl, ?_⟩) (by assumption) ?_
      rotate_left
      · (intro w hSw; (try dsimp only at hSw); go_simp; (try with_reducible rfl))
      (try simp only [List.set_cons_zero, List.set_cons_succ])
      refine held_take (i := 1) (d := 19) (v := ?_) rfl rfl (by kernel_rfl) (by kernel_rfl) (by kernel_rfl) (fun _ _ _ h => h) (Or.inl ⟨by rfl, ?_⟩) (by assumption) ?_
      rotate_left
      · (intro w hSw; (try dsimp only at hSw); go_simp; (try with_reducible rfl))
      (try simp only [List.set_cons_zero, List.set_cons_succ])
      refine held_take (i := 2) (d := 20) (v := ?_) rfl rfl (by kernel_rfl) (by kernel_rfl) (by kernel_rfl) (fun _ _ _ h => h) (Or.inl ⟨by rfl, ?_⟩) (by assumption) ?_
      rotate_left
      · (intro w hSw; (try dsimp only at hSw); go_simp; (try with_reducible rfl))
      (try simp only [List.set_cons_zero, List.set_cons_succ])
      refine held_take (i := 3) (d := 21) (v := ?_) rfl rfl (by kernel_rfl) (by kernel_rfl) (by kernel_rfl) (fun _ _ _ h => h) (Or.inl ⟨by rfl, ?_⟩) (by assumption) ?_
      rotate_left
      · (intro w hSw; (try dsimp only at hSw); go_simp; (try with_reducible rfl))
      (try simp only [List.set_cons_zero, List.set_cons_succ])
      refine held_take (i := 4) (d := 22) (v := ?_) rfl rfl (by kernel_rfl) (by kernel_rfl) (by kernel_rfl) (fun _ _ _ h => h) (Or.inl ⟨by rfl, ?_⟩) (by assumption) ?_
      rotate_left
      · (intro w hSw; (try dsimp only at hSw); go_simp; (try with_reducible rfl))
      (try simp only [List.set_cons_zero, List.set_cons_succ])
      refine held_take (i := 5) (d := 23) (v := ?_) rfl rfl (by kernel_rfl) (by kernel_rfl) (by kernel_rfl) (fun _ _ _ h => h) (Or.inl ⟨by rfl, ?_⟩) (by assumption) ?_
      rotate_left
      · (intro w hSw; (try dsimp only at hSw); go_simp; (try with_reducible rfl))
      (try simp only [List.set_cons_zero, List.set_cons_succ])
      refine held_take (i := 6) (d := 24) (v := ?_) rfl rfl (by kernel_rfl) (by kernel_rfl) (by kernel_rfl) (fun _ _ _ h => h) (Or.inl ⟨by rfl, ?_⟩) (by assumption) ?_
      rotate_left
      · (intro w hSw; (try dsimp only at hSw); go_simp; (try with_reducible rfl))
      (try simp only [List.set_cons_zero, List.set_cons_succ])
      refine held_take (i := 7) (d := 25) (v := ?_) rfl rfl (by kernel_rfl) (by kernel_rfl) (by kernel_rfl) (fun _ _ _ h => h) (Or.inl ⟨by rfl, ?_⟩) (by assumption) ?_
      rotate_left
      · (intro w hSw; (try dsimp only at hSw); go_simp; (try with_reducible rfl))
      (try simp only [List.set_cons_zero, List.set_cons_succ])
      refine held_take (i := 8) (d := 26) (v := ?_) rfl rfl (by kernel_rfl) (by kernel_rfl) (by kernel_rfl) (fun _ _ _ h => h) (Or.inl ⟨by rfl, ?_⟩) (by assumption) ?_
      rotate_left
      · (intro w hSw; (try dsimp only at hSw); go_simp; (try with_reducible rfl))
      (try simp only [List.set_cons_zero, List.set_cons_succ])
      refine held_take (i := 9) (d := 27) (v := ?_) rfl rfl (by kernel_rfl) (by kernel_rfl) (by kernel_rfl) (fun _ _ _ h => h) (Or.inl ⟨by rfl, ?_⟩) (by assumption) ?_
      rotate_left
      · (intro w hSw; (try dsimp only at hSw); go_simp; (try with_reducible rfl))
      (try simp only [List.set_cons_zero, List.set_cons_succ])
      refine held_take (i := 10) (d := 28) (v := ?_) rfl rfl (by kernel_rfl) (by kernel_rfl) (by kernel_rfl) (fun _ _ _ h => h) (Or.inl ⟨by rfl, ?_⟩) (by assumption) ?_
      rotate_left
      · (intro w hSw; (try dsimp only at hSw); go_simp; (try with_reducible rfl))
      (try simp only [List.set_cons_zero, List.set_cons_succ])
      refine wpAnyH_ready (rs := [11]) (by kernel_rfl) (by simp) ?_
      refine AllReadyH.cons rfl (fun K hK => ?_) AllReadyH.nil
      go_simp
      refine (mi_xor hL.ms (by omega) _ _).mono ?_; rintro e wz ⟨A9, rfl, hm9, hf9⟩; replace hL := hL.step hm9 hf9; clear hm9 hf9
      go_wp2_with fail
      refine hK.out _ _ ?_ (fun hHeld => ?_)
      · (try dsimp only); exact ⟨HA.out _ _ (by first | exact hL.fm | exact (hL.grew ((Bl.refl _).drew)).fm | exact (hL.grew ((Bl.refl _).alloc _)).fm), HB.out _ _ (by first | exact hL.fm | exact (hL.grew ((Bl.refl _).drew)).fm | exact (hL.grew ((Bl.refl _).alloc _)).fm)⟩
      clear hK K
      (try simp only [Act.put]); (try simp only [List.setIfInBounds_toArray]); (try simp only [List.set_cons_succ]); (try simp only [List.set_cons_zero])
      refine wpAnyH_ready (rs := [12]) (by kernel_rfl) (by simp) ?_
      refine AllReadyH.cons rfl (fun K hK => ?_) AllReadyH.nil
      go_simp
      refine (mi_not hL.ms (by omega) _).mono ?_; rintro e wz ⟨A9, rfl, hm9, hf9⟩; replace hL := hL.step hm9 hf9; clear hm9 hf9
      go_wp2_with fail
      refine hK.out _ _ ?_ (fun hHeld => ?_)
      · (try dsimp only); exact ⟨HA.out _ _ (by first | exact hL.fm | exact (hL.grew ((Bl.refl _).drew)).fm | exact (hL.grew ((Bl.refl _).alloc _)).fm), HB.out _ _ (by first | exact hL.fm | exact (hL.grew ((Bl.refl _).drew)).fm | exact (hL.grew ((Bl.refl _).alloc _)).fm)⟩
      clear hK K
      (try simp only [Act.put]); (try simp only [List.setIfInBounds_toArray]); (try simp only [List.set_cons_succ]); (try simp only [List.set_cons_zero])
      refine wpAnyH_ready (rs := [13]) (by kernel_rfl) (by simp) ?_
      refine AllReadyH.cons rfl (fun K hK => ?_) AllReadyH.nil
      go_simp
      refine hK.out _ _ ?_ (fun hHeld => ?_)
      · (try dsimp only); exact ⟨HA.out _ _ (by first | exact hL.fm | exact (hL.grew ((Bl.refl _).drew)).fm | exact (hL.grew ((Bl.refl _).alloc _)).fm), HB.out _ _ (by first | exact hL.fm | exact (hL.grew ((Bl.refl _).drew)).fm | exact (hL.grew ((Bl.refl _).alloc _)).fm)⟩
      clear hK K
      (try simp only [Act.put]); (try simp only [List.setIfInBounds_toArray]); (try simp only [List.set_cons_succ]); (try simp only [List.set_cons_zero])
      refine wpAnyH_ready (rs := [14]) (by kernel_rfl) (by simp) ?_
      refine AllReadyH.cons rfl (fun K hK => ?_) AllReadyH.nil
      refine ap_int_step rfl rfl rfl (hL.own.alloc _) rfl (rd_new1 _ _ _) (by omega) (by have := hL.fm.size; simp; omega) ?_; intro S9 c9 wz ho9 hg9 hat9; replace hL := hL.app hxl ho9 hg9 hat9; clear ho9 hg9 hat9
      refine hK.out _ _ ?_ (fun hHeld => ?_)
      · (try dsimp only); exact ⟨HA.out _ _ (by first | exact hL.fm | exact (hL.grew ((Bl.refl _).drew)).fm | exact (hL.grew ((Bl.refl _).alloc _)).fm), HB.out _ _ (by first | exact hL.fm | exact (hL.grew ((Bl.refl _).drew)).fm | exact (hL.grew ((Bl.refl _).alloc _)).fm)⟩
      clear hK K
      (try simp only [Act.put]); (try simp only [List.setIfInBounds_toArray]); (try simp only [List.set_cons_succ]); (try simp only [List.set_cons_zero])
      refine held_take (i := 15) (d := 7) (v := ?_) rfl rfl (by kernel_rfl) (by kernel_rfl) (by kernel_rfl) (fun _ _ _ h => h) (Or.inl ⟨by rfl, ?_⟩) (by assumption) ?_
      rotate_left
      · (intro w hSw; (try dsimp only at hSw); go_simp; (try with_reducible rfl))
      (try simp only [List.set_cons_zero, List.set_cons_succ])
      refine wpAnyH_done (by kernel_rfl) ?_ _
      have hva1 := HA.out _ _ hL.fm
      have hvb1 := HB.out _ _ hL.fm
      go_wp2_with fail
      go_roundw
      case rel => exact ⟨k + 1, _, _, _, _, _, _, by omega, rfl, by go_num, by have := HN.out; omega, HS, hL⟩
      case measure => simp [intOf]; omega
    · have ik : ¬ ((k : Int) < N) := by omega
      have hkn : k = N := by omega
      subst hkn
      have HS := hSt
      clear hLa hLb hSt
      obtain ⟨ga, rfl, hg1, hg2, hgc, hgf⟩ := hL.own.form hN0
      have hlen := hL.own.length
      obtain ⟨v0, rest, rfl⟩ : ∃ v0 rest, l = v0 :: rest := by cases l with | nil => simp at hlen; omega | cons v0 rest => exact ⟨v0, rest, rfl⟩
      have hv0 := hgc 0 v0 rfl
      have hle := hL.own.rd.le
      have i1 : (1 : Int) ≤ k := by omega
      have i2 : (1 : Int) ≤ c := by omega
      have i3 : (k : Int) ≤ c := by omega
      have iT : (((k : Int) - 1).toNat : Int) = k - 1 := by omega
      have hLx := hL.lx
      have hcell := Lib.hid (fun j (hj : j < k) => hLx.at_ hj)
      have hfm := hL.fm
      have hms := hL.ms
      have HN := Lib.hid hn1
      obtain ⟨L, hLL⟩ : ∃ L, v0 :: rest = L := ⟨_, rfl⟩
      have HL0 := Lib.hid (show L.getD 0 0 = v0 by rw [← hLL]; rfl)
      rw [hLL] at HS hcell
      clear hLx hL hgc hgf hg1 hg2 hLL hlen
      by_cases hc1 : c = 1
      · subst hc1
        have hk1 : k = 1 := by omega
        subst hk1
        go_wp2_with fail
        go_loopw [9, 40] (fun o i wx => o = .int .i64 v0 ∧ i = .int .i64 0 ∧ wx = wr) (fun _ _ _ => 0)
        case atStart => exact ⟨rfl, rfl, rfl⟩
        case round =>
          obtain ⟨rfl, rfl, rfl⟩ := hrel
          go_wp2_with fail
          go_ret
          exact ⟨A1, _, ret_int (by unfold eqS; rw [HS.out]; exact HL0.out.symm), by unfold eqS; rw [HS.out]; exact hms, hfm⟩
      · go_wp2_with fail
        go_loopw [9, 40] (fun o i wx => ∃ (j n2 : Nat) (A2 : Option Addr) (v : Int) (g2 : List Gt), j ≤ k - 1 ∧ o = .int .i64 v ∧ i = .int .i64 (j : Nat) ∧ n2 ≤ n1 + j ∧ Hid (eqB X.t L g1 j = (g2, v)) ∧ ME 117 X wx n2 g2 A2 ∧ Fm wr wx X.x A1 A2) (fun _ i _ => k - 1 - (intOf i).toNat)
        case atStart => exact ⟨0, n1, A1, v0, g1, by omega, rfl, rfl, by omega, Lib.hid (by unfold eqB; rw [HL0.out]), hms, Fm.refl _ _ _⟩
        case round =>
          obtain ⟨j, n2, A2, v, g2, hj, rfl, rfl, hn2, hB2, hms2, hfm2⟩ := hrel
          by_cases hlt2 : j < k - 1
          · have ij : (j : Int) < ((k - 1 : Nat) : Int) := by omega
            obtain ⟨ad, vj, e, hej, hvj⟩ := hcell.out (1 + j) (by omega)
            injection e with e
            subst e
            have hvj1 := hvj _ _ hfm2
            rw [show (⟨ga, 0, none⟩ : Addr).add (1 + j) = ⟨ga, 1 + j, none⟩ by unfold Addr.add; rw [if_neg (by omega)]; simp] at hvj1
            have HS2 := Lib.hid (eqB_s hB2.out hms2.len hej)
            clear hvj hej
            have HN2 := Lib.hid hn2
            go_wp2_with (go_at_call 187; refine (mi_and hms2 (by have := HN.out; omega) _ _).mono ?_; rintro e wz ⟨A9, rfl, hm9, hf9⟩)
            go_roundw
            case rel => exact ⟨j + 1, _, _, _, _, by omega, rfl, by go_num, by have := HN2.out; omega, HS2, hm9, hfm2.trans hf9⟩
            case measure => simp [intOf]; omega
          · have ij : ¬ ((j : Int) < ((k - 1 : Nat) : Int)) := by omega
            have hjk : j = k - 1 := by omega
            go_wp2_with fail
            go_ret
            exact ⟨A2, _, ret_int (by unfold eqS; rw [HS.out, ← hjk, hB2.out]), by unfold eqS; rw [HS.out, ← hjk, hB2.out]; exact hms2, hfm.trans hfm2⟩
set_option maxRecDepth 20000 in
set_option maxHeartbeats 8000000 in
theorem impl_product {w : World} {X : Mx} {n : Nat} {g : List Gt} {A : Option Addr} (h : ME 117 X w n g A) (Sa Sb : Option Addr) (N ca cb : Nat) (la lb : List Int) (hLa : Lx w X.x A Sa N ca la) (hLb : Lx w X.x A Sb N cb lb) (hN : N ≤ 5) (hN0 : 0 < N) (hn : n ≤ 300) :
    Calls Tryz.prog 186 #[.pointer (some ⟨X.x, 0, none⟩), .slice Sa N ca, .slice Sb N cb] w fun e w' => ∃ A' n1 S m c, e = .returned (.slice S m c) ∧ LE 117 X w w' A A' n1 (mulS X.t la lb N g N).1 S m c (mulS X.t la lb N g N).2 := by
  have hxl := h.lt
  have hBl : ∀ k, X.B.map (·.block) = some k → k < w.heap.size := fun k e => (h.os.blk k e).2
  have hL0 := LE.made h
  go_enter Tryz.func186, Tryz.ntmps186
  go_wp2_with fail
  go_loopw [7, 18] (fun o i wr => ∃ (k nq cS : Nat) (Aq S : Option Addr) (gq : List Gt) (ls : List Int) (ms : Nat), k ≤ N ∧ o = .slice S ms cS ∧ i = .int .i64 (k : Nat) ∧ nq ≤ n + 42 * k ∧ Hid (mulS X.t la lb N g k = (gq, ls)) ∧ ((k = 0 ∧ ms = 0) ∨ (0 < k ∧ ms = (if k = 1 then N else N + k))) ∧ LE 117 X w wr A Aq nq gq S ms cS ls) (fun _ i _ => N - (intOf i).toNat)
  case atStart => exact ⟨0, n, 0, A, _, g, [], 0, by omega, rfl, rfl, by omega, Lib.hid rfl, .inl ⟨rfl, rfl⟩, hL0⟩
  case round =>
    clear hL0
    obtain ⟨k, nq, cS, Aq, S, gq, ls, ms, hk, rfl, rfl, hnq, HMq, hms, hL⟩ := hrel
    by_cases hlt : k < N
    · have ik : (k : Int) < N := by omega
      obtain ⟨adb, vb, rfl, heb, hvb⟩ := hLb.at_ hlt
      have HEB := Lib.hid heb
      have HB := Lib.hid hvb
      have HNQ := Lib.hid hnq
      have HLN := Lib.hid hL.ms.len
      have HMS := Lib.hid hms
      clear heb hvb hLb hms
      by_cases hk0 : k = 0
      · have HK0 := Lib.hid hk0
        have ik0 : ¬ (0 : Int) < k := by omega
        have ie1 : ((k : Int) == 1) = false := by simp; omega
        have ie0 : ((k : Int) == 0) = true := by simp; omega
        clear hk0
        have hmq := hL.ms
        have hfq := hL.fm
        have hvbz := HB.out _ _ hfq
        clear hL
        go_wp2_with fail
        have hm1 := hmq.keep ((Bl.refl wr).alloc (.cells #[] 3))
        have hf1 := hfq.grew ((Bl.refl wr).alloc (.cells #[] 3)) (Nat.le_of_lt hmq.lt)
        have hL0 := LE.made hm1
        rw [show (wr.alloc (.cells #[] 3)).heap.size = wr.heap.size + 1 by simp] at hL0
        generalize wr.alloc (.cells #[] 3) = w1 at hm1 hf1 hL0 ⊢
        clear hfq hmq
        go_loopw [10, 38] (fun o i wy => ∃ (j n2 c : Nat) (A2 S : Option Addr) (g2 : List Gt) (l : List Int), j ≤ N ∧ o = .slice S j c ∧ i = .int .i64 j ∧ n2 ≤ nq + j ∧ Hid (andS X.t la vb gq j = (g2, l)) ∧ LE 117 X w1 wy Aq A2 n2 g2 S j c l) (fun _ i _ => N - (intOf i).toNat)
        case atStart => exact ⟨0, nq, 0, Aq, _, _, [], by omega, rfl, rfl, by omega, Lib.hid rfl, hL0⟩
        case round =>
          clear hL0
          obtain ⟨j, n2, c, A2, S2, g2, l, hj, rfl, rfl, hn2, hSj, hL⟩ := hrel
          have hfw := hf1.trans hL.fm
          by_cases hjlt : j < N
          · have ij : (j : Int) < N := by omega
            obtain ⟨ada, va, rfl, hea, hva⟩ := hLa.at_ hjlt
            have hva1 := hva _ _ hfw
            have hvb1 := HB.out _ _ hfw
            have HN := Lib.hid hn2
            have HS2 := Lib.hid (andS_s hSj.out hL.ms.len hea)
            have hxz := hm1.lt
            clear hva hea hSj hvbz hLa
            go_wp2_with (first | (go_at_call 187; refine (mi_and hL.ms (by omega) _ _).mono ?_; rintro e wz ⟨A9, rfl, hm9, hf9⟩; replace hL := hL.step hm9 hf9; clear hm9 hf9) | (at_builtin; refine ap_int rfl rfl rfl (hL.own.alloc _) rfl (rd_new1 _ _ _) (by omega) (by have := hL.fm.size; simp; omega) ?_; intro S9 c9 wz ho9 hg9 hat9; replace hL := hL.app hxz ho9 hg9 hat9; clear ho9 hg9 hat9))
            go_roundw
            case rel => exact ⟨j + 1, _, _, _, _, _, _, by omega, rfl, by go_num, by have := HN.out; omega, HS2, hL⟩
            case measure => simp [intOf]; omega
          · have ij : ¬ ((j : Int) < N) := by omega
            have hjn : j = N := by omega
            subst hjn
            have HN := Lib.hid hn2
            have HM := Lib.hid (mulS_0 HMq.out HEB.out HK0.out hSj.out)
            have hk1 := HK0.out
            have HMS2 := Lib.hid (show j = (if k + 1 = 1 then j else j + (k + 1)) by rw [if_pos (by omega)])
            clear hSj hk1
            go_wp2_with fail
            go_roundw
            case rel => exact ⟨k + 1, n2, c, A2, S2, g2, l, _, by omega, rfl, by go_num, by have := HN.out; have := HNQ.out; omega, HM, .inr ⟨by omega, HMS2.out⟩, ⟨hL.ms, hfw, hL.own.mono (by have := hf1.size; omega), hL.ap, hBl⟩⟩
            case measure => simp [intOf]; omega
      · have hmsE : ms = (if k = 1 then N else N + k) := by rcases HMS.out with h | h; omega; exact h.2
        have hmk : k < ms ∧ N ≤ ms ∧ ms ≤ 10 := by rw [hmsE]; split <;> omega
        obtain ⟨ga, rfl, hg1, hg2, hgc, hgf⟩ := hL.own.form (by omega)
        have hle := hL.own.rd.le
        have ik0 : (0 : Int) < k := by omega
        have ie0 : ((k : Int) == 0) = false := by simp; omega
        have i2 : (k : Int) ≤ ms := by omega
        have i3 : (ms : Int) ≤ cS := by omega
        have i4 : ¬ cS = k := by omega
        have i5 : (k : Int) ≤ cS := by omega
        clear hgc hgf hg1 hg2
        by_cases hk1 : k = 1
        · have ie1 : ((k : Int) == 1) = true := by simp; omega
          have HMN := Lib.hid (show ms = N by rw [hmsE, if_pos hk1])
          have HK1 := Lib.hid hk1
          clear hmsE hk1
          have hmq := hL.ms
          have hfq := hL.fm
          have hSx := hL.lx
          have hCut := hL.own.rd.cut_ (k := k) (by omega) (by omega) (by omega)
          have hxq := hmq.lt
          clear hL
          have iN : (ms : Int) - k = ((ms - k : Nat) : Int) := by omega
          have iC : (cS : Int) - k = ((cS - k : Nat) : Int) := by omega
          have iT1 : ((ms : Int) - k).toNat = ms - k := by omega
          have iT2 : ((cS : Int) - k).toNat = cS - k := by omega
          go_wp2_with fail
          refine (with_ints (some ⟨ga, k, none⟩) none (ms - k) (cS - k) 0 0 (ls.drop k) [] _ (hCut.keep ((Bl.refl _).alloc _)) (RdI.nil _) (by omega) (by omega)).mono ?_
          rintro e w1 ⟨R, cR, rfl, hoR, hb1⟩
          rw [List.append_nil] at hoR
          have hb1' := ((Bl.refl wr).alloc (.cells #[] 3)).call hb1
          have hLr := hmq.own hb1' (hoR.mono (Nat.le_of_lt (by simp)))
          have hcR := hoR.rd.le
          clear hCut hmq hoR hb1 hb1'
          go_wp2_with (first
            | (go_at_call 182; refine (mi_zero hLr.ms (by omega)).mono ?_; rintro e wz ⟨A9, rfl, hm9, hf9⟩; replace hLr := hLr.step hm9 hf9; clear hm9 hf9)
            | (at_builtin; refine ap_int rfl rfl rfl (hLr.own.alloc _) rfl (rd_new1 _ _ _) (by omega) (by have := hLr.fm.size; simp; omega) ?_; intro S9 c9 wz ho9 hg9 hat9; replace hLr := hLr.app hxq ho9 hg9 hat9; clear ho9 hg9 hat9))
          have hRx := hLr.lx
          have hmz := hLr.ms
          have hfz := hfq.trans hLr.fm
          have hSz := hSx.fm hLr.fm
          have hNr : (ms - k + 0 + 1) = N := by have := HMN.out; have := HK1.out; omega
          have hLaz := (hLa.fm hfz).keep ((Bl.refl _).alloc (.cells #[] 3))
          have hvbz := HB.out _ _ hfz
          have HNR := Lib.hid hNr
          have HNR2 := Lib.hid (show ms - k + 1 = N by omega)
          clear hLr hNr hSx
          have hL0 := LE.made hmz
          go_loopw [10, 38] (fun o i wy => ∃ (j n2 c : Nat) (A2 S : Option Addr) (g2 : List Gt) (l : List Int), j ≤ N ∧ o = .slice S j c ∧ i = .int .i64 j ∧ n2 ≤ nq + 1 + 1 + j ∧ Hid (andS X.t la vb (gq ++ [⟨3, 0, 0⟩] ++ [⟨2, wn X.t nq, 0⟩]) j = (g2, l)) ∧ LE 117 X wz wy A9 A2 n2 g2 S j c l) (fun _ i _ => N - (intOf i).toNat)
          case atStart => exact ⟨0, nq + 1 + 1, 0, A9, _, _, [], by omega, rfl, rfl, by omega, Lib.hid rfl, hL0⟩
          case round =>
            clear hL0
            obtain ⟨j, n2, c, A2, S2, g2, l, hj, rfl, rfl, hn2, hSj, hL⟩ := hrel
            have hfw := hfz.trans hL.fm
            by_cases hjlt : j < N
            · have ij : (j : Int) < N := by omega
              obtain ⟨ada, va, rfl, hea, hva⟩ := hLa.at_ hjlt
              have hva1 := hva _ _ hfw
              have hvb1 := HB.out _ _ hfw
              have HN := Lib.hid hn2
              have HS2 := Lib.hid (andS_s hSj.out hL.ms.len hea)
              clear hva hLaz hea hSj hvbz hLa hfz hfq
              have hxz := hmz.lt
              go_wp2_with (first | (go_at_call 187; refine (mi_and hL.ms (by omega) _ _).mono ?_; rintro e wz ⟨A9, rfl, hm9, hf9⟩; replace hL := hL.step hm9 hf9; clear hm9 hf9) | (at_builtin; refine ap_int rfl rfl rfl (hL.own.alloc _) rfl (rd_new1 _ _ _) (by omega) (by have := hL.fm.size; simp; omega) ?_; intro S9 c9 wz ho9 hg9 hat9; replace hL := hL.app hxz ho9 hg9 hat9; clear ho9 hg9 hat9))
              go_roundw
              case rel => exact ⟨j + 1, _, _, _, _, _, _, by omega, rfl, by go_num, by have := HN.out; omega, HS2, hL⟩
              case measure => simp [intOf]; omega
            · have ij : ¬ ((j : Int) < N) := by omega
              have hjn : j = N := by omega
              subst hjn
              have HN := Lib.hid hn2
              have hRl := hRx.fm hL.fm
              have hSl := hSz.fm hL.fm
              have hOl := hL.lx
              have hml := hL.ms
              have hn2b : n2 ≤ 600 := by omega
              have HSJ := Lib.hid hSj.out
              clear hL hRx hSz hmz hfz hfq hvbz hLaz hSj
              rw [HNR.out] at hRl
              go_wp2_with (go_at_call 183; (try rw [HNR.out]); (try rw [HNR2.out]); refine (impl_add hml S9 S2 j c9 c (ls.drop k ++ [wn X.t (nq + 1)]) l hRl hOl (by omega) hn2b).mono ?_; rintro e w3 ⟨A3, n3, S3, c3, rfl, hL3⟩)
              obtain ⟨⟨g3, ld, cv⟩, HD⟩ : ∃ p, addS X.t (ls.drop k ++ [wn X.t (nq + 1)]) l g2 j = p := ⟨_, rfl⟩
              rw [HD] at hL3
              dsimp only at hL3
              have HN3 := Lib.hid (show n3 ≤ n2 + 7 * j by have := addS_len HD; rw [hL3.ms.len, hml.len] at this; exact this)
              have HM := Lib.hid (mulS_1 HMq.out HLN.out HEB.out HK1.out HSJ.out HD)
              have HCV := Lib.hid (show (addS X.t (ls.drop k ++ [wn X.t (nq + 1)]) l g2 j).2.2 = cv by rw [HD])
              have hS3 := hSl.fm hL3.fm
              have hf3 := hfw.trans hL3.fm
              have hD3 := hL3.own.rd
              have hm3 := hL3.ms
              have hc3 := hD3.le
              clear hL3 hSl hRl hOl hml hfw HD HSJ
              (try rw [HCV.out])
              go_wp2_with fail
              refine (with_ints (some ⟨ga, 0, none⟩) none k cS 0 0 (ls.take k) [] _ (hS3.rd.take_ (by omega)) (RdI.nil _) (by omega) (by omega)).mono ?_
              rintro e w4 ⟨P4, c4, rfl, ho4, hb4⟩
              rw [List.append_nil] at ho4
              have hz4 := hb4.size
              go_wp2_with (at_builtin; refine ap_int rfl rfl rfl ho4 rfl (hD3.keep hb4) (by omega) (by omega) ?_; intro P5 c5 w5 ho5 hg5 hat5)
              have hb5 := hb4.grown hg5 (fun q hq => (ho4.blk q hq).1)
              have hz5 := hb5.size
              clear ho4 hg5 hat5 hb4
              refine (with_ints P5 (some ⟨w5.heap.size, 0, none⟩) (k + 0 + j) c5 1 1 (ls.take k ++ ld) [cv] _ (ho5.rd.keep ((Bl.refl _).alloc _)) (rd_new1 _ _ _) (by omega) (by omega)).mono ?_
              rintro e w6 ⟨P6, c6, rfl, ho6, hb6⟩
              have hb6' := (hb5.alloc (.cells #[.int .i64 cv] 3)).call hb6
              have hL6 := hm3.own hb6' (ho6.mono (by simp; omega))
              have HMS3 := Lib.hid (show k + 0 + j + 1 = (if k + 1 = 1 then j else j + (k + 1)) by rw [if_neg (by omega)]; omega)
              clear hm3 ho6 ho5 hb6 hb5 hb6' hD3 hS3
              go_wp2_with fail
              go_roundw
              case rel => exact ⟨k + 1, n3, c6, A3, P6, g3, _, _, by omega, rfl, by go_num, by have := HN.out; have := HN3.out; omega, HM, .inr ⟨by omega, HMS3.out⟩, ⟨hL6.ms, hf3.trans hL6.fm, hL6.own.mono (by have := hf3.size; omega), hL6.ap, hBl⟩⟩
              case measure => simp [intOf]; omega
        · have ie1 : ((k : Int) == 1) = false := by simp; omega
          have HMN := Lib.hid (show ms = N + k by rw [hmsE, if_neg hk1])
          have HK1 := Lib.hid hk1
          clear hmsE hk1
          have hmq := hL.ms
          have hfq := hL.fm
          have hSx := hL.lx
          have hCut := hL.own.rd.cut_ (k := k) (by omega) (by omega) (by omega)
          have hxq := hmq.lt
          clear hL
          have iN : (ms : Int) - k = ((ms - k : Nat) : Int) := by omega
          have iC : (cS : Int) - k = ((cS - k : Nat) : Int) := by omega
          have iT1 : ((ms : Int) - k).toNat = ms - k := by omega
          have iT2 : ((cS : Int) - k).toNat = cS - k := by omega
          go_wp2_with fail
          refine (with_ints (some ⟨ga, k, none⟩) none (ms - k) (cS - k) 0 0 (ls.drop k) [] _ (hCut.keep ((Bl.refl _).alloc _)) (RdI.nil _) (by omega) (by omega)).mono ?_
          rintro e w1 ⟨R, cR, rfl, hoR, hb1⟩
          rw [List.append_nil] at hoR
          have hb1' := ((Bl.refl wr).alloc (.cells #[] 3)).call hb1
          have hLr := hmq.own hb1' (hoR.mono (Nat.le_of_lt (by simp)))
          have hcR := hoR.rd.le
          clear hCut hmq hoR hb1 hb1'
          go_wp2_with fail
          have hRx := hLr.lx
          have hmz := hLr.ms
          have hfz := hfq.trans hLr.fm
          have hSz := hSx.fm hLr.fm
          have hNr : (ms - k + 0) = N := by have := HMN.out; have := HK1.out; omega
          have hLaz := (hLa.fm hfz).keep ((Bl.refl _).alloc (.cells #[] 3))
          have hvbz := HB.out _ _ hfz
          have HNR := Lib.hid hNr
          have HNR2 := Lib.hid (show ms - k = N by omega)
          clear hLr hNr hSx
          have hL0 := LE.made hmz
          go_loopw [10, 38] (fun o i wy => ∃ (j n2 c : Nat) (A2 S : Option Addr) (g2 : List Gt) (l : List Int), j ≤ N ∧ o = .slice S j c ∧ i = .int .i64 j ∧ n2 ≤ nq + j ∧ Hid (andS X.t la vb (gq) j = (g2, l)) ∧ LE 117 X w1 wy Aq A2 n2 g2 S j c l) (fun _ i _ => N - (intOf i).toNat)
          case atStart => exact ⟨0, nq, 0, Aq, _, _, [], by omega, rfl, rfl, by omega, Lib.hid rfl, hL0⟩
          case round =>
            clear hL0
            obtain ⟨j, n2, c, A2, S2, g2, l, hj, rfl, rfl, hn2, hSj, hL⟩ := hrel
            have hfw := hfz.trans hL.fm
            by_cases hjlt : j < N
            · have ij : (j : Int) < N := by omega
              obtain ⟨ada, va, rfl, hea, hva⟩ := hLa.at_ hjlt
              have hva1 := hva _ _ hfw
              have hvb1 := HB.out _ _ hfw
              have HN := Lib.hid hn2
              have HS2 := Lib.hid (andS_s hSj.out hL.ms.len hea)
              clear hva hLaz hea hSj hvbz hLa hfz hfq
              have hxz := hmz.lt
              go_wp2_with (first | (go_at_call 187; refine (mi_and hL.ms (by omega) _ _).mono ?_; rintro e wz ⟨A9, rfl, hm9, hf9⟩; replace hL := hL.step hm9 hf9; clear hm9 hf9) | (at_builtin; refine ap_int rfl rfl rfl (hL.own.alloc _) rfl (rd_new1 _ _ _) (by omega) (by have := hL.fm.size; simp; omega) ?_; intro S9 c9 wz ho9 hg9 hat9; replace hL := hL.app hxz ho9 hg9 hat9; clear ho9 hg9 hat9))
              go_roundw
              case rel => exact ⟨j + 1, _, _, _, _, _, _, by omega, rfl, by go_num, by have := HN.out; omega, HS2, hL⟩
              case measure => simp [intOf]; omega
            · have ij : ¬ ((j : Int) < N) := by omega
              have hjn : j = N := by omega
              subst hjn
              have HN := Lib.hid hn2
              have hRl := hRx.fm hL.fm
              have hSl := hSz.fm hL.fm
              have hOl := hL.lx
              have hml := hL.ms
              have hn2b : n2 ≤ 600 := by omega
              have HSJ := Lib.hid hSj.out
              clear hL hRx hSz hmz hfz hfq hvbz hLaz hSj
              rw [HNR.out] at hRl
              go_wp2_with (go_at_call 183; (try rw [HNR.out]); (try rw [HNR2.out]); refine (impl_add hml R S2 j cR c (ls.drop k) l hRl hOl (by omega) hn2b).mono ?_; rintro e w3 ⟨A3, n3, S3, c3, rfl, hL3⟩)
              obtain ⟨⟨g3, ld, cv⟩, HD⟩ : ∃ p, addS X.t (ls.drop k) l g2 j = p := ⟨_, rfl⟩
              rw [HD] at hL3
              dsimp only at hL3
              have HN3 := Lib.hid (show n3 ≤ n2 + 7 * j by have := addS_len HD; rw [hL3.ms.len, hml.len] at this; exact this)
              have HM := Lib.hid (mulS_s HMq.out HEB.out (by have := HK1.out; omega) HSJ.out HD)
              have HCV := Lib.hid (show (addS X.t (ls.drop k) l g2 j).2.2 = cv by rw [HD])
              have hS3 := hSl.fm hL3.fm
              have hf3 := hfw.trans hL3.fm
              have hD3 := hL3.own.rd
              have hm3 := hL3.ms
              have hc3 := hD3.le
              clear hL3 hSl hRl hOl hml hfw HD HSJ
              (try rw [HCV.out])
              go_wp2_with fail
              refine (with_ints (some ⟨ga, 0, none⟩) none k cS 0 0 (ls.take k) [] _ (hS3.rd.take_ (by omega)) (RdI.nil _) (by omega) (by omega)).mono ?_
              rintro e w4 ⟨P4, c4, rfl, ho4, hb4⟩
              rw [List.append_nil] at ho4
              have hz4 := hb4.size
              go_wp2_with (at_builtin; refine ap_int rfl rfl rfl ho4 rfl (hD3.keep hb4) (by omega) (by omega) ?_; intro P5 c5 w5 ho5 hg5 hat5)
              have hb5 := hb4.grown hg5 (fun q hq => (ho4.blk q hq).1)
              have hz5 := hb5.size
              clear ho4 hg5 hat5 hb4
              refine (with_ints P5 (some ⟨w5.heap.size, 0, none⟩) (k + 0 + j) c5 1 1 (ls.take k ++ ld) [cv] _ (ho5.rd.keep ((Bl.refl _).alloc _)) (rd_new1 _ _ _) (by omega) (by omega)).mono ?_
              rintro e w6 ⟨P6, c6, rfl, ho6, hb6⟩
              have hb6' := (hb5.alloc (.cells #[.int .i64 cv] 3)).call hb6
              have hL6 := hm3.own hb6' (ho6.mono (by simp; omega))
              have HMS3 := Lib.hid (show k + 0 + j + 1 = (if k + 1 = 1 then j else j + (k + 1)) by rw [if_neg (by omega)]; omega)
              clear hm3 ho6 ho5 hb6 hb5 hb6' hD3 hS3
              go_wp2_with fail
              go_roundw
              case rel => exact ⟨k + 1, n3, c6, A3, P6, g3, _, _, by omega, rfl, by go_num, by have := HN.out; have := HN3.out; omega, HM, .inr ⟨by omega, HMS3.out⟩, ⟨hL6.ms, hf3.trans hL6.fm, hL6.own.mono (by have := hf3.size; omega), hL6.ap, hBl⟩⟩
              case measure => simp [intOf]; omega
    · have ik : ¬ ((k : Int) < N) := by omega
      have hkn : k = N := by omega
      subst hkn
      go_wp2_with fail
      go_ret
      exact ⟨_, _, _, _, _, rfl, by rw [HMq.out]; exact hL⟩
end Go.Proofs.YtjggecbaladiiaaGreatDoor
