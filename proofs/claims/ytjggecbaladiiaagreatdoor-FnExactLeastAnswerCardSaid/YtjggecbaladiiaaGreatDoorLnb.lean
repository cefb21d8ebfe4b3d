/- Contracts of sums, of the numbers of bits and of texts of numbers, on both sides.
   Conditions: short rows of bits; small numbers. -/
import Derived.Test.YtjggecbaladiiaaGreatDoorLna
import Derived.Test.YtjggecbaladiiaaGreatDoorShf
namespace Go.Proofs.YtjggecbaladiiaaGreatDoor
open Go.RowKit
set_option linter.unusedVariables false
theorem or_fin : ∀ i, i < 10 → ∀ n, n < 2 ^ i → bits .or .i64 ((n : Nat) : Int) (wrap64 (1 * 2 ^ i)) = ((n + 2 ^ i : Nat) : Int) ∧ bits .or .i64 ((n : Nat) : Int) (wrap64 (0 * 2 ^ i)) = ((n : Nat) : Int) := by decide +kernel
theorem or_sh {k : Nat} {S x : Int} (hk : k < 10) (hS : 0 ≤ S ∧ S ≤ 2 ^ k - 1) (hx : x = 0 ∨ x = 1) : bits .or .i64 S (wrap64 (x * 2 ^ k)) = S + x * 2 ^ k := by
  obtain ⟨n, rfl⟩ : ∃ n : Nat, S = n := ⟨S.toNat, by omega⟩
  have hn : n < 2 ^ k := by
    have : ((n : Nat) : Int) < ((2 ^ k : Nat) : Int) := by push_cast; omega
    exact Int.ofNat_lt.1 this
  obtain ⟨h1, h2⟩ := or_fin k hk n hn
  rcases hx with rfl | rfl
  · rw [h2]; simp
  · rw [h1]; push_cast; simp
theorem nmL_10 {l : List Int} (h : ∀ b ∈ l, b = 0 ∨ b = 1) (hl : l.length ≤ 10) : 0 ≤ nmL l ∧ nmL l ≤ 1023 := by
  have h1 := nmL_bd h
  have h2 : (2 : Int) ^ l.length ≤ 2 ^ 10 := by
    have := Nat.pow_le_pow_right (n := 2) (by decide) hl
    exact_mod_cast this
  omega
/-- The sum of a row of small numbers. -/
theorem sum_bd2 {l : List Int} (hb : allR l 0 1000 = true) : ∀ k, 0 ≤ (l.take k).sum ∧ (l.take k).sum ≤ 1000 * k := by
  intro k
  induction k with
  | zero => simp
  | succ k ih =>
    rw [List.take_add_one]
    rcases hx : l[k]? with _ | x
    · simp; omega
    · have := inR_iff.1 (List.all_eq_true.1 hb x (List.mem_of_getElem? hx))
      simp; omega
set_option maxHeartbeats 1000000 in
theorem lb_sumOf (A : Option Addr) (n c : Nat) (l : List Int) (w : World) (h : RdI w A n c l) (hn : n ≤ 1000) (hb : allR l 0 1000 = true) :
    Calls Tryz.prog 56 #[.slice A n c] w fun e w' => e = .returned (.int .i64 l.sum) ∧ w = w' := by
  obtain ⟨hle1, hle2⟩ := h.le
  have hl := Lib.hid h.length
  have HB := Lib.hid (sum_bd2 hb)
  clear hb
  go_enter Tryz.func56, Tryz.ntmps56
  go_wp2
  go_loop [3, 8] (fun o i => ∃ k : Nat, k ≤ n ∧ i = .int .i64 k ∧ o = .int .i64 (l.take k).sum) (fun _ i => n - (intOf i).toNat)
  case atStart => exact ⟨0, by omega, rfl, by simp⟩
  case round =>
    obtain ⟨k, hk, rfl, rfl⟩ := hrel
    by_cases hlt : k < n
    · obtain ⟨ad, x, rfl, hadb, hx, hcell⟩ := h.at_ hlt
      have HS := Lib.hid (show (l.take (k + 1)).sum = (l.take k).sum + x by rw [List.take_add_one, hx]; simp)
      have h1 := HB.out k
      have h2 := HB.out (k + 1)
      rw [HS.out] at h2
      clear hx
      generalize (l.take k).sum = S at h1 h2 HS
      go_wp2_with fail
      go_round
      case rel => exact ⟨k + 1, by omega, by go_num, by rw [HS.out]⟩
      case measure => simp [intOf]; omega
    · obtain rfl : k = n := by omega
      have HT := Lib.hid (show l.take k = l from List.take_of_length_le (by rw [hl.out]; omega))
      go_wp2_with fail
      go_ret
      exact ⟨by rw [HT.out]; rfl, rfl⟩
set_option maxHeartbeats 1000000 in
theorem impl_number (A : Option Addr) (n c : Nat) (l : List Int) (w : World) (h : RdI w A n c l) (hn : n ≤ 10) (hb : ∀ b ∈ l, b = 0 ∨ b = 1) :
    Calls Tryz.prog 98 #[.slice A n c] w fun e w' => e = .returned (.int .i64 (nmL l)) ∧ w = w' := by
  obtain ⟨hle1, hle2⟩ := h.le
  have hl := Lib.hid h.length
  have HB := Lib.hid hb
  clear hb
  go_enter Tryz.func98, Tryz.ntmps98
  go_wp2
  go_loop [3, 8] (fun o i => ∃ k : Nat, k ≤ n ∧ i = .int .i64 k ∧ o = .int .i64 (nmL (l.take k))) (fun _ i => n - (intOf i).toNat)
  case atStart => exact ⟨0, by omega, rfl, by simp [nmL]⟩
  case round =>
    obtain ⟨k, hk, rfl, rfl⟩ := hrel
    by_cases hlt : k < n
    · obtain ⟨ad, x, rfl, hadb, hx, hcell⟩ := h.at_ hlt
      have hlk : (l.take k).length = k := by rw [List.length_take, hl.out]; omega
      have hS := nmL_bd (l := l.take k) fun b hb => HB.out b (List.mem_of_mem_take hb)
      rw [hlk] at hS
      have hx1 := HB.out x (List.mem_of_getElem? hx)
      have HS := Lib.hid (show nmL (l.take (k + 1)) = bits .or .i64 (nmL (l.take k)) (wrap64 (x * 2 ^ k)) by
        rw [or_sh (by omega) hS hx1, List.take_add_one, hx]
        show nmL (l.take k ++ [x]) = _
        rw [nmL_snoc, hlk])
      clear hx hS hx1 hlk
      generalize nmL (l.take k) = S at HS ⊢
      go_wp2_with fail
      go_round
      case rel => exact ⟨k + 1, by omega, by go_num, by rw [HS.out]⟩
      case measure => simp [intOf]; omega
    · obtain rfl : k = n := by omega
      have HT := Lib.hid (show l.take k = l from List.take_of_length_le (by rw [hl.out]; omega))
      go_wp2_with fail
      go_ret
      exact ⟨by rw [HT.out]; rfl, rfl⟩
set_option maxHeartbeats 1000000 in
theorem spec_btNum (A : Option Addr) (n c : Nat) (l : List Int) (w : World) (h : RdI w A n c l) (hn : n ≤ 10) (hb : ∀ b ∈ l, b = 0 ∨ b = 1) :
    Calls Tryz.prog 91 #[.slice A n c] w fun e w' => e = .returned (.int .i64 (nmL l)) ∧ w = w' := by
  obtain ⟨hle1, hle2⟩ := h.le
  have hl := Lib.hid h.length
  have HB := Lib.hid hb
  clear hb
  go_enter Tryz.func91, Tryz.ntmps91
  go_wp2
  go_loop [3, 4] (fun o i => ∃ j : Nat, j ≤ n ∧ i = .int .i64 ((j : Int) - 1) ∧ o = .int .i64 (nmL (l.drop j))) (fun _ i => (intOf i + 1).toNat)
  case atStart => exact ⟨n, by omega, rfl, by rw [List.drop_eq_nil_of_le (by rw [hl.out]; exact Nat.le_refl _)]; rfl⟩
  case round =>
    obtain ⟨j, hj, rfl, rfl⟩ := hrel
    rcases j with _ | k
    · go_wp2_with fail
      go_ret
      exact ⟨rfl, rfl⟩
    · have hlt : k < n := by omega
      obtain ⟨ad, x, rfl, hadb, hx, hcell⟩ := h.at_ hlt
      have hS := nmL_10 (l := l.drop (k + 1)) (fun b hb => HB.out b (List.mem_of_mem_drop hb)) (by rw [List.length_drop, hl.out]; omega)
      have hx1 := HB.out x (List.mem_of_getElem? hx)
      have HS := Lib.hid (show nmL (l.drop k) = 2 * nmL (l.drop (k + 1)) + x by
        obtain ⟨h1, h2⟩ := List.getElem?_eq_some_iff.1 hx
        rw [List.drop_eq_getElem_cons h1, h2, nmL]; omega)
      clear hx
      generalize nmL (l.drop (k + 1)) = S at HS hS ⊢
      have ek : (((k + 1 : Nat) : Int) - 1) = (k : Int) := by omega
      rw [ek]
      have k0 : (0 : Int) ≤ (k : Int) := by omega
      have kn : (k : Int) < n := by omega
      go_wp2_with fail
      go_round
      case rel => exact ⟨k, by omega, by go_num, by rw [HS.out]⟩
      case measure => simp [intOf]
theorem Bl.grow_ (w : World) (k : Nat) (os : Array Obj) : Bl w (Go.Sort.grow (w.drewN k) os) :=
  ⟨rfl, rfl, rfl, by show w.heap.size ≤ (w.heap ++ os).size; rw [Array.size_append]; omega, fun j hj => by show (w.heap ++ os)[j]? = w.heap[j]?; exact Array.getElem?_append_left hj⟩
theorem dec_len : ∀ i, i ≤ 1000 → (Lib.decDigits i).length ≤ 21 := by decide +kernel
theorem itoa_size {x : Int} (h : 0 ≤ x ∧ x ≤ 1000) : (toB (Lib.itoa x)).size ≤ 21 := by
  rw [toB_size]
  obtain ⟨n, rfl⟩ : ∃ n : Nat, x = n := ⟨x.toNat, by omega⟩
  rw [Lib.itoa_nonneg]
  exact dec_len n (by omega)
set_option maxHeartbeats 1000000 in
theorem impl_Itoa (n : Int) (h0 : 0 ≤ n) (h1 : n ≤ 1000) (w : World) (ht : Lib.TabIs Tryz.prog w "internal/strconv.uint64pow10" .u64 Lib.pow10Tab) :
    Calls Tryz.prog 99 #[.int .i64 n] w fun e w' => e = .returned (.string (toB (Lib.itoa n))) ∧ Bl w w' := by
  refine (Tryz.strconv_Itoa n (by omega) (by omega) w ht).mono ?_
  rintro e w' ⟨rfl, k, os, rfl⟩
  exact ⟨rfl, Bl.grow_ w k os⟩
set_option maxHeartbeats 1000000 in
theorem impl_line (A : Option Addr) (n c : Nat) (l : List Int) (w : World) (h : RdI w A n c l) (hb : allR l 0 1000 = true) (hn : n ≤ 1000) (ht : Lib.TabIs Tryz.prog w "internal/strconv.uint64pow10" .u64 Lib.pow10Tab) :
    Calls Tryz.prog 59 #[.string ⟨#[]⟩, .slice A n c] w fun e w' => e = .returned (.string (tI l)) ∧ Bl w w' := by
  obtain ⟨hle1, hle2⟩ := h.le
  have hl := Lib.hid h.length
  have HB := Lib.hid (fun u hu => inR_iff.1 (List.all_eq_true.1 hb u hu))
  have hW0 := Bl.refl w
  clear hb
  go_enter Tryz.func59, Tryz.ntmps59
  go_wp2_with fail
  go_loopw [5, 11] (fun o i wr => ∃ (k : Nat) (S : ByteArray), k ≤ n ∧ i = .int .i64 k ∧ o = .string S ∧ S.size ≤ 22 * k ∧ Hid (toB (tIl (l.take k)) = S) ∧ Bl w wr) (fun _ i _ => n - (intOf i).toNat)
  case atStart => exact ⟨0, _, by omega, rfl, rfl, Nat.le_refl _, Lib.hid rfl, hW0⟩
  case round =>
    clear hW0
    obtain ⟨k, S, hk, rfl, rfl, hsz, HK, hW⟩ := hrel
    by_cases hlt : k < n
    · obtain ⟨ad, x, rfl, hadb, hx, hcell⟩ := (h.keep hW).at_ hlt
      have hx1 := HB.out x (List.mem_of_getElem? hx)
      have HS := Lib.hid (show toB (tIl (l.take (k + 1))) = S ++ (toB [32] ++ toB (Lib.itoa x)) by rw [tIl_step hx, HK.out])
      have hd1 := itoa_size hx1
      have ik : (k : Int) < n := by omega
      clear hx
      obtain ⟨dx, hdx⟩ : ∃ dx, toB (Lib.itoa x) = dx := ⟨_, rfl⟩
      rw [hdx] at HS hd1
      have HD := Lib.hid hdx
      clear hdx
      have h32 : (⟨#[32]⟩ : ByteArray).size = 1 := rfl
      have hs1 : (⟨#[32]⟩ ++ dx : ByteArray).size ≤ 22 := by rw [ByteArray.size_append]; omega
      have hs2 : (S ++ (⟨#[32]⟩ ++ dx : ByteArray)).size ≤ 22 * (k + 1) := by rw [ByteArray.size_append]; omega
      go_wp2_with (go_at_call 99; refine (impl_Itoa x (by omega) (by omega) _ (tab_keep ht hW)).mono ?_; rintro e w5 ⟨rfl, hb5⟩; rw [HD.out])
      go_roundw
      case rel => exact ⟨k + 1, _, by omega, by go_num, rfl, hs2, HS, hW.call hb5⟩
      case measure => simp [intOf]; omega
    · obtain rfl : k = n := by omega
      have ik : ¬ (k : Int) < k := by omega
      have HT := Lib.hid (show l.take k = l from List.take_of_length_le (by rw [hl.out]; exact Nat.le_refl _))
      have HR := Lib.hid (show tI l = S ++ toB [10] by rw [← HK.out, HT.out, toB_app]; rfl)
      have hs3 : (S ++ (⟨#[10]⟩ : ByteArray)).size ≤ 22 * k + 1 := by rw [ByteArray.size_append]; exact Nat.add_le_add_right hsz 1
      go_wp2_with fail
      go_ret
      exact ⟨by rw [HR.out]; rfl, hW⟩
theorem sum_pos {l : List Int} (h : ∀ u ∈ l, 0 ≤ u) : 0 ≤ l.sum := by
  induction l with
  | nil => simp
  | cons x r ih =>
    have h1 := ih fun u hu => h u (List.mem_cons_of_mem _ hu)
    have h2 := h x (List.mem_cons_self)
    rw [List.sum_cons]; omega
/-- The front of a row, and the rest. -/
theorem RdI.frontC {w : World} {A : Option Addr} {n c k : Nat} {l : List Int} (h : RdI w A n c l) (hk : k ≤ n) : RdI w A k c (l.take k) := by
  have := Rd.take h hk
  unfold RdI
  rw [show ints (l.take k) = (ints l).take (k * 1) by simp [ints, List.map_take]]
  exact this
theorem RdI.restC {w : World} {ad : Addr} {n c k : Nat} {l : List Int} (h : RdI w (some ad) n c l) (hk : k ≤ n) : RdI w (if c = k then some ad else some (ad.add k)) (n - k) (c - k) (l.drop k) := by
  have := Rd.cut h hk
  unfold RdI
  rw [show ints (l.drop k) = (ints l).drop (k * 1) by simp [ints, List.map_drop]]
  rw [Nat.mul_one] at this ⊢
  exact this
set_option maxHeartbeats 4000000 in
theorem impl_numbersOf (A B : Option Addr) (n c nb cb : Nat) (ws l : List Int) (w : World) (h : RdI w A n c ws) (h' : RdI w B nb cb l) (hw : allR ws 1 10 = true) (hs : ws.sum = (nb : Int)) (hb : ∀ b ∈ l, b = 0 ∨ b = 1) (hn : n ≤ 1000) (hn2 : nb ≤ 1000) :
    Calls Tryz.prog 57 #[.slice B nb cb, .slice A n c] w fun e w' => ∃ A' c', e = .returned (.slice A' n c') ∧ OwnI w.heap.size w' A' n c' (nmsL ws l) ∧ Bl w w' := by
  have hown0 : OwnI w.heap.size (w.alloc (.cells #[] 3)) (some ⟨w.heap.size, 0, none⟩) 0 0 [] := own_made w
  have hW0 : Bl w (w.alloc (.cells #[] 3)) := (Bl.refl w).alloc (.cells #[] 3)
  obtain ⟨hle1, hle2⟩ := h.le
  obtain ⟨hle3, hle4⟩ := h'.le
  have hl := Lib.hid h.length
  have HW := Lib.hid (fun u hu => inR_iff.1 (List.all_eq_true.1 hw u hu))
  have HL := Lib.hid h'.length
  have HS := Lib.hid hs
  have HB := Lib.hid hb
  clear hw hs hb
  go_enter Tryz.func57, Tryz.ntmps57
  go_wp2_with fail
  go_loopw [0, 5, 11] (fun b o i wr => ∃ (k c2 c3 n2 : Nat) (S D : Option Addr) (P R : List Int), k ≤ n ∧ i = .int .i64 (k : Nat) ∧ o = .slice S k c3 ∧ b = .slice D n2 c2 ∧ n2 ≤ 1000 ∧ RdI w D n2 c2 R ∧ Hid (nmsL ws l = P ++ nmsL (ws.drop k) R ∧ (ws.drop k).sum = (n2 : Int) ∧ ∀ b ∈ R, b = 0 ∨ b = 1) ∧ OwnI w.heap.size wr S k c3 P ∧ Bl w wr) (fun _ _ i _ => n - (intOf i).toNat)
  case atStart => exact ⟨0, _, _, _, _, _, [], l, by omega, rfl, rfl, rfl, hn2, h', Lib.hid ⟨rfl, HS.out, HB.out⟩, hown0, hW0⟩
  case round =>
    clear hown0 hW0
    obtain ⟨k, c2, c3, n2, S, D, P, R, hk, rfl, rfl, rfl, hn2, hR, HH, hown, hW⟩ := hrel
    by_cases hlt : k < n
    · obtain ⟨ad, v, rfl, hadb, hv, hcell⟩ := (h.keep hW).at_ hlt
      have hv1 := HW.out v (List.mem_of_getElem? hv)
      obtain ⟨h1, h2, h3⟩ := HH.out
      obtain ⟨q1, q2⟩ := List.getElem?_eq_some_iff.1 hv
      rw [List.drop_eq_getElem_cons q1, q2] at h1 h2
      have hpos : 0 ≤ (ws.drop (k + 1)).sum := sum_pos fun u hu => by have := HW.out u (List.mem_of_mem_drop hu); omega
      rw [List.sum_cons] at h2
      obtain ⟨v, rfl⟩ : ∃ q : Nat, v = q := ⟨v.toNat, by omega⟩
      have hn0 : 0 < n2 := by omega
      obtain ⟨bd, x0, rfl, hbdb, hx0, hbc⟩ := hR.at_ (k := 0) hn0
      obtain ⟨hc1, hc2⟩ := hR.le
      have hF := (hR.keep hW).frontC (k := v) (by omega)
      have hT := hR.restC (k := v) (by omega)
      have HFB := Lib.hid (show ∀ b ∈ R.take v, b = 0 ∨ b = 1 from fun b hb => h3 b (List.mem_of_mem_take hb))
      have HN := Lib.hid (show nmsL ws l = (P ++ [nmL (R.take v)]) ++ nmsL (ws.drop (k + 1)) (R.drop v) ∧ (ws.drop (k + 1)).sum = ((n2 - v : Nat) : Int) ∧ ∀ b ∈ R.drop v, b = 0 ∨ b = 1 from ⟨by rw [h1, nmsL, Int.toNat_natCast, List.append_assoc, List.singleton_append], by omega, fun b hb => h3 b (List.mem_of_mem_drop hb)⟩)
      have ik : (k : Int) < n := by omega
      have iv : v ≤ n2 := by omega
      have iv1 : 1 ≤ v := by omega
      have iv3 : v ≤ 10 := by omega
      have iv4 : v ≤ c2 := by omega
      have iv5 : (v : Int) ≤ c2 := by omega
      have iv2 : (v : Int) ≤ n2 := by omega
      have hmn : n2 - v ≤ 1000 := by omega
      clear h1 h2 h3 q1 q2 hpos hv hx0 hv1 HH
      rcases Decidable.em (c2 = v) with hcv | hcv
      · rw [if_pos hcv] at hT
        obtain rfl : v = c2 := hcv.symm
        obtain rfl : v = n2 := by omega
        rw [Nat.sub_self] at hT HN hmn
        go_wp2_with fail
        refine wp_region_held_drew (S := (fun w' => True)) (by kernel_rfl) ?_ (fun hHeld => ?_)
        · exact trivial
        refine held_take (i := 0) (d := 15) (v := ?_) rfl rfl (by kernel_rfl) (by kernel_rfl) (by kernel_rfl) (fun _ _ _ h => h) (Or.inl ⟨by rfl, ?_⟩) (by assumption) ?_
        rotate_left
        · (intro w hSw; (try dsimp only at hSw); go_simp; (try with_reducible rfl))
        (try simp only [List.set_cons_zero, List.set_cons_succ])
        refine held_take (i := 1) (d := 16) (v := ?_) rfl rfl (by kernel_rfl) (by kernel_rfl) (by kernel_rfl) (fun _ _ _ h => h) (Or.inl ⟨by rfl, ?_⟩) (by assumption) ?_
        rotate_left
        · (intro w hSw; (try dsimp only at hSw); go_simp; (try with_reducible rfl))
        (try simp only [List.set_cons_zero, List.set_cons_succ])
        refine held_take (i := 2) (d := 17) (v := ?_) rfl rfl (by kernel_rfl) (by kernel_rfl) (by kernel_rfl) (fun _ _ _ h => h) (Or.inl ⟨by rfl, ?_⟩) (by assumption) ?_
        rotate_left
        · (intro w hSw; (try dsimp only at hSw); go_simp; (try with_reducible rfl))
        (try simp only [List.set_cons_zero, List.set_cons_succ])
        refine held_take (i := 3) (d := 18) (v := ?_) rfl rfl (by kernel_rfl) (by kernel_rfl) (by kernel_rfl) (fun _ _ _ h => h) (Or.inl ⟨by rfl, ?_⟩) (by assumption) ?_
        rotate_left
        · (intro w hSw; (try dsimp only at hSw); go_simp; (try with_reducible rfl))
        (try simp only [List.set_cons_zero, List.set_cons_succ])
        refine held_take (i := 7) (d := 22) (v := ?_) rfl rfl (by kernel_rfl) (by kernel_rfl) (by kernel_rfl) (fun _ _ _ h => h) (Or.inl ⟨by rfl, ?_⟩) (by assumption) ?_
        rotate_left
        · (intro w hSw; (try dsimp only at hSw); go_simp; (try with_reducible rfl))
        (try simp only [List.set_cons_zero, List.set_cons_succ])
        refine held_take (i := 8) (d := 23) (v := ?_) rfl rfl (by kernel_rfl) (by kernel_rfl) (by kernel_rfl) (fun _ _ _ h => h) (Or.inl ⟨by rfl, ?_⟩) (by assumption) ?_
        rotate_left
        · (intro w hSw; (try dsimp only at hSw); go_simp; (try with_reducible rfl))
        (try simp only [List.set_cons_zero, List.set_cons_succ])
        refine held_take (i := 9) (d := 24) (v := ?_) rfl rfl (by kernel_rfl) (by kernel_rfl) (by kernel_rfl) (fun _ _ _ h => h) (Or.inl ⟨by rfl, ?_⟩) (by assumption) ?_
        rotate_left
        · (intro w hSw; (try dsimp only at hSw); go_simp; (try with_reducible rfl))
        (try simp only [List.set_cons_zero, List.set_cons_succ])
        refine wpAnyH_ready (rs := [4]) (by kernel_rfl) (by simp) ?_
        refine AllReadyH.cons rfl (fun K hK => ?_) AllReadyH.nil
        go_simp
        refine (impl_number _ _ _ _ _ (hF.keep (Bl.refl _).drew) iv3 HFB.out).mono ?_; rintro e w9 ⟨rfl, rfl⟩
        go_wp2_with fail
        refine hK.out _ _ ?_ (fun hHeld => ?_)
        · exact trivial
        clear hK K
        (try simp only [Act.put]); (try simp only [List.setIfInBounds_toArray]); (try simp only [List.set_cons_succ]); (try simp only [List.set_cons_zero])
        refine wpAnyH_ready (rs := [5]) (by kernel_rfl) (by simp) ?_
        refine AllReadyH.cons rfl (fun K hK => ?_) AllReadyH.nil
        go_simp
        refine hK.out _ _ ?_ (fun hHeld => ?_)
        · exact trivial
        clear hK K
        (try simp only [Act.put]); (try simp only [List.setIfInBounds_toArray]); (try simp only [List.set_cons_succ]); (try simp only [List.set_cons_zero])
        refine wpAnyH_ready (rs := [6]) (by kernel_rfl) (by simp) ?_
        refine AllReadyH.cons rfl (fun K hK => ?_) AllReadyH.nil
        refine ap_int_step rfl rfl rfl ((hown.alloc _).keep (Bl.refl _).drew) rfl (RdI.keep (rd_new1 wr _ _) (Bl.refl _).drew) (by omega) (by have := hW.sz; simp; omega) ?_; intro A7 c7 v7 ho7 hg7 hat7; have hW7 : Bl w v7 := Bl.grown (by first | exact hW.drew.alloc _ | exact (hW.alloc _).drew) hg7 (fun q hq => (hown.blk q hq).1)
        refine hK.out _ _ ?_ (fun hHeld => ?_)
        · exact trivial
        clear hK K
        (try simp only [Act.put]); (try simp only [List.setIfInBounds_toArray]); (try simp only [List.set_cons_succ]); (try simp only [List.set_cons_zero])
        refine held_take (i := 10) (d := 5) (v := ?_) rfl rfl (by kernel_rfl) (by kernel_rfl) (by kernel_rfl) (fun _ _ _ h => h) (Or.inl ⟨by rfl, ?_⟩) (by assumption) ?_
        rotate_left
        · (intro w hSw; (try dsimp only at hSw); go_simp; (try with_reducible rfl))
        (try simp only [List.set_cons_zero, List.set_cons_succ])
        refine held_take (i := 11) (d := 0) (v := ?_) rfl rfl (by kernel_rfl) (by kernel_rfl) (by kernel_rfl) (fun _ _ _ h => h) (Or.inl ⟨by rfl, ?_⟩) (by assumption) ?_
        rotate_left
        · (intro w hSw; (try dsimp only at hSw); go_simp; (try with_reducible rfl))
        (try simp only [List.set_cons_zero])
        refine wpAnyH_done (by kernel_rfl) ?_ _
        go_wp2_with fail
        go_roundw
        case rel => exact ⟨k + 1, _, _, _, _, _, _, _, by omega, by go_num, rfl, rfl, hmn, hT, HN, ho7, hW7⟩
        case measure => simp [intOf]; omega
      · rw [if_neg hcv] at hT
        go_wp2_with fail
        refine wp_region_held_drew (S := (fun w' => True)) (by kernel_rfl) ?_ (fun hHeld => ?_)
        · exact trivial
        refine held_take (i := 0) (d := 15) (v := ?_) rfl rfl (by kernel_rfl) (by kernel_rfl) (by kernel_rfl) (fun _ _ _ h => h) (Or.inl ⟨by rfl, ?_⟩) (by assumption) ?_
        rotate_left
        · (intro w hSw; (try dsimp only at hSw); go_simp; (try with_reducible rfl))
        (try simp only [List.set_cons_zero, List.set_cons_succ])
        refine held_take (i := 1) (d := 16) (v := ?_) rfl rfl (by kernel_rfl) (by kernel_rfl) (by kernel_rfl) (fun _ _ _ h => h) (Or.inl ⟨by rfl, ?_⟩) (by assumption) ?_
        rotate_left
        · (intro w hSw; (try dsimp only at hSw); go_simp; (try with_reducible rfl))
        (try simp only [List.set_cons_zero, List.set_cons_succ])
        refine held_take (i := 2) (d := 17) (v := ?_) rfl rfl (by kernel_rfl) (by kernel_rfl) (by kernel_rfl) (fun _ _ _ h => h) (Or.inl ⟨by rfl, ?_⟩) (by assumption) ?_
        rotate_left
        · (intro w hSw; (try dsimp only at hSw); go_simp; (try with_reducible rfl))
        (try simp only [List.set_cons_zero, List.set_cons_succ])
        refine held_take (i := 3) (d := 18) (v := ?_) rfl rfl (by kernel_rfl) (by kernel_rfl) (by kernel_rfl) (fun _ _ _ h => h) (Or.inl ⟨by rfl, ?_⟩) (by assumption) ?_
        rotate_left
        · (intro w hSw; (try dsimp only at hSw); go_simp; (try with_reducible rfl))
        (try simp only [List.set_cons_zero, List.set_cons_succ])
        refine held_take (i := 7) (d := 22) (v := ?_) rfl rfl (by kernel_rfl) (by kernel_rfl) (by kernel_rfl) (fun _ _ _ h => h) (Or.inl ⟨by rfl, ?_⟩) (by assumption) ?_
        rotate_left
        · (intro w hSw; (try dsimp only at hSw); go_simp; (try with_reducible rfl))
        (try simp only [List.set_cons_zero, List.set_cons_succ])
        refine held_take (i := 8) (d := 23) (v := ?_) rfl rfl (by kernel_rfl) (by kernel_rfl) (by kernel_rfl) (fun _ _ _ h => h) (Or.inl ⟨by rfl, ?_⟩) (by assumption) ?_
        rotate_left
        · (intro w hSw; (try dsimp only at hSw); go_simp; (try with_reducible rfl))
        (try simp only [List.set_cons_zero, List.set_cons_succ])
        refine held_take (i := 9) (d := 24) (v := ?_) rfl rfl (by kernel_rfl) (by kernel_rfl) (by kernel_rfl) (fun _ _ _ h => h) (Or.inl ⟨by rfl, ?_⟩) (by assumption) ?_
        rotate_left
        · (intro w hSw; (try dsimp only at hSw); go_simp; (try with_reducible rfl))
        (try simp only [List.set_cons_zero, List.set_cons_succ])
        refine wpAnyH_ready (rs := [4]) (by kernel_rfl) (by simp) ?_
        refine AllReadyH.cons rfl (fun K hK => ?_) AllReadyH.nil
        go_simp
        refine (impl_number _ _ _ _ _ (hF.keep (Bl.refl _).drew) iv3 HFB.out).mono ?_; rintro e w9 ⟨rfl, rfl⟩
        go_wp2_with fail
        refine hK.out _ _ ?_ (fun hHeld => ?_)
        · exact trivial
        clear hK K
        (try simp only [Act.put]); (try simp only [List.setIfInBounds_toArray]); (try simp only [List.set_cons_succ]); (try simp only [List.set_cons_zero])
        refine wpAnyH_ready (rs := [5]) (by kernel_rfl) (by simp) ?_
        refine AllReadyH.cons rfl (fun K hK => ?_) AllReadyH.nil
        go_simp
        refine hK.out _ _ ?_ (fun hHeld => ?_)
        · exact trivial
        clear hK K
        (try simp only [Act.put]); (try simp only [List.setIfInBounds_toArray]); (try simp only [List.set_cons_succ]); (try simp only [List.set_cons_zero])
        refine wpAnyH_ready (rs := [6]) (by kernel_rfl) (by simp) ?_
        refine AllReadyH.cons rfl (fun K hK => ?_) AllReadyH.nil
        refine ap_int_step rfl rfl rfl ((hown.alloc _).keep (Bl.refl _).drew) rfl (RdI.keep (rd_new1 wr _ _) (Bl.refl _).drew) (by omega) (by have := hW.sz; simp; omega) ?_; intro A7 c7 v7 ho7 hg7 hat7; have hW7 : Bl w v7 := Bl.grown (by first | exact hW.drew.alloc _ | exact (hW.alloc _).drew) hg7 (fun q hq => (hown.blk q hq).1)
        refine hK.out _ _ ?_ (fun hHeld => ?_)
        · exact trivial
        clear hK K
        (try simp only [Act.put]); (try simp only [List.setIfInBounds_toArray]); (try simp only [List.set_cons_succ]); (try simp only [List.set_cons_zero])
        refine held_take (i := 10) (d := 5) (v := ?_) rfl rfl (by kernel_rfl) (by kernel_rfl) (by kernel_rfl) (fun _ _ _ h => h) (Or.inl ⟨by rfl, ?_⟩) (by assumption) ?_
        rotate_left
        · (intro w hSw; (try dsimp only at hSw); go_simp; (try with_reducible rfl))
        (try simp only [List.set_cons_zero, List.set_cons_succ])
        refine held_take (i := 11) (d := 0) (v := ?_) rfl rfl (by kernel_rfl) (by kernel_rfl) (by kernel_rfl) (fun _ _ _ h => h) (Or.inl ⟨by rfl, ?_⟩) (by assumption) ?_
        rotate_left
        · (intro w hSw; (try dsimp only at hSw); go_simp; (try with_reducible rfl))
        (try simp only [List.set_cons_zero])
        refine wpAnyH_done (by kernel_rfl) ?_ _
        go_wp2_with fail
        go_roundw
        case rel => exact ⟨k + 1, _, _, _, _, _, _, _, by omega, by go_num, rfl, rfl, hmn, hT, HN, ho7, hW7⟩
        case measure => simp [intOf]; omega
    · obtain rfl : k = n := by omega
      have ik : ¬ (k : Int) < k := by omega
      have HT := Lib.hid (show nmsL ws l = P by have := HH.out.1; rw [List.drop_eq_nil_of_le (by rw [hl.out]; exact Nat.le_refl _)] at this; rw [this]; simp [nmsL])
      go_wp2_with fail
      go_ret
      exact ⟨S, c3, rfl, by rw [HT.out]; exact hown, hW⟩
set_option maxHeartbeats 4000000 in
theorem spec_coNumbers (A B : Option Addr) (n c nb cb : Nat) (ws l : List Int) (w : World) (h : RdI w A n c ws) (h' : RdI w B nb cb l) (hw : allR ws 1 10 = true) (hs : ws.sum = (nb : Int)) (hb : ∀ b ∈ l, b = 0 ∨ b = 1) (hn : n ≤ 1000) (hn2 : nb ≤ 1000) :
    Calls Tryz.prog 49 #[.slice A n c, .slice B nb cb] w fun e w' => ∃ A' c', e = .returned (.slice A' n c') ∧ OwnI w.heap.size w' A' n c' (nmsL ws l) ∧ Bl w w' := by
  have hown0 : OwnI w.heap.size w none 0 0 [] := OwnI.nil w.heap.size w
  have hW0 : Bl w w := Bl.refl w
  obtain ⟨hle1, hle2⟩ := h.le
  obtain ⟨hle3, hle4⟩ := h'.le
  have hl := Lib.hid h.length
  have HW := Lib.hid (fun u hu => inR_iff.1 (List.all_eq_true.1 hw u hu))
  have HL := Lib.hid h'.length
  have HS := Lib.hid hs
  have HB := Lib.hid hb
  clear hw hs hb
  go_enter Tryz.func49, Tryz.ntmps49
  go_wp2_with fail
  go_loopw [1, 5, 10] (fun b o i wr => ∃ (k c2 c3 n2 : Nat) (S D : Option Addr) (P R : List Int), k ≤ n ∧ i = .int .i64 (k : Nat) ∧ o = .slice S k c3 ∧ b = .slice D n2 c2 ∧ n2 ≤ 1000 ∧ RdI w D n2 c2 R ∧ Hid (nmsL ws l = P ++ nmsL (ws.drop k) R ∧ (ws.drop k).sum = (n2 : Int) ∧ ∀ b ∈ R, b = 0 ∨ b = 1) ∧ OwnI w.heap.size wr S k c3 P ∧ Bl w wr) (fun _ _ i _ => n - (intOf i).toNat)
  case atStart => exact ⟨0, _, _, _, _, _, [], l, by omega, rfl, rfl, rfl, hn2, h', Lib.hid ⟨rfl, HS.out, HB.out⟩, hown0, hW0⟩
  case round =>
    clear hown0 hW0
    obtain ⟨k, c2, c3, n2, S, D, P, R, hk, rfl, rfl, rfl, hn2, hR, HH, hown, hW⟩ := hrel
    by_cases hlt : k < n
    · obtain ⟨ad, v, rfl, hadb, hv, hcell⟩ := (h.keep hW).at_ hlt
      have hv1 := HW.out v (List.mem_of_getElem? hv)
      obtain ⟨h1, h2, h3⟩ := HH.out
      obtain ⟨q1, q2⟩ := List.getElem?_eq_some_iff.1 hv
      rw [List.drop_eq_getElem_cons q1, q2] at h1 h2
      have hpos : 0 ≤ (ws.drop (k + 1)).sum := sum_pos fun u hu => by have := HW.out u (List.mem_of_mem_drop hu); omega
      rw [List.sum_cons] at h2
      obtain ⟨v, rfl⟩ : ∃ q : Nat, v = q := ⟨v.toNat, by omega⟩
      have hn0 : 0 < n2 := by omega
      obtain ⟨bd, x0, rfl, hbdb, hx0, hbc⟩ := hR.at_ (k := 0) hn0
      obtain ⟨hc1, hc2⟩ := hR.le
      have hF := (hR.keep hW).frontC (k := v) (by omega)
      have hT := hR.restC (k := v) (by omega)
      have HFB := Lib.hid (show ∀ b ∈ R.take v, b = 0 ∨ b = 1 from fun b hb => h3 b (List.mem_of_mem_take hb))
      have HN := Lib.hid (show nmsL ws l = (P ++ [nmL (R.take v)]) ++ nmsL (ws.drop (k + 1)) (R.drop v) ∧ (ws.drop (k + 1)).sum = ((n2 - v : Nat) : Int) ∧ ∀ b ∈ R.drop v, b = 0 ∨ b = 1 from ⟨by rw [h1, nmsL, Int.toNat_natCast, List.append_assoc, List.singleton_append], by omega, fun b hb => h3 b (List.mem_of_mem_drop hb)⟩)
      have ik : (k : Int) < n := by omega
      have iv : v ≤ n2 := by omega
      have iv1 : 1 ≤ v := by omega
      have iv3 : v ≤ 10 := by omega
      have iv4 : v ≤ c2 := by omega
      have iv5 : (v : Int) ≤ c2 := by omega
      have iv2 : (v : Int) ≤ n2 := by omega
      have hmn : n2 - v ≤ 1000 := by omega
      clear h1 h2 h3 q1 q2 hpos hv hx0 hv1 HH
      rcases Decidable.em (c2 = v) with hcv | hcv
      · rw [if_pos hcv] at hT
        obtain rfl : v = c2 := hcv.symm
        obtain rfl : v = n2 := by omega
        rw [Nat.sub_self] at hT HN hmn
        go_wp2_with (first
          | (go_at_call 91; refine (spec_btNum _ _ _ _ _ hF iv3 HFB.out).mono ?_; rintro e w9 ⟨rfl, rfl⟩)
          | (at_builtin; refine ap_int rfl rfl rfl (hown.alloc _) rfl (rd_new1 _ _ _) (by omega) (by have := hW.sz; simp; omega) ?_; intro A7 c7 v7 ho7 hg7 hat7; have hW7 := (hW.alloc _).grown hg7 (fun q hq => (hown.blk q hq).1)))
        go_roundw
        case rel => exact ⟨k + 1, _, _, _, _, _, _, _, by omega, by go_num, rfl, rfl, hmn, hT, HN, ho7, hW7⟩
        case measure => simp [intOf]; omega
      · rw [if_neg hcv] at hT
        go_wp2_with (first
          | (go_at_call 91; refine (spec_btNum _ _ _ _ _ hF iv3 HFB.out).mono ?_; rintro e w9 ⟨rfl, rfl⟩)
          | (at_builtin; refine ap_int rfl rfl rfl (hown.alloc _) rfl (rd_new1 _ _ _) (by omega) (by have := hW.sz; simp; omega) ?_; intro A7 c7 v7 ho7 hg7 hat7; have hW7 := (hW.alloc _).grown hg7 (fun q hq => (hown.blk q hq).1)))
        go_roundw
        case rel => exact ⟨k + 1, _, _, _, _, _, _, _, by omega, by go_num, rfl, rfl, hmn, hT, HN, ho7, hW7⟩
        case measure => simp [intOf]; omega
    · obtain rfl : k = n := by omega
      have ik : ¬ (k : Int) < k := by omega
      have HT := Lib.hid (show nmsL ws l = P by have := HH.out.1; rw [List.drop_eq_nil_of_le (by rw [hl.out]; exact Nat.le_refl _)] at this; rw [this]; simp [nmsL])
      go_wp2_with fail
      go_ret
      exact ⟨S, c3, rfl, by rw [HT.out]; exact hown, hW⟩
end Go.Proofs.YtjggecbaladiiaaGreatDoor
