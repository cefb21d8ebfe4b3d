/- Contracts of elements of a field and of codes of views, and the walk of the law on codes.
   Conditions: none beyond the calls' own tests. -/
import Derived.Test.YtglgaicbcackbaaAll
import Derived.Test.YtglgaicbcackbaaRan
import Derived.Test.YtglgaicbcackbaaMak
namespace Go.Proofs.Ytglgaicbcackbaa
open Go.RowKit
set_option linter.unusedVariables false
theorem enters_areElements_1 : Enters 149 := fun _ _ => by kernel_rfl
theorem areElements_1 (p x : Int) (g : Nat) (w : World) (hp : 0 ≤ p) (hp2 : p ≤ 1000000) (hc : w.cell? ⟨g, 0, none⟩ = some (.int .i64 p)) :
    Calls Try.prog 149 #[.int .i64 x, .pointer (some ⟨g, 0, none⟩)] w fun e w' => e = .returned (.bool (inR x 0 (p - 1))) ∧ w = w' := by
  go_enter Try.func149, Try.ntmps149
  go_wp2_with (go_at_call 75; refine (impl_within _ _ _ _).mono ?_; rintro e w' ⟨rfl, rfl⟩)
  go_ret
  exact ⟨rfl, rfl⟩
/-- All are elements of a field. -/
def elemsB (p : Int) (l : List Int) : Bool := primeB p && allR l 0 (p - 1)
theorem impl_areElements (A : Option Addr) (n c : Nat) (l : List Int) (p : Int) (w : World) (hl : RdI w A n c l) :
    Calls Try.prog 117 #[.int .i64 p, .slice A n c] w fun e w' => e = .returned (.bool (elemsB p l)) ∧ Bl w w' := by
  have hW := (Bl.refl w).alloc (.cells #[.int .i64 p] 3)
  rcases h : primeB p
  · go_enter Try.func117, Try.ntmps117
    go_wp2_with (first | (go_at_call 146; refine (impl_IsPrime _ _).mono ?_; rintro e w' ⟨rfl, rfl⟩))
    go_ret
    exact ⟨ret_bool (by simp [elemsB, h]), hW⟩
  · have hb := primeB_bd h
    have hA : Answers (w.alloc (.cells #[.int .i64 p] 3)) 149 #[.pointer (some ⟨w.heap.size, 0, none⟩)] (fun x => inR x 0 (p - 1)) := fun x W' hW' =>
      areElements_1 p x w.heap.size W' (by omega) (by omega) (((Blk.new w 3 #[.int .i64 p]).keep hW').cell 0 _ rfl)
    have HA := Lib.hid (impl_areAll A n c l 149 #[.pointer (some ⟨w.heap.size, 0, none⟩)] _ _ enters_areElements_1 hA (hl.keep hW))
    clear hA
    have hfin := Lib.hid (show elemsB p l = allF (fun x => inR x 0 (p - 1)) l by simp [elemsB, h, allR, allF])
    go_enter Try.func117, Try.ntmps117
    go_wp2_with (first | (go_at_call 146; refine (impl_IsPrime _ _).mono ?_; rintro e w' ⟨rfl, rfl⟩) | (go_at_call 148; refine HA.out.mono ?_; rintro e w1 ⟨rfl, hb1⟩))
    go_ret
    exact ⟨ret_bool (by rw [hfin.out]), hW.call hb1⟩
theorem spec_vwAll (A : Option Addr) (n c : Nat) (l : List Int) (p : Int) (m : Nat) (w : World) (hl : RdI w A n c l) (hm : m ≤ 1000) :
    Calls Try.prog 118 #[.int .i64 p, .slice A n c, .int .i64 m] w fun e w' => e = .returned (.bool (elemsB p l && decide (n = m))) ∧ w = w' := by
  obtain ⟨hle1, hle2⟩ := hl.le
  have HF := Lib.hid (spec_fpIn A n c l p w hl)
  have hq : elemsB p l = (primeB p && allR l 0 (p - 1)) := rfl
  rw [hq]
  rcases h : (primeB p && allR l 0 (p - 1))
  · go_enter Try.func118, Try.ntmps118
    go_wp2_with (first | (go_at_call 122; refine HF.out.mono ?_; rintro e w' ⟨rfl, rfl⟩; rw [h]))
    go_ret
    exact ⟨ret_bool (by simp), rfl⟩
  · by_cases hnm : n = m
    · have hd := Lib.hid (show ((true && decide (n = m)) = true) by simp [hnm])
      subst hnm
      go_enter Try.func118, Try.ntmps118
      go_wp2_with (first | (go_at_call 122; refine HF.out.mono ?_; rintro e w' ⟨rfl, rfl⟩; rw [h]))
      go_ret
      exact ⟨ret_bool (by simp), rfl⟩
    · have hd : ((n : Int) == m) = false := by simp; omega
      go_enter Try.func118, Try.ntmps118
      go_wp2_with (first | (go_at_call 122; refine HF.out.mono ?_; rintro e w' ⟨rfl, rfl⟩; rw [h]))
      go_ret
      exact ⟨ret_bool (by simp [hnm]), rfl⟩
theorem mul_bd3 (a b : Int) (m n : Int) (h1 : 0 ≤ a) (h2 : a ≤ m) (h3 : 0 ≤ b) (h4 : b ≤ n) : 0 ≤ a * b ∧ a * b ≤ m * n :=
  ⟨Int.mul_nonneg h1 h3, Int.mul_le_mul h2 h4 h3 (by omega)⟩
/-- The code of a view. -/
def vcF (p : Int) : List Int → Int
  | [] => 0
  | x :: l => p * vcF p l + x
theorem vcF_bd (p : Int) (h0 : 1 ≤ p) (h7 : p ≤ 7) : ∀ l : List Int, (∀ x ∈ l, 0 ≤ x ∧ x < p) → 0 ≤ vcF p l ∧ vcF p l + 1 ≤ pw p l.length
  | [], _ => by simp [vcF, pw]
  | x :: l, h => by
    obtain ⟨a, b⟩ := vcF_bd p h0 h7 l (fun y hy => h y (List.mem_cons_of_mem _ hy))
    have hx := h x (by simp)
    have h1 : 0 ≤ p * vcF p l := Int.mul_nonneg (by omega) a
    have h2 : p * (vcF p l + 1) ≤ p * pw p l.length := Int.mul_le_mul_of_nonneg_left b (by omega)
    rw [Int.mul_add, Int.mul_one] at h2
    simp only [vcF, List.length_cons, pw]
    rw [Int.mul_comm (pw p l.length) p]
    omega
theorem vcF_drop {p : Int} {l : List Int} {k : Nat} {x : Int} (hx : l[k]? = some x) : vcF p (l.drop k) = p * vcF p (l.drop (k + 1)) + x := by
  obtain ⟨hk, rfl⟩ := List.getElem?_eq_some_iff.1 hx
  rw [List.drop_eq_getElem_cons hk, vcF]
set_option maxHeartbeats 1000000 in
theorem spec_vwCode (A : Option Addr) (n c : Nat) (l : List Int) (p : Int) (w : World) (hl : RdI w A n c l) (hp : 1 ≤ p) (hp7 : p ≤ 7) (hn : n ≤ 12) (hall : ∀ x ∈ l, 0 ≤ x ∧ x < p) :
    Calls Try.prog 108 #[.int .i64 p, .slice A n c] w fun e w' => e = .returned (.int .i64 (vcF p l)) ∧ w = w' := by
  obtain ⟨hle1, hle2⟩ := hl.le
  have hlen := Lib.hid hl.length
  have HALL := Lib.hid hall
  clear hall
  go_enter Try.func108, Try.ntmps108
  go_wp2
  go_loop [5, 6] (fun q i => ∃ k : Nat, k ≤ n ∧ i = .int .i64 ((k : Int) - 1) ∧ q = .int .i64 (vcF p (l.drop k))) (fun _ i => (intOf i + 1).toNat)
  case atStart => exact ⟨n, by omega, rfl, by rw [List.drop_eq_nil_of_le (by rw [hlen.out]; omega)]; rfl⟩
  case round =>
    obtain ⟨k, hk, rfl, rfl⟩ := hrel
    by_cases hlt : 0 < k
    · obtain ⟨j, rfl⟩ : ∃ j, k = j + 1 := ⟨k - 1, by omega⟩
      have ej : (((j + 1 : Nat) : Int) - 1) = (j : Int) := by omega
      rw [ej]
      obtain ⟨ad, x, rfl, hadb, hx, hcell⟩ := hl.at_ (show j < n by omega)
      have hxb := HALL.out x (List.mem_of_getElem? hx)
      have hst := Lib.hid (vcF_drop (p := p) hx)
      have hb := vcF_bd p hp hp7 (l.drop (j + 1)) (fun y hy => HALL.out y (List.mem_of_mem_drop hy))
      have hb2 := pw_bd p (by omega) hp7 (l.drop (j + 1)).length (by rw [List.length_drop, hlen.out]; omega)
      clear hx ej
      generalize vcF p (l.drop (j + 1)) = V at *
      generalize pw p (l.drop (j + 1)).length = M at *
      have hm := mul_bd3 V p 13841287201 7 (by omega) (by omega) (by omega) (by omega)
      have hm2 : p * V = V * p := Int.mul_comm _ _
      have HM := Lib.hid hm2
      have hm3 : 0 ≤ p * V ∧ p * V ≤ 96889010407 := by rw [hm2]; exact hm
      clear hm2 hb hb2
      go_wp2
      go_round
      case rel => exact ⟨j, by omega, rfl, by first | (rw [hst.out]; done) | (rw [hst.out, HM.out]; done)⟩
      case measure => simp [intOf] <;> omega
    · have he : k = 0 := by omega
      subst he
      go_wp2
      go_ret
      exact ⟨rfl, rfl⟩
set_option maxHeartbeats 1000000 in
theorem impl_viewCode (A : Option Addr) (n c : Nat) (l : List Int) (p : Int) (w : World) (hl : RdI w A n c l) (hp : 1 ≤ p) (hp7 : p ≤ 7) (hn : n ≤ 12) (hall : ∀ x ∈ l, 0 ≤ x ∧ x < p) :
    Calls Try.prog 102 #[.int .i64 p, .slice A n c] w fun e w' => e = .returned (.int .i64 (vcF p l)) ∧ w = w' := by
  obtain ⟨hle1, hle2⟩ := hl.le
  have hlen := Lib.hid hl.length
  have HALL := Lib.hid hall
  clear hall
  go_enter Try.func102, Try.ntmps102
  go_wp2
  go_loop [5, 6] (fun q i => ∃ k : Nat, k ≤ n ∧ i = .int .i64 ((k : Int) - 1) ∧ q = .int .i64 (vcF p (l.drop k))) (fun _ i => (intOf i + 1).toNat)
  case atStart => exact ⟨n, by omega, rfl, by rw [List.drop_eq_nil_of_le (by rw [hlen.out]; omega)]; rfl⟩
  case round =>
    obtain ⟨k, hk, rfl, rfl⟩ := hrel
    by_cases hlt : 0 < k
    · obtain ⟨j, rfl⟩ : ∃ j, k = j + 1 := ⟨k - 1, by omega⟩
      have ej : (((j + 1 : Nat) : Int) - 1) = (j : Int) := by omega
      rw [ej]
      obtain ⟨ad, x, rfl, hadb, hx, hcell⟩ := hl.at_ (show j < n by omega)
      have hxb := HALL.out x (List.mem_of_getElem? hx)
      have hst := Lib.hid (vcF_drop (p := p) hx)
      have hb := vcF_bd p hp hp7 (l.drop (j + 1)) (fun y hy => HALL.out y (List.mem_of_mem_drop hy))
      have hb2 := pw_bd p (by omega) hp7 (l.drop (j + 1)).length (by rw [List.length_drop, hlen.out]; omega)
      clear hx ej
      generalize vcF p (l.drop (j + 1)) = V at *
      generalize pw p (l.drop (j + 1)).length = M at *
      have hm := mul_bd3 V p 13841287201 7 (by omega) (by omega) (by omega) (by omega)
      have hm2 : p * V = V * p := Int.mul_comm _ _
      have HM := Lib.hid hm2
      have hm3 : 0 ≤ p * V ∧ p * V ≤ 96889010407 := by rw [hm2]; exact hm
      clear hm2 hb hb2
      go_wp2
      go_round
      case rel => exact ⟨j, by omega, rfl, by first | (rw [hst.out]; done) | (rw [hst.out, HM.out]; done)⟩
      case measure => simp [intOf] <;> omega
    · have he : k = 0 := by omega
      subst he
      go_wp2
      go_ret
      exact ⟨rfl, rfl⟩
def vcB (p : Int) (l : List Int) : Bool := smallB p && elemsB p l && decide (l.length = 11)
def vcR (p : Int) (l : List Int) : Int := if vcB p l then vcF p l else 0
theorem elemsB_mem {p : Int} {l : List Int} (h : elemsB p l = true) : ∀ x ∈ l, 0 ≤ x ∧ x < p := by
  intro x hx
  simp only [elemsB, Bool.and_eq_true] at h
  have := allR_mem h.2 hx
  omega
set_option maxHeartbeats 1000000 in
theorem spec_ViewCode (A : Option Addr) (n c : Nat) (l : List Int) (p : Int) (w : World) (hl : RdI w A n c l) :
    Calls Try.prog 48 #[.int .i64 p, .slice A n c] w fun e w' => e = .returned (.tuple #[.int .i64 (vcR p l), .bool (vcB p l)]) ∧ Bl w w' := by
  obtain ⟨hle1, hle2⟩ := hl.le
  rcases hB : vcB p l
  case false =>
    have hR := Lib.hid (show vcR p l = 0 by simp [vcR, hB])
    rcases hs : smallB p
    · go_enter Try.func48, Try.ntmps48
      go_wp2_with (first | (go_at_call 114; refine (spec_vwSmall _ _).mono ?_; rintro e w' ⟨rfl, rfl⟩))
      go_ret2
      exact ⟨by rw [hR.out]; rfl, Bl.refl _⟩
    rcases hE : (elemsB p l && decide (n = 11))
    · go_enter Try.func48, Try.ntmps48
      go_wp2_with (first | (go_at_call 114; refine (spec_vwSmall _ _).mono ?_; rintro e w' ⟨rfl, rfl⟩) | (go_at_call 118; refine (spec_vwAll A _ c l p 11 _ hl (by omega)).mono ?_; rintro e w' ⟨rfl, rfl⟩; rw [hE]))
      go_ret2
      exact ⟨by rw [hR.out]; rfl, Bl.refl _⟩
    · exfalso
      simp only [Bool.and_eq_true, decide_eq_true_eq] at hE
      have h11 : l.length = 11 := by rw [hl.length]; exact hE.2
      simp [vcB, hs, hE.1, h11] at hB
  · have hR := Lib.hid (show vcR p l = vcF p l by simp [vcR, hB])
    have hh : smallB p = true ∧ elemsB p l = true ∧ l.length = 11 := by simpa [vcB, and_assoc] using hB
    obtain ⟨hs, he, hn⟩ := hh
    have hb := smallB_bd hs
    obtain rfl : n = 11 := by rw [← hl.length]; exact hn
    have hE : (elemsB p l && decide ((11 : Nat) = 11)) = true := by simp [he]
    have HV : Calls Try.prog 118 #[.int .i64 p, .slice A 11 c, .int .i64 11] w fun e w' => e = .returned (.bool true) ∧ w = w' := (spec_vwAll A 11 c l p 11 w hl (by omega)).mono fun e w' h => ⟨by rw [h.1, hE], h.2⟩
    have HVh := Lib.hid HV
    clear HV
    clear hB hn
    go_enter Try.func48, Try.ntmps48
    go_wp2_with (first | (go_at_call 114; refine (spec_vwSmall _ _).mono ?_; rintro e w' ⟨rfl, rfl⟩) | (go_at_call 118; refine HVh.out.mono ?_; rintro e w' ⟨rfl, rfl⟩) | (go_at_call 108; refine (spec_vwCode A 11 c l p _ hl (by omega) (by omega) (by omega) (elemsB_mem he)).mono ?_; rintro e w' ⟨rfl, rfl⟩))
    go_ret2
    exact ⟨by rw [hR.out]; rfl, Bl.refl _⟩
set_option maxHeartbeats 1000000 in
theorem impl_ViewCode (A : Option Addr) (n c : Nat) (l : List Int) (p : Int) (w : World) (hl : RdI w A n c l) :
    Calls Try.prog 47 #[.int .i64 p, .slice A n c] w fun e w' => e = .returned (.tuple #[.int .i64 (vcR p l), .bool (vcB p l)]) ∧ Bl w w' := by
  obtain ⟨hle1, hle2⟩ := hl.le
  rcases hB : vcB p l
  case false =>
    have hR := Lib.hid (show vcR p l = 0 by simp [vcR, hB])
    rcases hs : smallB p
    · go_enter Try.func47, Try.ntmps47
      go_wp2_with (first | (go_at_call 111; refine (impl_isSmallField _ _).mono ?_; rintro e w' ⟨rfl, rfl⟩))
      go_ret2
      exact ⟨by rw [hR.out]; rfl, Bl.refl _⟩
    rcases hE : elemsB p l
    · go_enter Try.func47, Try.ntmps47
      go_wp2_with (first | (go_at_call 111; refine (impl_isSmallField _ _).mono ?_; rintro e w' ⟨rfl, rfl⟩) | (go_at_call 117; refine (impl_areElements A _ c l p _ hl).mono ?_; rintro e w1 ⟨rfl, hb1⟩; rw [hE]))
      go_ret2
      exact ⟨by rw [hR.out]; rfl, hb1⟩
    · have hn : ¬ n = 11 := by
        intro hn
        rw [← hl.length] at hn
        simp [vcB, hs, hE, hn] at hB
      have hd : ((n : Int) == 11) = false := by simp; omega
      go_enter Try.func47, Try.ntmps47
      go_wp2_with (first | (go_at_call 111; refine (impl_isSmallField _ _).mono ?_; rintro e w' ⟨rfl, rfl⟩) | (go_at_call 117; refine (impl_areElements A _ c l p _ hl).mono ?_; rintro e w1 ⟨rfl, hb1⟩; rw [hE]))
      go_ret2
      exact ⟨by rw [hR.out]; rfl, hb1⟩
  · have hR := Lib.hid (show vcR p l = vcF p l by simp [vcR, hB])
    have hh : smallB p = true ∧ elemsB p l = true ∧ l.length = 11 := by simpa [vcB, and_assoc] using hB
    obtain ⟨hs, he, hn⟩ := hh
    have hb := smallB_bd hs
    obtain rfl : n = 11 := by rw [← hl.length]; exact hn
    have hE := he
    clear hB hn
    go_enter Try.func47, Try.ntmps47
    go_wp2_with (first | (go_at_call 111; refine (impl_isSmallField _ _).mono ?_; rintro e w' ⟨rfl, rfl⟩) | (go_at_call 117; refine (impl_areElements A _ c l p _ hl).mono ?_; rintro e w1 ⟨rfl, hb1⟩; rw [hE]) | (go_at_call 102; refine (impl_viewCode A 11 c l p _ (hl.keep hb1) (by omega) (by omega) (by omega) (elemsB_mem he)).mono ?_; rintro e w' ⟨rfl, rfl⟩))
    go_ret2
    exact ⟨by rw [hR.out]; rfl, hb1⟩
end Go.Proofs.Ytglgaicbcackbaa
