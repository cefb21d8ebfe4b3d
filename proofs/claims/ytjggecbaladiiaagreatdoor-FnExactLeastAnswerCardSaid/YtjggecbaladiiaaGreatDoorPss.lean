/- Small facts on the dozen programs: valid, their widths, operations of at most four bits.
   Conditions: none. -/
import Derived.Test.YtjggecbaladiiaaGreatDoorPsd
import Derived.Test.YtjggecbaladiiaaGreatDoorPrk
import Derived.Test.YtjggecbaladiiaaGreatDoorAps
namespace Go.Proofs.YtjggecbaladiiaaGreatDoor
open Go.RowKit
set_option linter.unusedVariables false
theorem getD_take {l : List Int} {k q : Nat} (h : q < k) : (l.take k).getD q 0 = l.getD q 0 := by
  rw [List.getD_eq_getElem?_getD, List.getD_eq_getElem?_getD, List.getElem?_take_of_lt h]
/-- Operations take numbers of at most four bits. -/
def okW (L : List Ln) (ws : List Int) : Bool := (List.range L.length).all fun i => match L[i]? with
  | none => true
  | some x => !decide (x.k = 3) || decide ((pws (L.take i) (ws.take i) x.ps).getD 0 0 ≤ 4)
theorem okW_at {L : List Ln} {ws : List Int} (h : okW L ws = true) {i : Nat} {x : Ln} (hx : L[i]? = some x) (hk : x.k = 3) : (pws (L.take i) (ws.take i) x.ps).getD 0 0 ≤ 4 := by
  have hi := (List.getElem?_eq_some_iff.1 hx).1
  have := List.all_eq_true.1 h i (List.mem_range.2 hi)
  rw [hx] at this
  simp only [hk, decide_true, Bool.not_true, Bool.false_or, decide_eq_true_eq] at this
  exact this
theorem okI_all : ∀ k, k < 12 → okI (pgL k 1) = true ∧ okI (pgL k 2) = true ∧ okI (pgL k 3) = true ∧ okI (pgL k 4) = true := by decide +kernel
theorem pg_oks {k : Nat} {w : Int} (hk : k < 12) (hw : inR w 1 4 = true) : goodB (pgL k w) = true ∧ okI (pgL k w) = true := by
  refine ⟨(pgOk_at hk hw).2.2.1, ?_⟩
  have h1 := inR_iff.1 hw
  obtain ⟨a, b, c, d⟩ := okI_all k hk
  rcases (by omega : w = 1 ∨ w = 2 ∨ w = 3 ∨ w = 4) with rfl | rfl | rfl | rfl <;> assumption
theorem pgB_at {a b : Int} (h : pgB a b = true) : ∃ k : Nat, a = k ∧ k < 12 ∧ inR b 1 4 = true ∧ pgR a b = pgL k b := by
  have h' := h
  unfold pgB at h'
  rw [Bool.and_eq_true] at h'
  have ha := inR_iff.1 h'.1
  obtain ⟨k, rfl⟩ : ∃ k : Nat, a = (k : Int) := ⟨a.toNat, by omega⟩
  exact ⟨k, rfl, by omega, h'.2, by unfold pgR; rw [if_pos h, Int.toNat_natCast]⟩
def wsD (L : List Ln) : List Int := (wdsL L).getD []
theorem okW_all : ∀ k, k < 12 → okW (pgL k 1) (wsD (pgL k 1)) = true ∧ okW (pgL k 2) (wsD (pgL k 2)) = true ∧ okW (pgL k 3) (wsD (pgL k 3)) = true ∧ okW (pgL k 4) (wsD (pgL k 4)) = true := by decide +kernel
theorem pg_okw {k : Nat} {w : Int} (hk : k < 12) (hw : inR w 1 4 = true) : okW (pgL k w) (wsD (pgL k w)) = true ∧ wdsL (pgL k w) = some (wsD (pgL k w)) := by
  refine ⟨?_, ?_⟩
  · have h1 := inR_iff.1 hw
    obtain ⟨a, b, c, d⟩ := okW_all k hk
    rcases (by omega : w = 1 ∨ w = 2 ∨ w = 3 ∨ w = 4) with rfl | rfl | rfl | rfl <;> assumption
  · obtain ⟨ws, hws, _⟩ := goodB_at (pg_oks hk hw).1
    unfold wsD
    rw [hws]; rfl
/-- The digits of a number, the lowest first. -/
def bitL (v : Int) (w : Nat) : List Int := (List.range w).map fun i => v / 2 ^ i % 2
theorem bitL_len (v : Int) (w : Nat) : (bitL v w).length = w := by simp [bitL]
theorem bitL_step (v : Int) (k : Nat) : bitL v (k + 1) = bitL v k ++ [v / 2 ^ k % 2] := by simp [bitL, List.range_succ]
theorem bitL_at {v : Int} {w k : Nat} (h : k < w) : (bitL v w)[k]? = some (v / 2 ^ k % 2) := by simp [bitL, h]
theorem and1_fin : ∀ n, n < 1024 → bits .and .i64 ((n : Nat) : Int) 1 = ((n % 2 : Nat) : Int) := by decide +kernel
theorem and1 {v : Int} (h : 0 ≤ v ∧ v ≤ 1023) : bits .and .i64 v 1 = v % 2 := by
  obtain ⟨n, rfl⟩ : ∃ n : Nat, v = n := ⟨v.toNat, by omega⟩
  rw [and1_fin n (by omega)]; omega
theorem shr_bd {v : Int} (h : 0 ≤ v ∧ v ≤ 1023) (k : Nat) : 0 ≤ v / 2 ^ k ∧ v / 2 ^ k ≤ 1023 := by
  have hp : (0 : Int) < 2 ^ k := Int.pow_pos (by decide)
  refine ⟨Int.ediv_nonneg h.1 (Int.le_of_lt hp), Int.le_trans (Int.ediv_le_self _ h.1) h.2⟩
theorem shr_step (v : Int) (k : Nat) : v / 2 ^ k / 2 = v / 2 ^ (k + 1) := by
  rw [Int.ediv_ediv_of_nonneg (Int.le_of_lt (Int.pow_pos (by decide))), Int.pow_succ]
set_option maxHeartbeats 2000000 in
theorem impl_bitsOf (v : Int) (N : Nat) (hv : 0 ≤ v ∧ v ≤ 1023) (hN : N ≤ 10) (w : World) :
    Calls Tryz.prog 58 #[.int .i64 v, .int .i64 N] w fun e w' => ∃ S c, e = .returned (.slice S N c) ∧ OwnI w.heap.size w' S N c (bitL v N) ∧ Bl w w' := by
  have hown0 : OwnI w.heap.size (w.alloc (.cells #[] 3)) (some ⟨w.heap.size, 0, none⟩) 0 0 (bitL v 0) := own_made w
  have hW0 : Bl w (w.alloc (.cells #[] 3)) := (Bl.refl w).alloc (.cells #[] 3)
  have HV := Lib.hid hv
  go_enter Tryz.func58, Tryz.ntmps58
  go_wp2_with fail
  go_loopw [5, 9] (fun o i wr => ∃ (k c : Nat) (S : Option Addr), k ≤ N ∧ o = .slice S k c ∧ i = .int .i64 (k : Nat) ∧ OwnI w.heap.size wr S k c (bitL v k) ∧ Bl w wr) (fun _ i _ => N - (intOf i).toNat)
  case atStart => exact ⟨0, 0, _, by omega, rfl, rfl, hown0, hW0⟩
  case round =>
    clear hown0 hW0
    obtain ⟨k, c, S, hk, rfl, rfl, hown, hW⟩ := hrel
    by_cases hlt : k < N
    · have ik : (k : Int) < N := by omega
      have HST := Lib.hid (show bitL v (k + 1) = bitL v k ++ [bits .and .i64 (v / 2 ^ k) 1] by rw [bitL_step, and1 (shr_bd hv k)])
      go_wp2_with (at_builtin; refine ap_int rfl rfl rfl (hown.alloc _) rfl (rd_new1 _ _ _) (by omega) (by have := hW.size; simp; omega) ?_; intro S9 c9 wz ho9 hg9 hat9)
      go_roundw
      case rel => exact ⟨k + 1, c9, S9, by omega, rfl, by go_num, by rw [HST.out]; exact ho9, Bl.grown (hW.alloc _) hg9 (fun q hq => (hown.blk q hq).1)⟩
      case measure => simp [intOf]; omega
    · have ik : ¬ ((k : Int) < N) := by omega
      have hkn : k = N := by omega
      subst hkn
      go_wp2_with fail
      go_ret
      exact ⟨S, c, rfl, hown, hW⟩
set_option maxHeartbeats 2000000 in
theorem spec_btOf (v : Int) (N : Nat) (hv : 0 ≤ v ∧ v ≤ 1023) (hN : N ≤ 10) (w : World) :
    Calls Tryz.prog 50 #[.int .i64 v, .int .i64 N] w fun e w' => ∃ S c, e = .returned (.slice S N c) ∧ OwnI w.heap.size w' S N c (bitL v N) ∧ Bl w w' := by
  have hown0 : OwnI w.heap.size w none 0 0 (bitL v 0) := OwnI.nil _ _
  have hW0 := Bl.refl w
  have HV := Lib.hid hv
  go_enter Tryz.func50, Tryz.ntmps50
  go_wp2_with fail
  go_loopw [0, 1, 5] (fun t i o wr => ∃ (k c : Nat) (S : Option Addr) (u : Int), k ≤ N ∧ t = .int .i64 u ∧ i = .int .i64 ((N - k : Nat) : Int) ∧ o = .slice S k c ∧ Hid (v / 2 ^ k = u) ∧ OwnI w.heap.size wr S k c (bitL v k) ∧ Bl w wr) (fun _ i _ _ => (intOf i).toNat)
  case atStart => exact ⟨0, 0, none, v, by omega, rfl, rfl, rfl, Lib.hid (by simp), hown0, hW0⟩
  case round =>
    clear hown0 hW0
    obtain ⟨k, c, S, u, hk, rfl, rfl, rfl, hu, hown, hW⟩ := hrel
    by_cases hlt : k < N
    · have ik : (0 : Int) < ((N - k : Nat) : Int) := by omega
      have hub := shr_bd hv k
      rw [hu.out] at hub
      have HST := Lib.hid (show bitL v (k + 1) = bitL v k ++ [u % 2] by rw [bitL_step, hu.out])
      have HU := Lib.hid (show v / 2 ^ (k + 1) = u / 2 by rw [← shr_step, hu.out])
      have hm1 : Int.tmod u 2 = u % 2 := Int.tmod_eq_emod_of_nonneg hub.1
      have hm2 : Int.tdiv u 2 = u / 2 := Int.tdiv_eq_ediv_of_nonneg hub.1
      clear hv
      go_wp2_with (at_builtin; refine ap_int rfl rfl rfl (hown.alloc _) rfl (rd_new1 _ _ _) (by omega) (by have := hW.size; simp; omega) ?_; intro S9 c9 wz ho9 hg9 hat9)
      go_roundw
      case rel => exact ⟨k + 1, c9, S9, u / 2, by omega, (by first | rfl | go_num), by go_num, rfl, HU, by rw [HST.out]; exact ho9, Bl.grown (hW.alloc _) hg9 (fun q hq => (hown.blk q hq).1)⟩
      case measure => simp [intOf]; omega
    · have ik : ¬ (0 : Int) < ((N - k : Nat) : Int) := by omega
      have hkn : k = N := by omega
      subst hkn
      go_wp2_with fail
      go_ret
      exact ⟨S, c, rfl, hown, hW⟩
end Go.Proofs.YtjggecbaladiiaaGreatDoor
