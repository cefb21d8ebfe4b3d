/- Contracts of asking all numbers of a list by a function value.
   Conditions: the function value answers by a plain function and leaves the world alone. -/
import Derived.Test.YtjggecbaladiiaaGreatDoorFld
namespace Go.Proofs.YtjggecbaladiiaaGreatDoor
open Go.RowKit
set_option linter.unusedVariables false
/-- A function value answers f in every world that has grown from W. -/
def Answers (W : World) (K : Nat) (caps : Array Value) (f : Int → Bool) : Prop :=
  ∀ (x : Int) (W' : World), Bl W W' → Calls Tryz.prog K (#[.int .i64 x] ++ caps) W' fun e w' => e = .returned (.bool (f x)) ∧ W' = w'
/-- The model enters function K at a call of it. -/
def Enters (K : Nat) : Prop := ∀ (a : Array Value) (w : World), Sem.run Tryz.prog (callFunc K a) w = .ok (.enter K a) w
theorem areAll_1 (K g : Nat) (caps : Array Value) (f : Int → Bool) (x : Int) (W w : World) (hW : Bl W w) (hK : Enters K) (h : Answers W K caps f) (hc : w.cell? ⟨g, 0, none⟩ = some (.func (.func K) #[] caps)) :
    Calls Tryz.prog 195 #[.int .i64 x, .pointer (some ⟨g, 0, none⟩)] w fun e w' => e = .returned (.bool (!f x)) ∧ w = w' := by
  have H := Lib.hid h
  clear h
  unfold Enters at hK
  go_enter Tryz.func195, Tryz.ntmps195
  go_wp2_with (refine (H.out x _ hW).mono ?_; rintro e w' ⟨rfl, rfl⟩)
  go_ret
  exact ⟨rfl, rfl⟩
/-- All numbers of a list answer. -/
def allF (f : Int → Bool) (l : List Int) : Bool := l.all f
theorem allF_step {f : Int → Bool} {l : List Int} {k : Nat} {x : Int} (h : allF f (l.take k) = true) (hx : l[k]? = some x) (hg : f x = true) : allF f (l.take (k + 1)) = true := by
  unfold allF at *
  rw [List.take_add_one, hx, List.all_append, h]; simp [hg]
theorem allF_not {f : Int → Bool} {l : List Int} {k : Nat} {x : Int} (hx : l[k]? = some x) (hg : f x = false) : allF f l = false := by
  rw [Bool.eq_false_iff]; intro h
  have := List.all_eq_true.1 h x (List.mem_of_getElem? hx)
  rw [hg] at this; cases this
theorem enters_areAll_1 : Enters 195 := fun _ _ => by kernel_rfl
/-- IndexFunc with areAll's own function value: below 0 where all answer. -/
def IdxPost (f : Int → Bool) (l : List Int) (w : World) (e : Ending) (w' : World) : Prop := ∃ i : Int, -1 ≤ i ∧ i ≤ 9223372036854775806 ∧ e = .returned (.int .i64 i) ∧ (decide (0 ≤ i) = !allF f l) ∧ w = w'
set_option maxHeartbeats 1000000 in
theorem slices_IndexFunc_all (A : Option Addr) (n c : Nat) (l : List Int) (K g : Nat) (caps : Array Value) (f : Int → Bool) (W w : World) (hW : Bl W w) (hK : Enters K) (h : Answers W K caps f)
    (hc : w.cell? ⟨g, 0, none⟩ = some (.func (.func K) #[] caps)) (hl : RdI w A n c l) :
    Calls Tryz.prog 216 #[.slice A n c, .func (.func 195) #[] #[.pointer (some ⟨g, 0, none⟩)]] w (IdxPost f l w) := by
  obtain ⟨hle1, hle2⟩ := hl.le
  have hlen := Lib.hid hl.length
  have hen := enters_areAll_1
  unfold Enters at hen
  have HA := Lib.hid h
  have HK := Lib.hid hK
  clear h hK
  go_enter Tryz.func216, Tryz.ntmps216
  go_wp2
  go_loop [8] (fun i => ∃ k : Nat, k ≤ n ∧ i = .int .i64 k ∧ Hid (allF f (l.take k) = true)) (fun i => n - (intOf i).toNat)
  case atStart => exact ⟨0, by omega, rfl, Lib.hid (by simp [allF])⟩
  case round =>
    obtain ⟨k, hk, rfl, hq⟩ := hrel
    by_cases hlt : k < n
    · obtain ⟨ad, x, rfl, hadb, hx, hcell⟩ := hl.at_ hlt
      have HX := Lib.hid hx
      clear hx
      rcases hg : f x
      · have hst := Lib.hid (allF_not HX.out hg)
        go_wp2_with (go_at_call 195; refine (areAll_1 K g caps f x W _ hW HK.out HA.out hc).mono ?_; rintro e w' ⟨rfl, rfl⟩; rw [hg])
        go_ret
        exact ⟨k, by omega, by omega, rfl, by rw [hst.out]; simp, rfl⟩
      · have hst := Lib.hid (allF_step hq.out HX.out hg)
        go_wp2_with (go_at_call 195; refine (areAll_1 K g caps f x W _ hW HK.out HA.out hc).mono ?_; rintro e w' ⟨rfl, rfl⟩; rw [hg])
        go_round
        case rel => exact ⟨k + 1, by omega, by go_num, hst⟩
        case measure => simp [intOf]; omega
    · have he : k = n := by omega
      have hst := Lib.hid (show allF f l = true by
        have e := hq.out
        rwa [List.take_of_length_le (by rw [hlen.out]; omega)] at e)
      go_wp2
      go_ret
      exact ⟨-1, by omega, by omega, rfl, by rw [hst.out]; rfl, rfl⟩
theorem slices_ContainsFunc_all (A : Option Addr) (n c : Nat) (l : List Int) (K g : Nat) (caps : Array Value) (f : Int → Bool) (W w : World) (hW : Bl W w) (hK : Enters K) (h : Answers W K caps f)
    (hc : w.cell? ⟨g, 0, none⟩ = some (.func (.func K) #[] caps)) (hl : RdI w A n c l) :
    Calls Tryz.prog 194 #[.slice A n c, .func (.func 195) #[] #[.pointer (some ⟨g, 0, none⟩)]] w fun e w' => e = .returned (.bool (!allF f l)) ∧ w = w' := by
  have HI := Lib.hid (slices_IndexFunc_all A n c l K g caps f W w hW hK h hc hl)
  clear hW hK h hc hl
  go_enter Tryz.func194, Tryz.ntmps194
  go_wp2_with (go_at_call 216; refine HI.out.mono ?_; rintro e w' ⟨i, h1, h2, rfl, h3, rfl⟩; have H3 := Lib.hid h3; clear h3)
  all_goals go_ret
  all_goals exact ⟨ret_bool H3.out, rfl⟩
theorem impl_areAll (A : Option Addr) (n c : Nat) (l : List Int) (K : Nat) (caps : Array Value) (f : Int → Bool) (w : World) (hK : Enters K) (h : Answers w K caps f) (hl : RdI w A n c l) :
    Calls Tryz.prog 149 #[.slice A n c, .func (.func K) #[] caps] w fun e w' => e = .returned (.bool (allF f l)) ∧ Bl w w' := by
  have hW := (Bl.refl w).alloc (.cells #[.func (.func K) #[] caps] 63)
  have hB := Blk.new w 63 #[.func (.func K) #[] caps]
  have HC := Lib.hid (slices_ContainsFunc_all A n c l K w.heap.size caps f w _ hW hK h (hB.cell 0 _ rfl) (hl.keep hW))
  clear hK h hl hB
  go_enter Tryz.func149, Tryz.ntmps149
  go_wp2_with (go_at_call 194; refine HC.out.mono ?_; rintro e w' ⟨rfl, rfl⟩)
  go_ret
  exact ⟨ret_bool (by simp), hW⟩
end Go.Proofs.YtjggecbaladiiaaGreatDoor
