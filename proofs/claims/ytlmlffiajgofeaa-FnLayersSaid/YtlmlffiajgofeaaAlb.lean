/- Contracts of asking all numbers of a list by a function value that makes new blocks.
   Conditions: the function value answers by a plain function and only makes new blocks. -/
import Derived.Test.YtlmlffiajgofeaaAll
namespace Go.Proofs.Ytlmlffiajgofeaa
open Go.RowKit
set_option linter.unusedVariables false
/-- A function value answers f in every world that has grown from W, and only makes new blocks. -/
def AnswersB (W : World) (K : Nat) (caps : Array Value) (f : Int → Bool) : Prop :=
  ∀ (x : Int) (W' : World), Bl W W' → Calls Try.prog K (#[.int .i64 x] ++ caps) W' fun e w' => e = .returned (.bool (f x)) ∧ Bl W' w'
theorem Answers.b {W : World} {K : Nat} {caps : Array Value} {f : Int → Bool} (h : Answers W K caps f) : AnswersB W K caps f := fun x W' hW => (h x W' hW).mono fun e w' ⟨a, b⟩ => ⟨a, b ▸ Bl.refl _⟩
theorem areAll_1b (K g : Nat) (caps : Array Value) (f : Int → Bool) (x : Int) (W w : World) (hW : Bl W w) (hK : Enters K) (h : AnswersB W K caps f) (hc : w.cell? ⟨g, 0, none⟩ = some (.func (.func K) #[] caps)) :
    Calls Try.prog 128 #[.int .i64 x, .pointer (some ⟨g, 0, none⟩)] w fun e w' => e = .returned (.bool (!f x)) ∧ Bl w w' := by
  have H := Lib.hid h
  clear h
  unfold Enters at hK
  go_enter Try.func128, Try.ntmps128
  go_wp2_with (refine (H.out x _ hW).mono ?_; rintro e w' ⟨rfl, hb1⟩)
  go_ret
  exact ⟨rfl, hb1⟩
def IdxPostB (f : Int → Bool) (l : List Int) (w : World) (e : Ending) (w' : World) : Prop := ∃ i : Int, -1 ≤ i ∧ i ≤ 9223372036854775806 ∧ e = .returned (.int .i64 i) ∧ (decide (0 ≤ i) = !allF f l) ∧ Bl w w'
set_option maxHeartbeats 1000000 in
theorem slices_IndexFunc_allb (A : Option Addr) (n c : Nat) (l : List Int) (K g : Nat) (caps : Array Value) (f : Int → Bool) (W w : World) (hW : Bl W w) (hK : Enters K) (h : AnswersB W K caps f)
    (hc : w.cell? ⟨g, 0, none⟩ = some (.func (.func K) #[] caps)) (hl : RdI w A n c l) :
    Calls Try.prog 144 #[.slice A n c, .func (.func 128) #[] #[.pointer (some ⟨g, 0, none⟩)]] w (IdxPostB f l w) := by
  obtain ⟨hle1, hle2⟩ := hl.le
  have hlen := Lib.hid hl.length
  have hen := enters_areAll_1
  unfold Enters at hen
  have HA := Lib.hid h
  have HK := Lib.hid hK
  have h0 := Bl.refl w
  clear h hK
  go_enter Try.func144, Try.ntmps144
  go_wp2
  go_loopw [8] (fun i wr => ∃ k : Nat, k ≤ n ∧ i = .int .i64 k ∧ Hid (allF f (l.take k) = true) ∧ Bl w wr) (fun i _ => n - (intOf i).toNat)
  case atStart => exact ⟨0, by omega, rfl, Lib.hid (by simp [allF]), h0⟩
  case round =>
    obtain ⟨k, hk, rfl, hq, hb⟩ := hrel
    clear h0
    by_cases hlt : k < n
    · obtain ⟨ad, x, rfl, hadb, hx, hcell⟩ := (hl.keep hb).at_ hlt
      have HX := Lib.hid hx
      clear hx
      have hc' := hb.cells hc
      rcases hg : f x
      · have hst := Lib.hid (allF_not HX.out hg)
        go_wp2_with (go_at_call 128; refine (areAll_1b K g caps f x W _ (hW.call hb) HK.out HA.out hc').mono ?_; rintro e w' ⟨rfl, hb1⟩; rw [hg])
        go_ret
        exact ⟨k, by omega, by omega, rfl, by rw [hst.out]; simp, hb.call hb1⟩
      · have hst := Lib.hid (allF_step hq.out HX.out hg)
        go_wp2_with (go_at_call 128; refine (areAll_1b K g caps f x W _ (hW.call hb) HK.out HA.out hc').mono ?_; rintro e w' ⟨rfl, hb1⟩; rw [hg])
        go_roundw
        case rel => exact ⟨k + 1, by omega, by go_num, hst, hb.call hb1⟩
        case measure => simp [intOf]; omega
    · have he : k = n := by omega
      have hst := Lib.hid (show allF f l = true by
        have e := hq.out
        rwa [List.take_of_length_le (by rw [hlen.out]; omega)] at e)
      go_wp2
      go_ret
      exact ⟨-1, by omega, by omega, rfl, by rw [hst.out]; rfl, hb⟩
theorem slices_ContainsFunc_allb (A : Option Addr) (n c : Nat) (l : List Int) (K g : Nat) (caps : Array Value) (f : Int → Bool) (W w : World) (hW : Bl W w) (hK : Enters K) (h : AnswersB W K caps f)
    (hc : w.cell? ⟨g, 0, none⟩ = some (.func (.func K) #[] caps)) (hl : RdI w A n c l) :
    Calls Try.prog 120 #[.slice A n c, .func (.func 128) #[] #[.pointer (some ⟨g, 0, none⟩)]] w fun e w' => e = .returned (.bool (!allF f l)) ∧ Bl w w' := by
  have HI := Lib.hid (slices_IndexFunc_allb A n c l K g caps f W w hW hK h hc hl)
  clear hW hK h hc hl
  go_enter Try.func120, Try.ntmps120
  go_wp2_with (go_at_call 144; refine HI.out.mono ?_; rintro e w' ⟨i, h1, h2, rfl, h3, hb⟩; have H3 := Lib.hid h3; clear h3)
  all_goals go_ret
  all_goals exact ⟨ret_bool H3.out, hb⟩
theorem impl_areAllb (A : Option Addr) (n c : Nat) (l : List Int) (K : Nat) (caps : Array Value) (f : Int → Bool) (w : World) (hK : Enters K) (h : AnswersB w K caps f) (hl : RdI w A n c l) :
    Calls Try.prog 99 #[.slice A n c, .func (.func K) #[] caps] w fun e w' => e = .returned (.bool (allF f l)) ∧ Bl w w' := by
  have hW := (Bl.refl w).alloc (.cells #[.func (.func K) #[] caps] 64)
  have hB := Blk.new w 64 #[.func (.func K) #[] caps]
  have HC := Lib.hid (slices_ContainsFunc_allb A n c l K w.heap.size caps f w _ hW hK h (hB.cell 0 _ rfl) (hl.keep hW))
  clear hK h hl hB
  go_enter Try.func99, Try.ntmps99
  go_wp2_with (go_at_call 120; refine HC.out.mono ?_; rintro e w' ⟨rfl, hb1⟩)
  go_ret
  exact ⟨ret_bool (by simp), hW.call hb1⟩
end Go.Proofs.Ytlmlffiajgofeaa
