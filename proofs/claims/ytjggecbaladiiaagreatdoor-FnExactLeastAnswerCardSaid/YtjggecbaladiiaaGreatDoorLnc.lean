/- The least answer as data, and small contracts that both sides want.
   Conditions: none. -/
import Derived.Test.YtjggecbaladiiaaGreatDoorPsf
import Derived.Test.YtjggecbaladiiaaGreatDoorLnd
namespace Go.Proofs.YtjggecbaladiiaaGreatDoor
open Go.RowKit Go.WideElems
set_option linter.unusedVariables false
theorem and_15 : ∀ x, x < 16 → ∀ y, y < 16 → bits .and .i64 (x : Nat) (y : Nat) ≤ 15 := by decide +kernel
theorem exL_bd {k : Nat} {wd x y z : Int} (hw : 1 ≤ wd ∧ wd ≤ 4) (hx : 0 ≤ x ∧ x ≤ 15) (hy : 0 ≤ y ∧ y ≤ 15) (hz : 0 ≤ z ∧ z ≤ 15) : ∀ u ∈ exL k wd x y z, 0 ≤ u ∧ u ≤ 999 := by
  have ha : 0 ≤ bits .and .i64 x y ∧ bits .and .i64 x y ≤ 15 := by
    refine ⟨bits_pos hx hy, ?_⟩
    obtain ⟨a, rfl⟩ : ∃ a : Nat, x = a := ⟨x.toNat, by omega⟩
    obtain ⟨b, rfl⟩ : ∃ b : Nat, y = b := ⟨y.toNat, by omega⟩
    exact and_15 a (by omega) b (by omega)
  have hm : 0 ≤ x * y ∧ x * y ≤ 15 * 15 := ⟨Int.mul_nonneg hx.1 hy.1, Int.mul_le_mul hx.2 hy.2 hy.1 (by decide)⟩
  have hp : 0 ≤ (x + y) % 2 ^ wd.toNat ∧ (x + y) % 2 ^ wd.toNat ≤ 999 := by
    have hw4 := pow_4 hw
    have h0 : (0 : Int) < 2 ^ wd.toNat := Int.pow_pos (by decide)
    exact ⟨Int.emod_nonneg _ (by omega), by have := Int.emod_lt_of_pos (x + y) h0; omega⟩
  intro u hu
  unfold exL at hu
  generalize bits .and .i64 x y = q at ha hu
  generalize x * y = m at hm hu
  generalize (x + y) % 2 ^ wd.toNat = r at hp hu
  (repeat' split at hu) <;> simp only [List.mem_cons, List.not_mem_nil, or_false] at hu <;> omega
/-- The results for the n-th input of the other party. -/
def laV (k : Nat) (wd p : Int) (own ws : List Int) (S n : Nat) : List Int := if p = 1 then exR k wd (nmsL ws (bitL n S)) own else exR k wd own (nmsL ws (bitL n S))
/-- The texts of all of them. -/
def laT (f : List Int → ByteArray) (k : Nat) (wd p : Int) (own ws : List Int) (S : Nat) : List ByteArray := (List.range (2 ^ S)).map fun n => f (laV k wd p own ws S n)
theorem laT_len (f : List Int → ByteArray) (k : Nat) (wd p : Int) (own ws : List Int) (S : Nat) : (laT f k wd p own ws S).length = 2 ^ S := by simp [laT]
theorem laT_at (f : List Int → ByteArray) (k : Nat) (wd p : Int) (own ws : List Int) (S : Nat) {n : Nat} (h : n < 2 ^ S) : (laT f k wd p own ws S)[n]? = some (f (laV k wd p own ws S n)) := by simp [laT, h]
theorem la_same (k : Nat) (wd p : Int) (own ws : List Int) (S : Nat) (q : Nat) : lsB (laT tI k wd p own ws S) q = lsB (laT tS k wd p own ws S) q := by
  have h := lsB_map (f := fun n => tI (laV k wd p own ws S n)) (g := fun n => tS (laV k wd p own ws S n)) (fun a b => t_iff _ _) (List.range (2 ^ S)) q
  exact h
/-- There is such a program, such a party, and these are its inputs. -/
def lqB (a b p : Int) (x : List Int) : Bool := pgB a b && inR p 0 1 && fitR x (insL (pgR a b) p)
/-- The widths of the other party's inputs, and the bits of all of them. -/
def lqW (a b p : Int) : List Int := insL (pgR a b) (1 - p)
def lqV (a b p : Int) (x : List Int) : Int := if lqB a b p x then (lsB (laT tI a.toNat b p x (lqW a b p) (lqW a b p).sum.toNat) (2 ^ (lqW a b p).sum.toNat) : Nat) else 0
theorem ask_p {k : Nat} (hk : k < 12) {wd p : Int} (hwd : 1 ≤ wd ∧ wd ≤ 4) (hp : p = 0 ∨ p = 1) : allR (insL (pgL k wd) (1 - p)) 1 10 = true ∧ 1 ≤ (insL (pgL k wd) (1 - p)).sum ∧ (insL (pgL k wd) (1 - p)).sum ≤ 8 ∧ (insL (pgL k wd) (1 - p)).length ≤ 2 := by
  have h := ins_eq k hk wd
  have hw : inR wd 1 10 = true := inR_iff.2 ⟨by omega, by omega⟩
  have h1 : inR 1 1 10 = true := by decide
  have c1 : allR [wd] 1 10 = true ∧ 1 ≤ [wd].sum ∧ [wd].sum ≤ 8 ∧ [wd].length ≤ 2 := ⟨by simp [allR, hw], by simp; omega, by simp; omega, by simp⟩
  have c2 : allR [wd, wd] 1 10 = true ∧ 1 ≤ [wd, wd].sum ∧ [wd, wd].sum ≤ 8 ∧ [wd, wd].length ≤ 2 := ⟨by simp [allR, hw], by simp; omega, by simp; omega, by simp⟩
  have c3 : allR [1] 1 10 = true ∧ 1 ≤ ([1] : List Int).sum ∧ ([1] : List Int).sum ≤ 8 ∧ ([1] : List Int).length ≤ 2 := by decide
  have c4 : allR [1, 1] 1 10 = true ∧ 1 ≤ ([1, 1] : List Int).sum ∧ ([1, 1] : List Int).sum ≤ 8 ∧ ([1, 1] : List Int).length ≤ 2 := by decide
  rcases hp with rfl | rfl
  · rw [show (1 : Int) - 0 = 1 from rfl, h.2]
    unfold ins1
    split
    · exact c3
    · exact c1
  · rw [show (1 : Int) - 1 = 0 from rfl, h.1]
    unfold ins0
    split
    · exact c2
    · split
      · exact c4
      · exact c1
/-- All that is known of the n-th round. -/
theorem la_ask {k : Nat} (hk : k < 12) {wd p : Int} (hwd : 1 ≤ wd ∧ wd ≤ 4) (hp : p = 0 ∨ p = 1) {own : List Int} {S : Nat} (hf : fitR own (insL (pgL k wd) p) = true) (hS : (insL (pgL k wd) (1 - p)).sum = (S : Int)) (n : Nat) :
    (p = 1 → askR (pgL k wd) (nmsL (insL (pgL k wd) (1 - p)) (bitL n S)) own = true) ∧ (p = 0 → askR (pgL k wd) own (nmsL (insL (pgL k wd) (1 - p)) (bitL n S)) = true) := by
  obtain ⟨h1, _, _, _⟩ := ask_p hk hwd hp
  have hn := nmsL_fit (ws := insL (pgL k wd) (1 - p)) (l := bitL n S) (fun u hu => by have := inR_iff.1 (List.all_eq_true.1 h1 u hu); omega) (by rw [hS, bitL_len]) bitL_01
  refine ⟨fun e => ?_, fun e => ?_⟩
  · subst e
    unfold askR
    rw [Bool.and_eq_true]
    exact ⟨hn, hf⟩
  · subst e
    unfold askR
    rw [Bool.and_eq_true]
    exact ⟨hf, hn⟩
theorem ex_bd {k : Nat} (hk : k < 12) {wd : Int} (hwd : 1 ≤ wd ∧ wd ≤ 4) {a b : List Int} (hq : askR (pgL k wd) a b = true) : allR (exR k wd a b) 0 999 = true := by
  have hw4 := hwd
  unfold askR at hq
  rw [(ins_eq k hk wd).1, (ins_eq k hk wd).2, Bool.and_eq_true] at hq
  obtain ⟨h1, h2⟩ := hq
  have hB : ∃ y, b = [y] ∧ 0 ≤ y ∧ y ≤ 15 := by
    unfold ins1 at h2
    split at h2
    · exact fit1 (v := 1) h2 (by omega)
    · exact fit1 (v := wd) h2 hw4
  have hA : (0 ≤ a.getD 0 0 ∧ a.getD 0 0 ≤ 15) ∧ 0 ≤ (if k = 5 ∨ k = 8 ∨ k = 10 then a.getD 1 0 else 0) ∧ (if k = 5 ∨ k = 8 ∨ k = 10 then a.getD 1 0 else 0) ≤ 15 := by
    unfold ins0 at h1
    split at h1
    · rename_i hk5
      obtain ⟨x, z, rfl, hx, hz⟩ := fit2 (u := wd) (v := wd) h1 hw4 hw4
      rw [if_pos (by omega)]
      exact ⟨hx, hz⟩
    · split at h1
      · rename_i hk8
        obtain ⟨x, z, rfl, hx, hz⟩ := fit2 (u := 1) (v := 1) h1 (by omega) (by omega)
        rw [if_pos (by omega)]
        exact ⟨hx, hz⟩
      · obtain ⟨x, rfl, hx⟩ := fit1 (v := wd) h1 hw4
        rw [if_neg (by omega)]
        exact ⟨hx, by decide, by decide⟩
  obtain ⟨y, rfl, hy⟩ := hB
  refine List.all_eq_true.2 fun u hu => inR_iff.2 ?_
  exact exL_bd hwd hA.1 hy hA.2 u hu
theorem allR_up {l : List Int} {a b : Int} (h : allR l 0 a = true) (hab : a ≤ b) : allR l 0 b = true := List.all_eq_true.2 fun u hu => by
  have := inR_iff.1 (List.all_eq_true.1 h u hu)
  exact inR_iff.2 ⟨this.1, by omega⟩
end Go.Proofs.YtjggecbaladiiaaGreatDoor
