/- The walk of the law on FaultsOf.
   Conditions: none. -/
import Derived.Test.YtmlmdapncphkfaaFau
namespace Go.Proofs.Ytmlmdapncphkfaa
open Go.RowKit
set_option linter.unusedVariables false
theorem ne_of_lt_le {A : Option Addr} {b : Nat} {B : Option Addr} (h1 : ∀ k, A.map (·.block) = some k → k < b) (h2 : ∀ k, B.map (·.block) = some k → b ≤ k) : ∀ a, A = some a → some a.block ≠ B.map (·.block) := by
  rintro a rfl he
  have e1 := h1 a.block rfl
  have e2 := h2 a.block he.symm
  omega
theorem OwnI.grown {w w' : World} {base n c : Nat} {A : Option Addr} {l : List Int} {row : Option Nat} (h : OwnI base w A n c l) (hg : w.grownBy w' row) (hne : ∀ a, A = some a → some a.block ≠ row) : OwnI base w' A n c l := by
  refine World.ownsRow.kept h hg ?_
  rw [ownBlock_slice]
  cases A with
  | none => exact .inl rfl
  | some a => exact .inr (hne a rfl)
set_option maxHeartbeats 4000000 in
theorem law_FaultsOf (A : Option Addr) (n c : Nat) (l : List Sea) (w : World) (hA : RdS w A n c l) :
    Calls Try.prog 13 #[.slice A n c] w fun e w' => e = .returned (.bool true) ∧ Bl w w' := by
  obtain ⟨hle1, hle2⟩ := hA.le
  by_cases hn : (1048576 : Int) - n < 0
  · have hsz : (if (1048576 : Int) - n < 0 then (-1 : Int) else 1048576 - n) = -1 := if_pos hn
    go_enter Try.func13, Try.ntmps13
    go_wp2_with fail
    refine (laws_szSealedS A n c 1048576 _ hle1 hle2 (by omega) (by omega)).mono ?_
    rintro e w1 ⟨rfl, rfl⟩
    rw [hsz]
    go_wp2
    go_ret
    exact ⟨rfl, Bl.refl _⟩
  · have hsz : (if (1048576 : Int) - n < 0 then (-1 : Int) else 1048576 - n) = 1048576 - n := if_neg hn
    go_enter Try.func13, Try.ntmps13
    go_wp2_with fail
    refine (laws_szSealedS A n c 1048576 _ hle1 hle2 (by omega) (by omega)).mono ?_
    rintro e w1 ⟨rfl, rfl⟩
    rw [hsz]
    go_wp2_with fail
    refine (laws_toSealedS A n c l _ hA (by omega)).mono ?_
    rintro e w1 ⟨A1, c1, rfl, hs1, hb1⟩
    go_wp2_with fail
    refine (spec_FaultsOf A1 n c1 l _ hs1.rd).mono ?_
    rintro e w2 ⟨A2, n2, c2, rfl, ho2, hb2⟩
    have hW2 := hb1.call hb2
    go_wp2_with fail
    refine (laws_toSealedS A n c l _ (hA.keep hW2) (by omega)).mono ?_
    rintro e w3 ⟨A3, c3, rfl, hx3, hb3⟩
    have hW3 := hW2.call hb3
    go_wp2_with fail
    refine (impl_FaultsOf A3 n c3 l _ hx3.rd).mono ?_
    rintro e w4 ⟨A4, n4, c4, rfl, ho4, hb4⟩
    have hW4 := hW3.call hb4
    have h2_4 := (ho2.keep hb3).keep hb4
    go_wp2_with fail
    refine (laws_eqIntS _ _ _ _ _ _ _ _ _ ho4.rd h2_4.rd).mono ?_
    rintro e w5 ⟨rfl, hb5⟩
    have hW5 := hW4.call hb5
    go_wp2_with fail
    refine (laws_toSealedS A n c l _ (hA.keep hW5) (by omega)).mono ?_
    rintro e w6 ⟨A6, c6, rfl, hs6, hb6⟩
    have hW6 := hW5.call hb6
    have hx6 := ((hx3.keep hb4).keep hb5).keep hb6
    go_wp2_with fail
    refine (laws_eqSealedS _ _ _ _ _ _ _ _ hx6.rd hs6.rd).mono ?_
    rintro e w7 ⟨rfl, hb7⟩
    have hW7 := hW6.call hb7
    have hx7 := hx6.keep hb7
    have h2_7 := ((h2_4.keep hb5).keep hb6).keep hb7
    have h4_7 := ((ho4.keep hb5).keep hb6).keep hb7
    go_wp2_with fail
    refine (laws_markSealedS _ _ _ _ _ 1 _ hx7 (by omega) (by omega)).mono ?_
    rintro e w8 ⟨rfl, hm8, hg8⟩
    have a1 : ∀ a, A2 = some a → some a.block ≠ A3.map (·.block) := ne_of_lt_le (b := w2.heap.size) (fun k hk => (ho2.blk k hk).2) (fun k hk => (hx3.1.blk k hk).1)
    have a2 : ∀ a, A4 = some a → some a.block ≠ A3.map (·.block) := by
      rintro a rfl he
      have e1 := (ho4.blk a.block rfl).1
      have e2 := (hx3.1.blk a.block he.symm).2
      omega
    have h2_8 := h2_7.grown hg8 a1
    have h4_8 := h4_7.grown hg8 a2
    have hW8 := hW7.grown hg8 (fun k hk => Nat.le_trans hW2.sz (hx3.1.blk k hk).1)
    clear hg8 a1 a2
    go_wp2_with fail
    refine (laws_eqIntS _ _ _ _ _ _ _ _ _ h4_8.rd h2_8.rd).mono ?_
    rintro e w9 ⟨rfl, hb9⟩
    have hW9 := hW8.call hb9
    have h2_9 := h2_8.keep hb9
    have h4_9 := h4_8.keep hb9
    have hlen := h4_9.length
    have hlb := foR_len l
    have hn4 : n4 ≤ 1000000000000000000 := by omega
    clear hlen hlb
    go_wp2_with fail
    refine (laws_markIntS _ _ _ _ _ 1 _ h4_9 (by omega) (by omega)).mono ?_
    rintro e wa ⟨rfl, hma, hga⟩
    have a3 : ∀ a, A2 = some a → some a.block ≠ A4.map (·.block) := ne_of_lt_le (b := w3.heap.size) (fun k hk => Nat.lt_of_lt_of_le (ho2.blk k hk).2 hb3.sz) (fun k hk => (ho4.blk k hk).1)
    have h2_a := h2_9.grown hga a3
    have hWa := hW9.grown hga (fun k hk => Nat.le_trans hW3.sz (ho4.blk k hk).1)
    clear hga a3
    go_wp2_with fail
    refine (laws_heldIntS _ _ _ 1 _ hma.rd (by omega) (by omega)).mono ?_
    rintro e wb ⟨rfl, rfl⟩
    go_wp2_with fail
    refine (laws_toSealedS A n c l _ (hA.keep hWa) (by omega)).mono ?_
    rintro e wc ⟨Ac, cc, rfl, hxc, hbc⟩
    go_wp2_with fail
    refine (impl_FaultsOf Ac n cc l _ hxc.rd).mono ?_
    rintro e wd ⟨Ad, nd, cd, rfl, hod, hbd⟩
    go_wp2_with fail
    refine (laws_eqIntS _ _ _ _ _ _ _ _ _ hod.rd ((h2_a.keep hbc).keep hbd).rd).mono ?_
    rintro e we ⟨rfl, hbe⟩
    go_wp2_with fail
    refine (laws_heldIntS _ _ _ 1 _ (((hma.keep hbc).keep hbd).keep hbe).rd (by omega) (by omega)).mono ?_
    rintro e wf ⟨rfl, rfl⟩
    go_wp2
    go_ret
    exact ⟨rfl, ((hWa.call hbc).call hbd).call hbe⟩
end Go.Proofs.Ytmlmdapncphkfaa
