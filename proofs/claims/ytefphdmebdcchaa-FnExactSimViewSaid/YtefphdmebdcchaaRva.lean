/- The walks of the laws on views.
   Conditions: none. -/
import Derived.Test.YtefphdmebdcchaaRvm
import Derived.Test.YtefphdmebdcchaaToi
import Derived.Test.YtefphdmebdcchaaLst
namespace Go.Proofs.Ytefphdmebdcchaa
open Go.RowKit
set_option linter.unusedVariables false
theorem OwnI.grown {w w' : World} {base n c : Nat} {A : Option Addr} {l : List Int} {row : Option Nat} (h : OwnI base w A n c l) (hg : w.grownBy w' row) (hne : ∀ a, A = some a → some a.block ≠ row) : OwnI base w' A n c l := by
  refine World.ownsRow.kept h hg ?_
  rw [ownBlock_slice]
  rcases A with _ | a
  · exact .inl rfl
  · exact .inr (hne a rfl)
/-- What is made later lies apart from what was there. -/
theorem own_apart_r {w1 w3 : World} {n1 c1 n3 c3 b3 : Nat} {A1 A2 : Option Addr} {l1 l3 : List Int} (h1 : OwnI w1.heap.size w3 A1 n1 c1 l1) (h3 : OwnI b3 w1 A2 n3 c3 l3) :
    ∀ a, A1 = some a → some a.block ≠ A2.map (·.block) := by
  rintro a rfl he
  have e1 := h1.blk a.block rfl
  have e2 := h3.blk a.block he.symm
  omega
theorem rvR_len (p x y q : Int) (l : List Int) : (rvR p x y q l).length ≤ 11 := by
  unfold rvR rvL
  split
  · split
    · split <;> simp [vw0, vw1]
    · simp
  · simp
theorem svR_len (p q i o : Int) (l : List Int) : (svR p q i o l).length ≤ 11 := by
  unfold svR svL
  split
  · split <;> simp [smR]
  · simp
set_option maxHeartbeats 4000000 in
theorem law_RealView (p x y q : Int) (A : Option Addr) (n c : Nat) (l : List Int) (w : World) (h : RdI w A n c l) :
    Calls Try.prog 8 #[.int .i64 p, .int .i64 x, .int .i64 y, .int .i64 q, .slice A n c] w fun e w' => e = .returned (.bool true) ∧ Bl w w' := by
  obtain ⟨hle1, hle2⟩ := h.le
  by_cases hn : (1048576 : Int) < n
  · go_enter Try.func8, Try.ntmps8
    go_wp2
    go_ret
    exact ⟨rfl, Bl.refl _⟩
  · go_enter Try.func8, Try.ntmps8
    go_wp2_with fail
    refine (laws_toIntS A n c l _ h (by omega)).mono ?_
    rintro e w1 ⟨A1, c1, rfl, h1, hb1⟩
    go_wp2_with fail
    refine (spec_RealView p x y q A1 n c1 l _ h1.rd).mono ?_
    rintro e w2 ⟨As, ns, cs, rfl, hs, hb2⟩
    have hW2 := hb1.call hb2
    go_wp2_with fail
    refine (laws_toIntS A n c l _ (h.keep hW2) (by omega)).mono ?_
    rintro e w3 ⟨A3, c3, rfl, h3, hb3⟩
    have hW3 := hW2.call hb3
    go_wp2_with fail
    refine (impl_RealView p x y q A3 n c3 l _ h3.rd).mono ?_
    rintro e w4 ⟨Ag, ng, cg, rfl, hg, hb4⟩
    have hW4 := hW3.call hb4
    have hle := hg.length
    have hlb := rvR_len p x y q l
    have hng : ng ≤ 1000000000000000000 := by omega
    clear hlb hle
    go_wp2_with fail
    refine (laws_eqIntS _ _ _ _ _ _ _ _ _ hg.rd ((hs.keep hb3).keep hb4).rd).mono ?_
    rintro e w5 ⟨rfl, hb5⟩
    have hW5 := hW4.call hb5
    go_wp2_with fail
    refine (laws_toIntS A n c l _ (h.keep hW5) (by omega)).mono ?_
    rintro e w6 ⟨A6, c6, rfl, h6, hb6⟩
    have hW6 := hW5.call hb6
    have h36 := ((h3.keep hb4).keep hb5).keep hb6
    go_wp2_with fail
    refine (laws_eqIntS _ _ _ _ _ _ _ _ _ h36.rd h6.rd).mono ?_
    rintro e w7 ⟨rfl, hb7⟩
    have hW7 := hW6.call hb7
    have h37 := h36.keep hb7
    have hg7 := ((hg.keep hb5).keep hb6).keep hb7
    have hs7 := ((((hs.keep hb3).keep hb4).keep hb5).keep hb6).keep hb7
    go_wp2_with fail
    refine (laws_markIntS _ _ _ _ _ 1 _ h37 (by omega) (by omega)).mono ?_
    rintro e w8 ⟨rfl, hm8, hgr8⟩
    have hb24 : Bl w2 w7 := ((((hb3.call hb4).call hb5).call hb6).call hb7)
    have hg8 := hg7.grown hgr8 (own_apart_r hg h3)
    have hs8 := hs7.rd.grown hgr8 (own_apart hs h37 (Nat.le_refl _))
    have hW8 := hW7.grown hgr8 (fun k hk => Nat.le_trans hW2.sz (h37.blk k hk).1)
    have hn8 : w7.heap.size ≤ w8.heap.size := hgr8.size
    clear hgr8
    go_wp2_with fail
    refine (laws_eqIntS _ _ _ _ _ _ _ _ _ hg8.rd hs8).mono ?_
    rintro e w9 ⟨rfl, hb9⟩
    have hg9 := hg8.keep hb9
    go_wp2_with fail
    refine (laws_markIntS _ _ _ _ _ 1 _ hg9 (by omega) (by omega)).mono ?_
    rintro e w10 ⟨rfl, hm10, hgr10⟩
    have hs10 := (hs8.keep hb9).grown hgr10 (own_apart hs hg9 hb3.sz)
    have hW10 := (hW8.call hb9).grown hgr10 (fun k hk => Nat.le_trans hW3.sz (hg9.blk k hk).1)
    clear hgr10
    go_wp2_with fail
    refine (laws_heldIntS _ _ _ _ _ hm10.rd (by omega) (by omega)).mono ?_
    rintro e w11 ⟨rfl, rfl⟩
    go_wp2_with fail
    refine (laws_toIntS A n c l _ (h.keep hW10) (by omega)).mono ?_
    rintro e w12 ⟨A12, c12, rfl, h12, hb12⟩
    go_wp2_with fail
    refine (impl_RealView p x y q A12 n c12 l _ h12.rd).mono ?_
    rintro e w13 ⟨Ah, nh, ch, rfl, hh, hb13⟩
    go_wp2_with fail
    refine (laws_eqIntS _ _ _ _ _ _ _ _ _ hh.rd ((hs10.keep hb12).keep hb13)).mono ?_
    rintro e w14 ⟨rfl, hb14⟩
    go_wp2_with fail
    refine (laws_heldIntS _ _ _ _ _ (((hm10.rd.keep hb12).keep hb13).keep hb14) (by omega) (by omega)).mono ?_
    rintro e w15 ⟨rfl, rfl⟩
    go_wp2
    go_ret
    exact ⟨rfl, ((hW10.call hb12).call hb13).call hb14⟩
set_option maxHeartbeats 4000000 in
theorem law_SimView (p q i o : Int) (A : Option Addr) (n c : Nat) (l : List Int) (w : World) (h : RdI w A n c l) :
    Calls Try.prog 7 #[.int .i64 p, .int .i64 q, .int .i64 i, .int .i64 o, .slice A n c] w fun e w' => e = .returned (.bool true) ∧ Bl w w' := by
  obtain ⟨hle1, hle2⟩ := h.le
  by_cases hn : (1048576 : Int) < n
  · go_enter Try.func7, Try.ntmps7
    go_wp2
    go_ret
    exact ⟨rfl, Bl.refl _⟩
  · go_enter Try.func7, Try.ntmps7
    go_wp2_with fail
    refine (laws_toIntS A n c l _ h (by omega)).mono ?_
    rintro e w1 ⟨A1, c1, rfl, h1, hb1⟩
    go_wp2_with fail
    refine (spec_SimView p q i o A1 n c1 l _ h1.rd).mono ?_
    rintro e w2 ⟨As, ns, cs, rfl, hs, hb2⟩
    have hW2 := hb1.call hb2
    go_wp2_with fail
    refine (laws_toIntS A n c l _ (h.keep hW2) (by omega)).mono ?_
    rintro e w3 ⟨A3, c3, rfl, h3, hb3⟩
    have hW3 := hW2.call hb3
    go_wp2_with fail
    refine (impl_SimView p q i o A3 n c3 l _ h3.rd).mono ?_
    rintro e w4 ⟨Ag, ng, cg, rfl, hg, hb4⟩
    have hW4 := hW3.call hb4
    have hle := hg.length
    have hlb := svR_len p q i o l
    have hng : ng ≤ 1000000000000000000 := by omega
    clear hlb hle
    go_wp2_with fail
    refine (laws_eqIntS _ _ _ _ _ _ _ _ _ hg.rd ((hs.keep hb3).keep hb4).rd).mono ?_
    rintro e w5 ⟨rfl, hb5⟩
    have hW5 := hW4.call hb5
    go_wp2_with fail
    refine (laws_toIntS A n c l _ (h.keep hW5) (by omega)).mono ?_
    rintro e w6 ⟨A6, c6, rfl, h6, hb6⟩
    have hW6 := hW5.call hb6
    have h36 := ((h3.keep hb4).keep hb5).keep hb6
    go_wp2_with fail
    refine (laws_eqIntS _ _ _ _ _ _ _ _ _ h36.rd h6.rd).mono ?_
    rintro e w7 ⟨rfl, hb7⟩
    have hW7 := hW6.call hb7
    have h37 := h36.keep hb7
    have hg7 := ((hg.keep hb5).keep hb6).keep hb7
    have hs7 := ((((hs.keep hb3).keep hb4).keep hb5).keep hb6).keep hb7
    go_wp2_with fail
    refine (laws_markIntS _ _ _ _ _ 1 _ h37 (by omega) (by omega)).mono ?_
    rintro e w8 ⟨rfl, hm8, hgr8⟩
    have hb24 : Bl w2 w7 := ((((hb3.call hb4).call hb5).call hb6).call hb7)
    have hg8 := hg7.grown hgr8 (own_apart_r hg h3)
    have hs8 := hs7.rd.grown hgr8 (own_apart hs h37 (Nat.le_refl _))
    have hW8 := hW7.grown hgr8 (fun k hk => Nat.le_trans hW2.sz (h37.blk k hk).1)
    have hn8 : w7.heap.size ≤ w8.heap.size := hgr8.size
    clear hgr8
    go_wp2_with fail
    refine (laws_eqIntS _ _ _ _ _ _ _ _ _ hg8.rd hs8).mono ?_
    rintro e w9 ⟨rfl, hb9⟩
    have hg9 := hg8.keep hb9
    go_wp2_with fail
    refine (laws_markIntS _ _ _ _ _ 1 _ hg9 (by omega) (by omega)).mono ?_
    rintro e w10 ⟨rfl, hm10, hgr10⟩
    have hs10 := (hs8.keep hb9).grown hgr10 (own_apart hs hg9 hb3.sz)
    have hW10 := (hW8.call hb9).grown hgr10 (fun k hk => Nat.le_trans hW3.sz (hg9.blk k hk).1)
    clear hgr10
    go_wp2_with fail
    refine (laws_heldIntS _ _ _ _ _ hm10.rd (by omega) (by omega)).mono ?_
    rintro e w11 ⟨rfl, rfl⟩
    go_wp2_with fail
    refine (laws_toIntS A n c l _ (h.keep hW10) (by omega)).mono ?_
    rintro e w12 ⟨A12, c12, rfl, h12, hb12⟩
    go_wp2_with fail
    refine (impl_SimView p q i o A12 n c12 l _ h12.rd).mono ?_
    rintro e w13 ⟨Ah, nh, ch, rfl, hh, hb13⟩
    go_wp2_with fail
    refine (laws_eqIntS _ _ _ _ _ _ _ _ _ hh.rd ((hs10.keep hb12).keep hb13)).mono ?_
    rintro e w14 ⟨rfl, hb14⟩
    go_wp2_with fail
    refine (laws_heldIntS _ _ _ _ _ (((hm10.rd.keep hb12).keep hb13).keep hb14) (by omega) (by omega)).mono ?_
    rintro e w15 ⟨rfl, rfl⟩
    go_wp2
    go_ret
    exact ⟨rfl, ((hW10.call hb12).call hb13).call hb14⟩
end Go.Proofs.Ytefphdmebdcchaa
