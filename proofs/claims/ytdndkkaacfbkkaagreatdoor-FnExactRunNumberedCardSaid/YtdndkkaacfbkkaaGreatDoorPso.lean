/- The walk of the law FnExactRunNumbered.
   Conditions: the library's tables are laid. -/
import Derived.Test.YtdndkkaacfbkkaaGreatDoorPsn
import Derived.Test.YtdndkkaacfbkkaaGreatDoorToi
import Derived.Test.YtdndkkaacfbkkaaGreatDoorLst
import Derived.Test.YtdndkkaacfbkkaaGreatDoorMrk
import Derived.Test.YtdndkkaacfbkkaaGreatDoorHel
namespace Go.Proofs.YtdndkkaacfbkkaaGreatDoor
open Go.RowKit
set_option linter.unusedVariables false
theorem RdI_keepO {base n c : Nat} {w w' : World} {A : Option Addr} {l : List Int} {row : Option Nat} (h : OwnI base w A n c l) (hg : w.grownBy w' row) (hne : ∀ k, A.map (·.block) = some k → row ≠ some k) : OwnI base w' A n c l := OwnI.far_ h hg hne
set_option maxHeartbeats 4000000 in
theorem law_RunNumbered (k wd : Int) (A B : Option Addr) (n c m d : Nat) (a b : List Int) (w : World) (h : RdI w A n c a) (h' : RdI w B m d b) (ht : Tb w) :
    Calls Tryz.prog 4 #[.int .i64 k, .int .i64 wd, .slice A n c, .slice B m d] w fun e w' => e = .returned (.bool true) ∧ Bl w w' := by
  obtain ⟨hle1, hle2⟩ := h.le
  obtain ⟨hle3, hle4⟩ := h'.le
  by_cases hn : (1048576 : Int) < n
  · go_enter Tryz.func4, Tryz.ntmps4
    go_wp2
    go_ret
    exact ⟨rfl, Bl.refl _⟩
  by_cases hm : (1048576 : Int) < m
  · go_enter Tryz.func4, Tryz.ntmps4
    go_wp2
    go_ret
    exact ⟨rfl, Bl.refl _⟩
  have S := Lib.hid (fun A n c B m d w hx hy => spec_RunNumbered k wd A B n c m d a b w hx hy)
  have I := Lib.hid (fun A n c B m d w hx hy ht => impl_RunNumbered k wd A B n c m d a b w hx hy ht)
  have HL := Lib.hid (runF_len k wd a b)
  obtain ⟨E, hE⟩ : ∃ E, exB k wd a b = E := ⟨_, rfl⟩
  obtain ⟨R, hR⟩ : ∃ R, runF k wd a b = R := ⟨_, rfl⟩
  rw [hE, hR] at S I
  rw [hR] at HL
  clear hE hR
  go_enter Tryz.func4, Tryz.ntmps4
  go_wp2_with fail
  refine (laws_toIntS A n c a _ h (by omega)).mono ?_
  rintro e w1 ⟨A1, c1, rfl, h1, hb1⟩
  go_wp2_with fail
  refine (laws_toIntS B m d b _ (h'.keep hb1) (by omega)).mono ?_
  rintro e w2 ⟨B2, d2, rfl, h2, hb2⟩
  go_wp2_with fail
  refine (S.out _ _ _ _ _ _ _ (h1.rd.keep hb2) h2.rd).mono ?_
  rintro e w3 ⟨As, ns, cs, rfl, hs, hb3⟩
  have hW3 := (hb1.call hb2).call hb3
  go_wp2_with fail
  refine (laws_toIntS A n c a _ (h.keep hW3) (by omega)).mono ?_
  rintro e w4 ⟨A4, c4, rfl, h4, hb4⟩
  go_wp2_with fail
  refine (laws_toIntS B m d b _ (h'.keep (hW3.call hb4)) (by omega)).mono ?_
  rintro e w5 ⟨B5, d5, rfl, h5, hb5⟩
  have hW5 := (hW3.call hb4).call hb5
  go_wp2_with fail
  refine (I.out _ _ _ _ _ _ _ (h4.rd.keep hb5) h5.rd (ht.keep hW5)).mono ?_
  rintro e w6 ⟨Ag, ng, cg, rfl, hg, hb6⟩
  have hW6 := hW5.call hb6
  have hng : ng ≤ 1000 := by rw [← hg.length]; exact HL.out
  go_wp2_with fail
  refine (laws_eqIntS _ _ _ _ _ _ R R _ hg.rd (hs.rd.keep ((hb4.call hb5).call hb6))).mono ?_
  rintro e w7 ⟨rfl, hb7⟩
  rw [decide_eq_true rfl]
  have hW7 := hW6.call hb7
  go_wp2_with fail
  refine (laws_toIntS A n c a _ (h.keep hW7) (by omega)).mono ?_
  rintro e w8 ⟨A8, c8, rfl, h8, hb8⟩
  have hb47 := ((hb5.call hb6).call hb7).call hb8
  go_wp2_with fail
  refine (laws_eqIntS _ _ _ _ _ _ a a _ (h4.rd.keep hb47) h8.rd).mono ?_
  rintro e w9 ⟨rfl, hb9⟩
  rw [decide_eq_true rfl]
  have hW9 := (hW7.call hb8).call hb9
  go_wp2_with fail
  refine (laws_toIntS B m d b _ (h'.keep hW9) (by omega)).mono ?_
  rintro e w10 ⟨B10, d10, rfl, h10, hb10⟩
  have hb510 := (((hb6.call hb7).call hb8).call hb9).call hb10
  go_wp2_with fail
  refine (laws_eqIntS _ _ _ _ _ _ b b _ (h5.rd.keep hb510) h10.rd).mono ?_
  rintro e w11 ⟨rfl, hb11⟩
  rw [decide_eq_true rfl]
  have hW11 := (hW9.call hb10).call hb11
  have h4_11 := h4.keep (hb5.call (hb510.call hb11))
  have h5_11 := h5.keep (hb510.call hb11)
  have hg_11 := hg.keep (((((hb7).call hb8).call hb9).call hb10).call hb11)
  have hs_11 := hs.keep (hb4.call (hb5.call (hb510.call hb11)))
  have z3 := hb4.sz; have z4 := hb5.sz; have z5 := hb6.sz
  clear hb47 hb510 hb7 hb8 hb9 hb10 hb11 h8 h10 hW9 hW7
  go_wp2_with fail
  refine (laws_markIntS _ _ _ _ _ 1 _ h4_11 (by omega) (by omega)).mono ?_
  rintro e w12 ⟨rfl, hm12, hgr12⟩
  have hs12 := hs_11.rd.grown hgr12 (own_apart hs h4_11 (Nat.le_refl _))
  have h5_12 := RdI_keepO h5_11 hgr12 (fun q hq => by have := (h5.blk q hq).1; intro e; have := (h4.blk q e).2; omega)
  have hg12 := RdI_keepO hg_11 hgr12 (fun q hq => by have := (hg.blk q hq).1; intro e; have := (h4.blk q e).2; omega)
  have hW12 := hW11.grown hgr12 (fun q hq => Nat.le_trans hW3.sz (h4_11.blk q hq).1)
  have q12 := hgr12.size
  clear hgr12
  go_wp2_with fail
  refine (laws_markIntS _ _ _ _ _ (1 + n) _ h5_12 (by omega) (by omega)).mono ?_
  rintro e w13 ⟨rfl, hm13, hgr13⟩
  have hs13 := hs12.grown hgr13 (own_apart hs h5_12 hb4.sz)
  have hg13 := RdI_keepO hg12 hgr13 (fun q hq => by have := (hg.blk q hq).1; intro e; have := (h5.blk q e).2; omega)
  have hW13 := hW12.grown hgr13 (fun q hq => by have := (h5_12.blk q hq).1; have := hW3.sz; omega)
  clear hgr13
  go_wp2_with fail
  refine (laws_eqIntS _ _ _ _ _ _ R R _ hg13.rd hs13).mono ?_
  rintro e w14 ⟨rfl, hb14⟩
  rw [decide_eq_true rfl]
  have hg14 := hg13.keep hb14
  go_wp2_with fail
  refine (laws_markIntS _ _ _ _ _ 1 _ hg14 (by omega) (by omega)).mono ?_
  rintro e w15 ⟨rfl, hm15, hgr15⟩
  have hs15 := (hs13.keep hb14).grown hgr15 (own_apart hs hg14 (by omega))
  have hW15 := (hW13.call hb14).grown hgr15 (fun q hq => by have := (hg14.blk q hq).1; have := hW5.sz; omega)
  clear hgr15
  go_wp2_with fail
  refine (laws_heldIntS _ _ _ _ _ hm15.rd (by omega) (by omega)).mono ?_
  rintro e w16 ⟨rfl, rfl⟩
  go_wp2_with fail
  refine (laws_toIntS A n c a _ (h.keep hW15) (by omega)).mono ?_
  rintro e w17 ⟨A17, c17, rfl, h17, hb17⟩
  go_wp2_with fail
  refine (laws_toIntS B m d b _ (h'.keep (hW15.call hb17)) (by omega)).mono ?_
  rintro e w18 ⟨B18, d18, rfl, h18, hb18⟩
  have hW18 := (hW15.call hb17).call hb18
  go_wp2_with fail
  refine (I.out _ _ _ _ _ _ _ (h17.rd.keep hb18) h18.rd (ht.keep hW18)).mono ?_
  rintro e w19 ⟨Ah, nh, ch, rfl, hh, hb19⟩
  go_wp2_with fail
  refine (laws_eqIntS _ _ _ _ _ _ R R _ hh.rd (hs15.keep ((hb17.call hb18).call hb19))).mono ?_
  rintro e w20 ⟨rfl, hb20⟩
  rw [decide_eq_true rfl]
  go_wp2_with fail
  refine (laws_heldIntS _ _ _ _ _ (hm15.rd.keep (((hb17.call hb18).call hb19).call hb20)) (by omega) (by omega)).mono ?_
  rintro e w21 ⟨rfl, rfl⟩
  go_wp2_with fail
  go_ret
  exact ⟨rfl, (hW18.call hb19).call hb20⟩
end Go.Proofs.YtdndkkaacfbkkaaGreatDoor
