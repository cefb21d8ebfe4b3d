/- The law on cells, walked.
   Conditions: both texts are ones of bytes. -/
import Derived.Test.YtlmlffiajgofeaaFcb
import Derived.Test.YtlmlffiajgofeaaFcc
import Derived.Test.YtlmlffiajgofeaaEvw
import Derived.Test.YtlmlffiajgofeaaLsm
namespace Go.Proofs.Ytlmlffiajgofeaa
open Go.RowKit
set_option linter.unusedVariables false
theorem ev_facts {a b : Int} {gl : List Gt} {ol P la lb : List Int} (h : evB a b gl ol P la lb = true) : askB a b gl ol la lb = true ∧ evP a b gl ol la lb = evR a b gl ol P la lb := by
  refine ⟨?_, ?_⟩
  · simp only [evB, Bool.and_eq_true] at h; exact h.1
  · unfold evR; rw [if_pos h, evO_plain h]
theorem cp_facts {a b : Int} {gl : List Gt} {ol : List Int} (h : goodC a b gl ol = true) : icV a b gl ol (cpR a b gl ol) = true ∧ glR a b gl ol ≤ cnR a b gl ol := by
  refine ⟨?_, live_needed h⟩
  unfold icV cpR
  rw [if_pos h, h, cp_right h]; rfl
set_option maxRecDepth 20000 in
set_option maxHeartbeats 8000000 in
theorem law_Cells (A0 A1 : Option Addr) (n0 c0 n1 c1 : Nat) (l0 l1 : List Int) (w : World) (h0 : RdB w A0 n0 c0 l0) (h1 : RdB w A1 n1 c1 l1) :
    Calls Try.prog 5 #[.slice A0 n0 c0, .slice A1 n1 c1] w fun e w' => e = .returned (.bool true) ∧ Bl w w' := by
  have hW := Bl.refl w
  go_enter Try.func5, Try.ntmps5
  go_wp2_with fail
  refine (big_c A0 A1 n0 c0 n1 c1 l0 l1 _ h0 h1).mono ?_
  rintro e w1 ⟨bg, rfl, rfl⟩
  cases bg
  rotate_left
  · go_wp2_with fail
    go_ret
    exact ⟨rfl, hW⟩
  go_wp2_with fail
  refine (spec_DrawEvalInCells w A0 n0 c0 l0 h0).mono ?_
  rintro e w2 ⟨a, b, A, n, c, gl, B, m, d, ol, P, q, pc, pl, I1, i1, s1, la, I2, i2, s2, lb, rfl, hO, hP, p1, p2, hb1⟩
  have hX := Blk.new w2 26 #[.int .i64 a, .int .i64 b, .slice A n c, .slice B m d] (g := w2.heap.size)
  have hV := hb1.alloc (.cells #[.int .i64 a, .int .i64 b, .slice A n c, .slice B m d] 26)
  have hO1 := (hO.keep ((Bl.refl w2).alloc (.cells #[.int .i64 a, .int .i64 b, .slice A n c, .slice B m d] 26)))
  have hg := hO1.rd.g; have ho := hO1.rd.o
  have h1c := h1.keep hV
  have hp := OwnI.rd (hP.alloc (.cells #[.int .i64 a, .int .i64 b, .slice A n c, .slice B m d] 26)); have ha := OwnI.rd (p1.alloc (.cells #[.int .i64 a, .int .i64 b, .slice A n c, .slice B m d] 26)); have hb := OwnI.rd (p2.alloc (.cells #[.int .i64 a, .int .i64 b, .slice A n c, .slice B m d] 26))
  clear hO hO1 hb1 hP p1 p2 h0 h1 hW
  have hX_l := hX.lt; have hX_f := hX.frozen; have hX_0 := hX.cell 0 _ rfl; have hX_1 := hX.cell 1 _ rfl; have hX_2 := hX.cell 2 _ rfl; have hX_3 := hX.cell 3 _ rfl
  go_wp2_with fail
  (try clear hX_l hX_f hX_0 hX_1 hX_2 hX_3)
  generalize hx : w2.heap.size = x
  rw [hx] at hX
  clear hx
  refine (impl_EvalInCells a b A B P I1 I2 n c m d q pc i1 s1 i2 s2 gl ol pl la lb _ hg ho hp ha hb).mono ?_
  rintro e w9 ⟨R1, r1, q1, rfl, o1, hb9⟩
  replace hg := hg.keep hb9; replace ho := ho.keep hb9; replace h1c := h1c.keep hb9; replace hX := hX.keep hb9; replace hp := hp.keep hb9; replace ha := ha.keep hb9; replace hb := hb.keep hb9; replace hV := hV.call hb9
  clear hb9
  have hX_l := hX.lt; have hX_f := hX.frozen; have hX_0 := hX.cell 0 _ rfl; have hX_1 := hX.cell 1 _ rfl; have hX_2 := hX.cell 2 _ rfl; have hX_3 := hX.cell 3 _ rfl
  go_wp2_with fail
  (try clear hX_l hX_f hX_0 hX_1 hX_2 hX_3)
  refine (spec_EvalInCells a b A B P I1 I2 n c m d q pc i1 s1 i2 s2 gl ol pl la lb _ hg ho hp ha hb).mono ?_
  rintro e w9 ⟨R2, r2, q2, rfl, o2, hb9⟩
  replace hg := hg.keep hb9; replace ho := ho.keep hb9; replace h1c := h1c.keep hb9; replace hX := hX.keep hb9; replace hp := hp.keep hb9; replace ha := ha.keep hb9; replace hb := hb.keep hb9; replace o1 := o1.keep hb9; replace hV := hV.call hb9
  clear hb9
  have FE := Lib.hid (fun (h : evB a b gl ol pl la lb = true) => ev_facts h)
  generalize evB a b gl ol pl la lb = E at FE ⊢
  generalize evR a b gl ol pl la lb = L at FE o1 o2 ⊢
  cases E
  · go_wp2_with fail
    refine (same_t _ _ _ _ _ _ _ _ o1.rd o2.rd).mono ?_
    rintro e w9 ⟨rfl, hb9⟩
    replace hg := hg.keep hb9; replace ho := ho.keep hb9; replace h1c := h1c.keep hb9; replace hX := hX.keep hb9; replace ha := ha.keep hb9; replace hb := hb.keep hb9; replace o1 := o1.keep hb9; replace o2 := o2.keep hb9; replace hV := hV.call hb9
    clear hb9
    clear hg ho hX ha hb hp o1 o2 FE
    go_wp2_with fail
    refine (spec_DrawCellPlan _ A1 n1 c1 l1 h1c).mono ?_
    rintro e w3 ⟨a3, b3, A3, n3, c3, gl3, B3, m3, d3, ol3, rfl, hbd3, hO3, hb9⟩
    replace hV := hV.call hb9; replace h1c := h1c.keep hb9
    clear hb9 hbd3
    have hX := Blk.new w3 26 #[.int .i64 a3, .int .i64 b3, .slice A3 n3 c3, .slice B3 m3 d3] (g := w3.heap.size)
    replace hV := hV.alloc (.cells #[.int .i64 a3, .int .i64 b3, .slice A3 n3 c3, .slice B3 m3 d3] 26); replace h1c := h1c.keep ((Bl.refl w3).alloc (.cells #[.int .i64 a3, .int .i64 b3, .slice A3 n3 c3, .slice B3 m3 d3] 26))
    replace hO3 := (hO3.keep ((Bl.refl w3).alloc (.cells #[.int .i64 a3, .int .i64 b3, .slice A3 n3 c3, .slice B3 m3 d3] 26)))
    have hg := hO3.rd.g; have ho := hO3.rd.o
    clear hO3
    have hX_l := hX.lt; have hX_f := hX.frozen; have hX_0 := hX.cell 0 _ rfl; have hX_1 := hX.cell 1 _ rfl; have hX_2 := hX.cell 2 _ rfl; have hX_3 := hX.cell 3 _ rfl
    go_wp2_with fail
    (try clear hX_l hX_f hX_0 hX_1 hX_2 hX_3)
    generalize hx : w3.heap.size = x3
    rw [hx] at hX
    clear hx
    refine (impl_CellPlan a3 b3 A3 B3 n3 c3 m3 d3 gl3 ol3 _ hg ho).mono ?_
    rintro e w9 ⟨Q1, y1, z1, rfl, o1, hb9⟩
    replace hg := hg.keep hb9; replace ho := ho.keep hb9; replace h1c := h1c.keep hb9; replace hX := hX.keep hb9; replace hV := hV.call hb9
    clear hb9
    have hX_l := hX.lt; have hX_f := hX.frozen; have hX_0 := hX.cell 0 _ rfl; have hX_1 := hX.cell 1 _ rfl; have hX_2 := hX.cell 2 _ rfl; have hX_3 := hX.cell 3 _ rfl
    go_wp2_with fail
    (try clear hX_l hX_f hX_0 hX_1 hX_2 hX_3)
    refine (spec_CellPlan a3 b3 A3 B3 n3 c3 m3 d3 gl3 ol3 _ hg ho).mono ?_
    rintro e w9 ⟨Q2, y2, z2, rfl, o2, hb9⟩
    replace hg := hg.keep hb9; replace ho := ho.keep hb9; replace h1c := h1c.keep hb9; replace hX := hX.keep hb9; replace o1 := o1.keep hb9; replace hV := hV.call hb9
    clear hb9
    have FG := Lib.hid (fun (h : goodC a3 b3 gl3 ol3 = true) => cp_facts h)
    have hlv := goodC a3 b3 gl3 ol3
    clear hlv
    obtain ⟨G, hG⟩ : ∃ G, goodC a3 b3 gl3 ol3 = G := ⟨_, rfl⟩
    have HG := Lib.hid hG
    rw [hG]
    clear hG
    obtain ⟨PL, hPL⟩ : ∃ L, cpR a3 b3 gl3 ol3 = L := ⟨_, rfl⟩
    rw [hPL] at o1 o2
    have HPL := Lib.hid hPL
    clear hPL
    cases G
    · go_wp2_with fail
      refine (same_t _ _ _ _ _ _ _ _ o1.rd o2.rd).mono ?_
      rintro e w9 ⟨rfl, hb9⟩
      replace hg := hg.keep hb9; replace ho := ho.keep hb9; replace h1c := h1c.keep hb9; replace hX := hX.keep hb9; replace o1 := o1.keep hb9; replace o2 := o2.keep hb9; replace hV := hV.call hb9
      clear hb9
      clear hg ho hX o1 o2 FG HG HPL
      go_wp2_with fail
      refine (spec_DrawIsCellPlan _ A1 n1 c1 l1 h1c).mono ?_
      rintro e w4 ⟨a4, b4, A4, n4, c4, gl4, B4, m4, d4, ol4, P4, q4, pc4, pl4, rfl, hO4, hP4, hb9⟩
      replace hV := hV.call hb9
      clear hb9 h1c
      have hX := Blk.new w4 26 #[.int .i64 a4, .int .i64 b4, .slice A4 n4 c4, .slice B4 m4 d4] (g := w4.heap.size)
      replace hV := hV.alloc (.cells #[.int .i64 a4, .int .i64 b4, .slice A4 n4 c4, .slice B4 m4 d4] 26)
      replace hO4 := (hO4.keep ((Bl.refl w4).alloc (.cells #[.int .i64 a4, .int .i64 b4, .slice A4 n4 c4, .slice B4 m4 d4] 26)))
      have hp := OwnI.rd (hP4.alloc (.cells #[.int .i64 a4, .int .i64 b4, .slice A4 n4 c4, .slice B4 m4 d4] 26))
      have hg := hO4.rd.g; have ho := hO4.rd.o
      clear hO4 hP4
      have hX_l := hX.lt; have hX_f := hX.frozen; have hX_0 := hX.cell 0 _ rfl; have hX_1 := hX.cell 1 _ rfl; have hX_2 := hX.cell 2 _ rfl; have hX_3 := hX.cell 3 _ rfl
      go_wp2_with fail
      (try clear hX_l hX_f hX_0 hX_1 hX_2 hX_3)
      generalize hx : w4.heap.size = x4
      rw [hx] at hX
      clear hx
      refine (impl_IsCellPlan a4 b4 A4 B4 P4 n4 c4 m4 d4 q4 pc4 gl4 ol4 pl4 _ hg ho hp).mono ?_
      rintro e w9 ⟨rfl, hb9⟩
      replace hg := hg.keep hb9; replace ho := ho.keep hb9; replace hp := hp.keep hb9; replace hX := hX.keep hb9; replace hV := hV.call hb9
      clear hb9
      have hX_l := hX.lt; have hX_f := hX.frozen; have hX_0 := hX.cell 0 _ rfl; have hX_1 := hX.cell 1 _ rfl; have hX_2 := hX.cell 2 _ rfl; have hX_3 := hX.cell 3 _ rfl
      go_wp2_with fail
      (try clear hX_l hX_f hX_0 hX_1 hX_2 hX_3)
      refine (spec_IsCellPlan a4 b4 A4 B4 P4 n4 c4 m4 d4 q4 pc4 gl4 ol4 pl4 _ hg ho hp).mono ?_
      rintro e w9 ⟨rfl, hb9⟩
      replace hg := hg.keep hb9; replace ho := ho.keep hb9; replace hp := hp.keep hb9; replace hX := hX.keep hb9; replace hV := hV.call hb9
      clear hb9
      clear hg ho hp hX
      generalize goodC a4 b4 gl4 ol4 = G4
      generalize icV a4 b4 gl4 ol4 pl4 = V4
      cases G4 <;> cases V4
      all_goals go_wp2_with fail
      all_goals go_ret
      all_goals exact ⟨rfl, hV⟩
    · obtain ⟨hic, hgc⟩ := FG.out HG.out
      rw [HPL.out] at hic
      have HIC := Lib.hid hic
      have HGC := Lib.hid hgc
      clear hic hgc FG
      go_wp2_with fail
      refine (same_t _ _ _ _ _ _ _ _ o1.rd o2.rd).mono ?_
      rintro e w9 ⟨rfl, hb9⟩
      replace hg := hg.keep hb9; replace ho := ho.keep hb9; replace h1c := h1c.keep hb9; replace hX := hX.keep hb9; replace o1 := o1.keep hb9; replace o2 := o2.keep hb9; replace hV := hV.call hb9
      clear hb9
      have hX_l := hX.lt; have hX_f := hX.frozen; have hX_0 := hX.cell 0 _ rfl; have hX_1 := hX.cell 1 _ rfl; have hX_2 := hX.cell 2 _ rfl; have hX_3 := hX.cell 3 _ rfl
      go_wp2_with fail
      (try clear hX_l hX_f hX_0 hX_1 hX_2 hX_3)
      refine (impl_IsCellPlan a3 b3 A3 B3 Q1 n3 c3 m3 d3 y1 z1 gl3 ol3 PL _ hg ho o1.rd).mono ?_
      rintro e w9 ⟨rfl, hb9⟩
      replace hg := hg.keep hb9; replace ho := ho.keep hb9; replace h1c := h1c.keep hb9; replace hX := hX.keep hb9; replace o1 := o1.keep hb9; replace o2 := o2.keep hb9; replace hV := hV.call hb9
      clear hb9
      rw [HIC.out, HG.out]
      have hX_l := hX.lt; have hX_f := hX.frozen; have hX_0 := hX.cell 0 _ rfl; have hX_1 := hX.cell 1 _ rfl; have hX_2 := hX.cell 2 _ rfl; have hX_3 := hX.cell 3 _ rfl
      go_wp2_with fail
      (try clear hX_l hX_f hX_0 hX_1 hX_2 hX_3)
      refine (impl_CellsNeeded a3 b3 A3 B3 n3 c3 m3 d3 gl3 ol3 _ hg ho).mono ?_
      rintro e w9 ⟨rfl, hb9⟩
      replace hg := hg.keep hb9; replace ho := ho.keep hb9; replace h1c := h1c.keep hb9; replace hX := hX.keep hb9; replace o1 := o1.keep hb9; replace o2 := o2.keep hb9; replace hV := hV.call hb9
      clear hb9
      rw [HG.out]
      have hX_l := hX.lt; have hX_f := hX.frozen; have hX_0 := hX.cell 0 _ rfl; have hX_1 := hX.cell 1 _ rfl; have hX_2 := hX.cell 2 _ rfl; have hX_3 := hX.cell 3 _ rfl
      go_wp2_with fail
      (try clear hX_l hX_f hX_0 hX_1 hX_2 hX_3)
      refine (spec_CellsNeeded a3 b3 A3 B3 n3 c3 m3 d3 gl3 ol3 _ hg ho).mono ?_
      rintro e w9 ⟨rfl, hb9⟩
      replace hg := hg.keep hb9; replace ho := ho.keep hb9; replace h1c := h1c.keep hb9; replace hX := hX.keep hb9; replace o1 := o1.keep hb9; replace o2 := o2.keep hb9; replace hV := hV.call hb9
      clear hb9
      rw [HG.out]
      have hX_l := hX.lt; have hX_f := hX.frozen; have hX_0 := hX.cell 0 _ rfl; have hX_1 := hX.cell 1 _ rfl; have hX_2 := hX.cell 2 _ rfl; have hX_3 := hX.cell 3 _ rfl
      go_wp2_with fail
      (try clear hX_l hX_f hX_0 hX_1 hX_2 hX_3)
      refine (impl_GreatestLive a3 b3 A3 B3 n3 c3 m3 d3 gl3 ol3 _ hg ho).mono ?_
      rintro e w9 ⟨rfl, hb9⟩
      replace hg := hg.keep hb9; replace ho := ho.keep hb9; replace h1c := h1c.keep hb9; replace hX := hX.keep hb9; replace o1 := o1.keep hb9; replace o2 := o2.keep hb9; replace hV := hV.call hb9
      clear hb9
      rw [HG.out]
      have hX_l := hX.lt; have hX_f := hX.frozen; have hX_0 := hX.cell 0 _ rfl; have hX_1 := hX.cell 1 _ rfl; have hX_2 := hX.cell 2 _ rfl; have hX_3 := hX.cell 3 _ rfl
      go_wp2_with fail
      (try clear hX_l hX_f hX_0 hX_1 hX_2 hX_3)
      refine (spec_GreatestLive a3 b3 A3 B3 n3 c3 m3 d3 gl3 ol3 _ hg ho).mono ?_
      rintro e w9 ⟨rfl, hb9⟩
      replace hg := hg.keep hb9; replace ho := ho.keep hb9; replace h1c := h1c.keep hb9; replace hX := hX.keep hb9; replace o1 := o1.keep hb9; replace o2 := o2.keep hb9; replace hV := hV.call hb9
      clear hb9
      rw [HG.out]
      clear hg ho hX o1 o2
      generalize cnR a3 b3 gl3 ol3 = CN at HGC ⊢
      generalize glR a3 b3 gl3 ol3 = GL at HGC ⊢
      have hle := HGC.out
      have hle2 : ¬ CN < GL := by omega
      clear HGC HIC HG HPL
      go_wp2_with fail
      refine (spec_DrawIsCellPlan _ A1 n1 c1 l1 h1c).mono ?_
      rintro e w4 ⟨a4, b4, A4, n4, c4, gl4, B4, m4, d4, ol4, P4, q4, pc4, pl4, rfl, hO4, hP4, hb9⟩
      replace hV := hV.call hb9
      clear hb9 h1c
      have hX := Blk.new w4 26 #[.int .i64 a4, .int .i64 b4, .slice A4 n4 c4, .slice B4 m4 d4] (g := w4.heap.size)
      replace hV := hV.alloc (.cells #[.int .i64 a4, .int .i64 b4, .slice A4 n4 c4, .slice B4 m4 d4] 26)
      replace hO4 := (hO4.keep ((Bl.refl w4).alloc (.cells #[.int .i64 a4, .int .i64 b4, .slice A4 n4 c4, .slice B4 m4 d4] 26)))
      have hp := OwnI.rd (hP4.alloc (.cells #[.int .i64 a4, .int .i64 b4, .slice A4 n4 c4, .slice B4 m4 d4] 26))
      have hg := hO4.rd.g; have ho := hO4.rd.o
      clear hO4 hP4
      have hX_l := hX.lt; have hX_f := hX.frozen; have hX_0 := hX.cell 0 _ rfl; have hX_1 := hX.cell 1 _ rfl; have hX_2 := hX.cell 2 _ rfl; have hX_3 := hX.cell 3 _ rfl
      go_wp2_with fail
      (try clear hX_l hX_f hX_0 hX_1 hX_2 hX_3)
      generalize hx : w4.heap.size = x4
      rw [hx] at hX
      clear hx
      refine (impl_IsCellPlan a4 b4 A4 B4 P4 n4 c4 m4 d4 q4 pc4 gl4 ol4 pl4 _ hg ho hp).mono ?_
      rintro e w9 ⟨rfl, hb9⟩
      replace hg := hg.keep hb9; replace ho := ho.keep hb9; replace hp := hp.keep hb9; replace hX := hX.keep hb9; replace hV := hV.call hb9
      clear hb9
      have hX_l := hX.lt; have hX_f := hX.frozen; have hX_0 := hX.cell 0 _ rfl; have hX_1 := hX.cell 1 _ rfl; have hX_2 := hX.cell 2 _ rfl; have hX_3 := hX.cell 3 _ rfl
      go_wp2_with fail
      (try clear hX_l hX_f hX_0 hX_1 hX_2 hX_3)
      refine (spec_IsCellPlan a4 b4 A4 B4 P4 n4 c4 m4 d4 q4 pc4 gl4 ol4 pl4 _ hg ho hp).mono ?_
      rintro e w9 ⟨rfl, hb9⟩
      replace hg := hg.keep hb9; replace ho := ho.keep hb9; replace hp := hp.keep hb9; replace hX := hX.keep hb9; replace hV := hV.call hb9
      clear hb9
      clear hg ho hp hX
      generalize goodC a4 b4 gl4 ol4 = G4
      generalize icV a4 b4 gl4 ol4 pl4 = V4
      cases G4 <;> cases V4
      all_goals go_wp2_with fail
      all_goals go_ret
      all_goals exact ⟨rfl, hV⟩
  · obtain ⟨hask, hev⟩ := FE.out rfl
    have HASK := Lib.hid hask; have HEV := Lib.hid hev
    clear hask hev FE
    go_wp2_with fail
    refine (same_t _ _ _ _ _ _ _ _ o1.rd o2.rd).mono ?_
    rintro e w9 ⟨rfl, hb9⟩
    replace hg := hg.keep hb9; replace ho := ho.keep hb9; replace h1c := h1c.keep hb9; replace hX := hX.keep hb9; replace ha := ha.keep hb9; replace hb := hb.keep hb9; replace o1 := o1.keep hb9; replace o2 := o2.keep hb9; replace hV := hV.call hb9
    clear hb9
    have hX_l := hX.lt; have hX_f := hX.frozen; have hX_0 := hX.cell 0 _ rfl; have hX_1 := hX.cell 1 _ rfl; have hX_2 := hX.cell 2 _ rfl; have hX_3 := hX.cell 3 _ rfl
    go_wp2_with fail
    (try clear hX_l hX_f hX_0 hX_1 hX_2 hX_3)
    refine (impl_EvalCircuit_t a b A B I1 I2 n c m d i1 s1 i2 s2 gl ol la lb _ hg ho ha hb HASK.out).mono ?_
    rintro e w9 ⟨R3, q3, rfl, o3, hb9⟩
    replace hg := hg.keep hb9; replace ho := ho.keep hb9; replace h1c := h1c.keep hb9; replace hX := hX.keep hb9; replace ha := ha.keep hb9; replace hb := hb.keep hb9; replace o1 := o1.keep hb9; replace o2 := o2.keep hb9; replace hV := hV.call hb9
    clear hb9
    rw [HEV.out] at o3
    go_wp2_with fail
    refine (same_t _ _ _ _ _ _ _ _ o3.rd o2.rd).mono ?_
    rintro e w9 ⟨rfl, hb9⟩
    replace hg := hg.keep hb9; replace ho := ho.keep hb9; replace h1c := h1c.keep hb9; replace hX := hX.keep hb9; replace ha := ha.keep hb9; replace hb := hb.keep hb9; replace o1 := o1.keep hb9; replace o2 := o2.keep hb9; replace o3 := o3.keep hb9; replace hV := hV.call hb9
    clear hb9
    clear hg ho hX ha hb hp o1 o2 o3 HASK HEV
    go_wp2_with fail
    refine (spec_DrawCellPlan _ A1 n1 c1 l1 h1c).mono ?_
    rintro e w3 ⟨a3, b3, A3, n3, c3, gl3, B3, m3, d3, ol3, rfl, hbd3, hO3, hb9⟩
    replace hV := hV.call hb9; replace h1c := h1c.keep hb9
    clear hb9 hbd3
    have hX := Blk.new w3 26 #[.int .i64 a3, .int .i64 b3, .slice A3 n3 c3, .slice B3 m3 d3] (g := w3.heap.size)
    replace hV := hV.alloc (.cells #[.int .i64 a3, .int .i64 b3, .slice A3 n3 c3, .slice B3 m3 d3] 26); replace h1c := h1c.keep ((Bl.refl w3).alloc (.cells #[.int .i64 a3, .int .i64 b3, .slice A3 n3 c3, .slice B3 m3 d3] 26))
    replace hO3 := (hO3.keep ((Bl.refl w3).alloc (.cells #[.int .i64 a3, .int .i64 b3, .slice A3 n3 c3, .slice B3 m3 d3] 26)))
    have hg := hO3.rd.g; have ho := hO3.rd.o
    clear hO3
    have hX_l := hX.lt; have hX_f := hX.frozen; have hX_0 := hX.cell 0 _ rfl; have hX_1 := hX.cell 1 _ rfl; have hX_2 := hX.cell 2 _ rfl; have hX_3 := hX.cell 3 _ rfl
    go_wp2_with fail
    (try clear hX_l hX_f hX_0 hX_1 hX_2 hX_3)
    generalize hx : w3.heap.size = x3
    rw [hx] at hX
    clear hx
    refine (impl_CellPlan a3 b3 A3 B3 n3 c3 m3 d3 gl3 ol3 _ hg ho).mono ?_
    rintro e w9 ⟨Q1, y1, z1, rfl, o1, hb9⟩
    replace hg := hg.keep hb9; replace ho := ho.keep hb9; replace h1c := h1c.keep hb9; replace hX := hX.keep hb9; replace hV := hV.call hb9
    clear hb9
    have hX_l := hX.lt; have hX_f := hX.frozen; have hX_0 := hX.cell 0 _ rfl; have hX_1 := hX.cell 1 _ rfl; have hX_2 := hX.cell 2 _ rfl; have hX_3 := hX.cell 3 _ rfl
    go_wp2_with fail
    (try clear hX_l hX_f hX_0 hX_1 hX_2 hX_3)
    refine (spec_CellPlan a3 b3 A3 B3 n3 c3 m3 d3 gl3 ol3 _ hg ho).mono ?_
    rintro e w9 ⟨Q2, y2, z2, rfl, o2, hb9⟩
    replace hg := hg.keep hb9; replace ho := ho.keep hb9; replace h1c := h1c.keep hb9; replace hX := hX.keep hb9; replace o1 := o1.keep hb9; replace hV := hV.call hb9
    clear hb9
    have FG := Lib.hid (fun (h : goodC a3 b3 gl3 ol3 = true) => cp_facts h)
    have hlv := goodC a3 b3 gl3 ol3
    clear hlv
    obtain ⟨G, hG⟩ : ∃ G, goodC a3 b3 gl3 ol3 = G := ⟨_, rfl⟩
    have HG := Lib.hid hG
    rw [hG]
    clear hG
    obtain ⟨PL, hPL⟩ : ∃ L, cpR a3 b3 gl3 ol3 = L := ⟨_, rfl⟩
    rw [hPL] at o1 o2
    have HPL := Lib.hid hPL
    clear hPL
    cases G
    · go_wp2_with fail
      refine (same_t _ _ _ _ _ _ _ _ o1.rd o2.rd).mono ?_
      rintro e w9 ⟨rfl, hb9⟩
      replace hg := hg.keep hb9; replace ho := ho.keep hb9; replace h1c := h1c.keep hb9; replace hX := hX.keep hb9; replace o1 := o1.keep hb9; replace o2 := o2.keep hb9; replace hV := hV.call hb9
      clear hb9
      clear hg ho hX o1 o2 FG HG HPL
      go_wp2_with fail
      refine (spec_DrawIsCellPlan _ A1 n1 c1 l1 h1c).mono ?_
      rintro e w4 ⟨a4, b4, A4, n4, c4, gl4, B4, m4, d4, ol4, P4, q4, pc4, pl4, rfl, hO4, hP4, hb9⟩
      replace hV := hV.call hb9
      clear hb9 h1c
      have hX := Blk.new w4 26 #[.int .i64 a4, .int .i64 b4, .slice A4 n4 c4, .slice B4 m4 d4] (g := w4.heap.size)
      replace hV := hV.alloc (.cells #[.int .i64 a4, .int .i64 b4, .slice A4 n4 c4, .slice B4 m4 d4] 26)
      replace hO4 := (hO4.keep ((Bl.refl w4).alloc (.cells #[.int .i64 a4, .int .i64 b4, .slice A4 n4 c4, .slice B4 m4 d4] 26)))
      have hp := OwnI.rd (hP4.alloc (.cells #[.int .i64 a4, .int .i64 b4, .slice A4 n4 c4, .slice B4 m4 d4] 26))
      have hg := hO4.rd.g; have ho := hO4.rd.o
      clear hO4 hP4
      have hX_l := hX.lt; have hX_f := hX.frozen; have hX_0 := hX.cell 0 _ rfl; have hX_1 := hX.cell 1 _ rfl; have hX_2 := hX.cell 2 _ rfl; have hX_3 := hX.cell 3 _ rfl
      go_wp2_with fail
      (try clear hX_l hX_f hX_0 hX_1 hX_2 hX_3)
      generalize hx : w4.heap.size = x4
      rw [hx] at hX
      clear hx
      refine (impl_IsCellPlan a4 b4 A4 B4 P4 n4 c4 m4 d4 q4 pc4 gl4 ol4 pl4 _ hg ho hp).mono ?_
      rintro e w9 ⟨rfl, hb9⟩
      replace hg := hg.keep hb9; replace ho := ho.keep hb9; replace hp := hp.keep hb9; replace hX := hX.keep hb9; replace hV := hV.call hb9
      clear hb9
      have hX_l := hX.lt; have hX_f := hX.frozen; have hX_0 := hX.cell 0 _ rfl; have hX_1 := hX.cell 1 _ rfl; have hX_2 := hX.cell 2 _ rfl; have hX_3 := hX.cell 3 _ rfl
      go_wp2_with fail
      (try clear hX_l hX_f hX_0 hX_1 hX_2 hX_3)
      refine (spec_IsCellPlan a4 b4 A4 B4 P4 n4 c4 m4 d4 q4 pc4 gl4 ol4 pl4 _ hg ho hp).mono ?_
      rintro e w9 ⟨rfl, hb9⟩
      replace hg := hg.keep hb9; replace ho := ho.keep hb9; replace hp := hp.keep hb9; replace hX := hX.keep hb9; replace hV := hV.call hb9
      clear hb9
      clear hg ho hp hX
      generalize goodC a4 b4 gl4 ol4 = G4
      generalize icV a4 b4 gl4 ol4 pl4 = V4
      cases G4 <;> cases V4
      all_goals go_wp2_with fail
      all_goals go_ret
      all_goals exact ⟨rfl, hV⟩
    · obtain ⟨hic, hgc⟩ := FG.out HG.out
      rw [HPL.out] at hic
      have HIC := Lib.hid hic
      have HGC := Lib.hid hgc
      clear hic hgc FG
      go_wp2_with fail
      refine (same_t _ _ _ _ _ _ _ _ o1.rd o2.rd).mono ?_
      rintro e w9 ⟨rfl, hb9⟩
      replace hg := hg.keep hb9; replace ho := ho.keep hb9; replace h1c := h1c.keep hb9; replace hX := hX.keep hb9; replace o1 := o1.keep hb9; replace o2 := o2.keep hb9; replace hV := hV.call hb9
      clear hb9
      have hX_l := hX.lt; have hX_f := hX.frozen; have hX_0 := hX.cell 0 _ rfl; have hX_1 := hX.cell 1 _ rfl; have hX_2 := hX.cell 2 _ rfl; have hX_3 := hX.cell 3 _ rfl
      go_wp2_with fail
      (try clear hX_l hX_f hX_0 hX_1 hX_2 hX_3)
      refine (impl_IsCellPlan a3 b3 A3 B3 Q1 n3 c3 m3 d3 y1 z1 gl3 ol3 PL _ hg ho o1.rd).mono ?_
      rintro e w9 ⟨rfl, hb9⟩
      replace hg := hg.keep hb9; replace ho := ho.keep hb9; replace h1c := h1c.keep hb9; replace hX := hX.keep hb9; replace o1 := o1.keep hb9; replace o2 := o2.keep hb9; replace hV := hV.call hb9
      clear hb9
      rw [HIC.out, HG.out]
      have hX_l := hX.lt; have hX_f := hX.frozen; have hX_0 := hX.cell 0 _ rfl; have hX_1 := hX.cell 1 _ rfl; have hX_2 := hX.cell 2 _ rfl; have hX_3 := hX.cell 3 _ rfl
      go_wp2_with fail
      (try clear hX_l hX_f hX_0 hX_1 hX_2 hX_3)
      refine (impl_CellsNeeded a3 b3 A3 B3 n3 c3 m3 d3 gl3 ol3 _ hg ho).mono ?_
      rintro e w9 ⟨rfl, hb9⟩
      replace hg := hg.keep hb9; replace ho := ho.keep hb9; replace h1c := h1c.keep hb9; replace hX := hX.keep hb9; replace o1 := o1.keep hb9; replace o2 := o2.keep hb9; replace hV := hV.call hb9
      clear hb9
      rw [HG.out]
      have hX_l := hX.lt; have hX_f := hX.frozen; have hX_0 := hX.cell 0 _ rfl; have hX_1 := hX.cell 1 _ rfl; have hX_2 := hX.cell 2 _ rfl; have hX_3 := hX.cell 3 _ rfl
      go_wp2_with fail
      (try clear hX_l hX_f hX_0 hX_1 hX_2 hX_3)
      refine (spec_CellsNeeded a3 b3 A3 B3 n3 c3 m3 d3 gl3 ol3 _ hg ho).mono ?_
      rintro e w9 ⟨rfl, hb9⟩
      replace hg := hg.keep hb9; replace ho := ho.keep hb9; replace h1c := h1c.keep hb9; replace hX := hX.keep hb9; replace o1 := o1.keep hb9; replace o2 := o2.keep hb9; replace hV := hV.call hb9
      clear hb9
      rw [HG.out]
      have hX_l := hX.lt; have hX_f := hX.frozen; have hX_0 := hX.cell 0 _ rfl; have hX_1 := hX.cell 1 _ rfl; have hX_2 := hX.cell 2 _ rfl; have hX_3 := hX.cell 3 _ rfl
      go_wp2_with fail
      (try clear hX_l hX_f hX_0 hX_1 hX_2 hX_3)
      refine (impl_GreatestLive a3 b3 A3 B3 n3 c3 m3 d3 gl3 ol3 _ hg ho).mono ?_
      rintro e w9 ⟨rfl, hb9⟩
      replace hg := hg.keep hb9; replace ho := ho.keep hb9; replace h1c := h1c.keep hb9; replace hX := hX.keep hb9; replace o1 := o1.keep hb9; replace o2 := o2.keep hb9; replace hV := hV.call hb9
      clear hb9
      rw [HG.out]
      have hX_l := hX.lt; have hX_f := hX.frozen; have hX_0 := hX.cell 0 _ rfl; have hX_1 := hX.cell 1 _ rfl; have hX_2 := hX.cell 2 _ rfl; have hX_3 := hX.cell 3 _ rfl
      go_wp2_with fail
      (try clear hX_l hX_f hX_0 hX_1 hX_2 hX_3)
      refine (spec_GreatestLive a3 b3 A3 B3 n3 c3 m3 d3 gl3 ol3 _ hg ho).mono ?_
      rintro e w9 ⟨rfl, hb9⟩
      replace hg := hg.keep hb9; replace ho := ho.keep hb9; replace h1c := h1c.keep hb9; replace hX := hX.keep hb9; replace o1 := o1.keep hb9; replace o2 := o2.keep hb9; replace hV := hV.call hb9
      clear hb9
      rw [HG.out]
      clear hg ho hX o1 o2
      generalize cnR a3 b3 gl3 ol3 = CN at HGC ⊢
      generalize glR a3 b3 gl3 ol3 = GL at HGC ⊢
      have hle := HGC.out
      have hle2 : ¬ CN < GL := by omega
      clear HGC HIC HG HPL
      go_wp2_with fail
      refine (spec_DrawIsCellPlan _ A1 n1 c1 l1 h1c).mono ?_
      rintro e w4 ⟨a4, b4, A4, n4, c4, gl4, B4, m4, d4, ol4, P4, q4, pc4, pl4, rfl, hO4, hP4, hb9⟩
      replace hV := hV.call hb9
      clear hb9 h1c
      have hX := Blk.new w4 26 #[.int .i64 a4, .int .i64 b4, .slice A4 n4 c4, .slice B4 m4 d4] (g := w4.heap.size)
      replace hV := hV.alloc (.cells #[.int .i64 a4, .int .i64 b4, .slice A4 n4 c4, .slice B4 m4 d4] 26)
      replace hO4 := (hO4.keep ((Bl.refl w4).alloc (.cells #[.int .i64 a4, .int .i64 b4, .slice A4 n4 c4, .slice B4 m4 d4] 26)))
      have hp := OwnI.rd (hP4.alloc (.cells #[.int .i64 a4, .int .i64 b4, .slice A4 n4 c4, .slice B4 m4 d4] 26))
      have hg := hO4.rd.g; have ho := hO4.rd.o
      clear hO4 hP4
      have hX_l := hX.lt; have hX_f := hX.frozen; have hX_0 := hX.cell 0 _ rfl; have hX_1 := hX.cell 1 _ rfl; have hX_2 := hX.cell 2 _ rfl; have hX_3 := hX.cell 3 _ rfl
      go_wp2_with fail
      (try clear hX_l hX_f hX_0 hX_1 hX_2 hX_3)
      generalize hx : w4.heap.size = x4
      rw [hx] at hX
      clear hx
      refine (impl_IsCellPlan a4 b4 A4 B4 P4 n4 c4 m4 d4 q4 pc4 gl4 ol4 pl4 _ hg ho hp).mono ?_
      rintro e w9 ⟨rfl, hb9⟩
      replace hg := hg.keep hb9; replace ho := ho.keep hb9; replace hp := hp.keep hb9; replace hX := hX.keep hb9; replace hV := hV.call hb9
      clear hb9
      have hX_l := hX.lt; have hX_f := hX.frozen; have hX_0 := hX.cell 0 _ rfl; have hX_1 := hX.cell 1 _ rfl; have hX_2 := hX.cell 2 _ rfl; have hX_3 := hX.cell 3 _ rfl
      go_wp2_with fail
      (try clear hX_l hX_f hX_0 hX_1 hX_2 hX_3)
      refine (spec_IsCellPlan a4 b4 A4 B4 P4 n4 c4 m4 d4 q4 pc4 gl4 ol4 pl4 _ hg ho hp).mono ?_
      rintro e w9 ⟨rfl, hb9⟩
      replace hg := hg.keep hb9; replace ho := ho.keep hb9; replace hp := hp.keep hb9; replace hX := hX.keep hb9; replace hV := hV.call hb9
      clear hb9
      clear hg ho hp hX
      generalize goodC a4 b4 gl4 ol4 = G4
      generalize icV a4 b4 gl4 ol4 pl4 = V4
      cases G4 <;> cases V4
      all_goals go_wp2_with fail
      all_goals go_ret
      all_goals exact ⟨rfl, hV⟩
end Go.Proofs.Ytlmlffiajgofeaa
