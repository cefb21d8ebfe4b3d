/- The law on layers, walked.
   Conditions: both texts are ones of bytes. -/
import Derived.Test.YtlmlffiajgofeaaGdk
import Derived.Test.YtlmlffiajgofeaaGdl
import Derived.Test.YtlmlffiajgofeaaLiv
namespace Go.Proofs.Ytlmlffiajgofeaa
open Go.RowKit
set_option linter.unusedVariables false
theorem lc_fact {a b : Int} {gl : List Gt} {ol : List Int} (h : goodC a b gl ol = true) : (lcR a b gl ol).length = gl.length + 1 := by
  unfold lcR lcL; rw [if_pos h, lvC_len]
set_option maxRecDepth 20000 in
set_option maxHeartbeats 16000000 in
theorem law_Layers (A0 A1 : Option Addr) (n0 c0 n1 c1 : Nat) (l0 l1 : List Int) (w : World) (h0 : RdB w A0 n0 c0 l0) (h1 : RdB w A1 n1 c1 l1) :
    Calls Try.prog 4 #[.slice A0 n0 c0, .slice A1 n1 c1] w fun e w' => e = .returned (.bool true) ∧ Bl w w' := by
  have hW := Bl.refl w
  go_enter Try.func4, Try.ntmps4
  go_wp2_with fail
  refine (big_c A0 A1 n0 c0 n1 c1 l0 l1 _ h0 h1).mono ?_
  rintro e w1 ⟨bg, rfl, rfl⟩
  cases bg
  rotate_left
  · go_wp2_with fail
    go_ret
    exact ⟨rfl, hW⟩
  go_wp2_with fail
  refine (spec_DrawLastUses w A0 n0 c0 l0 h0).mono ?_
  rintro e w2 ⟨a, b, A, n, c, gl, B, m, d, ol, rfl, hbd, hO, hb1⟩
  have hX := Blk.new w2 26 #[.int .i64 a, .int .i64 b, .slice A n c, .slice B m d] (g := w2.heap.size)
  have hV := hb1.alloc (.cells #[.int .i64 a, .int .i64 b, .slice A n c, .slice B m d] 26)
  have hO1 := (hO.keep ((Bl.refl w2).alloc (.cells #[.int .i64 a, .int .i64 b, .slice A n c, .slice B m d] 26)))
  have hg := hO1.rd.g; have ho := hO1.rd.o
  have h1c := h1.keep hV
  clear hO hO1 hb1 h0 h1 hW hbd
  have hX_l := hX.lt; have hX_f := hX.frozen; have hX_0 := hX.cell 0 _ rfl; have hX_1 := hX.cell 1 _ rfl; have hX_2 := hX.cell 2 _ rfl; have hX_3 := hX.cell 3 _ rfl
  go_wp2_with fail
  (try clear hX_l hX_f hX_0 hX_1 hX_2 hX_3)
  generalize hx : w2.heap.size = x
  rw [hx] at hX
  clear hx
  refine (impl_LastUses a b A B n c m d gl ol _ hg ho).mono ?_
  rintro e w9 ⟨R1, r1, q1, rfl, o1, hb9⟩
  replace hg := hg.keep hb9; replace ho := ho.keep hb9; replace h1c := h1c.keep hb9; replace hX := hX.keep hb9; replace hV := hV.call hb9
  clear hb9
  have hX_l := hX.lt; have hX_f := hX.frozen; have hX_0 := hX.cell 0 _ rfl; have hX_1 := hX.cell 1 _ rfl; have hX_2 := hX.cell 2 _ rfl; have hX_3 := hX.cell 3 _ rfl
  go_wp2_with fail
  (try clear hX_l hX_f hX_0 hX_1 hX_2 hX_3)
  refine (spec_LastUses a b A B n c m d gl ol _ hg ho).mono ?_
  rintro e w9 ⟨R2, r2, q2, rfl, o2, hb9⟩
  replace hg := hg.keep hb9; replace ho := ho.keep hb9; replace h1c := h1c.keep hb9; replace hX := hX.keep hb9; replace o1 := o1.keep hb9; replace hV := hV.call hb9
  clear hb9
  have FL := Lib.hid (fun (h : goodC a b gl ol = true) => lay_facts h)
  obtain ⟨G, hG⟩ : ∃ G, goodC a b gl ol = G := ⟨_, rfl⟩
  have HG := Lib.hid hG
  rw [hG]
  clear hG
  obtain ⟨L, hL⟩ : ∃ L, luR a b gl ol = L := ⟨_, rfl⟩
  rw [hL] at o1 o2 FL
  clear hL
  obtain ⟨T, hT⟩ : ∃ T, laR a b gl ol = T := ⟨_, rfl⟩
  rw [hT] at FL
  have HTT := Lib.hid hT
  clear hT
  cases G
  · go_wp2_with fail
    refine (same_t _ _ _ _ _ _ _ _ o1.rd o2.rd).mono ?_
    rintro e w9 ⟨rfl, hb9⟩
    replace hg := hg.keep hb9; replace ho := ho.keep hb9; replace h1c := h1c.keep hb9; replace hX := hX.keep hb9; replace o1 := o1.keep hb9; replace o2 := o2.keep hb9; replace hV := hV.call hb9
    clear hb9
    clear hg ho hX o1 o2 FL HG HTT
    go_wp2_with fail
    refine (spec_DrawRowChunks _ A1 n1 c1 l1 h1c).mono ?_
    rintro e w3 ⟨a3, b3, A3, n3, c3, gl3, B3, m3, d3, ol3, v3, rfl, hO3, hb9, hv0, hv1⟩
    replace hV := hV.call hb9; replace h1c := h1c.keep hb9
    clear hb9
    have hX := Blk.new w3 26 #[.int .i64 a3, .int .i64 b3, .slice A3 n3 c3, .slice B3 m3 d3] (g := w3.heap.size)
    replace hV := hV.alloc (.cells #[.int .i64 a3, .int .i64 b3, .slice A3 n3 c3, .slice B3 m3 d3] 26); replace h1c := h1c.keep ((Bl.refl w3).alloc (.cells #[.int .i64 a3, .int .i64 b3, .slice A3 n3 c3, .slice B3 m3 d3] 26))
    replace hO3 := (hO3.keep ((Bl.refl w3).alloc (.cells #[.int .i64 a3, .int .i64 b3, .slice A3 n3 c3, .slice B3 m3 d3] 26)))
    have hg := hO3.g; have ho := hO3.o
    clear hO3
    have hX_l := hX.lt; have hX_f := hX.frozen; have hX_0 := hX.cell 0 _ rfl; have hX_1 := hX.cell 1 _ rfl; have hX_2 := hX.cell 2 _ rfl; have hX_3 := hX.cell 3 _ rfl
    go_wp2_with fail
    (try clear hX_l hX_f hX_0 hX_1 hX_2 hX_3)
    generalize hx : w3.heap.size = x3
    rw [hx] at hX
    clear hx
    refine (impl_RowChunks a3 b3 v3 A3 B3 n3 c3 m3 d3 gl3 ol3 _ hg ho (by omega)).mono ?_
    rintro e w9 ⟨Q1, y1, z1, rfl, r1, hb9⟩
    replace hg := hg.keep hb9; replace ho := ho.keep hb9; replace h1c := h1c.keep hb9; replace hX := hX.keep hb9; replace hV := hV.call hb9
    clear hb9
    have hX_l := hX.lt; have hX_f := hX.frozen; have hX_0 := hX.cell 0 _ rfl; have hX_1 := hX.cell 1 _ rfl; have hX_2 := hX.cell 2 _ rfl; have hX_3 := hX.cell 3 _ rfl
    go_wp2_with fail
    (try clear hX_l hX_f hX_0 hX_1 hX_2 hX_3)
    refine (spec_RowChunks a3 b3 v3 A3 B3 n3 c3 m3 d3 gl3 ol3 _ hg ho (by omega)).mono ?_
    rintro e w9 ⟨Q2, y2, z2, rfl, r2, hb9⟩
    replace hg := hg.keep hb9; replace ho := ho.keep hb9; replace h1c := h1c.keep hb9; replace hX := hX.keep hb9; replace r1 := r1.keep hb9; replace hV := hV.call hb9
    clear hb9
    obtain ⟨M, hMn, hM⟩ := top_exists (a3 + b3).toNat gl3 n3
    have FH := Lib.hid (fun (h : rcB a3 b3 gl3 ol3 v3 = true) => chunk_facts hg.2 h hM)
    have HM := Lib.hid hM
    clear hM
    generalize rcB a3 b3 gl3 ol3 v3 = H at FH ⊢
    generalize rcR a3 b3 gl3 ol3 v3 = RC at FH r1 r2
    cases H
    · go_wp2_with fail
      refine (same_t _ _ _ _ _ _ _ _ r1.rd r2.rd).mono ?_
      rintro e w9 ⟨rfl, hb9⟩
      replace hg := hg.keep hb9; replace ho := ho.keep hb9; replace h1c := h1c.keep hb9; replace hX := hX.keep hb9; replace r1 := r1.keep hb9; replace r2 := r2.keep hb9; replace hV := hV.call hb9
      clear hb9
      clear hg ho hX r1 r2 FH HM hMn
      go_wp2_with fail
      refine (spec_DrawLiveCounts _ A1 n1 c1 l1 h1c).mono ?_
      rintro e w4 ⟨a7, b7, A7, n7, c7, gl7, B7, m7, d7, ol7, rfl, hbd7, hO7, hb9⟩
      replace hV := hV.call hb9
      have hn7b := hbd7.2.2.1
      clear hb9 h1c hbd7
      have hX := Blk.new w4 26 #[.int .i64 a7, .int .i64 b7, .slice A7 n7 c7, .slice B7 m7 d7] (g := w4.heap.size)
      replace hV := hV.alloc (.cells #[.int .i64 a7, .int .i64 b7, .slice A7 n7 c7, .slice B7 m7 d7] 26)
      replace hO7 := (hO7.keep ((Bl.refl w4).alloc (.cells #[.int .i64 a7, .int .i64 b7, .slice A7 n7 c7, .slice B7 m7 d7] 26)))
      have hg := hO7.rd.g; have ho := hO7.rd.o
      clear hO7
      have hX_l := hX.lt; have hX_f := hX.frozen; have hX_0 := hX.cell 0 _ rfl; have hX_1 := hX.cell 1 _ rfl; have hX_2 := hX.cell 2 _ rfl; have hX_3 := hX.cell 3 _ rfl
      go_wp2_with fail
      (try clear hX_l hX_f hX_0 hX_1 hX_2 hX_3)
      generalize hx : w4.heap.size = x4
      rw [hx] at hX
      clear hx
      refine (impl_LiveCounts a7 b7 A7 B7 n7 c7 m7 d7 gl7 ol7 _ hg ho).mono ?_
      rintro e w9 ⟨S1, y1, z1, rfl, s1, hb9⟩
      replace hg := hg.keep hb9; replace ho := ho.keep hb9; replace hX := hX.keep hb9; replace hV := hV.call hb9
      clear hb9
      have hX_l := hX.lt; have hX_f := hX.frozen; have hX_0 := hX.cell 0 _ rfl; have hX_1 := hX.cell 1 _ rfl; have hX_2 := hX.cell 2 _ rfl; have hX_3 := hX.cell 3 _ rfl
      go_wp2_with fail
      (try clear hX_l hX_f hX_0 hX_1 hX_2 hX_3)
      refine (spec_LiveCounts a7 b7 A7 B7 n7 c7 m7 d7 gl7 ol7 _ hg ho).mono ?_
      rintro e w9 ⟨S2, y2, z2, rfl, s2, hb9⟩
      replace hg := hg.keep hb9; replace ho := ho.keep hb9; replace hX := hX.keep hb9; replace s1 := s1.keep hb9; replace hV := hV.call hb9
      clear hb9
      have FC := Lib.hid (fun (h : goodC a7 b7 gl7 ol7 = true) => (s2.length.symm.trans (lc_fact h)).trans (congrArg (· + 1) hg.2))
      generalize goodC a7 b7 gl7 ol7 = G7 at FC ⊢
      generalize lcR a7 b7 gl7 ol7 = L7 at s1 s2
      cases G7
      · have hX_l := hX.lt; have hX_f := hX.frozen; have hX_0 := hX.cell 0 _ rfl; have hX_1 := hX.cell 1 _ rfl; have hX_2 := hX.cell 2 _ rfl; have hX_3 := hX.cell 3 _ rfl
        go_wp2_with fail
        refine (same_t _ _ _ _ _ _ _ _ s1.rd s2.rd).mono ?_
        rintro e w9 ⟨rfl, hb9⟩
        replace hg := hg.keep hb9; replace ho := ho.keep hb9; replace hX := hX.keep hb9; replace s1 := s1.keep hb9; replace s2 := s2.keep hb9; replace hV := hV.call hb9
        clear hb9
        go_wp2_with fail
        go_ret
        exact ⟨rfl, hV⟩
      · have hy2 := FC.out rfl
        clear FC
        (try dsimp only at hy2)
        subst hy2
        have hn7 := hg.le
        have hX_l := hX.lt; have hX_f := hX.frozen; have hX_0 := hX.cell 0 _ rfl; have hX_1 := hX.cell 1 _ rfl; have hX_2 := hX.cell 2 _ rfl; have hX_3 := hX.cell 3 _ rfl
        go_wp2_with fail
        refine (same_t _ _ _ _ _ _ _ _ s1.rd s2.rd).mono ?_
        rintro e w9 ⟨rfl, hb9⟩
        replace hg := hg.keep hb9; replace ho := ho.keep hb9; replace hX := hX.keep hb9; replace s1 := s1.keep hb9; replace s2 := s2.keep hb9; replace hV := hV.call hb9
        clear hb9; (try clear hX_l hX_f hX_0 hX_1 hX_2 hX_3)
        have hX_l := hX.lt; have hX_f := hX.frozen; have hX_0 := hX.cell 0 _ rfl; have hX_1 := hX.cell 1 _ rfl; have hX_2 := hX.cell 2 _ rfl; have hX_3 := hX.cell 3 _ rfl
        go_wp2_with fail
        go_ret
        exact ⟨rfl, hV⟩
    · obtain ⟨hgd, hsum, hbd, hlen, htot, hk3, hk1⟩ := FH.out rfl
      have HGD := Lib.hid hgd; have HSUM := Lib.hid hsum; have HBD := Lib.hid hbd; have HTOT := Lib.hid htot; have HK1 := Lib.hid hk1
      clear hgd hsum hbd htot hk1 FH
      rw [r2.length] at hlen
      go_wp2_with fail
      refine (same_t _ _ _ _ _ _ _ _ r1.rd r2.rd).mono ?_
      rintro e w9 ⟨rfl, hb9⟩
      replace hg := hg.keep hb9; replace ho := ho.keep hb9; replace h1c := h1c.keep hb9; replace hX := hX.keep hb9; replace r1 := r1.keep hb9; replace r2 := r2.keep hb9; replace hV := hV.call hb9
      clear hb9
      have hX_l := hX.lt; have hX_f := hX.frozen; have hX_0 := hX.cell 0 _ rfl; have hX_1 := hX.cell 1 _ rfl; have hX_2 := hX.cell 2 _ rfl; have hX_3 := hX.cell 3 _ rfl
      go_wp2_with fail
      (try clear hX_l hX_f hX_0 hX_1 hX_2 hX_3)
      refine (impl_CountGates_t a3 b3 A3 B3 n3 c3 m3 d3 gl3 ol3 _ hg ho HGD.out).mono ?_
      rintro e w9 ⟨Q3, rfl, r3, hb9⟩
      replace hg := hg.keep hb9; replace ho := ho.keep hb9; replace h1c := h1c.keep hb9; replace hX := hX.keep hb9; replace r1 := r1.keep hb9; replace r2 := r2.keep hb9; replace hV := hV.call hb9
      clear hb9
      have hX_l := hX.lt; have hX_f := hX.frozen; have hX_0 := hX.cell 0 _ rfl; have hX_1 := hX.cell 1 _ rfl; have hX_2 := hX.cell 2 _ rfl; have hX_3 := hX.cell 3 _ rfl
      go_wp2_with fail
      (try clear hX_l hX_f hX_0 hX_1 hX_2 hX_3)
      refine (impl_AndLayers a3 b3 A3 B3 n3 c3 m3 d3 gl3 ol3 _ hg ho M HM.out hMn).mono ?_
      rintro e w9 ⟨Q4, y4, z4, hs4, rfl, r4, hb9⟩
      replace hg := hg.keep hb9; replace ho := ho.keep hb9; replace h1c := h1c.keep hb9; replace hX := hX.keep hb9; replace r1 := r1.keep hb9; replace r2 := r2.keep hb9; replace r3 := r3.keep hb9; replace hV := hV.call hb9
      clear hb9
      rw [HGD.out]
      have hX_l := hX.lt; have hX_f := hX.frozen; have hX_0 := hX.cell 0 _ rfl; have hX_1 := hX.cell 1 _ rfl; have hX_2 := hX.cell 2 _ rfl; have hX_3 := hX.cell 3 _ rfl
      go_wp2_with fail
      (try clear hX_l hX_f hX_0 hX_1 hX_2 hX_3)
      refine (spec_AndLayers a3 b3 A3 B3 n3 c3 m3 d3 gl3 ol3 _ hg ho M HM.out hMn).mono ?_
      rintro e w9 ⟨Q5, y5, z5, hs5, rfl, r5, hb9⟩
      replace hg := hg.keep hb9; replace ho := ho.keep hb9; replace h1c := h1c.keep hb9; replace hX := hX.keep hb9; replace r1 := r1.keep hb9; replace r2 := r2.keep hb9; replace r3 := r3.keep hb9; replace r4 := r4.keep hb9; replace hV := hV.call hb9
      clear hb9
      rw [HGD.out]
      clear hg ho hX HM hMn HGD
      generalize alR a3 b3 gl3 ol3 M = LY at r4 r5 HTOT
      obtain ⟨g3, hg3, _, _, hc3, _⟩ := r3.form (by omega)
      subst hg3
      have kc := hc3 1 _ HK1.out
      clear hc3 HK1
      generalize kN 1 gl3 n3 = K at kc HSUM HTOT hk3
      have hZ := Bl.refl w9
      go_wp2_with fail
      refine wp_region_held_drew (S := (fun w' => w'.cell? ⟨g3, 1, none⟩ = some (.int .i64 (K : Nat)))) (by kernel_rfl) ?_ (fun hHeld => ?_)
      · (try dsimp only); exact Bl.cells (by (repeat (first | assumption | with_reducible exact Bl.refl _ | with_reducible refine Bl.drewN ?_ _ | with_reducible refine Bl.drew ?_ | with_reducible refine Bl.alloc ?_ _ | (with_reducible refine Bl.call ?_ (by assumption))))) kc
      refine held_take (i := 0) (d := 183) (v := ?_) rfl rfl (by kernel_rfl) (by kernel_rfl) (by kernel_rfl) (fun _ _ _ h => h) (Or.inl ⟨by rfl, ?_⟩) (by assumption) ?_
      rotate_left
      · (intro w hSw; (try dsimp only at hSw); go_simp; (try with_reducible rfl))
      (try simp only [List.set_cons_zero, List.set_cons_succ])
      refine held_take (i := 1) (d := 184) (v := ?_) rfl rfl (by kernel_rfl) (by kernel_rfl) (by kernel_rfl) (fun _ _ _ h => h) (Or.inl ⟨by rfl, ?_⟩) (by assumption) ?_
      rotate_left
      · (intro w hSw; (try dsimp only at hSw); go_simp; (try with_reducible rfl))
      (try simp only [List.set_cons_zero, List.set_cons_succ])
      refine held_take (i := 2) (d := 185) (v := ?_) rfl rfl (by kernel_rfl) (by kernel_rfl) (by kernel_rfl) (fun _ _ _ h => h) (Or.inl ⟨by rfl, ?_⟩) (by assumption) ?_
      rotate_left
      · (intro w hSw; (try dsimp only at hSw); go_simp; (try with_reducible rfl))
      (try simp only [List.set_cons_zero, List.set_cons_succ])
      refine held_take (i := 3) (d := 186) (v := ?_) rfl rfl (by kernel_rfl) (by kernel_rfl) (by kernel_rfl) (fun _ _ _ h => h) (Or.inl ⟨by rfl, ?_⟩) (by assumption) ?_
      rotate_left
      · (intro w hSw; (try dsimp only at hSw); go_simp; (try with_reducible rfl))
      (try simp only [List.set_cons_zero, List.set_cons_succ])
      refine held_take (i := 4) (d := 187) (v := ?_) rfl rfl (by kernel_rfl) (by kernel_rfl) (by kernel_rfl) (fun _ _ _ h => h) (Or.inl ⟨by rfl, ?_⟩) (by assumption) ?_
      rotate_left
      · (intro w hSw; (try dsimp only at hSw); go_simp; (try with_reducible rfl))
      (try simp only [List.set_cons_zero, List.set_cons_succ])
      refine held_take (i := 5) (d := 188) (v := ?_) rfl rfl (by kernel_rfl) (by kernel_rfl) (by kernel_rfl) (fun _ _ _ h => h) (Or.inl ⟨by rfl, ?_⟩) (by assumption) ?_
      rotate_left
      · (intro w hSw; (try dsimp only at hSw); go_simp; (try with_reducible rfl))
      (try simp only [List.set_cons_zero, List.set_cons_succ])
      refine held_take (i := 6) (d := 189) (v := ?_) rfl rfl (by kernel_rfl) (by kernel_rfl) (by kernel_rfl) (fun _ _ _ h => h) (Or.inl ⟨by rfl, ?_⟩) (by assumption) ?_
      rotate_left
      · (intro w hSw; (try dsimp only at hSw); go_simp; (try with_reducible rfl))
      (try simp only [List.set_cons_zero, List.set_cons_succ])
      refine held_take (i := 7) (d := 190) (v := ?_) rfl rfl (by kernel_rfl) (by kernel_rfl) (by kernel_rfl) (fun _ _ _ h => h) (Or.inl ⟨by rfl, ?_⟩) (by assumption) ?_
      rotate_left
      · (intro w hSw; (try dsimp only at hSw); go_simp; (try with_reducible rfl))
      (try simp only [List.set_cons_zero, List.set_cons_succ])
      refine held_take (i := 8) (d := 191) (v := ?_) rfl rfl (by kernel_rfl) (by kernel_rfl) (by kernel_rfl) (fun _ _ _ h => h) (Or.inl ⟨by rfl, ?_⟩) (by assumption) ?_
      rotate_left
      · (intro w hSw; (try dsimp only at hSw); go_simp; (try with_reducible rfl))
      (try simp only [List.set_cons_zero, List.set_cons_succ])
      refine held_take (i := 9) (d := 192) (v := ?_) rfl rfl (by kernel_rfl) (by kernel_rfl) (by kernel_rfl) (fun _ _ _ h => h) (Or.inl ⟨by rfl, ?_⟩) (by assumption) ?_
      rotate_left
      · (intro w hSw; (try dsimp only at hSw); go_simp; (try with_reducible rfl))
      (try simp only [List.set_cons_zero, List.set_cons_succ])
      refine held_take (i := 10) (d := 193) (v := ?_) rfl rfl (by kernel_rfl) (by kernel_rfl) (by kernel_rfl) (fun _ _ _ h => h) (Or.inl ⟨by rfl, ?_⟩) (by assumption) ?_
      rotate_left
      · (intro w hSw; (try dsimp only at hSw); go_simp; (try with_reducible rfl))
      (try simp only [List.set_cons_zero, List.set_cons_succ])
      refine held_take (i := 11) (d := 194) (v := ?_) rfl rfl (by kernel_rfl) (by kernel_rfl) (by kernel_rfl) (fun _ _ _ h => h) (Or.inl ⟨by rfl, ?_⟩) (by assumption) ?_
      rotate_left
      · (intro w hSw; (try dsimp only at hSw); go_simp; (try with_reducible rfl))
      (try simp only [List.set_cons_zero, List.set_cons_succ])
      refine wpAnyH_ready (rs := [12]) (by kernel_rfl) (by simp) ?_
      refine AllReadyH.cons rfl (fun K hK => ?_) AllReadyH.nil
      go_simp
      (go_at_call 30; refine (pSum_l _ _ _ RC _ (r2.rd.keep (Bl.refl _).drew) HBD.out (by omega)).mono ?_; rintro e u1 ⟨rfl, hb1⟩; rw [HSUM.out]; replace kc : u1.cell? ⟨g3, 1, none⟩ = _ := Bl.cells (by (repeat (first | assumption | with_reducible exact Bl.refl _ | with_reducible refine Bl.drewN ?_ _ | with_reducible refine Bl.drew ?_ | with_reducible refine Bl.alloc ?_ _ | (with_reducible refine Bl.call ?_ (by assumption))))) kc; replace hZ : Bl w9 u1 := (by (repeat (first | assumption | with_reducible exact Bl.refl _ | with_reducible refine Bl.drewN ?_ _ | with_reducible refine Bl.drew ?_ | with_reducible refine Bl.alloc ?_ _ | (with_reducible refine Bl.call ?_ (by assumption))))))
      go_wp2_with fail
      refine hK.out _ _ ?_ (fun hHeld => ?_)
      · (try dsimp only); exact Bl.cells (by (repeat (first | assumption | with_reducible exact Bl.refl _ | with_reducible refine Bl.drewN ?_ _ | with_reducible refine Bl.drew ?_ | with_reducible refine Bl.alloc ?_ _ | (with_reducible refine Bl.call ?_ (by assumption))))) kc
      clear hK K
      (try simp only [Act.put]); (try simp only [List.setIfInBounds_toArray]); (try simp only [List.set_cons_succ]); (try simp only [List.set_cons_zero])
      refine held_take (i := 13) (d := 196) (v := ?_) rfl rfl (by kernel_rfl) (by kernel_rfl) (by kernel_rfl) (fun _ _ _ h => h) (Or.inl ⟨by rfl, ?_⟩) (by assumption) ?_
      rotate_left
      · (intro w hSw; (try dsimp only at hSw); go_simp; (try with_reducible rfl))
      (try simp only [List.set_cons_zero, List.set_cons_succ])
      refine held_take (i := 14) (d := 197) (v := ?_) rfl rfl (by kernel_rfl) (by kernel_rfl) (by kernel_rfl) (fun _ _ _ h => h) (Or.inl ⟨by rfl, ?_⟩) (by assumption) ?_
      rotate_left
      · (intro w hSw; (try dsimp only at hSw); go_simp; (try with_reducible rfl))
      (try simp only [List.set_cons_zero, List.set_cons_succ])
      refine held_take (i := 15) (d := 198) (v := ?_) rfl rfl (by kernel_rfl) (by kernel_rfl) (by kernel_rfl) (fun _ _ _ h => h) (Or.inl ⟨by rfl, ?_⟩) (by assumption) ?_
      rotate_left
      · (intro w hSw; (try dsimp only at hSw); go_simp; (try with_reducible rfl))
      (try simp only [List.set_cons_zero, List.set_cons_succ])
      refine held_take (i := 16) (d := 199) (v := ?_) rfl rfl (by kernel_rfl) (by kernel_rfl) (by kernel_rfl) (fun _ _ _ h => h) (Or.inl ⟨by rfl, ?_⟩) (by assumption) ?_
      rotate_left
      · (intro w hSw; (try dsimp only at hSw); go_simp; (try with_reducible rfl))
      (try simp only [List.set_cons_zero, List.set_cons_succ])
      refine held_take (i := 17) (d := 200) (v := ?_) rfl rfl (by kernel_rfl) (by kernel_rfl) (by kernel_rfl) (fun _ _ _ h => h) (Or.inl ⟨by rfl, ?_⟩) (by assumption) ?_
      rotate_left
      · (intro w hSw; (try dsimp only at hSw); go_simp; (try with_reducible rfl))
      (try simp only [List.set_cons_zero, List.set_cons_succ])
      refine held_take (i := 18) (d := 201) (v := ?_) rfl rfl (by kernel_rfl) (by kernel_rfl) (by kernel_rfl) (fun _ _ _ h => h) (Or.inl ⟨by rfl, ?_⟩) (by assumption) ?_
      rotate_left
      · (intro w hSw; (try dsimp only at hSw); go_simp; (try with_reducible rfl))
      (try simp only [List.set_cons_zero, List.set_cons_succ])
      refine held_take (i := 19) (d := 202) (v := ?_) rfl rfl (by kernel_rfl) (by kernel_rfl) (by kernel_rfl) (fun _ _ _ h => h) (Or.inl ⟨by rfl, ?_⟩) (by assumption) ?_
      rotate_left
      · (intro w hSw; (try dsimp only at hSw); go_simp; (try with_reducible rfl))
      (try simp only [List.set_cons_zero, List.set_cons_succ])
      refine held_take (i := 20) (d := 203) (v := ?_) rfl rfl (by kernel_rfl) (by kernel_rfl) (by kernel_rfl) (fun _ _ _ h => h) (Or.inl ⟨by rfl, ?_⟩) (by assumption) ?_
      rotate_left
      · (intro w hSw; (try dsimp only at hSw); go_simp; (try with_reducible rfl))
      (try simp only [List.set_cons_zero, List.set_cons_succ])
      refine held_take (i := 21) (d := 204) (v := ?_) rfl rfl (by kernel_rfl) (by kernel_rfl) (by kernel_rfl) (fun _ _ _ h => h) (Or.inl ⟨by rfl, ?_⟩) (by assumption) ?_
      rotate_left
      · (intro w hSw; (try dsimp only at hSw); go_simp; (try with_reducible rfl))
      (try simp only [List.set_cons_zero, List.set_cons_succ])
      refine wpAnyH_ready (rs := [22]) (by kernel_rfl) (by simp) ?_
      refine AllReadyH.cons rfl (fun K hK => ?_) AllReadyH.nil
      go_simp
      (go_at_call 31; refine (laws_sameLists _ _ _ _ _ _ _ _ _ _ (r4.keep hZ) (r5.keep hZ)).mono ?_; rintro e u2 ⟨rfl, hb2⟩; replace kc : u2.cell? ⟨g3, 1, none⟩ = _ := Bl.cells (by (repeat (first | assumption | with_reducible exact Bl.refl _ | with_reducible refine Bl.drewN ?_ _ | with_reducible refine Bl.drew ?_ | with_reducible refine Bl.alloc ?_ _ | (with_reducible refine Bl.call ?_ (by assumption))))) kc; replace hZ : Bl w9 u2 := (by (repeat (first | assumption | with_reducible exact Bl.refl _ | with_reducible refine Bl.drewN ?_ _ | with_reducible refine Bl.drew ?_ | with_reducible refine Bl.alloc ?_ _ | (with_reducible refine Bl.call ?_ (by assumption))))))
      go_wp2_with fail
      refine hK.out _ _ ?_ (fun hHeld => ?_)
      · (try dsimp only); exact Bl.cells (by (repeat (first | assumption | with_reducible exact Bl.refl _ | with_reducible refine Bl.drewN ?_ _ | with_reducible refine Bl.drew ?_ | with_reducible refine Bl.alloc ?_ _ | (with_reducible refine Bl.call ?_ (by assumption))))) kc
      clear hK K
      (try simp only [Act.put]); (try simp only [List.setIfInBounds_toArray]); (try simp only [List.set_cons_succ]); (try simp only [List.set_cons_zero])
      refine held_take (i := 23) (d := 206) (v := ?_) rfl rfl (by kernel_rfl) (by kernel_rfl) (by kernel_rfl) (fun _ _ _ h => h) (Or.inl ⟨by rfl, ?_⟩) (by assumption) ?_
      rotate_left
      · (intro w hSw; (try dsimp only at hSw); go_simp; (try with_reducible rfl))
      (try simp only [List.set_cons_zero, List.set_cons_succ])
      refine held_take (i := 24) (d := 207) (v := ?_) rfl rfl (by kernel_rfl) (by kernel_rfl) (by kernel_rfl) (fun _ _ _ h => h) (Or.inl ⟨by rfl, ?_⟩) (by assumption) ?_
      rotate_left
      · (intro w hSw; (try dsimp only at hSw); go_simp; (try with_reducible rfl))
      (try simp only [List.set_cons_zero, List.set_cons_succ])
      refine wpAnyH_done (by kernel_rfl) ?_ _
      clear kc r1 r3 r4
      replace h1c := h1c.keep hZ; replace r2 := r2.keep hZ; replace r5 := r5.keep hZ; replace hV := hV.call hZ
      clear hZ
      have hny := r5.l_eq
      obtain ⟨hle1, hle2⟩ := r5.le
      have hK9 : (K : Int) ≤ 300 := by omega
      have HNY := Lib.hid hny
      clear hny
      have hTL := Lib.hid (fun i => total_le (LL := LY) i)
      go_wp2_with fail
      go_loop [31, 210] (fun s i => ∃ k : Nat, k ≤ y5 ∧ i = .int .i64 (k : Nat) ∧ s = .int .i64 (total (LY.take k) : Nat)) (fun _ i => y5 - (intOf i).toNat)
      case atStart => exact ⟨0, by omega, rfl, rfl⟩
      case round =>
        obtain ⟨k, hk, rfl, rfl⟩ := hrel
        by_cases hlt : k < y5
        · obtain ⟨g, x, l, rfl, hx, hl, hbg, hgl, kc, hfr, hro⟩ := r5.cell hlt
          have hst := Lib.hid (total_take hl)
          have h1 := hTL.out (k + 1)
          rw [hst.out] at h1
          have hln := hro.length
          rw [HTOT.out] at h1
          obtain ⟨hl1, hl2⟩ := hro.rd.le
          have i1 : (k : Int) < y5 := by omega
          have HLN := Lib.hid hln
          have h2 : (total (LY.take k) : Int) + (x.n : Int) ≤ 300 := by omega
          clear hx hl hfr hln h1
          generalize hT9 : total (LY.take k) = T9 at h2 ⊢
          have HT9 := Lib.hid hT9
          clear hT9
          go_wp2_with fail
          go_round
          case rel => exact ⟨k + 1, by omega, by go_num, by rw [hst.out, HT9.out, HLN.out]; go_num⟩
          case measure => simp [intOf]; omega
        · obtain rfl : k = y5 := by omega
          have hE := Lib.hid (show total (LY.take k) = K by rw [← HTOT.out, ← HNY.out, List.take_length])
          rw [hE.out]
          clear hE
          go_wp2_with fail
          refine (pSum_l _ _ _ RC _ r2.rd HBD.out (by omega)).mono ?_
          rintro e w9 ⟨rfl, hb9⟩
          rw [HSUM.out]
          replace h1c := h1c.keep hb9; replace hV := hV.call hb9
          clear hb9 r2 r5 HSUM HTOT HBD hTL HNY
          go_wp2_with fail
          refine (spec_DrawLiveCounts _ A1 n1 c1 l1 h1c).mono ?_
          rintro e w4 ⟨a7, b7, A7, n7, c7, gl7, B7, m7, d7, ol7, rfl, hbd7, hO7, hb9⟩
          replace hV := hV.call hb9
          have hn7b := hbd7.2.2.1
          clear hb9 h1c hbd7
          have hX := Blk.new w4 26 #[.int .i64 a7, .int .i64 b7, .slice A7 n7 c7, .slice B7 m7 d7] (g := w4.heap.size)
          replace hV := hV.alloc (.cells #[.int .i64 a7, .int .i64 b7, .slice A7 n7 c7, .slice B7 m7 d7] 26)
          replace hO7 := (hO7.keep ((Bl.refl w4).alloc (.cells #[.int .i64 a7, .int .i64 b7, .slice A7 n7 c7, .slice B7 m7 d7] 26)))
          have hg := hO7.rd.g; have ho := hO7.rd.o
          clear hO7
          have hX_l := hX.lt; have hX_f := hX.frozen; have hX_0 := hX.cell 0 _ rfl; have hX_1 := hX.cell 1 _ rfl; have hX_2 := hX.cell 2 _ rfl; have hX_3 := hX.cell 3 _ rfl
          go_wp2_with fail
          (try clear hX_l hX_f hX_0 hX_1 hX_2 hX_3)
          generalize hx : w4.heap.size = x4
          rw [hx] at hX
          clear hx
          refine (impl_LiveCounts a7 b7 A7 B7 n7 c7 m7 d7 gl7 ol7 _ hg ho).mono ?_
          rintro e w9 ⟨S1, y1, z1, rfl, s1, hb9⟩
          replace hg := hg.keep hb9; replace ho := ho.keep hb9; replace hX := hX.keep hb9; replace hV := hV.call hb9
          clear hb9
          have hX_l := hX.lt; have hX_f := hX.frozen; have hX_0 := hX.cell 0 _ rfl; have hX_1 := hX.cell 1 _ rfl; have hX_2 := hX.cell 2 _ rfl; have hX_3 := hX.cell 3 _ rfl
          go_wp2_with fail
          (try clear hX_l hX_f hX_0 hX_1 hX_2 hX_3)
          refine (spec_LiveCounts a7 b7 A7 B7 n7 c7 m7 d7 gl7 ol7 _ hg ho).mono ?_
          rintro e w9 ⟨S2, y2, z2, rfl, s2, hb9⟩
          replace hg := hg.keep hb9; replace ho := ho.keep hb9; replace hX := hX.keep hb9; replace s1 := s1.keep hb9; replace hV := hV.call hb9
          clear hb9
          have FC := Lib.hid (fun (h : goodC a7 b7 gl7 ol7 = true) => (s2.length.symm.trans (lc_fact h)).trans (congrArg (· + 1) hg.2))
          generalize goodC a7 b7 gl7 ol7 = G7 at FC ⊢
          generalize lcR a7 b7 gl7 ol7 = L7 at s1 s2
          cases G7
          · have hX_l := hX.lt; have hX_f := hX.frozen; have hX_0 := hX.cell 0 _ rfl; have hX_1 := hX.cell 1 _ rfl; have hX_2 := hX.cell 2 _ rfl; have hX_3 := hX.cell 3 _ rfl
            go_wp2_with fail
            refine (same_t _ _ _ _ _ _ _ _ s1.rd s2.rd).mono ?_
            rintro e w9 ⟨rfl, hb9⟩
            replace hg := hg.keep hb9; replace ho := ho.keep hb9; replace hX := hX.keep hb9; replace s1 := s1.keep hb9; replace s2 := s2.keep hb9; replace hV := hV.call hb9
            clear hb9
            go_wp2_with fail
            go_ret
            exact ⟨rfl, hV⟩
          · have hy2 := FC.out rfl
            clear FC
            (try dsimp only at hy2)
            subst hy2
            have hn7 := hg.le
            have hX_l := hX.lt; have hX_f := hX.frozen; have hX_0 := hX.cell 0 _ rfl; have hX_1 := hX.cell 1 _ rfl; have hX_2 := hX.cell 2 _ rfl; have hX_3 := hX.cell 3 _ rfl
            go_wp2_with fail
            refine (same_t _ _ _ _ _ _ _ _ s1.rd s2.rd).mono ?_
            rintro e w9 ⟨rfl, hb9⟩
            replace hg := hg.keep hb9; replace ho := ho.keep hb9; replace hX := hX.keep hb9; replace s1 := s1.keep hb9; replace s2 := s2.keep hb9; replace hV := hV.call hb9
            clear hb9; (try clear hX_l hX_f hX_0 hX_1 hX_2 hX_3)
            have hX_l := hX.lt; have hX_f := hX.frozen; have hX_0 := hX.cell 0 _ rfl; have hX_1 := hX.cell 1 _ rfl; have hX_2 := hX.cell 2 _ rfl; have hX_3 := hX.cell 3 _ rfl
            go_wp2_with fail
            go_ret
            exact ⟨rfl, hV⟩
  · obtain ⟨N, hab, ha, hb, hLl, hTl, hF1, hF2⟩ := FL.out HG.out
    have HF1 := Lib.hid hF1; have HF2 := Lib.hid hF2
    have HTL := Lib.hid hTl
    rw [o2.length, hg.2] at hLl
    rw [hg.2] at HF1 HF2
    clear hF1 hF2 FL hTl
    have hN40 : N ≤ 40 := by omega
    have hgle := hg.le
    have hr2 := o2.rd.le
    subst hLl
    go_wp2_with fail
    refine (same_t _ _ _ _ _ _ _ _ o1.rd o2.rd).mono ?_
    rintro e w9 ⟨rfl, hb9⟩
    replace hg := hg.keep hb9; replace ho := ho.keep hb9; replace h1c := h1c.keep hb9; replace hX := hX.keep hb9; replace o1 := o1.keep hb9; replace o2 := o2.keep hb9; replace hV := hV.call hb9
    clear hb9
    have hX_l := hX.lt; have hX_f := hX.frozen; have hX_0 := hX.cell 0 _ rfl; have hX_1 := hX.cell 1 _ rfl; have hX_2 := hX.cell 2 _ rfl; have hX_3 := hX.cell 3 _ rfl
    have hwr : IntKind.i64.wrap (a + b) = (N : Int) := by rw [IntWalk.i64_in _ (by omega)]; exact hab
    clear hab
    go_wp2_with fail
    go_loop [71] (fun i => ∃ k : Nat, k ≤ N + n ∧ i = .int .i64 (k : Nat)) (fun i => N + n - (intOf i).toNat)
    case atStart => exact ⟨0, by omega, rfl⟩
    case round =>
      obtain ⟨k, hk, rfl⟩ := hrel
      by_cases hlt : k < N + n
      · obtain ⟨ad, v, rfl, _, hv, hc⟩ := o2.rd.at_ hlt
        obtain ⟨f1, f2⟩ := HF1.out k v hv
        clear hv
        have i1 : (k : Int) < (N : Int) + (n : Int) := by omega
        have i2 : (k : Int) < ((N + n : Nat) : Int) := by omega
        have i3 : ¬ (n : Int) < v := by omega
        have i4 : IntKind.i64.wrap ((k : Int) - (N : Int)) = (k : Int) - N := IntWalk.i64_in _ (by omega)
        by_cases j1 : 0 ≤ v
        · by_cases j2 : (N : Int) ≤ k
          · have j3 : ¬ v ≤ (k : Int) - N := by omega
            clear f2
            go_wp2_with fail
            go_round
            case rel => exact ⟨k + 1, by omega, by go_num⟩
            case measure => simp [intOf]; omega
          · clear f2
            go_wp2_with fail
            go_round
            case rel => exact ⟨k + 1, by omega, by go_num⟩
            case measure => simp [intOf]; omega
        · clear f2
          go_wp2_with fail
          go_round
          case rel => exact ⟨k + 1, by omega, by go_num⟩
          case measure => simp [intOf]; omega
      · obtain rfl : k = N + n := by omega
        clear hlt hk
        go_wp2_with fail
        (try clear hX_l hX_f hX_0 hX_1 hX_2 hX_3)
        refine (impl_LateInputs a b A B n c m d gl ol _ hg ho).mono ?_
        rintro e w9 ⟨R3, r3, q3, rfl, o3, hb9⟩
        replace hg := hg.keep hb9; replace ho := ho.keep hb9; replace h1c := h1c.keep hb9; replace hX := hX.keep hb9; replace o1 := o1.keep hb9; replace o2 := o2.keep hb9; replace hV := hV.call hb9
        clear hb9
        rw [HTT.out] at o3
        rw [HG.out]
        have hX_l := hX.lt; have hX_f := hX.frozen; have hX_0 := hX.cell 0 _ rfl; have hX_1 := hX.cell 1 _ rfl; have hX_2 := hX.cell 2 _ rfl; have hX_3 := hX.cell 3 _ rfl
        go_wp2_with fail
        (try clear hX_l hX_f hX_0 hX_1 hX_2 hX_3)
        refine (spec_LateInputs a b A B n c m d gl ol _ hg ho).mono ?_
        rintro e w9 ⟨R4, r4, q4, rfl, o4, hb9⟩
        replace hg := hg.keep hb9; replace ho := ho.keep hb9; replace h1c := h1c.keep hb9; replace hX := hX.keep hb9; replace o1 := o1.keep hb9; replace o2 := o2.keep hb9; replace o3 := o3.keep hb9; replace hV := hV.call hb9
        clear hb9
        rw [HTT.out] at o4
        rw [HG.out]
        have hq4 := o4.length
        rw [HTL.out] at hq4
        subst hq4
        have hr4 := o4.rd.le
        go_wp2_with fail
        refine (same_t _ _ _ _ _ _ _ _ o3.rd o4.rd).mono ?_
        rintro e w9 ⟨rfl, hb9⟩
        replace hg := hg.keep hb9; replace ho := ho.keep hb9; replace h1c := h1c.keep hb9; replace hX := hX.keep hb9; replace o1 := o1.keep hb9; replace o2 := o2.keep hb9; replace o3 := o3.keep hb9; replace o4 := o4.keep hb9; replace hV := hV.call hb9
        clear hb9
        clear o1 o3 HTT HTL HG
        have hX_l := hX.lt; have hX_f := hX.frozen; have hX_0 := hX.cell 0 _ rfl; have hX_1 := hX.cell 1 _ rfl; have hX_2 := hX.cell 2 _ rfl; have hX_3 := hX.cell 3 _ rfl
        go_wp2_with fail
        go_loop [122] (fun i => ∃ k : Nat, k ≤ N ∧ i = .int .i64 (k : Nat)) (fun i => N - (intOf i).toNat)
        case atStart => exact ⟨0, by omega, rfl⟩
        case round =>
          obtain ⟨k, hk, rfl⟩ := hrel
          by_cases hlt : k < N
          · obtain ⟨ad, f, rfl, _, hf, hc⟩ := o4.rd.at_ hlt
            obtain ⟨ad2, u, rfl, _, hu, hc2⟩ := o2.rd.at_ (show k < N + n by omega)
            have f1 := HF2.out k f u hf hu
            clear hf hu
            have i1 : (k : Int) < (N : Int) := by omega
            have i2 : (k : Int) < (N : Int) + (n : Int) := by omega
            have i3 : (k : Int) < ((N + n : Nat) : Int) := by omega
            by_cases j1 : f < (n : Int)
            · have j2 : ¬ u < f := by have := f1 j1; omega
              clear f1
              go_wp2_with fail
              go_round
              case rel => exact ⟨k + 1, by omega, by go_num⟩
              case measure => simp [intOf]; omega
            · clear f1
              go_wp2_with fail
              go_round
              case rel => exact ⟨k + 1, by omega, by go_num⟩
              case measure => simp [intOf]; omega
          · obtain rfl : k = N := by omega
            (try clear hX_l hX_f hX_0 hX_1 hX_2 hX_3)
            clear hg ho hX o2 o4 HF1 HF2 hlt hk hwr ha hb hgle hr2 hr4 hN40
            go_wp2_with fail
            refine (spec_DrawRowChunks _ A1 n1 c1 l1 h1c).mono ?_
            rintro e w3 ⟨a3, b3, A3, n3, c3, gl3, B3, m3, d3, ol3, v3, rfl, hO3, hb9, hv0, hv1⟩
            replace hV := hV.call hb9; replace h1c := h1c.keep hb9
            clear hb9
            have hX := Blk.new w3 26 #[.int .i64 a3, .int .i64 b3, .slice A3 n3 c3, .slice B3 m3 d3] (g := w3.heap.size)
            replace hV := hV.alloc (.cells #[.int .i64 a3, .int .i64 b3, .slice A3 n3 c3, .slice B3 m3 d3] 26); replace h1c := h1c.keep ((Bl.refl w3).alloc (.cells #[.int .i64 a3, .int .i64 b3, .slice A3 n3 c3, .slice B3 m3 d3] 26))
            replace hO3 := (hO3.keep ((Bl.refl w3).alloc (.cells #[.int .i64 a3, .int .i64 b3, .slice A3 n3 c3, .slice B3 m3 d3] 26)))
            have hg := hO3.g; have ho := hO3.o
            clear hO3
            have hX_l := hX.lt; have hX_f := hX.frozen; have hX_0 := hX.cell 0 _ rfl; have hX_1 := hX.cell 1 _ rfl; have hX_2 := hX.cell 2 _ rfl; have hX_3 := hX.cell 3 _ rfl
            go_wp2_with fail
            (try clear hX_l hX_f hX_0 hX_1 hX_2 hX_3)
            generalize hx : w3.heap.size = x3
            rw [hx] at hX
            clear hx
            refine (impl_RowChunks a3 b3 v3 A3 B3 n3 c3 m3 d3 gl3 ol3 _ hg ho (by omega)).mono ?_
            rintro e w9 ⟨Q1, y1, z1, rfl, r1, hb9⟩
            replace hg := hg.keep hb9; replace ho := ho.keep hb9; replace h1c := h1c.keep hb9; replace hX := hX.keep hb9; replace hV := hV.call hb9
            clear hb9
            have hX_l := hX.lt; have hX_f := hX.frozen; have hX_0 := hX.cell 0 _ rfl; have hX_1 := hX.cell 1 _ rfl; have hX_2 := hX.cell 2 _ rfl; have hX_3 := hX.cell 3 _ rfl
            go_wp2_with fail
            (try clear hX_l hX_f hX_0 hX_1 hX_2 hX_3)
            refine (spec_RowChunks a3 b3 v3 A3 B3 n3 c3 m3 d3 gl3 ol3 _ hg ho (by omega)).mono ?_
            rintro e w9 ⟨Q2, y2, z2, rfl, r2, hb9⟩
            replace hg := hg.keep hb9; replace ho := ho.keep hb9; replace h1c := h1c.keep hb9; replace hX := hX.keep hb9; replace r1 := r1.keep hb9; replace hV := hV.call hb9
            clear hb9
            obtain ⟨M, hMn, hM⟩ := top_exists (a3 + b3).toNat gl3 n3
            have FH := Lib.hid (fun (h : rcB a3 b3 gl3 ol3 v3 = true) => chunk_facts hg.2 h hM)
            have HM := Lib.hid hM
            clear hM
            generalize rcB a3 b3 gl3 ol3 v3 = H at FH ⊢
            generalize rcR a3 b3 gl3 ol3 v3 = RC at FH r1 r2
            cases H
            · go_wp2_with fail
              refine (same_t _ _ _ _ _ _ _ _ r1.rd r2.rd).mono ?_
              rintro e w9 ⟨rfl, hb9⟩
              replace hg := hg.keep hb9; replace ho := ho.keep hb9; replace h1c := h1c.keep hb9; replace hX := hX.keep hb9; replace r1 := r1.keep hb9; replace r2 := r2.keep hb9; replace hV := hV.call hb9
              clear hb9
              clear hg ho hX r1 r2 FH HM hMn
              go_wp2_with fail
              refine (spec_DrawLiveCounts _ A1 n1 c1 l1 h1c).mono ?_
              rintro e w4 ⟨a7, b7, A7, n7, c7, gl7, B7, m7, d7, ol7, rfl, hbd7, hO7, hb9⟩
              replace hV := hV.call hb9
              have hn7b := hbd7.2.2.1
              clear hb9 h1c hbd7
              have hX := Blk.new w4 26 #[.int .i64 a7, .int .i64 b7, .slice A7 n7 c7, .slice B7 m7 d7] (g := w4.heap.size)
              replace hV := hV.alloc (.cells #[.int .i64 a7, .int .i64 b7, .slice A7 n7 c7, .slice B7 m7 d7] 26)
              replace hO7 := (hO7.keep ((Bl.refl w4).alloc (.cells #[.int .i64 a7, .int .i64 b7, .slice A7 n7 c7, .slice B7 m7 d7] 26)))
              have hg := hO7.rd.g; have ho := hO7.rd.o
              clear hO7
              have hX_l := hX.lt; have hX_f := hX.frozen; have hX_0 := hX.cell 0 _ rfl; have hX_1 := hX.cell 1 _ rfl; have hX_2 := hX.cell 2 _ rfl; have hX_3 := hX.cell 3 _ rfl
              go_wp2_with fail
              (try clear hX_l hX_f hX_0 hX_1 hX_2 hX_3)
              generalize hx : w4.heap.size = x4
              rw [hx] at hX
              clear hx
              refine (impl_LiveCounts a7 b7 A7 B7 n7 c7 m7 d7 gl7 ol7 _ hg ho).mono ?_
              rintro e w9 ⟨S1, y1, z1, rfl, s1, hb9⟩
              replace hg := hg.keep hb9; replace ho := ho.keep hb9; replace hX := hX.keep hb9; replace hV := hV.call hb9
              clear hb9
              have hX_l := hX.lt; have hX_f := hX.frozen; have hX_0 := hX.cell 0 _ rfl; have hX_1 := hX.cell 1 _ rfl; have hX_2 := hX.cell 2 _ rfl; have hX_3 := hX.cell 3 _ rfl
              go_wp2_with fail
              (try clear hX_l hX_f hX_0 hX_1 hX_2 hX_3)
              refine (spec_LiveCounts a7 b7 A7 B7 n7 c7 m7 d7 gl7 ol7 _ hg ho).mono ?_
              rintro e w9 ⟨S2, y2, z2, rfl, s2, hb9⟩
              replace hg := hg.keep hb9; replace ho := ho.keep hb9; replace hX := hX.keep hb9; replace s1 := s1.keep hb9; replace hV := hV.call hb9
              clear hb9
              have FC := Lib.hid (fun (h : goodC a7 b7 gl7 ol7 = true) => (s2.length.symm.trans (lc_fact h)).trans (congrArg (· + 1) hg.2))
              generalize goodC a7 b7 gl7 ol7 = G7 at FC ⊢
              generalize lcR a7 b7 gl7 ol7 = L7 at s1 s2
              cases G7
              · have hX_l := hX.lt; have hX_f := hX.frozen; have hX_0 := hX.cell 0 _ rfl; have hX_1 := hX.cell 1 _ rfl; have hX_2 := hX.cell 2 _ rfl; have hX_3 := hX.cell 3 _ rfl
                go_wp2_with fail
                refine (same_t _ _ _ _ _ _ _ _ s1.rd s2.rd).mono ?_
                rintro e w9 ⟨rfl, hb9⟩
                replace hg := hg.keep hb9; replace ho := ho.keep hb9; replace hX := hX.keep hb9; replace s1 := s1.keep hb9; replace s2 := s2.keep hb9; replace hV := hV.call hb9
                clear hb9
                go_wp2_with fail
                go_ret
                exact ⟨rfl, hV⟩
              · have hy2 := FC.out rfl
                clear FC
                (try dsimp only at hy2)
                subst hy2
                have hn7 := hg.le
                have hX_l := hX.lt; have hX_f := hX.frozen; have hX_0 := hX.cell 0 _ rfl; have hX_1 := hX.cell 1 _ rfl; have hX_2 := hX.cell 2 _ rfl; have hX_3 := hX.cell 3 _ rfl
                go_wp2_with fail
                refine (same_t _ _ _ _ _ _ _ _ s1.rd s2.rd).mono ?_
                rintro e w9 ⟨rfl, hb9⟩
                replace hg := hg.keep hb9; replace ho := ho.keep hb9; replace hX := hX.keep hb9; replace s1 := s1.keep hb9; replace s2 := s2.keep hb9; replace hV := hV.call hb9
                clear hb9; (try clear hX_l hX_f hX_0 hX_1 hX_2 hX_3)
                have hX_l := hX.lt; have hX_f := hX.frozen; have hX_0 := hX.cell 0 _ rfl; have hX_1 := hX.cell 1 _ rfl; have hX_2 := hX.cell 2 _ rfl; have hX_3 := hX.cell 3 _ rfl
                go_wp2_with fail
                go_ret
                exact ⟨rfl, hV⟩
            · obtain ⟨hgd, hsum, hbd, hlen, htot, hk3, hk1⟩ := FH.out rfl
              have HGD := Lib.hid hgd; have HSUM := Lib.hid hsum; have HBD := Lib.hid hbd; have HTOT := Lib.hid htot; have HK1 := Lib.hid hk1
              clear hgd hsum hbd htot hk1 FH
              rw [r2.length] at hlen
              go_wp2_with fail
              refine (same_t _ _ _ _ _ _ _ _ r1.rd r2.rd).mono ?_
              rintro e w9 ⟨rfl, hb9⟩
              replace hg := hg.keep hb9; replace ho := ho.keep hb9; replace h1c := h1c.keep hb9; replace hX := hX.keep hb9; replace r1 := r1.keep hb9; replace r2 := r2.keep hb9; replace hV := hV.call hb9
              clear hb9
              have hX_l := hX.lt; have hX_f := hX.frozen; have hX_0 := hX.cell 0 _ rfl; have hX_1 := hX.cell 1 _ rfl; have hX_2 := hX.cell 2 _ rfl; have hX_3 := hX.cell 3 _ rfl
              go_wp2_with fail
              (try clear hX_l hX_f hX_0 hX_1 hX_2 hX_3)
              refine (impl_CountGates_t a3 b3 A3 B3 n3 c3 m3 d3 gl3 ol3 _ hg ho HGD.out).mono ?_
              rintro e w9 ⟨Q3, rfl, r3, hb9⟩
              replace hg := hg.keep hb9; replace ho := ho.keep hb9; replace h1c := h1c.keep hb9; replace hX := hX.keep hb9; replace r1 := r1.keep hb9; replace r2 := r2.keep hb9; replace hV := hV.call hb9
              clear hb9
              have hX_l := hX.lt; have hX_f := hX.frozen; have hX_0 := hX.cell 0 _ rfl; have hX_1 := hX.cell 1 _ rfl; have hX_2 := hX.cell 2 _ rfl; have hX_3 := hX.cell 3 _ rfl
              go_wp2_with fail
              (try clear hX_l hX_f hX_0 hX_1 hX_2 hX_3)
              refine (impl_AndLayers a3 b3 A3 B3 n3 c3 m3 d3 gl3 ol3 _ hg ho M HM.out hMn).mono ?_
              rintro e w9 ⟨Q4, y4, z4, hs4, rfl, r4, hb9⟩
              replace hg := hg.keep hb9; replace ho := ho.keep hb9; replace h1c := h1c.keep hb9; replace hX := hX.keep hb9; replace r1 := r1.keep hb9; replace r2 := r2.keep hb9; replace r3 := r3.keep hb9; replace hV := hV.call hb9
              clear hb9
              rw [HGD.out]
              have hX_l := hX.lt; have hX_f := hX.frozen; have hX_0 := hX.cell 0 _ rfl; have hX_1 := hX.cell 1 _ rfl; have hX_2 := hX.cell 2 _ rfl; have hX_3 := hX.cell 3 _ rfl
              go_wp2_with fail
              (try clear hX_l hX_f hX_0 hX_1 hX_2 hX_3)
              refine (spec_AndLayers a3 b3 A3 B3 n3 c3 m3 d3 gl3 ol3 _ hg ho M HM.out hMn).mono ?_
              rintro e w9 ⟨Q5, y5, z5, hs5, rfl, r5, hb9⟩
              replace hg := hg.keep hb9; replace ho := ho.keep hb9; replace h1c := h1c.keep hb9; replace hX := hX.keep hb9; replace r1 := r1.keep hb9; replace r2 := r2.keep hb9; replace r3 := r3.keep hb9; replace r4 := r4.keep hb9; replace hV := hV.call hb9
              clear hb9
              rw [HGD.out]
              clear hg ho hX HM hMn HGD
              generalize alR a3 b3 gl3 ol3 M = LY at r4 r5 HTOT
              obtain ⟨g3, hg3, _, _, hc3, _⟩ := r3.form (by omega)
              subst hg3
              have kc := hc3 1 _ HK1.out
              clear hc3 HK1
              generalize kN 1 gl3 n3 = K at kc HSUM HTOT hk3
              have hZ := Bl.refl w9
              go_wp2_with fail
              refine wp_region_held_drew (S := (fun w' => w'.cell? ⟨g3, 1, none⟩ = some (.int .i64 (K : Nat)))) (by kernel_rfl) ?_ (fun hHeld => ?_)
              · (try dsimp only); exact Bl.cells (by (repeat (first | assumption | with_reducible exact Bl.refl _ | with_reducible refine Bl.drewN ?_ _ | with_reducible refine Bl.drew ?_ | with_reducible refine Bl.alloc ?_ _ | (with_reducible refine Bl.call ?_ (by assumption))))) kc
              refine held_take (i := 0) (d := 183) (v := ?_) rfl rfl (by kernel_rfl) (by kernel_rfl) (by kernel_rfl) (fun _ _ _ h => h) (Or.inl ⟨by rfl, ?_⟩) (by assumption) ?_
              rotate_left
              · (intro w hSw; (try dsimp only at hSw); go_simp; (try with_reducible rfl))
              (try simp only [List.set_cons_zero, List.set_cons_succ])
              refine held_take (i := 1) (d := 184) (v := ?_) rfl rfl (by kernel_rfl) (by kernel_rfl) (by kernel_rfl) (fun _ _ _ h => h) (Or.inl ⟨by rfl, ?_⟩) (by assumption) ?_
              rotate_left
              · (intro w hSw; (try dsimp only at hSw); go_simp; (try with_reducible rfl))
              (try simp only [List.set_cons_zero, List.set_cons_succ])
              refine held_take (i := 2) (d := 185) (v := ?_) rfl rfl (by kernel_rfl) (by kernel_rfl) (by kernel_rfl) (fun _ _ _ h => h) (Or.inl ⟨by rfl, ?_⟩) (by assumption) ?_
              rotate_left
              · (intro w hSw; (try dsimp only at hSw); go_simp; (try with_reducible rfl))
              (try simp only [List.set_cons_zero, List.set_cons_succ])
              refine held_take (i := 3) (d := 186) (v := ?_) rfl rfl (by kernel_rfl) (by kernel_rfl) (by kernel_rfl) (fun _ _ _ h => h) (Or.inl ⟨by rfl, ?_⟩) (by assumption) ?_
              rotate_left
              · (intro w hSw; (try dsimp only at hSw); go_simp; (try with_reducible rfl))
              (try simp only [List.set_cons_zero, List.set_cons_succ])
              refine held_take (i := 4) (d := 187) (v := ?_) rfl rfl (by kernel_rfl) (by kernel_rfl) (by kernel_rfl) (fun _ _ _ h => h) (Or.inl ⟨by rfl, ?_⟩) (by assumption) ?_
              rotate_left
              · (intro w hSw; (try dsimp only at hSw); go_simp; (try with_reducible rfl))
              (try simp only [List.set_cons_zero, List.set_cons_succ])
              refine held_take (i := 5) (d := 188) (v := ?_) rfl rfl (by kernel_rfl) (by kernel_rfl) (by kernel_rfl) (fun _ _ _ h => h) (Or.inl ⟨by rfl, ?_⟩) (by assumption) ?_
              rotate_left
              · (intro w hSw; (try dsimp only at hSw); go_simp; (try with_reducible rfl))
              (try simp only [List.set_cons_zero, List.set_cons_succ])
              refine held_take (i := 6) (d := 189) (v := ?_) rfl rfl (by kernel_rfl) (by kernel_rfl) (by kernel_rfl) (fun _ _ _ h => h) (Or.inl ⟨by rfl, ?_⟩) (by assumption) ?_
              rotate_left
              · (intro w hSw; (try dsimp only at hSw); go_simp; (try with_reducible rfl))
              (try simp only [List.set_cons_zero, List.set_cons_succ])
              refine held_take (i := 7) (d := 190) (v := ?_) rfl rfl (by kernel_rfl) (by kernel_rfl) (by kernel_rfl) (fun _ _ _ h => h) (Or.inl ⟨by rfl, ?_⟩) (by assumption) ?_
              rotate_left
              · (intro w hSw; (try dsimp only at hSw); go_simp; (try with_reducible rfl))
              (try simp only [List.set_cons_zero, List.set_cons_succ])
              refine held_take (i := 8) (d := 191) (v := ?_) rfl rfl (by kernel_rfl) (by kernel_rfl) (by kernel_rfl) (fun _ _ _ h => h) (Or.inl ⟨by rfl, ?_⟩) (by assumption) ?_
              rotate_left
              · (intro w hSw; (try dsimp only at hSw); go_simp; (try with_reducible rfl))
              (try simp only [List.set_cons_zero, List.set_cons_succ])
              refine held_take (i := 9) (d := 192) (v := ?_) rfl rfl (by kernel_rfl) (by kernel_rfl) (by kernel_rfl) (fun _ _ _ h => h) (Or.inl ⟨by rfl, ?_⟩) (by assumption) ?_
              rotate_left
              · (intro w hSw; (try dsimp only at hSw); go_simp; (try with_reducible rfl))
              (try simp only [List.set_cons_zero, List.set_cons_succ])
              refine held_take (i := 10) (d := 193) (v := ?_) rfl rfl (by kernel_rfl) (by kernel_rfl) (by kernel_rfl) (fun _ _ _ h => h) (Or.inl ⟨by rfl, ?_⟩) (by assumption) ?_
              rotate_left
              · (intro w hSw; (try dsimp only at hSw); go_simp; (try with_reducible rfl))
              (try simp only [List.set_cons_zero, List.set_cons_succ])
              refine held_take (i := 11) (d := 194) (v := ?_) rfl rfl (by kernel_rfl) (by kernel_rfl) (by kernel_rfl) (fun _ _ _ h => h) (Or.inl ⟨by rfl, ?_⟩) (by assumption) ?_
              rotate_left
              · (intro w hSw; (try dsimp only at hSw); go_simp; (try with_reducible rfl))
              (try simp only [List.set_cons_zero, List.set_cons_succ])
              refine wpAnyH_ready (rs := [12]) (by kernel_rfl) (by simp) ?_
              refine AllReadyH.cons rfl (fun K hK => ?_) AllReadyH.nil
              go_simp
              (go_at_call 30; refine (pSum_l _ _ _ RC _ (r2.rd.keep (Bl.refl _).drew) HBD.out (by omega)).mono ?_; rintro e u1 ⟨rfl, hb1⟩; rw [HSUM.out]; replace kc : u1.cell? ⟨g3, 1, none⟩ = _ := Bl.cells (by (repeat (first | assumption | with_reducible exact Bl.refl _ | with_reducible refine Bl.drewN ?_ _ | with_reducible refine Bl.drew ?_ | with_reducible refine Bl.alloc ?_ _ | (with_reducible refine Bl.call ?_ (by assumption))))) kc; replace hZ : Bl w9 u1 := (by (repeat (first | assumption | with_reducible exact Bl.refl _ | with_reducible refine Bl.drewN ?_ _ | with_reducible refine Bl.drew ?_ | with_reducible refine Bl.alloc ?_ _ | (with_reducible refine Bl.call ?_ (by assumption))))))
              go_wp2_with fail
              refine hK.out _ _ ?_ (fun hHeld => ?_)
              · (try dsimp only); exact Bl.cells (by (repeat (first | assumption | with_reducible exact Bl.refl _ | with_reducible refine Bl.drewN ?_ _ | with_reducible refine Bl.drew ?_ | with_reducible refine Bl.alloc ?_ _ | (with_reducible refine Bl.call ?_ (by assumption))))) kc
              clear hK K
              (try simp only [Act.put]); (try simp only [List.setIfInBounds_toArray]); (try simp only [List.set_cons_succ]); (try simp only [List.set_cons_zero])
              refine held_take (i := 13) (d := 196) (v := ?_) rfl rfl (by kernel_rfl) (by kernel_rfl) (by kernel_rfl) (fun _ _ _ h => h) (Or.inl ⟨by rfl, ?_⟩) (by assumption) ?_
              rotate_left
              · (intro w hSw; (try dsimp only at hSw); go_simp; (try with_reducible rfl))
              (try simp only [List.set_cons_zero, List.set_cons_succ])
              refine held_take (i := 14) (d := 197) (v := ?_) rfl rfl (by kernel_rfl) (by kernel_rfl) (by kernel_rfl) (fun _ _ _ h => h) (Or.inl ⟨by rfl, ?_⟩) (by assumption) ?_
              rotate_left
              · (intro w hSw; (try dsimp only at hSw); go_simp; (try with_reducible rfl))
              (try simp only [List.set_cons_zero, List.set_cons_succ])
              refine held_take (i := 15) (d := 198) (v := ?_) rfl rfl (by kernel_rfl) (by kernel_rfl) (by kernel_rfl) (fun _ _ _ h => h) (Or.inl ⟨by rfl, ?_⟩) (by assumption) ?_
              rotate_left
              · (intro w hSw; (try dsimp only at hSw); go_simp; (try with_reducible rfl))
              (try simp only [List.set_cons_zero, List.set_cons_succ])
              refine held_take (i := 16) (d := 199) (v := ?_) rfl rfl (by kernel_rfl) (by kernel_rfl) (by kernel_rfl) (fun _ _ _ h => h) (Or.inl ⟨by rfl, ?_⟩) (by assumption) ?_
              rotate_left
              · (intro w hSw; (try dsimp only at hSw); go_simp; (try with_reducible rfl))
              (try simp only [List.set_cons_zero, List.set_cons_succ])
              refine held_take (i := 17) (d := 200) (v := ?_) rfl rfl (by kernel_rfl) (by kernel_rfl) (by kernel_rfl) (fun _ _ _ h => h) (Or.inl ⟨by rfl, ?_⟩) (by assumption) ?_
              rotate_left
              · (intro w hSw; (try dsimp only at hSw); go_simp; (try with_reducible rfl))
              (try simp only [List.set_cons_zero, List.set_cons_succ])
              refine held_take (i := 18) (d := 201) (v := ?_) rfl rfl (by kernel_rfl) (by kernel_rfl) (by kernel_rfl) (fun _ _ _ h => h) (Or.inl ⟨by rfl, ?_⟩) (by assumption) ?_
              rotate_left
              · (intro w hSw; (try dsimp only at hSw); go_simp; (try with_reducible rfl))
              (try simp only [List.set_cons_zero, List.set_cons_succ])
              refine held_take (i := 19) (d := 202) (v := ?_) rfl rfl (by kernel_rfl) (by kernel_rfl) (by kernel_rfl) (fun _ _ _ h => h) (Or.inl ⟨by rfl, ?_⟩) (by assumption) ?_
              rotate_left
              · (intro w hSw; (try dsimp only at hSw); go_simp; (try with_reducible rfl))
              (try simp only [List.set_cons_zero, List.set_cons_succ])
              refine held_take (i := 20) (d := 203) (v := ?_) rfl rfl (by kernel_rfl) (by kernel_rfl) (by kernel_rfl) (fun _ _ _ h => h) (Or.inl ⟨by rfl, ?_⟩) (by assumption) ?_
              rotate_left
              · (intro w hSw; (try dsimp only at hSw); go_simp; (try with_reducible rfl))
              (try simp only [List.set_cons_zero, List.set_cons_succ])
              refine held_take (i := 21) (d := 204) (v := ?_) rfl rfl (by kernel_rfl) (by kernel_rfl) (by kernel_rfl) (fun _ _ _ h => h) (Or.inl ⟨by rfl, ?_⟩) (by assumption) ?_
              rotate_left
              · (intro w hSw; (try dsimp only at hSw); go_simp; (try with_reducible rfl))
              (try simp only [List.set_cons_zero, List.set_cons_succ])
              refine wpAnyH_ready (rs := [22]) (by kernel_rfl) (by simp) ?_
              refine AllReadyH.cons rfl (fun K hK => ?_) AllReadyH.nil
              go_simp
              (go_at_call 31; refine (laws_sameLists _ _ _ _ _ _ _ _ _ _ (r4.keep hZ) (r5.keep hZ)).mono ?_; rintro e u2 ⟨rfl, hb2⟩; replace kc : u2.cell? ⟨g3, 1, none⟩ = _ := Bl.cells (by (repeat (first | assumption | with_reducible exact Bl.refl _ | with_reducible refine Bl.drewN ?_ _ | with_reducible refine Bl.drew ?_ | with_reducible refine Bl.alloc ?_ _ | (with_reducible refine Bl.call ?_ (by assumption))))) kc; replace hZ : Bl w9 u2 := (by (repeat (first | assumption | with_reducible exact Bl.refl _ | with_reducible refine Bl.drewN ?_ _ | with_reducible refine Bl.drew ?_ | with_reducible refine Bl.alloc ?_ _ | (with_reducible refine Bl.call ?_ (by assumption))))))
              go_wp2_with fail
              refine hK.out _ _ ?_ (fun hHeld => ?_)
              · (try dsimp only); exact Bl.cells (by (repeat (first | assumption | with_reducible exact Bl.refl _ | with_reducible refine Bl.drewN ?_ _ | with_reducible refine Bl.drew ?_ | with_reducible refine Bl.alloc ?_ _ | (with_reducible refine Bl.call ?_ (by assumption))))) kc
              clear hK K
              (try simp only [Act.put]); (try simp only [List.setIfInBounds_toArray]); (try simp only [List.set_cons_succ]); (try simp only [List.set_cons_zero])
              refine held_take (i := 23) (d := 206) (v := ?_) rfl rfl (by kernel_rfl) (by kernel_rfl) (by kernel_rfl) (fun _ _ _ h => h) (Or.inl ⟨by rfl, ?_⟩) (by assumption) ?_
              rotate_left
              · (intro w hSw; (try dsimp only at hSw); go_simp; (try with_reducible rfl))
              (try simp only [List.set_cons_zero, List.set_cons_succ])
              refine held_take (i := 24) (d := 207) (v := ?_) rfl rfl (by kernel_rfl) (by kernel_rfl) (by kernel_rfl) (fun _ _ _ h => h) (Or.inl ⟨by rfl, ?_⟩) (by assumption) ?_
              rotate_left
              · (intro w hSw; (try dsimp only at hSw); go_simp; (try with_reducible rfl))
              (try simp only [List.set_cons_zero, List.set_cons_succ])
              refine wpAnyH_done (by kernel_rfl) ?_ _
              clear kc r1 r3 r4
              replace h1c := h1c.keep hZ; replace r2 := r2.keep hZ; replace r5 := r5.keep hZ; replace hV := hV.call hZ
              clear hZ
              have hny := r5.l_eq
              obtain ⟨hle1, hle2⟩ := r5.le
              have hK9 : (K : Int) ≤ 300 := by omega
              have HNY := Lib.hid hny
              clear hny
              have hTL := Lib.hid (fun i => total_le (LL := LY) i)
              go_wp2_with fail
              go_loop [31, 210] (fun s i => ∃ k : Nat, k ≤ y5 ∧ i = .int .i64 (k : Nat) ∧ s = .int .i64 (total (LY.take k) : Nat)) (fun _ i => y5 - (intOf i).toNat)
              case atStart => exact ⟨0, by omega, rfl, rfl⟩
              case round =>
                obtain ⟨k, hk, rfl, rfl⟩ := hrel
                by_cases hlt : k < y5
                · obtain ⟨g, x, l, rfl, hx, hl, hbg, hgl, kc, hfr, hro⟩ := r5.cell hlt
                  have hst := Lib.hid (total_take hl)
                  have h1 := hTL.out (k + 1)
                  rw [hst.out] at h1
                  have hln := hro.length
                  rw [HTOT.out] at h1
                  obtain ⟨hl1, hl2⟩ := hro.rd.le
                  have i1 : (k : Int) < y5 := by omega
                  have HLN := Lib.hid hln
                  have h2 : (total (LY.take k) : Int) + (x.n : Int) ≤ 300 := by omega
                  clear hx hl hfr hln h1
                  generalize hT9 : total (LY.take k) = T9 at h2 ⊢
                  have HT9 := Lib.hid hT9
                  clear hT9
                  go_wp2_with fail
                  go_round
                  case rel => exact ⟨k + 1, by omega, by go_num, by rw [hst.out, HT9.out, HLN.out]; go_num⟩
                  case measure => simp [intOf]; omega
                · obtain rfl : k = y5 := by omega
                  have hE := Lib.hid (show total (LY.take k) = K by rw [← HTOT.out, ← HNY.out, List.take_length])
                  rw [hE.out]
                  clear hE
                  go_wp2_with fail
                  refine (pSum_l _ _ _ RC _ r2.rd HBD.out (by omega)).mono ?_
                  rintro e w9 ⟨rfl, hb9⟩
                  rw [HSUM.out]
                  replace h1c := h1c.keep hb9; replace hV := hV.call hb9
                  clear hb9 r2 r5 HSUM HTOT HBD hTL HNY
                  go_wp2_with fail
                  refine (spec_DrawLiveCounts _ A1 n1 c1 l1 h1c).mono ?_
                  rintro e w4 ⟨a7, b7, A7, n7, c7, gl7, B7, m7, d7, ol7, rfl, hbd7, hO7, hb9⟩
                  replace hV := hV.call hb9
                  have hn7b := hbd7.2.2.1
                  clear hb9 h1c hbd7
                  have hX := Blk.new w4 26 #[.int .i64 a7, .int .i64 b7, .slice A7 n7 c7, .slice B7 m7 d7] (g := w4.heap.size)
                  replace hV := hV.alloc (.cells #[.int .i64 a7, .int .i64 b7, .slice A7 n7 c7, .slice B7 m7 d7] 26)
                  replace hO7 := (hO7.keep ((Bl.refl w4).alloc (.cells #[.int .i64 a7, .int .i64 b7, .slice A7 n7 c7, .slice B7 m7 d7] 26)))
                  have hg := hO7.rd.g; have ho := hO7.rd.o
                  clear hO7
                  have hX_l := hX.lt; have hX_f := hX.frozen; have hX_0 := hX.cell 0 _ rfl; have hX_1 := hX.cell 1 _ rfl; have hX_2 := hX.cell 2 _ rfl; have hX_3 := hX.cell 3 _ rfl
                  go_wp2_with fail
                  (try clear hX_l hX_f hX_0 hX_1 hX_2 hX_3)
                  generalize hx : w4.heap.size = x4
                  rw [hx] at hX
                  clear hx
                  refine (impl_LiveCounts a7 b7 A7 B7 n7 c7 m7 d7 gl7 ol7 _ hg ho).mono ?_
                  rintro e w9 ⟨S1, y1, z1, rfl, s1, hb9⟩
                  replace hg := hg.keep hb9; replace ho := ho.keep hb9; replace hX := hX.keep hb9; replace hV := hV.call hb9
                  clear hb9
                  have hX_l := hX.lt; have hX_f := hX.frozen; have hX_0 := hX.cell 0 _ rfl; have hX_1 := hX.cell 1 _ rfl; have hX_2 := hX.cell 2 _ rfl; have hX_3 := hX.cell 3 _ rfl
                  go_wp2_with fail
                  (try clear hX_l hX_f hX_0 hX_1 hX_2 hX_3)
                  refine (spec_LiveCounts a7 b7 A7 B7 n7 c7 m7 d7 gl7 ol7 _ hg ho).mono ?_
                  rintro e w9 ⟨S2, y2, z2, rfl, s2, hb9⟩
                  replace hg := hg.keep hb9; replace ho := ho.keep hb9; replace hX := hX.keep hb9; replace s1 := s1.keep hb9; replace hV := hV.call hb9
                  clear hb9
                  have FC := Lib.hid (fun (h : goodC a7 b7 gl7 ol7 = true) => (s2.length.symm.trans (lc_fact h)).trans (congrArg (· + 1) hg.2))
                  generalize goodC a7 b7 gl7 ol7 = G7 at FC ⊢
                  generalize lcR a7 b7 gl7 ol7 = L7 at s1 s2
                  cases G7
                  · have hX_l := hX.lt; have hX_f := hX.frozen; have hX_0 := hX.cell 0 _ rfl; have hX_1 := hX.cell 1 _ rfl; have hX_2 := hX.cell 2 _ rfl; have hX_3 := hX.cell 3 _ rfl
                    go_wp2_with fail
                    refine (same_t _ _ _ _ _ _ _ _ s1.rd s2.rd).mono ?_
                    rintro e w9 ⟨rfl, hb9⟩
                    replace hg := hg.keep hb9; replace ho := ho.keep hb9; replace hX := hX.keep hb9; replace s1 := s1.keep hb9; replace s2 := s2.keep hb9; replace hV := hV.call hb9
                    clear hb9
                    go_wp2_with fail
                    go_ret
                    exact ⟨rfl, hV⟩
                  · have hy2 := FC.out rfl
                    clear FC
                    (try dsimp only at hy2)
                    subst hy2
                    have hn7 := hg.le
                    have hX_l := hX.lt; have hX_f := hX.frozen; have hX_0 := hX.cell 0 _ rfl; have hX_1 := hX.cell 1 _ rfl; have hX_2 := hX.cell 2 _ rfl; have hX_3 := hX.cell 3 _ rfl
                    go_wp2_with fail
                    refine (same_t _ _ _ _ _ _ _ _ s1.rd s2.rd).mono ?_
                    rintro e w9 ⟨rfl, hb9⟩
                    replace hg := hg.keep hb9; replace ho := ho.keep hb9; replace hX := hX.keep hb9; replace s1 := s1.keep hb9; replace s2 := s2.keep hb9; replace hV := hV.call hb9
                    clear hb9; (try clear hX_l hX_f hX_0 hX_1 hX_2 hX_3)
                    have hX_l := hX.lt; have hX_f := hX.frozen; have hX_0 := hX.cell 0 _ rfl; have hX_1 := hX.cell 1 _ rfl; have hX_2 := hX.cell 2 _ rfl; have hX_3 := hX.cell 3 _ rfl
                    go_wp2_with fail
                    go_ret
                    exact ⟨rfl, hV⟩
end Go.Proofs.Ytlmlffiajgofeaa
