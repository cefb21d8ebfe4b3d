/- Contracts of the costs of the dozen programs, on both sides.
   Conditions: the library's tables are laid, for the program's side. -/
import Derived.Test.YtjggecbaladiiaaGreatDoorCmn
import Derived.Test.YtjggecbaladiiaaGreatDoorCmj
import Derived.Test.YtjggecbaladiiaaGreatDoorCmq
namespace Go.Proofs.YtjggecbaladiiaaGreatDoor
open Go.RowKit
set_option linter.unusedVariables false
theorem field_compiled (v0 v1 v2 v3 v4 v5 : Value) (w : World) : (Instr.field 59 (.agg #[v0, v1, v2, v3, v4, v5]) 0).run Tryz.prog w = .ok (.agg #[v0, v1, v2, v3]) w := by kernel_rfl
theorem field_coMade (v0 v1 v2 : Value) (w : World) : (Instr.field 105 (.agg #[v0, v1, v2]) 0).run Tryz.prog w = .ok v0 w := by kernel_rfl
theorem gates_apart {w2 : World} {Ag : Option Addr} {nG cg g : Nat} {t : TypeId} {gl : List Gt} (hG : RdG w2 Ag nG cg gl) (hR : Blk w2 g t #[.int .i64 0, .int .i64 0, .slice none 0 0, .slice none 0 0]) (h0 : 0 < nG) : ∀ q, Ag = some q → q.block ≠ g := by
  intro q hq e
  obtain ⟨ad, K, a, b, e1, hx, c0, c1, c2⟩ := hG.at_ h0
  rw [hq] at e1
  injection e1 with e1
  subst e1
  rw [block_of_add, e, cell_of_row w2 g _ _ _ (0, 0) hR] at c2
  generalize (q.add (0 * 3)).off = o at c2
  match o, c2 with
  | 0, c2 => simp at c2
  | 1, c2 => simp at c2
  | o + 2, c2 => simp at c2
theorem cgK {mul : Mul} {L : List Ln} {ws : List Int} {k : Nat} (h : OkC mul L ws k) : Kinds (cpL mul L k).g := fun i g hg => h.kd g (List.mem_of_getElem? hg)
set_option maxRecDepth 20000 in
set_option maxHeartbeats 2000000 in
theorem impl_CostOf (a b : Int) (w : World) (ht : Tb w) :
    Calls Tryz.prog 10 #[.int .i64 a, .int .i64 b] w fun e w' => e = .returned (.tuple #[.int .i64 (cosN a b), .int .i64 (cosA a b), .bool (pgB a b)]) ∧ Bl w w' := by
  rcases hB : pgB a b
  · have HE1 := Lib.hid (show cosN a b = 0 by unfold cosN; rw [hB]; rfl)
    have HE2 := Lib.hid (show cosA a b = 0 by unfold cosA; rw [hB]; rfl)
    go_enter Tryz.func10, Tryz.ntmps10
    go_wp2_with fail
    refine (impl_ProgramFor a b _ ht).mono ?_
    rintro e w1 ⟨A1, n1, c1, l1, rfl, ho1, hm1, hb1⟩
    rw [hB]
    clear hm1
    go_wp2_with fail
    go_ret3
    exact ⟨by rw [HE1.out, HE2.out]; rfl, hb1⟩
  · obtain ⟨k, rfl, hk, hb4, hR⟩ := pgB_at hB
    obtain ⟨hg, hok⟩ := pg_oks hk hb4
    obtain ⟨hw4, hws⟩ := pg_okw hk hb4
    obtain ⟨hcI, hcR, hcS, hcE⟩ := pg_okc hk hb4
    have HE1 := Lib.hid (show cosN k b = ((cpL mulI (pgL k b) (pgL k b).length).g.length : Nat) by unfold cosN; rw [hB, hR]; rfl)
    have HE2 := Lib.hid (show cosA k b = (kN 1 (cpL mulI (pgL k b) (pgL k b).length).g (cpL mulI (pgL k b) (pgL k b).length).g.length : Nat) by unfold cosA; rw [hB, hR]; rfl)
    have HPB := Lib.hid hB
    have RP := Lib.hid (fun (A1 : Option Addr) (n1 c1 : Nat) (l1 : List (Hd × Ln)) (w : World) (h : RdL w A1 n1 c1 l1) (e : l1.map (·.2) = pgL k b) (ht : Tm w) => impl_compile A1 n1 c1 l1 (wsD (pgL k b)) w h (by rw [e]; exact hg) (by rw [e]; exact hws) (by rw [e]; exact hok) (by rw [e]; exact hw4) (by rw [e]; exact hcI) (by rw [e]; exact hcS) ht)
    have HK := Lib.hid (cgK (okC_at hcI (Nat.le_refl _)))
    have HG3 := (okC_at hcI (Nat.le_refl _)).g
    obtain ⟨gl, hgl⟩ : ∃ gl, (cpL mulI (pgL k b) (pgL k b).length).g = gl := ⟨_, rfl⟩
    rw [hgl] at HK HG3 HE1 HE2
    have HGL := Lib.hid hgl
    obtain ⟨nG, hnG⟩ : ∃ nG, gl.length = nG := ⟨_, rfl⟩
    rw [hnG] at HG3 HE1 HE2
    have HNG := Lib.hid hnG
    clear hg hok hw4 hws hcI hcR hcS hcE hgl hnG
    go_enter Tryz.func10, Tryz.ntmps10
    go_wp2_with fail
    refine (impl_ProgramFor k b _ ht).mono ?_
    rintro e w1 ⟨A1, n1, c1, l1, rfl, ho1, hm1, hb1⟩
    rw [hB]
    rw [hR] at hm1
    have HM := Lib.hid hm1
    have HN1 := Lib.hid (show n1 = (pgL k b).length by rw [← hm1, List.length_map]; exact ho1.rd.len.symm)
    clear hm1
    go_wp2_with fail
    refine (RP.out A1 n1 c1 l1 _ ho1.rd HM.out (ht.keep hb1).m).mono ?_
    rw [HM.out, HN1.out, HGL.out, HNG.out]
    generalize hQ0 : (cpL mulI (pgL k b) (pgL k b).length).ol = ol
    generalize hQ1 : (pgL k b).length = nL
    rintro e w2 ⟨Ag, cg, Ao, co, WA, wc, EA, ec, rfl, hGd, hOd, hb2⟩
    have hB3 := hb1.call hb2
    have hBC := (Bl.refl w2).alloc (.cells #[.int .i64 (in0 (pgL k b)), .int .i64 (in1 (pgL k b)), .slice Ag nG cg, .slice Ao ol.length co] 53)
    have hC := Blk.new w2 53 #[.int .i64 (in0 (pgL k b)), .int .i64 (in1 (pgL k b)), .slice Ag nG cg, .slice Ao ol.length co] (g := w2.heap.size)
    have hcC := hC.cell 2 _ rfl
    have hcC_l := hC.lt
    have hfd := field_compiled
    clear hC hOd hQ0 hQ1
    go_wp2_with fail
    clear hfd
    generalize hbC : w2.heap.size = bC at hcC hcC_l ⊢
    refine wp_region_held_drew (S := (fun w' => w'.cell? ⟨bC, 2, none⟩ = some (.slice Ag nG cg))) (by kernel_rfl) ?_ (fun hHeld => ?_)
    · (try dsimp only); exact hcC
    have hBd := hBC.drew
    refine held_take (i := 0) (d := 21) (v := ?_) rfl rfl (by kernel_rfl) (by kernel_rfl) (by kernel_rfl) (fun _ _ _ h => h) (Or.inl ⟨by rfl, ?_⟩) (by assumption) ?_
    rotate_left
    · (intro w hSw; (try dsimp only at hSw); go_simp; (try with_reducible rfl))
    (try simp only [List.set_cons_zero, List.set_cons_succ])
    refine held_take (i := 1) (d := 22) (v := ?_) rfl rfl (by kernel_rfl) (by kernel_rfl) (by kernel_rfl) (fun _ _ _ h => h) (Or.inl ⟨by rfl, ?_⟩) (by assumption) ?_
    rotate_left
    · (intro w hSw; (try dsimp only at hSw); go_simp; (try with_reducible rfl))
    (try simp only [List.set_cons_zero, List.set_cons_succ])
    refine held_take (i := 2) (d := 23) (v := ?_) rfl rfl (by kernel_rfl) (by kernel_rfl) (by kernel_rfl) (fun _ _ _ h => h) (Or.inl ⟨by rfl, ?_⟩) (by assumption) ?_
    rotate_left
    · (intro w hSw; (try dsimp only at hSw); go_simp; (try with_reducible rfl))
    (try simp only [List.set_cons_zero, List.set_cons_succ])
    refine held_take (i := 3) (d := 24) (v := ?_) rfl rfl (by kernel_rfl) (by kernel_rfl) (by kernel_rfl) (fun _ _ _ h => h) (Or.inl ⟨by rfl, ?_⟩) (by assumption) ?_
    rotate_left
    · (intro w hSw; (try dsimp only at hSw); go_simp; (try with_reducible rfl))
    (try simp only [List.set_cons_zero, List.set_cons_succ])
    refine held_take (i := 4) (d := 25) (v := ?_) rfl rfl (by kernel_rfl) (by kernel_rfl) (by kernel_rfl) (fun _ _ _ h => h) (Or.inl ⟨by rfl, ?_⟩) (by assumption) ?_
    rotate_left
    · (intro w hSw; (try dsimp only at hSw); go_simp; (try with_reducible rfl))
    (try simp only [List.set_cons_zero, List.set_cons_succ])
    refine wpAnyH_ready (rs := [5]) (by kernel_rfl) (by simp) ?_
    refine AllReadyH.cons rfl (fun K hK => ?_) AllReadyH.nil
    go_simp
    refine (impl_countKinds Ag nG cg gl _ (hGd.keep hBd) HK.out (by omega)).mono ?_; rintro e w5 ⟨A5, rfl, hO5, hb5⟩; obtain ⟨g5, rfl, hg51, hg52, hc5, _⟩ := hO5.form (by omega); have hc51 := hc5 1 _ rfl; have hbF := hBd.call hb5
    go_wp2_with fail
    refine hK.out _ _ ?_ (fun hHeld => ?_)
    · (try dsimp only); exact (hb5.cells hcC)
    clear hK K
    (try simp only [Act.put]); (try simp only [List.setIfInBounds_toArray]); (try simp only [List.set_cons_succ]); (try simp only [List.set_cons_zero])
    refine held_take (i := 6) (d := 27) (v := ?_) rfl rfl (by kernel_rfl) (by kernel_rfl) (by kernel_rfl) (fun _ _ _ h => h) (Or.inl ⟨by rfl, ?_⟩) (by assumption) ?_
    rotate_left
    · (intro w hSw; (try dsimp only at hSw); go_simp; (try with_reducible rfl))
    (try simp only [List.set_cons_zero, List.set_cons_succ])
    refine held_take (i := 8) (d := 4) (v := ?_) rfl rfl (by kernel_rfl) (by kernel_rfl) (by kernel_rfl) (fun _ _ _ h => h) (Or.inl ⟨by rfl, ?_⟩) (by assumption) ?_
    rotate_left
    · (intro w hSw; (try dsimp only at hSw); go_simp; (try with_reducible rfl))
    (try simp only [List.set_cons_zero, List.set_cons_succ])
    refine wpAnyH_ready (rs := [7]) (by kernel_rfl) (by simp) ?_
    refine AllReadyH.cons rfl (fun K hK => ?_) AllReadyH.nil
    go_simp
    refine hK.out _ _ ?_ (fun hHeld => ?_)
    · (try dsimp only); exact (hb5.cells hcC)
    clear hK K
    (try simp only [Act.put]); (try simp only [List.setIfInBounds_toArray]); (try simp only [List.set_cons_succ]); (try simp only [List.set_cons_zero])
    refine held_take (i := 9) (d := 5) (v := ?_) rfl rfl (by kernel_rfl) (by kernel_rfl) (by kernel_rfl) (fun _ _ _ h => h) (Or.inl ⟨by rfl, ?_⟩) (by assumption) ?_
    rotate_left
    · (intro w hSw; (try dsimp only at hSw); go_simp; (try with_reducible rfl))
    (try simp only [List.set_cons_zero, List.set_cons_succ])
    refine held_take (i := 10) (d := 6) (v := ?_) rfl rfl (by kernel_rfl) (by kernel_rfl) (by kernel_rfl) (fun _ _ _ h => h) (Or.inl ⟨by rfl, ?_⟩) (by assumption) ?_
    rotate_left
    · (intro w hSw; (try dsimp only at hSw); go_simp; (try with_reducible rfl))
    (try simp only [List.set_cons_zero, List.set_cons_succ])
    refine wpAnyH_done (by kernel_rfl) ?_ _
    go_wp2_with fail
    go_ret3
    exact ⟨by rw [HE1.out, HE2.out]; rfl, hB3.call hbF⟩
set_option maxRecDepth 20000 in
set_option maxHeartbeats 2000000 in
theorem spec_coCircuit (A : Option Addr) (n c : Nat) (l : List (Hd × Ln)) (L : List Ln) (gl : List Gt) (nG no : Nat) (w : World) (h : RdL w A n c l) (k : Nat) (hk : k < 12) (b : Int) (hb4 : inR b 1 4 = true) (hL : l.map (·.2) = pgL k b) (hg2 : (cpL mulI (pgL k b) (pgL k b).length).g = gl) (hn2 : gl.length = nG) (ho2 : (cpL mulR (pgL k b) (pgL k b).length).ol.length = no) :
    Calls Tryz.prog 38 #[.slice A n c] w fun e w' => ∃ Ag cg Ao co, e = .returned (.agg #[.int .i64 (in0 (pgL k b)), .int .i64 (in1 (pgL k b)), .slice Ag nG cg, .slice Ao no co]) ∧ RdG w' Ag nG cg gl ∧ Bl w w' := by
  obtain ⟨hg, hok⟩ := pg_oks hk hb4
  obtain ⟨hw4, hws⟩ := pg_okw hk hb4
  obtain ⟨hcI, hcR, hcS, hcE⟩ := pg_okc hk hb4
  have hV := (Bl.refl w).alloc (.cells #[.int .i64 0, .int .i64 0, .slice none 0 0, .slice none 0 0] 53)
  have RP := Lib.hid (spec_coMake A n c l (wsD (pgL k b)) _ (h.keep hV) (by rw [hL]; exact hg) (by rw [hL]; exact hws) (by rw [hL]; exact hw4) (by rw [hL]; exact hcR) (by rw [hL]; exact hcS))
  have hnl : n = (pgL k b).length := by rw [← hL, List.length_map]; exact h.len.symm
  have HNL := Lib.hid hnl
  have HL := Lib.hid hL
  have HCE := Lib.hid hcE
  have HG2 := Lib.hid hg2
  have HN2 := Lib.hid hn2
  have HO2 := Lib.hid ho2
  have hR0 := Blk.new w 53 #[.int .i64 0, .int .i64 0, .slice none 0 0, .slice none 0 0] (g := w.heap.size)
  clear hg hok hw4 hws hcI hcR hcS hcE hL hnl hg2 hn2 ho2
  go_enter Tryz.func38, Tryz.ntmps38
  go_wp2_with fail
  refine RP.out.mono ?_
  rintro e w2 ⟨x, nG', Ag, cg, Ao, co, WA, wc, EA, ec, rfl, hnG, hM, hG, hO, hb2⟩
  rw [HL.out, HNL.out] at hnG hM hG hO
  rw [← HCE.out, HG2.out] at hnG hG
  rw [HN2.out] at hnG
  subst hnG
  rw [HO2.out] at hM
  have hR := hR0.keep hb2
  have hR_l := hR.lt
  have hR_f := hR.frozen
  have hR_0 := hR.cell 0 _ rfl
  have hR_1 := hR.cell 1 _ rfl
  have hR_2 := hR.cell 2 _ rfl
  have hR_3 := hR.cell 3 _ rfl
  have hM_l := hM.lt
  have hM_0 := hM.cell 0 _ rfl
  have hM_1 := hM.cell 1 _ rfl
  have hM_2 := hM.cell 2 _ rfl
  have hM_3 := hM.cell 3 _ rfl
  have hfd := field_coMade
  clear hO
  go_wp2_with fail
  refine bodyPost_ret (v := .agg #[.int .i64 (in0 (pgL k b)), .int .i64 (in1 (pgL k b)), .slice Ag nG' cg, .slice Ao no co]) (by simp only [results, Tryz.results38]; go_simp) rfl ⟨Ag, cg, Ao, co, rfl, ?_, ?_⟩
  · rcases Nat.eq_zero_or_pos nG' with h0 | h0
    · exact ⟨⟨hG.1.len, hG.1.cap, hG.1.max, fun hn => absurd hn (by omega)⟩, hG.2⟩
    · refine hG.grown (grownBy_trans (grownBy_trans (grownBy_trans (grownBy_setCell w2 w.heap.size 0 _) (grownBy_setCell _ w.heap.size 1 _)) (grownBy_setCell _ w.heap.size 2 _)) (grownBy_setCell _ w.heap.size 3 _)) (fun q hq e => gates_apart hG hR h0 q hq (by injection e))
  · exact (((((hV.call hb2).setCell (Nat.le_refl _) _).setCell (Nat.le_refl _) _).setCell (Nat.le_refl _) _).setCell (Nat.le_refl _) _)
set_option maxRecDepth 20000 in
set_option maxHeartbeats 2000000 in
theorem spec_CostOf (a b : Int) (w : World) :
    Calls Tryz.prog 9 #[.int .i64 a, .int .i64 b] w fun e w' => e = .returned (.tuple #[.int .i64 (cosN a b), .int .i64 (cosA a b), .bool (pgB a b)]) ∧ Bl w w' := by
  rcases hB : pgB a b
  · have HE1 := Lib.hid (show cosN a b = 0 by unfold cosN; rw [hB]; rfl)
    have HE2 := Lib.hid (show cosA a b = 0 by unfold cosA; rw [hB]; rfl)
    go_enter Tryz.func9, Tryz.ntmps9
    go_wp2_with fail
    refine (spec_pgGood a b _).mono ?_
    rintro e w1 ⟨rfl, rfl⟩
    rw [hB]
    go_wp2_with fail
    go_ret3
    exact ⟨by rw [HE1.out, HE2.out]; rfl, (by (repeat (first | with_reducible assumption | with_reducible exact Bl.refl _ | with_reducible refine Bl.drewN ?_ _ | with_reducible refine Bl.drew ?_ | with_reducible refine Bl.alloc ?_ _ | with_reducible refine Bl.setCell ?_ (by first | (dsimp only; omega) | (simp; omega)) _ | (with_reducible refine Bl.call ?_ (by with_reducible assumption)))))⟩
  · obtain ⟨k, rfl, hk, hb4, hR⟩ := pgB_at hB
    obtain ⟨hcI, hcR, hcS, hcE⟩ := pg_okc hk hb4
    have HE1 := Lib.hid (show cosN k b = ((cpL mulI (pgL k b) (pgL k b).length).g.length : Nat) by unfold cosN; rw [hB, hR]; rfl)
    have HE2 := Lib.hid (show cosA k b = (kN 1 (cpL mulI (pgL k b) (pgL k b).length).g (cpL mulI (pgL k b) (pgL k b).length).g.length : Nat) by unfold cosA; rw [hB, hR]; rfl)
    have HPB := Lib.hid hB
    have HK := Lib.hid (cgK (okC_at hcI (Nat.le_refl _)))
    have HG3 := (okC_at hcI (Nat.le_refl _)).g
    have RP := Lib.hid (fun A1 n1 c1 l1 gl nG no w h e h1 h2 h3 => spec_coCircuit A1 n1 c1 l1 (pgL k b) gl nG no w h k hk b hb4 e h1 h2 h3)
    obtain ⟨gl, hgl⟩ : ∃ gl, (cpL mulI (pgL k b) (pgL k b).length).g = gl := ⟨_, rfl⟩
    rw [hgl] at HK HG3 HE1 HE2
    have HGL := Lib.hid hgl
    obtain ⟨nG, hnG⟩ : ∃ nG, gl.length = nG := ⟨_, rfl⟩
    rw [hnG] at HG3 HE1 HE2
    have HNG := Lib.hid hnG
    clear hcI hcR hcS hcE hgl hnG
    go_enter Tryz.func9, Tryz.ntmps9
    go_wp2_with fail
    refine (spec_pgGood k b _).mono ?_
    rintro e w0 ⟨rfl, rfl⟩
    rw [hB]
    go_wp2_with fail
    refine (spec_pgFor k hk b hb4 _).mono ?_
    rintro e w1 ⟨A1, n1, c1, l1, rfl, hl1, hm1, hb1⟩
    have HM := Lib.hid hm1
    clear hm1
    go_wp2_with fail
    refine (RP.out A1 n1 c1 l1 gl nG _ _ hl1 HM.out HGL.out HNG.out rfl).mono ?_
    generalize (cpL mulR (pgL k b) (pgL k b).length).ol.length = no
    generalize in0 (pgL k b) = a0
    generalize in1 (pgL k b) = a1
    rintro e w2 ⟨Ag, cg, Ao, co, rfl, hGd, hb2⟩
    have hB3 := hb1.call hb2
    have hBC := (Bl.refl w2).alloc (.cells #[.int .i64 a0, .int .i64 a1, .slice Ag nG cg, .slice Ao no co] 53)
    have hC := Blk.new w2 53 #[.int .i64 a0, .int .i64 a1, .slice Ag nG cg, .slice Ao no co] (g := w2.heap.size)
    have hcC := hC.cell 2 _ rfl
    have hcC0 := hC.cell 0 _ rfl
    have hcC1 := hC.cell 1 _ rfl
    have hcC3 := hC.cell 3 _ rfl
    have hcC_l := hC.lt
    clear hC
    go_wp2_with fail
    generalize hbC : w2.heap.size = bC at hcC hcC0 hcC1 hcC3 hcC_l ⊢
    refine wp_region_held_drew (S := (fun w' => w'.cell? ⟨bC, 2, none⟩ = some (.slice Ag nG cg) ∧ w'.cell? ⟨bC, 0, none⟩ = some (.int .i64 a0) ∧ w'.cell? ⟨bC, 1, none⟩ = some (.int .i64 a1) ∧ w'.cell? ⟨bC, 3, none⟩ = some (.slice Ao no co))) (by kernel_rfl) ?_ (fun hHeld => ?_)
    · (try dsimp only); exact ⟨hcC, hcC0, hcC1, hcC3⟩
    have hBd := hBC.drew
    refine held_take (i := 0) (d := 16) (v := ?_) rfl rfl (by kernel_rfl) (by kernel_rfl) (by kernel_rfl) (fun _ _ _ h => h) (Or.inl ⟨by rfl, ?_⟩) (by assumption) ?_
    rotate_left
    · (intro w hSw; (try dsimp only at hSw); go_simp; (try with_reducible rfl))
    (try simp only [List.set_cons_zero, List.set_cons_succ])
    refine held_take (i := 1) (d := 17) (v := ?_) rfl rfl (by kernel_rfl) (by kernel_rfl) (by kernel_rfl) (fun _ _ _ h => h) (Or.inl ⟨by rfl, ?_⟩) (by assumption) ?_
    rotate_left
    · (intro w hSw; (try dsimp only at hSw); go_simp; (try with_reducible rfl))
    (try simp only [List.set_cons_zero, List.set_cons_succ])
    refine held_take (i := 2) (d := 18) (v := ?_) rfl rfl (by kernel_rfl) (by kernel_rfl) (by kernel_rfl) (fun _ _ _ h => h) (Or.inl ⟨by rfl, ?_⟩) (by assumption) ?_
    rotate_left
    · (intro w hSw; (try dsimp only at hSw); go_simp; (try with_reducible rfl))
    (try simp only [List.set_cons_zero, List.set_cons_succ])
    refine held_take (i := 3) (d := 19) (v := ?_) rfl rfl (by kernel_rfl) (by kernel_rfl) (by kernel_rfl) (fun _ _ _ h => h) (Or.inl ⟨by rfl, ?_⟩) (by assumption) ?_
    rotate_left
    · (intro w hSw; (try dsimp only at hSw); go_simp; (try with_reducible rfl))
    (try simp only [List.set_cons_zero, List.set_cons_succ])
    refine wpAnyH_ready (rs := [4]) (by kernel_rfl) (by simp) ?_
    refine AllReadyH.cons rfl (fun K hK => ?_) AllReadyH.nil
    go_simp
    refine (spec_ciCounts a0 a1 Ag Ao nG cg no co gl _ (hGd.keep hBd) HK.out (by omega)).mono ?_; rintro e w5 ⟨A5, rfl, hO5, hb5⟩; obtain ⟨g5, rfl, hg51, hg52, hc5, _⟩ := hO5.form (by omega); have hc51 := hc5 1 _ rfl; have hbF := hBd.call hb5
    go_wp2_with fail
    refine hK.out _ _ ?_ (fun hHeld => ?_)
    · (try dsimp only); exact ⟨hb5.cells hcC, hb5.cells hcC0, hb5.cells hcC1, hb5.cells hcC3⟩
    clear hK K
    (try simp only [Act.put]); (try simp only [List.setIfInBounds_toArray]); (try simp only [List.set_cons_succ]); (try simp only [List.set_cons_zero])
    refine held_take (i := 5) (d := 21) (v := ?_) rfl rfl (by kernel_rfl) (by kernel_rfl) (by kernel_rfl) (fun _ _ _ h => h) (Or.inl ⟨by rfl, ?_⟩) (by assumption) ?_
    rotate_left
    · (intro w hSw; (try dsimp only at hSw); go_simp; (try with_reducible rfl))
    (try simp only [List.set_cons_zero, List.set_cons_succ])
    refine held_take (i := 7) (d := 4) (v := ?_) rfl rfl (by kernel_rfl) (by kernel_rfl) (by kernel_rfl) (fun _ _ _ h => h) (Or.inl ⟨by rfl, ?_⟩) (by assumption) ?_
    rotate_left
    · (intro w hSw; (try dsimp only at hSw); go_simp; (try with_reducible rfl))
    (try simp only [List.set_cons_zero, List.set_cons_succ])
    refine wpAnyH_ready (rs := [6]) (by kernel_rfl) (by simp) ?_
    refine AllReadyH.cons rfl (fun K hK => ?_) AllReadyH.nil
    go_simp
    refine hK.out _ _ ?_ (fun hHeld => ?_)
    · (try dsimp only); exact ⟨hb5.cells hcC, hb5.cells hcC0, hb5.cells hcC1, hb5.cells hcC3⟩
    clear hK K
    (try simp only [Act.put]); (try simp only [List.setIfInBounds_toArray]); (try simp only [List.set_cons_succ]); (try simp only [List.set_cons_zero])
    refine held_take (i := 8) (d := 5) (v := ?_) rfl rfl (by kernel_rfl) (by kernel_rfl) (by kernel_rfl) (fun _ _ _ h => h) (Or.inl ⟨by rfl, ?_⟩) (by assumption) ?_
    rotate_left
    · (intro w hSw; (try dsimp only at hSw); go_simp; (try with_reducible rfl))
    (try simp only [List.set_cons_zero, List.set_cons_succ])
    refine held_take (i := 9) (d := 6) (v := ?_) rfl rfl (by kernel_rfl) (by kernel_rfl) (by kernel_rfl) (fun _ _ _ h => h) (Or.inl ⟨by rfl, ?_⟩) (by assumption) ?_
    rotate_left
    · (intro w hSw; (try dsimp only at hSw); go_simp; (try with_reducible rfl))
    (try simp only [List.set_cons_zero, List.set_cons_succ])
    refine wpAnyH_done (by kernel_rfl) ?_ _
    go_wp2_with fail
    go_ret3
    exact ⟨by rw [HE1.out, HE2.out]; rfl, hB3.call hbF⟩
set_option maxHeartbeats 1000000 in
theorem law_CostOf (a b : Int) (w : World) (ht : Tb w) :
    Calls Tryz.prog 3 #[.int .i64 a, .int .i64 b] w fun e w' => e = .returned (.bool true) ∧ Bl w w' := by
  have HS := Lib.hid (spec_CostOf a b)
  have HI := Lib.hid (impl_CostOf a b)
  generalize cosN a b = x at HS HI
  generalize cosA a b = y at HS HI
  generalize pgB a b = z at HS HI
  go_enter Tryz.func3, Tryz.ntmps3
  go_wp2_with fail
  refine (HS.out _).mono ?_
  rintro e w1 ⟨rfl, hb1⟩
  go_wp2_with fail
  refine (HI.out _ (ht.keep hb1)).mono ?_
  rintro e w2 ⟨rfl, hb2⟩
  have hB := hb1.call hb2
  go_wp2_with fail
  go_ret
  exact ⟨rfl, hB⟩
end Go.Proofs.YtjggecbaladiiaaGreatDoor
