/- Contract of a drawn circuit: it reads as gates and outs in blocks of its own.
   Conditions: the cursor's. -/
import Derived.Test.YtlmlffiajgofeaaFra
import Derived.Test.YtlmlffiajgofeaaHef
namespace Go.Proofs.Ytlmlffiajgofeaa
open Go.RowKit
set_option linter.unusedVariables false
theorem Blk.below {w w' : World} {g x : Nat} {t : TypeId} {cs : Array Value} (h : Blk w g t cs) (hb : Below x w w') (hg : g < x) : Blk w' g t cs := (hb.block g hg).trans h
theorem Cur.below {w w' : World} {g x k : Nat} (h : Cur w g k) (hb : Below x w w') (hg : g < x) : Cur w' g k := by
  obtain ⟨A, n, c, l, i, s, hC, h1⟩ := h
  refine ⟨A, n, c, l, i, s, ⟨hC.blk.below hb hg, ⟨⟨hC.rd.1.len, hC.rd.1.cap, hC.rd.1.max, fun hn => ?_⟩, hC.rd.2⟩, hC.far⟩, h1⟩
  obtain ⟨ad, rfl, hl, hc⟩ := hC.rd.1.at0 hn
  have hf := hC.far hn ad rfl
  refine ⟨ad, rfl, Nat.lt_of_lt_of_le hl hb.size, fun j u hu => ?_⟩
  rw [World.cell?_of_block (w := w) (w' := w') (a := ad.add j) (by rw [block_of_add]; exact hb.block _ (by omega))]
  exact hc j u hu
theorem grown_below {w v v' : World} {row : Option Nat} {x : Nat} (h : w.grownBy v row) (hb : Below x v v') (hx : w.heap.size ≤ x) : w.grownBy v' row :=
  ⟨hb.os.trans h.os, hb.tape.trans h.tape, hb.output.trans h.output, Nat.le_trans h.size hb.size, fun k hk hr => (hb.block k (by omega)).trans (h.block k hk hr)⟩
/-- What a drawn circuit is. -/
def DrC (w w' : World) (g k : Nat) (a b : Int) (A : Option Addr) (n c : Nat) (gl : List Gt) (B : Option Addr) (m d : Nat) (ol : List Int) : Prop :=
  (0 ≤ a ∧ a ≤ 3) ∧ (0 ≤ b ∧ b ≤ 3) ∧ n ≤ 8 ∧ m ≤ 3 ∧ OwnC w.heap.size w' A n c gl B m d ol ∧ Cur w' g k ∧ w.grownBy w' (some g)
theorem least_4 (N : Int) (w : World) (h : 1 ≤ N) : Calls Try.prog 80 #[.int .i64 N, .int .i64 4] w fun e w' => ∃ q, e = .returned (.int .i64 q) ∧ 1 ≤ q ∧ q ≤ N ∧ q ≤ 4 ∧ w = w' := by
  go_enter Try.func80, Try.ntmps80
  go_wp2
  all_goals go_ret
  all_goals exact ⟨_, rfl, by omega, by omega, by omega, rfl⟩
set_option maxRecDepth 20000 in
set_option maxHeartbeats 4000000 in
theorem cur_circuit (w : World) (g k : Nat) (h : Cur w g k) (hk : k < 800000000) :
    Calls Try.prog 111 #[.pointer (some ⟨g, 0, none⟩)] w fun e w' => ∃ a b A n c gl B m d ol, e = .returned (.agg #[.int .i64 a, .int .i64 b, .slice A n c, .slice B m d]) ∧ DrC w w' g (k + 200) a b A n c gl B m d ol := by
  have hgw := h.lt
  have hC := h.keep ((Bl.refl w).alloc (.cells #[.int .i64 0, .int .i64 0, .slice none 0 0, .slice none 0 0] 26))
  have hR := Blk.new w 26 #[.int .i64 0, .int .i64 0, .slice none 0 0, .slice none 0 0] (g := w.heap.size)
  have hG := World.grownBy_alloc w (.cells #[.int .i64 0, .int .i64 0, .slice none 0 0, .slice none 0 0] 26) (some g)
  clear h
  go_enter Try.func111, Try.ntmps111
  go_wp2_with fail
  refine (cur_pick _ g _ hC (by omega) 4 (by omega)).mono ?_
  rintro e w1 ⟨p1, rfl, p10, p11, hC1, hG1⟩
  replace hR := hR.grown hG1 (by intro e; injection e with e; omega); replace hG := Lib.grownBy_trans hG hG1
  go_wp2_with fail
  refine (cur_pick _ g _ hC1 (by omega) 4 (by omega)).mono ?_
  rintro e w2 ⟨p2, rfl, p20, p21, hC2, hG2⟩
  replace hR := hR.grown hG2 (by intro e; injection e with e; omega); replace hG := Lib.grownBy_trans hG hG2
  clear hC hC1 hG1 hG2
  go_wp2_with fail
  refine (spec_ciNew p1 p2 w2).mono ?_
  rintro e w3 ⟨rfl, rfl⟩
  have hwx : w.heap.size < w2.heap.size := hR.lt
  have hgx : g < w2.heap.size := by omega
  have hM : Mk (w2.alloc (.cells #[.int .i64 p1, .int .i64 p2, .slice none 0 0, .slice none 0 0] 105)) w2.heap.size (w2.heap.size + 1) p1 p2 none 0 0 [] none 0 0 [] :=
    ⟨Blk.new w2 _ _, ⟨OwnV.nil _ _ _ _, rfl⟩, OwnI.nil _ _, Nat.lt_succ_self _, fun k hk => by simp at hk, by simp⟩
  have hC := hC2.keep ((Bl.refl w2).alloc (.cells #[.int .i64 p1, .int .i64 p2, .slice none 0 0, .slice none 0 0] 105))
  replace hR := hR.alloc (.cells #[.int .i64 p1, .int .i64 p2, .slice none 0 0, .slice none 0 0] 105)
  replace hG := Lib.grownBy_below hG ((Bl.refl w2).alloc (.cells #[.int .i64 p1, .int .i64 p2, .slice none 0 0, .slice none 0 0] 105))
  clear hC2
  generalize w2.alloc (.cells #[.int .i64 p1, .int .i64 p2, .slice none 0 0, .slice none 0 0] 105) = w3 at hM hC hR hG ⊢
  generalize w2.heap.size = x at hM hwx hgx ⊢
  go_wp2_with fail
  refine (cur_pick _ g _ hC (by omega) 9 (by omega)).mono ?_
  rintro e w5 ⟨p3, rfl, p30, p31, hC5, hG5⟩
  clear hC; have hC := hC5; clear hC5
  replace hM := hM.cur hG5 hgx; replace hR := hR.grown hG5 (by intro e; injection e with e; omega); replace hG := Lib.grownBy_trans hG hG5
  clear hG5
  obtain ⟨j0, rfl⟩ : ∃ j : Nat, p3 = (j : Int) := ⟨p3.toNat, by omega⟩
  go_wp2_with fail
  go_loopw [4] (fun i wr => ∃ (j n c kk : Nat) (A : Option Addr) (gl : List Gt), i = .int .i64 (j : Nat) ∧ n + j ≤ 8 ∧ Mk wr x (x + 1) p1 p2 A n c gl none 0 0 [] ∧ Cur wr g kk ∧ kk + 12 * j ≤ k + 110 ∧ Blk wr w.heap.size 26 #[.int .i64 0, .int .i64 0, .slice none 0 0, .slice none 0 0] ∧ w.grownBy wr (some g)) (fun i _ => (intOf i).toNat)
  case atStart => exact ⟨j0, 0, 0, _, none, [], rfl, by omega, hM, hC, by omega, hR, hG⟩
  case round =>
    clear hM hC hR hG
    obtain ⟨j, n, c, kk, A, gl, rfl, hnj, hM, hC, hkk, hR, hG⟩ := hrel
    rcases j with _ | j
    · have hB := hM.blk
      have hB_l := hB.lt; have hB_f := hB.frozen; have hB_0 := hB.cell 0 _ rfl; have hB_1 := hB.cell 1 _ rfl; have hB_2 := hB.cell 2 _ rfl; have hB_3 := hB.cell 3 _ rfl
      go_wp2_with fail
      refine (spec_ciWires p1 p2 A none n c 0 0 _ (by omega) (by omega) (by omega) (by omega) (by omega)).mono ?_
      rintro e w4 ⟨rfl, hb4⟩
      (try clear hB_l hB_f hB_0 hB_1 hB_2 hB_3)
      clear hB
      replace hM := hM.keep hb4; replace hC := hC.keep hb4; replace hR := hR.keep hb4; replace hG := Lib.grownBy_below hG hb4
      clear hb4
      generalize hN : p1 + p2 + ((n : Nat) : Int) = N
      by_cases hN0 : N = 0
      · subst hN0
        have hl : w.heap.size < x + 1 := by omega
        have hB := hM.blk
        have hB_l := hB.lt; have hB_f := hB.frozen; have hB_0 := hB.cell 0 _ rfl; have hB_1 := hB.cell 1 _ rfl; have hB_2 := hB.cell 2 _ rfl; have hB_3 := hB.cell 3 _ rfl
        have hR_l := hR.lt; have hR_f := hR.frozen; have hR_0 := hR.cell 0 _ rfl; have hR_1 := hR.cell 1 _ rfl; have hR_2 := hR.cell 2 _ rfl; have hR_3 := hR.cell 3 _ rfl
        go_wp2_with fail
        refine bodyPost_ret (v := .agg #[.int .i64 p1, .int .i64 p2, .slice A n c, .slice none 0 0]) (by simp only [results, Try.results111]; go_simp) rfl ⟨p1, p2, A, n, c, gl, none, 0, 0, [], rfl, ⟨by omega, by omega⟩, ⟨by omega, by omega⟩, by omega, by omega, ?_, ?_, ?_⟩
        · exact ⟨OwnG.mono ((((hM.gs.low hl _).low hl _).low hl _).low hl _) (by omega), OwnI.mono ((((hM.os.low hl _).low hl _).low hl _).low hl _) (by omega), fun a ha e => hM.ap a.block (by rw [ha]; rfl) e.symm⟩
        · exact ((((hC.farSet _ _ _ hgw).farSet _ _ _ hgw).farSet _ _ _ hgw).farSet _ _ _ hgw).mono (by omega)
        · exact grown_far (grown_far (grown_far (grown_far hG _ _ _ (Nat.le_refl _)) _ _ _ (Nat.le_refl _)) _ _ _ (Nat.le_refl _)) _ _ _ (Nat.le_refl _)
      · have hNb : 1 ≤ N ∧ N ≤ 65536 := by omega
        have hNp : (0 : Int) < N := by omega
        go_wp2_with fail
        refine (cur_pick _ g _ hC (by omega) 3 (by omega)).mono ?_
        rintro e w5 ⟨q3, rfl, q30, q31, hC5, hG5⟩
        clear hC; have hC := hC5; clear hC5
        replace hM := hM.cur hG5 hgx; replace hR := hR.grown hG5 (by intro e; injection e with e; omega); replace hG := Lib.grownBy_trans hG hG5
        clear hG5
        go_wp2_with fail
        go_loopw [8] (fun i wr => ∃ (j m d kk : Nat) (B : Option Addr) (ol : List Int), i = .int .i64 (j : Nat) ∧ m + j ≤ 3 ∧ Mk wr x (x + 1) p1 p2 A n c gl B m d ol ∧ Cur wr g kk ∧ kk + 4 * j ≤ k + 150 ∧ Blk wr w.heap.size 26 #[.int .i64 0, .int .i64 0, .slice none 0 0, .slice none 0 0] ∧ w.grownBy wr (some g)) (fun i _ => (intOf i).toNat)
        case atStart => exact ⟨(1 + q3).toNat, 0, 0, _, none, [], by (congr 1; omega), by omega, hM, hC, by omega, hR, hG⟩
        case round =>
          clear hM hC hR hG
          obtain ⟨j, m, d, kk, B, ol, rfl, hmj, hM, hC, hkk, hR, hG⟩ := hrel
          rcases j with _ | j
          · have hl : w.heap.size < x + 1 := by omega
            have hB := hM.blk
            have hB_l := hB.lt; have hB_f := hB.frozen; have hB_0 := hB.cell 0 _ rfl; have hB_1 := hB.cell 1 _ rfl; have hB_2 := hB.cell 2 _ rfl; have hB_3 := hB.cell 3 _ rfl
            have hR_l := hR.lt; have hR_f := hR.frozen; have hR_0 := hR.cell 0 _ rfl; have hR_1 := hR.cell 1 _ rfl; have hR_2 := hR.cell 2 _ rfl; have hR_3 := hR.cell 3 _ rfl
            go_wp2_with fail
            refine bodyPost_ret (v := .agg #[.int .i64 p1, .int .i64 p2, .slice A n c, .slice B m d]) (by simp only [results, Try.results111]; go_simp) rfl ⟨p1, p2, A, n, c, gl, B, m, d, ol, rfl, ⟨by omega, by omega⟩, ⟨by omega, by omega⟩, by omega, by omega, ?_, ?_, ?_⟩
            · exact ⟨OwnG.mono ((((hM.gs.low hl _).low hl _).low hl _).low hl _) (by omega), OwnI.mono ((((hM.os.low hl _).low hl _).low hl _).low hl _) (by omega), fun a ha e => hM.ap a.block (by rw [ha]; rfl) e.symm⟩
            · exact ((((hC.farSet _ _ _ hgw).farSet _ _ _ hgw).farSet _ _ _ hgw).farSet _ _ _ hgw).mono (by omega)
            · exact grown_far (grown_far (grown_far (grown_far hG _ _ _ (Nat.le_refl _)) _ _ _ (Nat.le_refl _)) _ _ _ (Nat.le_refl _)) _ _ _ (Nat.le_refl _)
          · have hj1 : (0 : Int) < ((j + 1 : Nat) : Int) := by omega
            have hB := hM.blk
            have hB_l := hB.lt; have hB_f := hB.frozen; have hB_0 := hB.cell 0 _ rfl; have hB_1 := hB.cell 1 _ rfl; have hB_2 := hB.cell 2 _ rfl; have hB_3 := hB.cell 3 _ rfl
            go_wp2_with fail
            refine region_F (fun _ => True) (fun w' => w'.cell? ⟨x, 3, none⟩ = some (.slice B m d)) 18 (by kernel_rfl) ?_ (fun hHeld => ?_)
            · (try dsimp only); exact ⟨trivial, hM.blk.cell 3 _ rfl⟩
            refine f_takeC (i := 0) (d := 81) (v := ?_) [0] rfl rfl (by kernel_rfl) (by kernel_rfl) (by kernel_rfl) (by kernel_rfl) (by kernel_rfl) (by kernel_rfl) (fun _ _ _ h => h) (by decide) (Or.inl ⟨by rfl, ?_⟩) hHeld ?_
            rotate_left
            · (intro w hSw; (try dsimp only at hSw); go_simp; (try with_reducible rfl))
            simp only [List.set_cons_zero, List.set_cons_succ]
            refine f_takeC (i := 1) (d := 82) (v := ?_) [1] rfl rfl (by kernel_rfl) (by kernel_rfl) (by kernel_rfl) (by kernel_rfl) (by kernel_rfl) (by kernel_rfl) (fun _ _ _ h => h) (by decide) (Or.inl ⟨by rfl, ?_⟩) hHeld ?_
            rotate_left
            · (intro w hSw; (try dsimp only at hSw); go_simp; (try with_reducible rfl))
            simp only [List.set_cons_zero, List.set_cons_succ]
            refine f_takeC (i := 2) (d := 83) (v := ?_) [2] rfl rfl (by kernel_rfl) (by kernel_rfl) (by kernel_rfl) (by kernel_rfl) (by kernel_rfl) (by kernel_rfl) (fun _ _ _ h => h) (by decide) (Or.inl ⟨by rfl, ?_⟩) hHeld ?_
            rotate_left
            · (intro w hSw; (try dsimp only at hSw); go_simp; (try with_reducible rfl))
            simp only [List.set_cons_zero, List.set_cons_succ]
            refine f_takeC (i := 3) (d := 84) (v := ?_) [3] rfl rfl (by kernel_rfl) (by kernel_rfl) (by kernel_rfl) (by kernel_rfl) (by kernel_rfl) (by kernel_rfl) (fun _ _ _ h => h) (by decide) (Or.inl ⟨by rfl, ?_⟩) hHeld ?_
            rotate_left
            · (intro w hSw; (try dsimp only at hSw); go_simp; (try with_reducible rfl))
            simp only [List.set_cons_zero, List.set_cons_succ]
            refine f_takeC (i := 4) (d := 85) (v := ?_) [4] rfl rfl (by kernel_rfl) (by kernel_rfl) (by kernel_rfl) (by kernel_rfl) (by kernel_rfl) (by kernel_rfl) (fun _ _ _ h => h) (by decide) (Or.inl ⟨by rfl, ?_⟩) hHeld ?_
            rotate_left
            · (intro w hSw; (try dsimp only at hSw); go_simp; (try with_reducible rfl))
            simp only [List.set_cons_zero, List.set_cons_succ]
            refine f_takeC (i := 5) (d := 86) (v := ?_) [5] rfl rfl (by kernel_rfl) (by kernel_rfl) (by kernel_rfl) (by kernel_rfl) (by kernel_rfl) (by kernel_rfl) (fun _ _ _ h => h) (by decide) (Or.inl ⟨by rfl, ?_⟩) hHeld ?_
            rotate_left
            · (intro w hSw; (try dsimp only at hSw); go_simp; (try with_reducible rfl))
            simp only [List.set_cons_zero, List.set_cons_succ]
            refine f_takeC (i := 6) (d := 87) (v := ?_) [6] rfl rfl (by kernel_rfl) (by kernel_rfl) (by kernel_rfl) (by kernel_rfl) (by kernel_rfl) (by kernel_rfl) (fun _ _ _ h => h) (by decide) (Or.inl ⟨by rfl, ?_⟩) hHeld ?_
            rotate_left
            · (intro w hSw; (try dsimp only at hSw); go_simp; (try with_reducible rfl))
            simp only [List.set_cons_zero, List.set_cons_succ]
            refine f_takeC (i := 7) (d := 88) (v := ?_) [7] rfl rfl (by kernel_rfl) (by kernel_rfl) (by kernel_rfl) (by kernel_rfl) (by kernel_rfl) (by kernel_rfl) (fun _ _ _ h => h) (by decide) (Or.inl ⟨by rfl, ?_⟩) hHeld ?_
            rotate_left
            · (intro w hSw; (try dsimp only at hSw); go_simp; (try with_reducible rfl))
            simp only [List.set_cons_zero, List.set_cons_succ]
            refine f_takeC (i := 8) (d := 89) (v := ?_) [8] rfl rfl (by kernel_rfl) (by kernel_rfl) (by kernel_rfl) (by kernel_rfl) (by kernel_rfl) (by kernel_rfl) (fun _ _ _ h => h) (by decide) (Or.inl ⟨by rfl, ?_⟩) hHeld ?_
            rotate_left
            · (intro w hSw; (try dsimp only at hSw); go_simp; (try with_reducible rfl))
            simp only [List.set_cons_zero, List.set_cons_succ]
            refine f_takeC (i := 9) (d := 90) (v := ?_) [9] rfl rfl (by kernel_rfl) (by kernel_rfl) (by kernel_rfl) (by kernel_rfl) (by kernel_rfl) (by kernel_rfl) (fun _ _ _ h => h) (by decide) (Or.inl ⟨by rfl, ?_⟩) hHeld ?_
            rotate_left
            · (intro w hSw; (try dsimp only at hSw); go_simp; (try with_reducible rfl))
            simp only [List.set_cons_zero, List.set_cons_succ]
            refine f_step (i := 10) (by kernel_rfl) rfl (fun K hK => ?_)
            go_simp
            go_at_call 80; refine (least_4 N _ (by omega)).mono ?_; rintro e v1 ⟨q1, rfl, hq1, hqN, hq2, rfl⟩
            go_wp2_with fail
            refine hK.out _ _ ?_ (fun hHeld => ?_)
            · (try dsimp only); exact ⟨trivial, hM.blk.cell 3 _ rfl⟩
            clear hK K
            (try simp only [Act.put]); (try simp only [List.setIfInBounds_toArray]); (try simp only [List.set_cons_succ]); (try simp only [List.set_cons_zero])
            refine f_step (i := 11) (by kernel_rfl) rfl (fun K hK => ?_)
            go_simp
            go_at_call 76; refine (cur_pick _ g _ (hC.keep (Bl.refl _).drew) (by omega) q1 (by omega)).mono ?_; rintro e v2 ⟨q2, rfl, hq20, hq21, hC2, hG2⟩; have hM2 := (hM.keep (Bl.refl _).drew).cur hG2 hgx; have hR2 := (hR.keep (Bl.refl _).drew).grown hG2 (by intro e; injection e with e; omega)
            go_wp2_with fail
            refine hK.out _ _ ?_ (fun hHeld => ?_)
            · (try dsimp only); exact ⟨trivial, hM2.blk.cell 3 _ rfl⟩
            clear hK K
            (try simp only [Act.put]); (try simp only [List.setIfInBounds_toArray]); (try simp only [List.set_cons_succ]); (try simp only [List.set_cons_zero])
            refine f_takeC (i := 12) (d := 93) (v := ?_) [12] rfl rfl (by kernel_rfl) (by kernel_rfl) (by kernel_rfl) (by kernel_rfl) (by kernel_rfl) (by kernel_rfl) (fun _ _ _ h => h) (by decide) (Or.inl ⟨by rfl, ?_⟩) hHeld ?_
            rotate_left
            · (intro w hSw; (try dsimp only at hSw); go_simp; (try with_reducible rfl))
            simp only [List.set_cons_zero, List.set_cons_succ]
            refine f_step (i := 13) (by kernel_rfl) rfl (fun K hK => ?_)
            go_simp
            refine hK.out _ _ ?_ (fun hHeld => ?_)
            · (try dsimp only); exact ⟨trivial, (hM2.blk.alloc _).cell 3 _ rfl⟩
            clear hK K
            (try simp only [Act.put]); (try simp only [List.setIfInBounds_toArray]); (try simp only [List.set_cons_succ]); (try simp only [List.set_cons_zero])
            refine f_step (i := 14) (by kernel_rfl) rfl (fun K hK => ?_)
            refine ap_int_step rfl rfl rfl (hM2.os.alloc _) rfl (rd_new1 _ _ _) (by omega) (by have := hM2.top; simp; omega) ?_; intro B7 d7 v7 ho7 hg7 hat7
            have hB7 := (hM2.blk.alloc _).grown hg7 (by intro e; have := (hM2.os.blk x e.symm).1; omega)
            have hgs7 := (hM2.gs.keep ((Bl.refl _).alloc _)).grown hg7 (by intro q hq e; exact hM2.ap q.block (by rw [hq]; rfl) e.symm)
            have hV7 := ((Below.refl x v2).alloc (by have := hM2.top; omega) _).grown hg7 (by have := hM2.top; simp; omega) (fun k hk => by have := (hM2.os.blk k hk).1; omega)
            have hB7_l := hB7.lt; have hB7_f := hB7.frozen; have hB7_0 := hB7.cell 0 _ rfl; have hB7_1 := hB7.cell 1 _ rfl; have hB7_2 := hB7.cell 2 _ rfl; have hB7_3 := hB7.cell 3 _ rfl
            refine hK.out _ _ ?_ (fun hHeld => ?_)
            · (try dsimp only); exact ⟨trivial, hB7.cell 3 _ rfl⟩
            clear hK K
            (try simp only [Act.put]); (try simp only [List.setIfInBounds_toArray]); (try simp only [List.set_cons_succ]); (try simp only [List.set_cons_zero])
            refine f_takeC (i := 15) (d := 96) (v := ?_) [17, 16, 15] rfl rfl (by kernel_rfl) (by kernel_rfl) (by kernel_rfl) (by kernel_rfl) (by kernel_rfl) (by kernel_rfl) (fun _ _ _ h => h) (by decide) (Or.inl ⟨by rfl, ?_⟩) hHeld ?_
            rotate_left
            · (intro w hSw; (try dsimp only at hSw); go_simp; (try with_reducible rfl))
            simp only [List.set_cons_zero, List.set_cons_succ]
            refine f_takeC (i := 16) (d := 97) (v := ?_) [17, 16] rfl rfl (by kernel_rfl) (by kernel_rfl) (by kernel_rfl) (by kernel_rfl) (by kernel_rfl) (by kernel_rfl) (fun _ _ _ h => h) (by decide) (Or.inl ⟨by rfl, ?_⟩) hHeld ?_
            rotate_left
            · (intro w hSw; (try dsimp only at hSw); go_simp; (try with_reducible rfl))
            simp only [List.set_cons_zero, List.set_cons_succ]
            refine f_takeC (i := 17) (d := 98) (v := ?_) [17] rfl rfl (by kernel_rfl) (by kernel_rfl) (by kernel_rfl) (by kernel_rfl) (by kernel_rfl) (by kernel_rfl) (fun _ _ _ h => h) (by decide) (Or.inl ⟨by rfl, ?_⟩) hHeld ?_
            rotate_left
            · (intro w hSw; (try dsimp only at hSw); go_simp; (try with_reducible rfl))
            simp only [List.set_cons_zero, List.set_cons_succ]
            refine f_last (i := 18) (by kernel_rfl) rfl (by simp) (fun K hK => ?_)
            go_simp
            refine hK.out _ _ ?_ (fun hHeld => ?_)
            · exact trivial
            clear hK K
            (try simp only [Act.put]); (try simp only [List.setIfInBounds_toArray]); (try simp only [List.set_cons_succ]); (try simp only [List.set_cons_zero])
            refine f_done (by kernel_rfl) ?_ _
            go_wp2_with fail
            have hG7 := grown_below (Lib.grownBy_trans (Lib.grownBy_below hG (Bl.refl _).drew) hG2) hV7 (by omega)
            go_roundw
            case rel => exact ⟨j, m + 1, d7, _, B7, _, rfl, by omega, ⟨hB7.set_ 3 _, hgs7.low (by omega) _, ho7.low (by omega) _, by omega, fun k hk hk2 => by
                rcases hat7 with e | e
                · exact hM2.ap k hk (e.symm.trans hk2)
                · have e2 := e.symm.trans hk2
                  injection e2 with e2
                  have := (hM2.gs.blk k hk).2
                  simp at e2
                  omega, by have := hM2.top; have := hg7.size; simp [World.setCell] at *; omega⟩, (hC2.below hV7 hgx).farSet _ _ _ hgx, by omega, (hR2.below hV7 hwx).far (by show w.heap.size ≠ x; omega) _, grown_far hG7 _ _ _ (by omega)⟩
            case measure => simp [intOf]; try omega
    · have hj1 : (0 : Int) < ((j + 1 : Nat) : Int) := by omega
      have hB := hM.blk
      have hB_l := hB.lt; have hB_f := hB.frozen; have hB_0 := hB.cell 0 _ rfl; have hB_1 := hB.cell 1 _ rfl; have hB_2 := hB.cell 2 _ rfl; have hB_3 := hB.cell 3 _ rfl
      go_wp2_with fail
      refine (spec_ciWires p1 p2 A none n c 0 0 _ (by omega) (by omega) (by omega) (by omega) (by omega)).mono ?_
      rintro e w4 ⟨rfl, hb4⟩
      (try clear hB_l hB_f hB_0 hB_1 hB_2 hB_3)
      clear hB
      replace hM := hM.keep hb4; replace hC := hC.keep hb4; replace hR := hR.keep hb4; replace hG := Lib.grownBy_below hG hb4
      clear hb4
      generalize hN : p1 + p2 + ((n : Nat) : Int) = N
      go_wp2_with fail
      refine (cur_pick _ g _ hC (by omega) 4 (by omega)).mono ?_
      rintro e w5 ⟨kd, rfl, kd0, kd1, hC5, hG5⟩
      clear hC; have hC := hC5; clear hC5
      replace hM := hM.cur hG5 hgx; replace hR := hR.grown hG5 (by intro e; injection e with e; omega); replace hG := Lib.grownBy_trans hG hG5
      clear hG5
      by_cases hN0 : N = 0
      · subst hN0
        go_wp2_with fail
        refine (maker_one _ x (x + 1) p1 p2 A n c gl none 0 0 [] hM (by omega) (by omega) (by omega)).mono ?_
        rintro e w9 ⟨A9, c9, y9, v9, rfl, hM9, hb9⟩
        replace hC := hC.below hb9 hgx; replace hR := hR.below hb9 hwx; replace hG := grown_below hG hb9 (by omega)
        clear hM hb9
        go_wp2_with fail
        go_roundw
        case rel => exact ⟨j, n + 1, c9, _, A9, _, by first | go_num | (congr 1; omega), by omega, hM9, hC, by omega, hR, hG⟩
        case measure => simp [intOf]; try omega
      · have hNn : (N == 0) = false := by simpa using hN0
        have hNb : 1 ≤ N ∧ N ≤ 65536 := by omega
        rcases (by omega : kd = 0 ∨ kd = 1 ∨ kd = 2 ∨ kd = 3) with rfl | rfl | rfl | rfl
        · go_wp2_with fail
          refine (cur_pick _ g _ hC (by omega) N hNb).mono ?_
          rintro e w5 ⟨s1, rfl, s10, s11, hC5, hG5⟩
          clear hC; have hC := hC5; clear hC5
          replace hM := hM.cur hG5 hgx; replace hR := hR.grown hG5 (by intro e; injection e with e; omega); replace hG := Lib.grownBy_trans hG hG5
          clear hG5
          go_wp2_with fail
          refine (cur_pick _ g _ hC (by omega) N hNb).mono ?_
          rintro e w5 ⟨s2, rfl, s20, s21, hC5, hG5⟩
          clear hC; have hC := hC5; clear hC5
          replace hM := hM.cur hG5 hgx; replace hR := hR.grown hG5 (by intro e; injection e with e; omega); replace hG := Lib.grownBy_trans hG hG5
          clear hG5
          go_wp2_with fail
          refine (maker_xor _ x (x + 1) p1 p2 A n c gl none 0 0 [] hM (by omega) (by omega) (by omega) s1 s2).mono ?_
          rintro e w9 ⟨A9, c9, y9, v9, rfl, hM9, hb9⟩
          replace hC := hC.below hb9 hgx; replace hR := hR.below hb9 hwx; replace hG := grown_below hG hb9 (by omega)
          clear hM hb9
          go_wp2_with fail
          go_roundw
          case rel => exact ⟨j, n + 1, c9, _, A9, _, by first | go_num | (congr 1; omega), by omega, hM9, hC, by omega, hR, hG⟩
          case measure => simp [intOf]; try omega
        · go_wp2_with fail
          refine (cur_pick _ g _ hC (by omega) N hNb).mono ?_
          rintro e w5 ⟨s1, rfl, s10, s11, hC5, hG5⟩
          clear hC; have hC := hC5; clear hC5
          replace hM := hM.cur hG5 hgx; replace hR := hR.grown hG5 (by intro e; injection e with e; omega); replace hG := Lib.grownBy_trans hG hG5
          clear hG5
          go_wp2_with fail
          refine (cur_pick _ g _ hC (by omega) N hNb).mono ?_
          rintro e w5 ⟨s2, rfl, s20, s21, hC5, hG5⟩
          clear hC; have hC := hC5; clear hC5
          replace hM := hM.cur hG5 hgx; replace hR := hR.grown hG5 (by intro e; injection e with e; omega); replace hG := Lib.grownBy_trans hG hG5
          clear hG5
          go_wp2_with fail
          refine (maker_and _ x (x + 1) p1 p2 A n c gl none 0 0 [] hM (by omega) (by omega) (by omega) s1 s2).mono ?_
          rintro e w9 ⟨A9, c9, y9, v9, rfl, hM9, hb9⟩
          replace hC := hC.below hb9 hgx; replace hR := hR.below hb9 hwx; replace hG := grown_below hG hb9 (by omega)
          clear hM hb9
          go_wp2_with fail
          go_roundw
          case rel => exact ⟨j, n + 1, c9, _, A9, _, by first | go_num | (congr 1; omega), by omega, hM9, hC, by omega, hR, hG⟩
          case measure => simp [intOf]; try omega
        · go_wp2_with fail
          refine (cur_pick _ g _ hC (by omega) N hNb).mono ?_
          rintro e w5 ⟨s1, rfl, s10, s11, hC5, hG5⟩
          clear hC; have hC := hC5; clear hC5
          replace hM := hM.cur hG5 hgx; replace hR := hR.grown hG5 (by intro e; injection e with e; omega); replace hG := Lib.grownBy_trans hG hG5
          clear hG5
          go_wp2_with fail
          refine (maker_not _ x (x + 1) p1 p2 A n c gl none 0 0 [] hM (by omega) (by omega) (by omega) s1).mono ?_
          rintro e w9 ⟨A9, c9, y9, v9, rfl, hM9, hb9⟩
          replace hC := hC.below hb9 hgx; replace hR := hR.below hb9 hwx; replace hG := grown_below hG hb9 (by omega)
          clear hM hb9
          go_wp2_with fail
          go_roundw
          case rel => exact ⟨j, n + 1, c9, _, A9, _, by first | go_num | (congr 1; omega), by omega, hM9, hC, by omega, hR, hG⟩
          case measure => simp [intOf]; try omega
        · go_wp2_with fail
          refine (cur_one _ g _ hC (by omega) 2 (by omega)).mono ?_
          rintro e w5 ⟨bb, rfl, hC5, hG5⟩
          clear hC; have hC := hC5; clear hC5
          replace hM := hM.cur hG5 hgx; replace hR := hR.grown hG5 (by intro e; injection e with e; omega); replace hG := Lib.grownBy_trans hG hG5
          clear hG5
          cases bb
          · go_wp2_with fail
            refine (cur_pick _ g _ hC (by omega) N hNb).mono ?_
            rintro e w5 ⟨s1, rfl, s10, s11, hC5, hG5⟩
            clear hC; have hC := hC5; clear hC5
            replace hM := hM.cur hG5 hgx; replace hR := hR.grown hG5 (by intro e; injection e with e; omega); replace hG := Lib.grownBy_trans hG hG5
            clear hG5
            go_wp2_with fail
            refine (cur_pick _ g _ hC (by omega) N hNb).mono ?_
            rintro e w5 ⟨s2, rfl, s20, s21, hC5, hG5⟩
            clear hC; have hC := hC5; clear hC5
            replace hM := hM.cur hG5 hgx; replace hR := hR.grown hG5 (by intro e; injection e with e; omega); replace hG := Lib.grownBy_trans hG hG5
            clear hG5
            go_wp2_with fail
            refine (maker_and _ x (x + 1) p1 p2 A n c gl none 0 0 [] hM (by omega) (by omega) (by omega) s1 s2).mono ?_
            rintro e w9 ⟨A9, c9, y9, v9, rfl, hM9, hb9⟩
            replace hC := hC.below hb9 hgx; replace hR := hR.below hb9 hwx; replace hG := grown_below hG hb9 (by omega)
            clear hM hb9
            go_wp2_with fail
            go_roundw
            case rel => exact ⟨j, n + 1, c9, _, A9, _, by first | go_num | (congr 1; omega), by omega, hM9, hC, by omega, hR, hG⟩
            case measure => simp [intOf]; try omega
          · go_wp2_with fail
            refine (maker_one _ x (x + 1) p1 p2 A n c gl none 0 0 [] hM (by omega) (by omega) (by omega)).mono ?_
            rintro e w9 ⟨A9, c9, y9, v9, rfl, hM9, hb9⟩
            replace hC := hC.below hb9 hgx; replace hR := hR.below hb9 hwx; replace hG := grown_below hG hb9 (by omega)
            clear hM hb9
            go_wp2_with fail
            go_roundw
            case rel => exact ⟨j, n + 1, c9, _, A9, _, by first | go_num | (congr 1; omega), by omega, hM9, hC, by omega, hR, hG⟩
            case measure => simp [intOf]; try omega
end Go.Proofs.Ytlmlffiajgofeaa
