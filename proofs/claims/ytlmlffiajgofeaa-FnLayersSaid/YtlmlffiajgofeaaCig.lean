/- Contracts of IsCircuit.
   Conditions: none. -/
import Derived.Test.YtlmlffiajgofeaaCir
import Derived.Test.YtlmlffiajgofeaaAlb
namespace Go.Proofs.Ytlmlffiajgofeaa
open Go.RowKit
set_option linter.unusedVariables false
theorem enters_IsCircuit_1 : Enters 100 := fun _ _ => by kernel_rfl
theorem IsCircuit_1 (a b x : Int) (Ag Ao : Option Addr) (n cg m co g : Nat) (w : World) (ha : 0 ≤ a) (ha2 : a ≤ 1000) (hb : 0 ≤ b) (hb2 : b ≤ 1000) (hn : n ≤ 1000) (hB : Blk w g 26 #[.int .i64 a, .int .i64 b, .slice Ag n cg, .slice Ao m co]) :
    Calls Try.prog 100 #[.int .i64 x, .pointer (some ⟨g, 0, none⟩)] w fun e w' => e = .returned (.bool (inR x 0 (a + b + n - 1))) ∧ Bl w w' := by
  have k0 := hB.cell 0 _ rfl
  have k1 := hB.cell 1 _ rfl
  have k2 := hB.cell 2 _ rfl
  have k3 := hB.cell 3 _ rfl
  go_enter Try.func100, Try.ntmps100
  go_wp2_with (first | (go_at_call 95; refine (impl_wires _ _ _ _ _ _ _ _ _ ha ha2 hb hb2 hn).mono ?_; rintro e w1 ⟨rfl, hb1⟩) | (go_at_call 78; refine (impl_within _ _ _ _).mono ?_; rintro e w2 ⟨rfl, rfl⟩))
  go_ret
  exact ⟨rfl, (by (repeat (first | assumption | with_reducible exact Bl.refl _ | with_reducible refine Bl.drewN ?_ _ | with_reducible refine Bl.drew ?_ | with_reducible refine Bl.alloc ?_ _ | (with_reducible refine Bl.call ?_ (by assumption)))))⟩
set_option maxHeartbeats 4000000 in
theorem impl_IsCircuit (a b : Int) (Ag Ao : Option Addr) (n cg m co : Nat) (gl : List Gt) (ol : List Int) (w : World) (hg : RdG w Ag n cg gl) (ho : RdI w Ao m co ol) :
    Calls Try.prog 50 #[.agg #[.int .i64 a, .int .i64 b, .slice Ag n cg, .slice Ao m co]] w fun e w' => e = .returned (.bool (goodC a b gl ol)) ∧ Bl w w' := by
  obtain ⟨hle1, hle2⟩ := hg.le
  obtain ⟨hle3, hle4⟩ := ho.le
  have hgl := Lib.hid hg.2
  have hol := Lib.hid ho.length
  have hW := (Bl.refl w).alloc (.cells #[.int .i64 a, .int .i64 b, .slice Ag n cg, .slice Ao m co] 26)
  have hB := Blk.new w 26 #[.int .i64 a, .int .i64 b, .slice Ag n cg, .slice Ao m co]
  rcases h1 : inR a 0 20
  · clear hB
    have hR := Lib.hid (show goodC a b gl ol = false by unfold goodC headB; rw [hgl.out, hol.out]; simp [h1])
    go_enter Try.func50, Try.ntmps50
    go_wp2_with (go_at_call 78; refine (impl_within _ _ _ _).mono ?_; rintro e w1 ⟨rfl, rfl⟩)
    go_ret
    exact ⟨by rw [hR.out]; rfl, hW⟩
  rcases h2 : inR b 0 20
  · clear hB
    have hR := Lib.hid (show goodC a b gl ol = false by unfold goodC headB; rw [hgl.out, hol.out]; simp [h1, h2])
    go_enter Try.func50, Try.ntmps50
    go_wp2_with (go_at_call 78; refine (impl_within _ _ _ _).mono ?_; rintro e w1 ⟨rfl, rfl⟩)
    go_ret
    exact ⟨by rw [hR.out]; rfl, hW⟩
  by_cases hn : n ≤ 300
  case neg =>
    have i1 : (300 : Int) < n := by omega
    clear hB
    have hR := Lib.hid (show goodC a b gl ol = false by unfold goodC headB; rw [hgl.out, hol.out]; simp [h1, h2, hn])
    go_enter Try.func50, Try.ntmps50
    go_wp2_with (go_at_call 78; refine (impl_within _ _ _ _).mono ?_; rintro e w1 ⟨rfl, rfl⟩)
    go_ret
    exact ⟨by rw [hR.out]; rfl, hW⟩
  by_cases hm : m ≤ 40
  case neg =>
    have i1 : (n : Int) ≤ 300 := by omega
    have i2 : (40 : Int) < m := by omega
    clear hB
    have hR := Lib.hid (show goodC a b gl ol = false by unfold goodC headB; rw [hgl.out, hol.out]; simp [h1, h2, hn, hm])
    go_enter Try.func50, Try.ntmps50
    go_wp2_with (go_at_call 78; refine (impl_within _ _ _ _).mono ?_; rintro e w1 ⟨rfl, rfl⟩)
    go_ret
    exact ⟨by rw [hR.out]; rfl, hW⟩
  have j1 : (n : Int) ≤ 300 := by omega
  have j2 : (m : Int) ≤ 40 := by omega
  have a1 := inR_iff.1 h1
  have a2 := inR_iff.1 h2
  have hH := Lib.hid (show headB a b gl.length ol.length = true by unfold headB; rw [hgl.out, hol.out]; simp [h1, h2, hn, hm])
  go_enter Try.func50, Try.ntmps50
  go_wp2_with (go_at_call 78; refine (impl_within _ _ _ _).mono ?_; rintro e w1 ⟨rfl, rfl⟩)
  go_loopw [30] (fun i wr => ∃ k : Nat, k ≤ n ∧ i = .int .i64 k ∧ Hid (∀ (i : Nat) (g : Gt), i < k → gl[i]? = some g → goodG (a + b + i) g = true) ∧ Blk wr w.heap.size 26 #[.int .i64 a, .int .i64 b, .slice Ag n cg, .slice Ao m co] ∧ Bl w wr) (fun i _ => n - (intOf i).toNat)
  case atStart => exact ⟨0, by omega, rfl, Lib.hid (fun i g hi => by omega), hB, hW⟩
  case round =>
    obtain ⟨k, hk, rfl, hq, hB2, hW2⟩ := hrel
    clear hB hW
    have hB := hB2
    have hW := hW2
    clear hB2 hW2
    have hB_l := hB.lt; have hB_0 := hB.cell 0 _ rfl; have hB_1 := hB.cell 1 _ rfl; have hB_2 := hB.cell 2 _ rfl; have hB_3 := hB.cell 3 _ rfl
    by_cases hlt : k < n
    · obtain ⟨ad, K, x, y, rfl, hx, q0, q1, q2⟩ := (hg.keep hW).at_ hlt
      have HX := Lib.hid hx
      clear hx
      have ik : (k : Int) < n := by omega
      have hs1 : IntKind.i64.wrap (a + b + (k : Int)) = a + b + k := IntWalk.i64_in _ (by omega)
      go_upto_region 6 with fail
      have hX := Blk.new wr 57 #[.int .i64 K, .int .i64 x, .int .i64 y]
      replace hB := hB.alloc (.cells #[.int .i64 K, .int .i64 x, .int .i64 y] 57)
      replace hW := hW.alloc (.cells #[.int .i64 K, .int .i64 x, .int .i64 y] 57)
      clear hB_l hB_0 hB_1 hB_2 hB_3
      have hB_l := hB.lt; have hB_0 := hB.cell 0 _ rfl; have hB_1 := hB.cell 1 _ rfl; have hB_2 := hB.cell 2 _ rfl; have hB_3 := hB.cell 3 _ rfl; have hX_l := hX.lt; have hX_0 := hX.cell 0 _ rfl; have hX_1 := hX.cell 1 _ rfl; have hX_2 := hX.cell 2 _ rfl
      rcases hgd : goodG (a + b + k) ⟨K, x, y⟩
      · have hR := Lib.hid (show goodC a b gl ol = false by unfold goodC; rw [goodGs_not HX.out hgd]; simp)
        go_region_held3 (fun w' => w'.cell? ⟨w.heap.size, 0, none⟩ = some (.int .i64 a) ∧ w'.cell? ⟨w.heap.size, 1, none⟩ = some (.int .i64 b) ∧ w'.cell? ⟨w.heap.size, 2, none⟩ = some (.slice (some ad) n cg) ∧ w'.cell? ⟨w.heap.size, 3, none⟩ = some (.slice Ao m co) ∧ w'.cell? ⟨wr.heap.size, 0, none⟩ = some (.int .i64 K) ∧ w'.cell? ⟨wr.heap.size, 1, none⟩ = some (.int .i64 x) ∧ w'.cell? ⟨wr.heap.size, 2, none⟩ = some (.int .i64 y)) (first | exact ⟨hB_0, hB_1, hB_2, hB_3, hX_0, hX_1, hX_2⟩ | go_keep) (first | (go_at_call 52; refine (impl_inputs _ _ _ _ _ _ _ _ _ (by omega) (by omega) (by omega) (by omega)).mono ?_; rintro e w1 ⟨rfl, hb1⟩; replace hW := (by first | exact hW.call hb1 | exact hW.drew.call hb1 | exact (hW.alloc _).call hb1 | exact (hW.alloc _).drew.call hb1 | exact (hW.drewN _).call hb1 | exact (hW.drew.alloc _).call hb1 | exact ((hW.alloc _).alloc _).call hb1 | exact ((hW.alloc _).alloc _).drew.call hb1 | exact (((hW.alloc _).alloc _).alloc _).call hb1); replace hB := (by first | exact hB.keep hb1 | exact hB.drew.keep hb1 | exact (hB.alloc _).keep hb1 | exact (hB.alloc _).drew.keep hb1 | exact (hB.drewN _).keep hb1 | exact (hB.drew.alloc _).keep hb1 | exact ((hB.alloc _).alloc _).keep hb1 | exact ((hB.alloc _).alloc _).drew.keep hb1 | exact (((hB.alloc _).alloc _).alloc _).keep hb1); replace hX := (by first | exact hX.keep hb1 | exact hX.drew.keep hb1 | exact (hX.alloc _).keep hb1 | exact (hX.alloc _).drew.keep hb1 | exact (hX.drewN _).keep hb1 | exact (hX.drew.alloc _).keep hb1 | exact ((hX.alloc _).alloc _).keep hb1 | exact ((hX.alloc _).alloc _).drew.keep hb1 | exact (((hX.alloc _).alloc _).alloc _).keep hb1); clear hB_l hB_0 hB_1 hB_2 hB_3 hX_l hX_0 hX_1 hX_2; have hB_l := hB.lt; have hB_0 := hB.cell 0 _ rfl; have hB_1 := hB.cell 1 _ rfl; have hB_2 := hB.cell 2 _ rfl; have hB_3 := hB.cell 3 _ rfl; have hX_l := hX.lt; have hX_0 := hX.cell 0 _ rfl; have hX_1 := hX.cell 1 _ rfl; have hX_2 := hX.cell 2 _ rfl) | (go_at_call 98; refine (impl_gateOk _ _ _ _ _ (by omega) (by omega)).mono ?_; rintro e w1 ⟨rfl, hb2⟩; replace hW := (by first | exact hW.call hb2 | exact hW.drew.call hb2 | exact (hW.alloc _).call hb2 | exact (hW.alloc _).drew.call hb2 | exact (hW.drewN _).call hb2 | exact (hW.drew.alloc _).call hb2 | exact ((hW.alloc _).alloc _).call hb2 | exact ((hW.alloc _).alloc _).drew.call hb2 | exact (((hW.alloc _).alloc _).alloc _).call hb2); replace hB := (by first | exact hB.keep hb2 | exact hB.drew.keep hb2 | exact (hB.alloc _).keep hb2 | exact (hB.alloc _).drew.keep hb2 | exact (hB.drewN _).keep hb2 | exact (hB.drew.alloc _).keep hb2 | exact ((hB.alloc _).alloc _).keep hb2 | exact ((hB.alloc _).alloc _).drew.keep hb2 | exact (((hB.alloc _).alloc _).alloc _).keep hb2); replace hX := (by first | exact hX.keep hb2 | exact hX.drew.keep hb2 | exact (hX.alloc _).keep hb2 | exact (hX.alloc _).drew.keep hb2 | exact (hX.drewN _).keep hb2 | exact (hX.drew.alloc _).keep hb2 | exact ((hX.alloc _).alloc _).keep hb2 | exact ((hX.alloc _).alloc _).drew.keep hb2 | exact (((hX.alloc _).alloc _).alloc _).keep hb2); clear hB_l hB_0 hB_1 hB_2 hB_3 hX_l hX_0 hX_1 hX_2; have hB_l := hB.lt; have hB_0 := hB.cell 0 _ rfl; have hB_1 := hB.cell 1 _ rfl; have hB_2 := hB.cell 2 _ rfl; have hB_3 := hB.cell 3 _ rfl; have hX_l := hX.lt; have hX_0 := hX.cell 0 _ rfl; have hX_1 := hX.cell 1 _ rfl; have hX_2 := hX.cell 2 _ rfl; rw [hgd]))
        go_wp2
        go_ret
        exact ⟨by rw [hR.out]; rfl, hW⟩
      · have hst := Lib.hid (show ∀ (i : Nat) (g : Gt), i < k + 1 → gl[i]? = some g → goodG (a + b + i) g = true from fun i g hi h => by
          rcases Nat.lt_or_ge i k with h1 | h1
          · exact hq.out i g h1 h
          · have he : i = k := by omega
            subst he
            rw [HX.out] at h
            injection h with h
            subst h
            exact hgd)
        go_region_held3 (fun w' => w'.cell? ⟨w.heap.size, 0, none⟩ = some (.int .i64 a) ∧ w'.cell? ⟨w.heap.size, 1, none⟩ = some (.int .i64 b) ∧ w'.cell? ⟨w.heap.size, 2, none⟩ = some (.slice (some ad) n cg) ∧ w'.cell? ⟨w.heap.size, 3, none⟩ = some (.slice Ao m co) ∧ w'.cell? ⟨wr.heap.size, 0, none⟩ = some (.int .i64 K) ∧ w'.cell? ⟨wr.heap.size, 1, none⟩ = some (.int .i64 x) ∧ w'.cell? ⟨wr.heap.size, 2, none⟩ = some (.int .i64 y)) (first | exact ⟨hB_0, hB_1, hB_2, hB_3, hX_0, hX_1, hX_2⟩ | go_keep) (first | (go_at_call 52; refine (impl_inputs _ _ _ _ _ _ _ _ _ (by omega) (by omega) (by omega) (by omega)).mono ?_; rintro e w1 ⟨rfl, hb1⟩; replace hW := (by first | exact hW.call hb1 | exact hW.drew.call hb1 | exact (hW.alloc _).call hb1 | exact (hW.alloc _).drew.call hb1 | exact (hW.drewN _).call hb1 | exact (hW.drew.alloc _).call hb1 | exact ((hW.alloc _).alloc _).call hb1 | exact ((hW.alloc _).alloc _).drew.call hb1 | exact (((hW.alloc _).alloc _).alloc _).call hb1); replace hB := (by first | exact hB.keep hb1 | exact hB.drew.keep hb1 | exact (hB.alloc _).keep hb1 | exact (hB.alloc _).drew.keep hb1 | exact (hB.drewN _).keep hb1 | exact (hB.drew.alloc _).keep hb1 | exact ((hB.alloc _).alloc _).keep hb1 | exact ((hB.alloc _).alloc _).drew.keep hb1 | exact (((hB.alloc _).alloc _).alloc _).keep hb1); replace hX := (by first | exact hX.keep hb1 | exact hX.drew.keep hb1 | exact (hX.alloc _).keep hb1 | exact (hX.alloc _).drew.keep hb1 | exact (hX.drewN _).keep hb1 | exact (hX.drew.alloc _).keep hb1 | exact ((hX.alloc _).alloc _).keep hb1 | exact ((hX.alloc _).alloc _).drew.keep hb1 | exact (((hX.alloc _).alloc _).alloc _).keep hb1); clear hB_l hB_0 hB_1 hB_2 hB_3 hX_l hX_0 hX_1 hX_2; have hB_l := hB.lt; have hB_0 := hB.cell 0 _ rfl; have hB_1 := hB.cell 1 _ rfl; have hB_2 := hB.cell 2 _ rfl; have hB_3 := hB.cell 3 _ rfl; have hX_l := hX.lt; have hX_0 := hX.cell 0 _ rfl; have hX_1 := hX.cell 1 _ rfl; have hX_2 := hX.cell 2 _ rfl) | (go_at_call 98; refine (impl_gateOk _ _ _ _ _ (by omega) (by omega)).mono ?_; rintro e w1 ⟨rfl, hb2⟩; replace hW := (by first | exact hW.call hb2 | exact hW.drew.call hb2 | exact (hW.alloc _).call hb2 | exact (hW.alloc _).drew.call hb2 | exact (hW.drewN _).call hb2 | exact (hW.drew.alloc _).call hb2 | exact ((hW.alloc _).alloc _).call hb2 | exact ((hW.alloc _).alloc _).drew.call hb2 | exact (((hW.alloc _).alloc _).alloc _).call hb2); replace hB := (by first | exact hB.keep hb2 | exact hB.drew.keep hb2 | exact (hB.alloc _).keep hb2 | exact (hB.alloc _).drew.keep hb2 | exact (hB.drewN _).keep hb2 | exact (hB.drew.alloc _).keep hb2 | exact ((hB.alloc _).alloc _).keep hb2 | exact ((hB.alloc _).alloc _).drew.keep hb2 | exact (((hB.alloc _).alloc _).alloc _).keep hb2); replace hX := (by first | exact hX.keep hb2 | exact hX.drew.keep hb2 | exact (hX.alloc _).keep hb2 | exact (hX.alloc _).drew.keep hb2 | exact (hX.drewN _).keep hb2 | exact (hX.drew.alloc _).keep hb2 | exact ((hX.alloc _).alloc _).keep hb2 | exact ((hX.alloc _).alloc _).drew.keep hb2 | exact (((hX.alloc _).alloc _).alloc _).keep hb2); clear hB_l hB_0 hB_1 hB_2 hB_3 hX_l hX_0 hX_1 hX_2; have hB_l := hB.lt; have hB_0 := hB.cell 0 _ rfl; have hB_1 := hB.cell 1 _ rfl; have hB_2 := hB.cell 2 _ rfl; have hB_3 := hB.cell 3 _ rfl; have hX_l := hX.lt; have hX_0 := hX.cell 0 _ rfl; have hX_1 := hX.cell 1 _ rfl; have hX_2 := hX.cell 2 _ rfl; rw [hgd]))
        go_wp2
        go_roundw
        case rel => exact ⟨k + 1, by omega, by go_num, hst, hB, hW⟩
        case measure => simp [intOf]; omega
    · have he : k = n := by omega
      subst he
      have hR := Lib.hid (show goodC a b gl ol = allR ol 0 (a + b + k - 1) by
        unfold goodC
        rw [hH.out, goodGs_of (fun i g h => hq.out i g (by have := (List.getElem?_eq_some_iff.1 h).1; rw [hgl.out] at this; exact this) h), hgl.out]
        simp)
      have hA : AnswersB wr 100 #[.pointer (some ⟨w.heap.size, 0, none⟩)] (fun x => inR x 0 (a + b + k - 1)) := fun x W' hW' => IsCircuit_1 a b x Ag Ao k cg m co w.heap.size W' (by omega) (by omega) (by omega) (by omega) (by omega) (hB.keep hW')
      have HC := Lib.hid (impl_areAllb Ao m co ol 100 _ _ wr enters_IsCircuit_1 hA (ho.keep hW))
      clear hA
      go_wp2_with (go_at_call 99; refine HC.out.mono ?_; rintro e w2 ⟨rfl, hb2⟩)
      go_ret
      exact ⟨by rw [hR.out]; rfl, hW.call hb2⟩
set_option maxHeartbeats 4000000 in
theorem spec_ciGood (a b : Int) (Ag Ao : Option Addr) (n cg m co : Nat) (gl : List Gt) (ol : List Int) (w : World) (hg : RdG w Ag n cg gl) (ho : RdI w Ao m co ol) :
    Calls Try.prog 53 #[.agg #[.int .i64 a, .int .i64 b, .slice Ag n cg, .slice Ao m co]] w fun e w' => e = .returned (.bool (goodC a b gl ol)) ∧ Bl w w' := by
  obtain ⟨hle1, hle2⟩ := hg.le
  obtain ⟨hle3, hle4⟩ := ho.le
  have hgl := Lib.hid hg.2
  have hol := Lib.hid ho.length
  have hW := (Bl.refl w).alloc (.cells #[.int .i64 a, .int .i64 b, .slice Ag n cg, .slice Ao m co] 26)
  have hB := Blk.new w 26 #[.int .i64 a, .int .i64 b, .slice Ag n cg, .slice Ao m co]
  rcases h1 : inR a 0 20
  · clear hB
    have hR := Lib.hid (show goodC a b gl ol = false by unfold goodC headB; rw [hgl.out, hol.out]; simp [h1])
    go_enter Try.func53, Try.ntmps53
    go_wp2_with (go_at_call 79; refine (spec_l1In _ _ _ _).mono ?_; rintro e w1 ⟨rfl, rfl⟩)
    go_ret
    exact ⟨by rw [hR.out]; rfl, hW⟩
  rcases h2 : inR b 0 20
  · clear hB
    have hR := Lib.hid (show goodC a b gl ol = false by unfold goodC headB; rw [hgl.out, hol.out]; simp [h1, h2])
    go_enter Try.func53, Try.ntmps53
    go_wp2_with (go_at_call 79; refine (spec_l1In _ _ _ _).mono ?_; rintro e w1 ⟨rfl, rfl⟩)
    go_ret
    exact ⟨by rw [hR.out]; rfl, hW⟩
  by_cases hn : n ≤ 300
  case neg =>
    have i1 : (300 : Int) < n := by omega
    clear hB
    have hR := Lib.hid (show goodC a b gl ol = false by unfold goodC headB; rw [hgl.out, hol.out]; simp [h1, h2, hn])
    go_enter Try.func53, Try.ntmps53
    go_wp2_with (go_at_call 79; refine (spec_l1In _ _ _ _).mono ?_; rintro e w1 ⟨rfl, rfl⟩)
    go_ret
    exact ⟨by rw [hR.out]; rfl, hW⟩
  by_cases hm : m ≤ 40
  case neg =>
    have i1 : (n : Int) ≤ 300 := by omega
    have i2 : (40 : Int) < m := by omega
    clear hB
    have hR := Lib.hid (show goodC a b gl ol = false by unfold goodC headB; rw [hgl.out, hol.out]; simp [h1, h2, hn, hm])
    go_enter Try.func53, Try.ntmps53
    go_wp2_with (go_at_call 79; refine (spec_l1In _ _ _ _).mono ?_; rintro e w1 ⟨rfl, rfl⟩)
    go_ret
    exact ⟨by rw [hR.out]; rfl, hW⟩
  have j1 : (n : Int) ≤ 300 := by omega
  have j2 : (m : Int) ≤ 40 := by omega
  have a1 := inR_iff.1 h1
  have a2 := inR_iff.1 h2
  have hH := Lib.hid (show headB a b gl.length ol.length = true by unfold headB; rw [hgl.out, hol.out]; simp [h1, h2, hn, hm])
  go_enter Try.func53, Try.ntmps53
  go_wp2_with (go_at_call 79; refine (spec_l1In _ _ _ _).mono ?_; rintro e w1 ⟨rfl, rfl⟩)
  go_loopw [30] (fun i wr => ∃ k : Nat, k ≤ n ∧ i = .int .i64 k ∧ Hid (∀ (i : Nat) (g : Gt), i < k → gl[i]? = some g → goodG (a + b + i) g = true) ∧ Blk wr w.heap.size 26 #[.int .i64 a, .int .i64 b, .slice Ag n cg, .slice Ao m co] ∧ Bl w wr) (fun i _ => n - (intOf i).toNat)
  case atStart => exact ⟨0, by omega, rfl, Lib.hid (fun i g hi => by omega), hB, hW⟩
  case round =>
    obtain ⟨k, hk, rfl, hq, hB2, hW2⟩ := hrel
    clear hB hW
    have hB := hB2
    have hW := hW2
    clear hB2 hW2
    have hB_l := hB.lt; have hB_0 := hB.cell 0 _ rfl; have hB_1 := hB.cell 1 _ rfl; have hB_2 := hB.cell 2 _ rfl; have hB_3 := hB.cell 3 _ rfl
    by_cases hlt : k < n
    · obtain ⟨ad, K, x, y, rfl, hx, q0, q1, q2⟩ := (hg.keep hW).at_ hlt
      have HX := Lib.hid hx
      clear hx
      have ik : (k : Int) < n := by omega
      have hs1 : IntKind.i64.wrap (a + b + (k : Int)) = a + b + k := IntWalk.i64_in _ (by omega)
      go_upto_region 6 with fail
      have hX := Blk.new wr 57 #[.int .i64 K, .int .i64 x, .int .i64 y]
      replace hB := hB.alloc (.cells #[.int .i64 K, .int .i64 x, .int .i64 y] 57)
      replace hW := hW.alloc (.cells #[.int .i64 K, .int .i64 x, .int .i64 y] 57)
      clear hB_l hB_0 hB_1 hB_2 hB_3
      have hB_l := hB.lt; have hB_0 := hB.cell 0 _ rfl; have hB_1 := hB.cell 1 _ rfl; have hB_2 := hB.cell 2 _ rfl; have hB_3 := hB.cell 3 _ rfl; have hX_l := hX.lt; have hX_0 := hX.cell 0 _ rfl; have hX_1 := hX.cell 1 _ rfl; have hX_2 := hX.cell 2 _ rfl
      rcases hgd : goodG (a + b + k) ⟨K, x, y⟩
      · have hR := Lib.hid (show goodC a b gl ol = false by unfold goodC; rw [goodGs_not HX.out hgd]; simp)
        go_region_held3 (fun w' => w'.cell? ⟨w.heap.size, 0, none⟩ = some (.int .i64 a) ∧ w'.cell? ⟨w.heap.size, 1, none⟩ = some (.int .i64 b) ∧ w'.cell? ⟨w.heap.size, 2, none⟩ = some (.slice (some ad) n cg) ∧ w'.cell? ⟨w.heap.size, 3, none⟩ = some (.slice Ao m co) ∧ w'.cell? ⟨wr.heap.size, 0, none⟩ = some (.int .i64 K) ∧ w'.cell? ⟨wr.heap.size, 1, none⟩ = some (.int .i64 x) ∧ w'.cell? ⟨wr.heap.size, 2, none⟩ = some (.int .i64 y)) (first | exact ⟨hB_0, hB_1, hB_2, hB_3, hX_0, hX_1, hX_2⟩ | go_keep) (first | (go_at_call 55; refine (spec_ciInputs _ _ _ _ _ _ _ _ _ (by omega) (by omega) (by omega) (by omega)).mono ?_; rintro e w1 ⟨rfl, hb1⟩; replace hW := (by first | exact hW.call hb1 | exact hW.drew.call hb1 | exact (hW.alloc _).call hb1 | exact (hW.alloc _).drew.call hb1 | exact (hW.drewN _).call hb1 | exact (hW.drew.alloc _).call hb1 | exact ((hW.alloc _).alloc _).call hb1 | exact ((hW.alloc _).alloc _).drew.call hb1 | exact (((hW.alloc _).alloc _).alloc _).call hb1); replace hB := (by first | exact hB.keep hb1 | exact hB.drew.keep hb1 | exact (hB.alloc _).keep hb1 | exact (hB.alloc _).drew.keep hb1 | exact (hB.drewN _).keep hb1 | exact (hB.drew.alloc _).keep hb1 | exact ((hB.alloc _).alloc _).keep hb1 | exact ((hB.alloc _).alloc _).drew.keep hb1 | exact (((hB.alloc _).alloc _).alloc _).keep hb1); replace hX := (by first | exact hX.keep hb1 | exact hX.drew.keep hb1 | exact (hX.alloc _).keep hb1 | exact (hX.alloc _).drew.keep hb1 | exact (hX.drewN _).keep hb1 | exact (hX.drew.alloc _).keep hb1 | exact ((hX.alloc _).alloc _).keep hb1 | exact ((hX.alloc _).alloc _).drew.keep hb1 | exact (((hX.alloc _).alloc _).alloc _).keep hb1); clear hB_l hB_0 hB_1 hB_2 hB_3 hX_l hX_0 hX_1 hX_2; have hB_l := hB.lt; have hB_0 := hB.cell 0 _ rfl; have hB_1 := hB.cell 1 _ rfl; have hB_2 := hB.cell 2 _ rfl; have hB_3 := hB.cell 3 _ rfl; have hX_l := hX.lt; have hX_0 := hX.cell 0 _ rfl; have hX_1 := hX.cell 1 _ rfl; have hX_2 := hX.cell 2 _ rfl) | (go_at_call 102; refine (spec_ciGate _ _ _ _ _ (by omega) (by omega)).mono ?_; rintro e w1 ⟨rfl, hb2⟩; replace hW := (by first | exact hW.call hb2 | exact hW.drew.call hb2 | exact (hW.alloc _).call hb2 | exact (hW.alloc _).drew.call hb2 | exact (hW.drewN _).call hb2 | exact (hW.drew.alloc _).call hb2 | exact ((hW.alloc _).alloc _).call hb2 | exact ((hW.alloc _).alloc _).drew.call hb2 | exact (((hW.alloc _).alloc _).alloc _).call hb2); replace hB := (by first | exact hB.keep hb2 | exact hB.drew.keep hb2 | exact (hB.alloc _).keep hb2 | exact (hB.alloc _).drew.keep hb2 | exact (hB.drewN _).keep hb2 | exact (hB.drew.alloc _).keep hb2 | exact ((hB.alloc _).alloc _).keep hb2 | exact ((hB.alloc _).alloc _).drew.keep hb2 | exact (((hB.alloc _).alloc _).alloc _).keep hb2); replace hX := (by first | exact hX.keep hb2 | exact hX.drew.keep hb2 | exact (hX.alloc _).keep hb2 | exact (hX.alloc _).drew.keep hb2 | exact (hX.drewN _).keep hb2 | exact (hX.drew.alloc _).keep hb2 | exact ((hX.alloc _).alloc _).keep hb2 | exact ((hX.alloc _).alloc _).drew.keep hb2 | exact (((hX.alloc _).alloc _).alloc _).keep hb2); clear hB_l hB_0 hB_1 hB_2 hB_3 hX_l hX_0 hX_1 hX_2; have hB_l := hB.lt; have hB_0 := hB.cell 0 _ rfl; have hB_1 := hB.cell 1 _ rfl; have hB_2 := hB.cell 2 _ rfl; have hB_3 := hB.cell 3 _ rfl; have hX_l := hX.lt; have hX_0 := hX.cell 0 _ rfl; have hX_1 := hX.cell 1 _ rfl; have hX_2 := hX.cell 2 _ rfl; rw [hgd]))
        go_wp2
        go_ret
        exact ⟨by rw [hR.out]; rfl, hW⟩
      · have hst := Lib.hid (show ∀ (i : Nat) (g : Gt), i < k + 1 → gl[i]? = some g → goodG (a + b + i) g = true from fun i g hi h => by
          rcases Nat.lt_or_ge i k with h1 | h1
          · exact hq.out i g h1 h
          · have he : i = k := by omega
            subst he
            rw [HX.out] at h
            injection h with h
            subst h
            exact hgd)
        go_region_held3 (fun w' => w'.cell? ⟨w.heap.size, 0, none⟩ = some (.int .i64 a) ∧ w'.cell? ⟨w.heap.size, 1, none⟩ = some (.int .i64 b) ∧ w'.cell? ⟨w.heap.size, 2, none⟩ = some (.slice (some ad) n cg) ∧ w'.cell? ⟨w.heap.size, 3, none⟩ = some (.slice Ao m co) ∧ w'.cell? ⟨wr.heap.size, 0, none⟩ = some (.int .i64 K) ∧ w'.cell? ⟨wr.heap.size, 1, none⟩ = some (.int .i64 x) ∧ w'.cell? ⟨wr.heap.size, 2, none⟩ = some (.int .i64 y)) (first | exact ⟨hB_0, hB_1, hB_2, hB_3, hX_0, hX_1, hX_2⟩ | go_keep) (first | (go_at_call 55; refine (spec_ciInputs _ _ _ _ _ _ _ _ _ (by omega) (by omega) (by omega) (by omega)).mono ?_; rintro e w1 ⟨rfl, hb1⟩; replace hW := (by first | exact hW.call hb1 | exact hW.drew.call hb1 | exact (hW.alloc _).call hb1 | exact (hW.alloc _).drew.call hb1 | exact (hW.drewN _).call hb1 | exact (hW.drew.alloc _).call hb1 | exact ((hW.alloc _).alloc _).call hb1 | exact ((hW.alloc _).alloc _).drew.call hb1 | exact (((hW.alloc _).alloc _).alloc _).call hb1); replace hB := (by first | exact hB.keep hb1 | exact hB.drew.keep hb1 | exact (hB.alloc _).keep hb1 | exact (hB.alloc _).drew.keep hb1 | exact (hB.drewN _).keep hb1 | exact (hB.drew.alloc _).keep hb1 | exact ((hB.alloc _).alloc _).keep hb1 | exact ((hB.alloc _).alloc _).drew.keep hb1 | exact (((hB.alloc _).alloc _).alloc _).keep hb1); replace hX := (by first | exact hX.keep hb1 | exact hX.drew.keep hb1 | exact (hX.alloc _).keep hb1 | exact (hX.alloc _).drew.keep hb1 | exact (hX.drewN _).keep hb1 | exact (hX.drew.alloc _).keep hb1 | exact ((hX.alloc _).alloc _).keep hb1 | exact ((hX.alloc _).alloc _).drew.keep hb1 | exact (((hX.alloc _).alloc _).alloc _).keep hb1); clear hB_l hB_0 hB_1 hB_2 hB_3 hX_l hX_0 hX_1 hX_2; have hB_l := hB.lt; have hB_0 := hB.cell 0 _ rfl; have hB_1 := hB.cell 1 _ rfl; have hB_2 := hB.cell 2 _ rfl; have hB_3 := hB.cell 3 _ rfl; have hX_l := hX.lt; have hX_0 := hX.cell 0 _ rfl; have hX_1 := hX.cell 1 _ rfl; have hX_2 := hX.cell 2 _ rfl) | (go_at_call 102; refine (spec_ciGate _ _ _ _ _ (by omega) (by omega)).mono ?_; rintro e w1 ⟨rfl, hb2⟩; replace hW := (by first | exact hW.call hb2 | exact hW.drew.call hb2 | exact (hW.alloc _).call hb2 | exact (hW.alloc _).drew.call hb2 | exact (hW.drewN _).call hb2 | exact (hW.drew.alloc _).call hb2 | exact ((hW.alloc _).alloc _).call hb2 | exact ((hW.alloc _).alloc _).drew.call hb2 | exact (((hW.alloc _).alloc _).alloc _).call hb2); replace hB := (by first | exact hB.keep hb2 | exact hB.drew.keep hb2 | exact (hB.alloc _).keep hb2 | exact (hB.alloc _).drew.keep hb2 | exact (hB.drewN _).keep hb2 | exact (hB.drew.alloc _).keep hb2 | exact ((hB.alloc _).alloc _).keep hb2 | exact ((hB.alloc _).alloc _).drew.keep hb2 | exact (((hB.alloc _).alloc _).alloc _).keep hb2); replace hX := (by first | exact hX.keep hb2 | exact hX.drew.keep hb2 | exact (hX.alloc _).keep hb2 | exact (hX.alloc _).drew.keep hb2 | exact (hX.drewN _).keep hb2 | exact (hX.drew.alloc _).keep hb2 | exact ((hX.alloc _).alloc _).keep hb2 | exact ((hX.alloc _).alloc _).drew.keep hb2 | exact (((hX.alloc _).alloc _).alloc _).keep hb2); clear hB_l hB_0 hB_1 hB_2 hB_3 hX_l hX_0 hX_1 hX_2; have hB_l := hB.lt; have hB_0 := hB.cell 0 _ rfl; have hB_1 := hB.cell 1 _ rfl; have hB_2 := hB.cell 2 _ rfl; have hB_3 := hB.cell 3 _ rfl; have hX_l := hX.lt; have hX_0 := hX.cell 0 _ rfl; have hX_1 := hX.cell 1 _ rfl; have hX_2 := hX.cell 2 _ rfl; rw [hgd]))
        go_wp2
        go_roundw
        case rel => exact ⟨k + 1, by omega, by go_num, hst, hB, hW⟩
        case measure => simp [intOf]; omega
    · have he : k = n := by omega
      subst he
      have hR := Lib.hid (show goodC a b gl ol = allR ol 0 (a + b + k - 1) by
        unfold goodC
        rw [hH.out, goodGs_of (fun i g h => hq.out i g (by have := (List.getElem?_eq_some_iff.1 h).1; rw [hgl.out] at this; exact this) h), hgl.out]
        simp)
      have hws : IntKind.i64.wrap (a + b + (k : Int) - 1) = a + b + k - 1 := IntWalk.i64_in _ (by omega)
      go_wp2_with fail
      go_region_held3 (fun w' => w'.cell? ⟨w.heap.size, 0, none⟩ = some (.int .i64 a) ∧ w'.cell? ⟨w.heap.size, 1, none⟩ = some (.int .i64 b) ∧ w'.cell? ⟨w.heap.size, 2, none⟩ = some (.slice Ag k cg) ∧ w'.cell? ⟨w.heap.size, 3, none⟩ = some (.slice Ao m co)) (first | exact ⟨hB_0, hB_1, hB_2, hB_3⟩ | go_keep) (first | (go_at_call 104; refine (spec_ciWires _ _ _ _ _ _ _ _ _ (by omega) (by omega) (by omega) (by omega) (by omega)).mono ?_; rintro e w1 ⟨rfl, hb1⟩; replace hW := (by first | exact hW.call hb1 | exact hW.drew.call hb1 | exact (hW.alloc _).call hb1 | exact (hW.alloc _).drew.call hb1 | exact (hW.drewN _).call hb1 | exact (hW.drew.alloc _).call hb1 | exact ((hW.alloc _).alloc _).call hb1 | exact ((hW.alloc _).alloc _).drew.call hb1 | exact (((hW.alloc _).alloc _).alloc _).call hb1); replace hB := (by first | exact hB.keep hb1 | exact hB.drew.keep hb1 | exact (hB.alloc _).keep hb1 | exact (hB.alloc _).drew.keep hb1 | exact (hB.drewN _).keep hb1 | exact (hB.drew.alloc _).keep hb1 | exact ((hB.alloc _).alloc _).keep hb1 | exact ((hB.alloc _).alloc _).drew.keep hb1 | exact (((hB.alloc _).alloc _).alloc _).keep hb1); clear hB_l hB_0 hB_1 hB_2 hB_3; have hB_l := hB.lt; have hB_0 := hB.cell 0 _ rfl; have hB_1 := hB.cell 1 _ rfl; have hB_2 := hB.cell 2 _ rfl; have hB_3 := hB.cell 3 _ rfl) | (go_at_call 103; refine (spec_l1All Ao m co ol _ _ _ (ho.keep (by first | exact hW | exact hW.drew))).mono ?_; rintro e w2 ⟨rfl, rfl⟩))
      go_wp2
      go_ret
      exact ⟨by rw [hR.out]; rfl, hW⟩
end Go.Proofs.Ytlmlffiajgofeaa
