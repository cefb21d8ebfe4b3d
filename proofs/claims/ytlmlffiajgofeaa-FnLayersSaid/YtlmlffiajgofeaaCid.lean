/- Contracts of what a gate reads, and of the numbers of gates GtAnd on a way.
   Conditions: a valid circuit. -/
import Derived.Test.YtlmlffiajgofeaaCig
import Derived.Test.YtlmlffiajgofeaaMak
namespace Go.Proofs.Ytlmlffiajgofeaa
open Go.RowKit
set_option linter.unusedVariables false
theorem impl_parts (K x y : Int) (w : World) (hK : K = 0 ∨ K = 1 ∨ K = 2 ∨ K = 3) :
    Calls Try.prog 72 #[.agg #[.int .i64 K, .int .i64 x, .int .i64 y]] w fun e w' => ∃ A n c, e = .returned (.slice A n c) ∧ RdI w' A n c (partsL ⟨K, x, y⟩) ∧ n ≤ 2 ∧ Bl w w' := by
  rcases hK with rfl | rfl | rfl | rfl
  · go_enter Try.func72, Try.ntmps72
    go_wp2
    go_ret
    exact ⟨_, _, _, rfl, rd_new2 _ _ _ _, by omega, (by (repeat (first | assumption | with_reducible exact Bl.refl _ | with_reducible refine Bl.drewN ?_ _ | with_reducible refine Bl.drew ?_ | with_reducible refine Bl.alloc ?_ _ | (with_reducible refine Bl.call ?_ (by assumption)))))⟩
  · go_enter Try.func72, Try.ntmps72
    go_wp2
    go_ret
    exact ⟨_, _, _, rfl, rd_new2 _ _ _ _, by omega, (by (repeat (first | assumption | with_reducible exact Bl.refl _ | with_reducible refine Bl.drewN ?_ _ | with_reducible refine Bl.drew ?_ | with_reducible refine Bl.alloc ?_ _ | (with_reducible refine Bl.call ?_ (by assumption)))))⟩
  · go_enter Try.func72, Try.ntmps72
    go_wp2
    go_ret
    exact ⟨_, _, _, rfl, rd_new1 _ _ _, by omega, (by (repeat (first | assumption | with_reducible exact Bl.refl _ | with_reducible refine Bl.drewN ?_ _ | with_reducible refine Bl.drew ?_ | with_reducible refine Bl.alloc ?_ _ | (with_reducible refine Bl.call ?_ (by assumption)))))⟩
  · go_enter Try.func72, Try.ntmps72
    go_wp2
    go_ret
    exact ⟨none, 0, 0, rfl, RdI.nil _, by omega, (by (repeat (first | assumption | with_reducible exact Bl.refl _ | with_reducible refine Bl.drewN ?_ _ | with_reducible refine Bl.drew ?_ | with_reducible refine Bl.alloc ?_ _ | (with_reducible refine Bl.call ?_ (by assumption)))))⟩
theorem spec_ciParts (K x y : Int) (w : World) (hK : K = 0 ∨ K = 1 ∨ K = 2 ∨ K = 3) :
    Calls Try.prog 73 #[.agg #[.int .i64 K, .int .i64 x, .int .i64 y]] w fun e w' => ∃ A n c, e = .returned (.slice A n c) ∧ RdI w' A n c (partsL ⟨K, x, y⟩) ∧ n ≤ 2 ∧ Bl w w' := by
  rcases hK with rfl | rfl | rfl | rfl
  · go_enter Try.func73, Try.ntmps73
    go_wp2
    go_ret
    exact ⟨_, _, _, rfl, rd_new2 _ _ _ _, by omega, (by (repeat (first | assumption | with_reducible exact Bl.refl _ | with_reducible refine Bl.drewN ?_ _ | with_reducible refine Bl.drew ?_ | with_reducible refine Bl.alloc ?_ _ | (with_reducible refine Bl.call ?_ (by assumption)))))⟩
  · go_enter Try.func73, Try.ntmps73
    go_wp2
    go_ret
    exact ⟨_, _, _, rfl, rd_new2 _ _ _ _, by omega, (by (repeat (first | assumption | with_reducible exact Bl.refl _ | with_reducible refine Bl.drewN ?_ _ | with_reducible refine Bl.drew ?_ | with_reducible refine Bl.alloc ?_ _ | (with_reducible refine Bl.call ?_ (by assumption)))))⟩
  · go_enter Try.func73, Try.ntmps73
    go_wp2
    go_ret
    exact ⟨_, _, _, rfl, rd_new1 _ _ _, by omega, (by (repeat (first | assumption | with_reducible exact Bl.refl _ | with_reducible refine Bl.drewN ?_ _ | with_reducible refine Bl.drew ?_ | with_reducible refine Bl.alloc ?_ _ | (with_reducible refine Bl.call ?_ (by assumption)))))⟩
  · go_enter Try.func73, Try.ntmps73
    go_wp2
    go_ret
    exact ⟨none, 0, 0, rfl, RdI.nil _, by omega, (by (repeat (first | assumption | with_reducible exact Bl.refl _ | with_reducible refine Bl.drewN ?_ _ | with_reducible refine Bl.drew ?_ | with_reducible refine Bl.alloc ?_ _ | (with_reducible refine Bl.call ?_ (by assumption)))))⟩
/-- The greatest entry at places. -/
def depMax (L : List Int) (ps : List Int) : Int := ps.foldl (fun m x => max m (L[x.toNat]?.getD 0)) 0
theorem depMax_snoc (L ps : List Int) (x : Int) : depMax L (ps ++ [x]) = max (depMax L ps) (L[x.toNat]?.getD 0) := by simp [depMax, List.foldl_append]
theorem depMax_bd (L : List Int) (B : Int) (hB : 0 ≤ B) (hL : ∀ x ∈ L, 0 ≤ x ∧ x ≤ B) (ps : List Int) : 0 ≤ depMax L ps ∧ depMax L ps ≤ B := by
  unfold depMax
  suffices H : ∀ (ps : List Int) (m : Int), 0 ≤ m → m ≤ B → 0 ≤ ps.foldl (fun m x => max m (L[x.toNat]?.getD 0)) m ∧ ps.foldl (fun m x => max m (L[x.toNat]?.getD 0)) m ≤ B from H ps 0 (by omega) hB
  intro ps
  induction ps with
  | nil => intro m h1 h2; exact ⟨h1, h2⟩
  | cons x ps ih =>
    intro m h1 h2
    have hg : 0 ≤ L[x.toNat]?.getD 0 ∧ L[x.toNat]?.getD 0 ≤ B := by
      rcases h : L[x.toNat]? with _ | y
      · simp; exact hB
      · exact hL y (List.mem_of_getElem? h)
    exact ih (max m (L[x.toNat]?.getD 0)) (by omega) (by omega)
/-- The depth of a gate behind wires with these depths. -/
def depG (L : List Int) (g : Gt) : Int := depMax L (partsL g) + if g.k = 1 then 1 else 0
/-- The depths of the inputs and of k gates. -/
def adL (N : Nat) (gl : List Gt) : Nat → List Int
  | 0 => List.replicate N 0
  | k + 1 => adL N gl k ++ [depG (adL N gl k) (gl[k]?.getD Gt.zero)]
theorem adL_length (N : Nat) (gl : List Gt) (k : Nat) : (adL N gl k).length = N + k := by
  induction k with
  | zero => simp [adL]
  | succ k ih => simp [adL, ih]; omega
theorem adL_bd (N : Nat) (gl : List Gt) (k : Nat) : ∀ x ∈ adL N gl k, 0 ≤ x ∧ x ≤ k := by
  induction k with
  | zero => intro x hx; have := List.eq_of_mem_replicate hx; omega
  | succ k ih =>
    intro x hx
    simp only [adL, List.mem_append, List.mem_singleton] at hx
    rcases hx with hx | rfl
    · have := ih x hx; omega
    · have := depMax_bd (adL N gl k) k (by omega) ih (partsL (gl[k]?.getD Gt.zero))
      unfold depG
      split <;> omega
theorem mem_of_take {ps : List Int} {j : Nat} {x : Int} (hx : ps[j]? = some x) : x ∈ ps := List.mem_of_getElem? hx
theorem take_snoc {ps : List Int} {j : Nat} {x : Int} (hx : ps[j]? = some x) : ps.take (j + 1) = ps.take j ++ [x] := by rw [List.take_add_one, hx]; rfl
theorem spec_l1Most (x y : Int) (w : World) : Calls Try.prog 59 #[.int .i64 x, .int .i64 y] w fun e w' => e = .returned (.int .i64 (max x y)) ∧ w = w' := by
  by_cases h : y < x
  · have hm := Lib.hid (show max x y = x by omega)
    go_enter Try.func59, Try.ntmps59
    go_wp2
    go_ret
    exact ⟨by rw [hm.out]; rfl, rfl⟩
  · have hm := Lib.hid (show max x y = y by omega)
    go_enter Try.func59, Try.ntmps59
    go_wp2
    go_ret
    exact ⟨by rw [hm.out]; rfl, rfl⟩
set_option maxHeartbeats 4000000 in
theorem impl_andDepths (a b : Int) (Ag Ao : Option Addr) (n cg m co : Nat) (gl : List Gt) (ol : List Int) (w : World) (hg : RdG w Ag n cg gl) (hgood : goodC a b gl ol = true) :
    Calls Try.prog 51 #[.agg #[.int .i64 a, .int .i64 b, .slice Ag n cg, .slice Ao m co]] w fun e w' => ∃ A c, e = .returned (.slice A ((a + b).toNat + n) c) ∧ OwnI w.heap.size w' A ((a + b).toNat + n) c (adL (a + b).toNat gl n) ∧ Bl w w' := by
  obtain ⟨hle1, hle2⟩ := hg.le
  have hgl := Lib.hid hg.2
  obtain ⟨a0, a1, b0, b1, hn, _, hgs, _⟩ := goodC_facts hgood
  rw [hg.2] at hn
  have HGS := Lib.hid hgs
  clear hgood hgs
  obtain ⟨N0, hN0⟩ : ∃ N0 : Nat, a + b = N0 := ⟨(a + b).toNat, by omega⟩
  have hN40 : N0 ≤ 40 := by omega
  have HN := Lib.hid hN0
  rw [show (a + b).toNat = N0 by omega]
  have hW := (Bl.refl w).alloc (.cells #[.int .i64 a, .int .i64 b, .slice Ag n cg, .slice Ao m co] 26)
  have hB := Blk.new w 26 #[.int .i64 a, .int .i64 b, .slice Ag n cg, .slice Ao m co]
  have hmk := make_ints N0 (by omega)
  go_enter Try.func51, Try.ntmps51
  go_wp2_with (go_at_call 52; refine (impl_inputs _ _ _ _ _ _ _ _ _ (by omega) (by omega) (by omega) (by omega)).mono ?_; rintro e w1 ⟨rfl, hb1⟩; rw [HN.out]; replace hW := hW.call hb1; replace hB := hB.keep hb1; have k2 := hB.cell 2 _ rfl; have kl := hB.lt; have hown0 := own_zeros w1 N0 (by omega))
  replace hown0 := OwnI.mono hown0 hW.sz
  replace hB := hB.alloc (.cells (madeCells #[.int .i64 0] N0) 3)
  replace hW := hW.alloc (.cells (madeCells #[.int .i64 0] N0) 3)
  have hneA : w.heap.size < w1.heap.size := kl
  clear k2 kl
  go_loopw [3, 15] (fun s i wr => ∃ k A c, k ≤ n ∧ i = .int .i64 (k : Nat) ∧ s = .slice A (N0 + k) c ∧ OwnI (w.heap.size + 1) wr A (N0 + k) c (adL N0 gl k) ∧ Blk wr w.heap.size 26 #[.int .i64 a, .int .i64 b, .slice Ag n cg, .slice Ao m co] ∧ Bl w wr) (fun s i _ => n - (intOf i).toNat)
  case atStart => exact ⟨0, _, _, by omega, rfl, rfl, OwnI.mono (own_zeros w1 N0 (by omega)) (by omega), hB, hW⟩
  case round =>
    clear hmk hown0 hW hB
    obtain ⟨k, A, c, hk, rfl, rfl, hown, hB, hW⟩ := hrel
    have hne0 : A.map (·.block) ≠ some w.heap.size := by intro he; have := (hown.blk _ he).1; omega
    by_cases hlt : k < n
    · obtain ⟨ad, K, x, y, rfl, hx, q0, q1, q2⟩ := (hg.keep hW).at_ hlt
      have HX := Lib.hid hx
      clear hx
      have hgd := goodG_facts (goodGs_at HGS.out HX.out)
      rw [HN.out] at hgd
      have hK := hgd.1
      have hps := Lib.hid hgd.2
      clear hgd
      have ik : (k : Int) < n := by omega
      have hbd := Lib.hid (adL_bd N0 gl k)
      have hlen := Lib.hid (adL_length N0 gl k)
      obtain ⟨L, hL0⟩ : ∃ L, adL N0 gl k = L := ⟨_, rfl⟩
      have hL := Lib.hid hL0
      rw [hL0] at hown hbd hlen
      clear hL0
      go_wp2_with (go_at_call 72; refine (impl_parts K x y _ hK).mono ?_; rintro e w2 ⟨A2, n2, c2, rfl, hr2, hn2, hb2⟩; have hX := (Blk.new wr 57 #[.int .i64 K, .int .i64 x, .int .i64 y]).keep hb2; have x0 := hX.cell 0 _ rfl; have xl := hX.lt; replace hB := (hB.alloc _).keep hb2; replace hW := (hW.alloc _).call hb2; replace hown := (hown.alloc _).keep hb2)
      obtain ⟨ps, hps0⟩ : ∃ ps, partsL ⟨K, x, y⟩ = ps := ⟨_, rfl⟩
      have HP := Lib.hid hps0
      rw [hps0] at hps hr2
      clear hps0 hX
      have hpl := Lib.hid hr2.length
      obtain ⟨hlp1, hlp2⟩ := hr2.le
      go_loop [6, 22] (fun d i => ∃ j, j ≤ n2 ∧ i = .int .i64 (j : Nat) ∧ d = .int .i64 (depMax L (ps.take j))) (fun d i => n2 - (intOf i).toNat)
      case atStart => exact ⟨0, by omega, rfl, rfl⟩
      case round =>
        obtain ⟨j, hj, rfl, rfl⟩ := hrel
        by_cases hlt2 : j < n2
        · obtain ⟨ad2, z, rfl, hadb2, hz, hcz⟩ := hr2.at_ hlt2
          have HZ := Lib.hid hz
          have hzb := hps.out z (List.mem_of_getElem? hz)
          clear hz
          obtain ⟨Z, rfl⟩ : ∃ Z : Nat, z = Z := ⟨z.toNat, by omega⟩
          have hZl : Z < N0 + k := by omega
          obtain ⟨ad3, v, rfl, hadb3, hv, hcv⟩ := hown.rd.at_ hZl
          have hst2 := Lib.hid (show depMax L (ps.take (j + 1)) = max (depMax L (ps.take j)) v by rw [take_snoc HZ.out, depMax_snoc, Int.toNat_natCast, hv]; rfl)
          have d0 := depMax_bd L k (by omega) hbd.out (ps.take j)
          have ij : (j : Int) < n2 := by omega
          have iz : (Z : Int) < ((N0 + k : Nat) : Int) := by omega
          clear hv
          go_wp2
          go_round
          case rel => exact ⟨j + 1, by omega, by go_num, by first | (rw [hst2.out]; done) | (rw [hst2.out]; go_num)⟩
          case measure => simp [intOf]; omega
        · have he : j = n2 := by omega
          have hE := Lib.hid (show depMax L (ps.take j) = depMax L ps by rw [List.take_of_length_le (by rw [hpl.out]; omega)])
          have d0 := depMax_bd L k (by omega) hbd.out ps
          rw [hE.out]
          have hD := Lib.hid (show depMax (adL N0 gl k) (partsL ⟨K, x, y⟩) = depMax L ps by rw [hL.out, HP.out])
          obtain ⟨D, hD1⟩ : ∃ D, depMax L ps = D := ⟨_, rfl⟩
          rw [hD1] at hD d0 ⊢
          clear hE hD1
          subst he
          rcases hk1 : (K == 1)
          · have hst := Lib.hid (show adL N0 gl (k + 1) = adL N0 gl k ++ [depMax (adL N0 gl k) (partsL ⟨K, x, y⟩)] by
              have hne : ¬ K = 1 := by simpa using hk1
              simp only [adL, HX.out, Option.getD_some, depG, if_neg hne, Int.add_zero])
            go_wp2_with (first | (at_builtin; refine ap_int rfl rfl rfl (hown.alloc _) rfl (rd_new1 _ _ _) (by omega) (by have := hW.sz; simp; omega) ?_; intro A3 c3 w3 hown3 hg3 hat3) | (go_at_call 101; refine (impl_bit _ _).mono ?_; rintro e w' ⟨rfl, rfl⟩))
            go_roundw
            case rel => exact ⟨k + 1, A3, c3, by omega, by go_num, rfl, by rw [hst.out, hD.out, hL.out]; exact hown3, Blk.grown (hB.alloc _) hg3 (by intro he; exact hne0 he.symm), Bl.grown (hW.alloc _) hg3 (fun q hq => Nat.le_of_succ_le (hown.blk q hq).1)⟩
            case measure => simp [intOf]; omega
          · have hst := Lib.hid (show adL N0 gl (k + 1) = adL N0 gl k ++ [depMax (adL N0 gl k) (partsL ⟨K, x, y⟩) + 1] by
              have hne : K = 1 := by simpa using hk1
              simp only [adL, HX.out, Option.getD_some, depG, if_pos hne])
            go_wp2_with (first | (at_builtin; refine ap_int rfl rfl rfl (hown.alloc _) rfl (rd_new1 _ _ _) (by omega) (by have := hW.sz; simp; omega) ?_; intro A3 c3 w3 hown3 hg3 hat3) | (go_at_call 101; refine (impl_bit _ _).mono ?_; rintro e w' ⟨rfl, rfl⟩))
            go_roundw
            case rel => exact ⟨k + 1, A3, c3, by omega, by go_num, rfl, by rw [hst.out, hD.out, hL.out]; exact hown3, Blk.grown (hB.alloc _) hg3 (by intro he; exact hne0 he.symm), Bl.grown (hW.alloc _) hg3 (fun q hq => Nat.le_of_succ_le (hown.blk q hq).1)⟩
            case measure => simp [intOf]; omega
    · have he : k = n := by omega
      subst he
      go_wp2
      go_ret
      exact ⟨A, c, rfl, OwnI.mono hown (by omega), hW⟩
set_option maxHeartbeats 4000000 in
theorem spec_sbRounds (a b : Int) (Ag Ao : Option Addr) (n cg m co : Nat) (gl : List Gt) (ol : List Int) (w : World) (hg : RdG w Ag n cg gl) (hgood : goodC a b gl ol = true) :
    Calls Try.prog 54 #[.agg #[.int .i64 a, .int .i64 b, .slice Ag n cg, .slice Ao m co]] w fun e w' => ∃ A c, e = .returned (.slice A ((a + b).toNat + n) c) ∧ OwnI w.heap.size w' A ((a + b).toNat + n) c (adL (a + b).toNat gl n) ∧ Bl w w' := by
  obtain ⟨hle1, hle2⟩ := hg.le
  have hgl := Lib.hid hg.2
  obtain ⟨a0, a1, b0, b1, hn, _, hgs, _⟩ := goodC_facts hgood
  rw [hg.2] at hn
  have HGS := Lib.hid hgs
  clear hgood hgs
  obtain ⟨N0, hN0⟩ : ∃ N0 : Nat, a + b = N0 := ⟨(a + b).toNat, by omega⟩
  have hN40 : N0 ≤ 40 := by omega
  have HN := Lib.hid hN0
  rw [show (a + b).toNat = N0 by omega]
  have hW := (Bl.refl w).alloc (.cells #[.int .i64 a, .int .i64 b, .slice Ag n cg, .slice Ao m co] 26)
  have hB := Blk.new w 26 #[.int .i64 a, .int .i64 b, .slice Ag n cg, .slice Ao m co]
  have hmk := make_ints N0 (by omega)
  go_enter Try.func54, Try.ntmps54
  go_wp2_with (go_at_call 55; refine (spec_ciInputs _ _ _ _ _ _ _ _ _ (by omega) (by omega) (by omega) (by omega)).mono ?_; rintro e w1 ⟨rfl, hb1⟩; rw [HN.out]; replace hW := hW.call hb1; replace hB := hB.keep hb1; have k2 := hB.cell 2 _ rfl; have kl := hB.lt; have hown0 := own_zeros w1 N0 (by omega))
  replace hown0 := OwnI.mono hown0 hW.sz
  replace hB := hB.alloc (.cells (madeCells #[.int .i64 0] N0) 3)
  replace hW := hW.alloc (.cells (madeCells #[.int .i64 0] N0) 3)
  have hneA : w.heap.size < w1.heap.size := kl
  clear k2 kl
  go_loopw [3, 15] (fun s i wr => ∃ k A c, k ≤ n ∧ i = .int .i64 (k : Nat) ∧ s = .slice A (N0 + k) c ∧ OwnI (w.heap.size + 1) wr A (N0 + k) c (adL N0 gl k) ∧ Blk wr w.heap.size 26 #[.int .i64 a, .int .i64 b, .slice Ag n cg, .slice Ao m co] ∧ Bl w wr) (fun s i _ => n - (intOf i).toNat)
  case atStart => exact ⟨0, _, _, by omega, rfl, rfl, OwnI.mono (own_zeros w1 N0 (by omega)) (by omega), hB, hW⟩
  case round =>
    clear hmk hown0 hW hB
    obtain ⟨k, A, c, hk, rfl, rfl, hown, hB, hW⟩ := hrel
    have hne0 : A.map (·.block) ≠ some w.heap.size := by intro he; have := (hown.blk _ he).1; omega
    by_cases hlt : k < n
    · obtain ⟨ad, K, x, y, rfl, hx, q0, q1, q2⟩ := (hg.keep hW).at_ hlt
      have HX := Lib.hid hx
      clear hx
      have hgd := goodG_facts (goodGs_at HGS.out HX.out)
      rw [HN.out] at hgd
      have hK := hgd.1
      have hps := Lib.hid hgd.2
      clear hgd
      have ik : (k : Int) < n := by omega
      have hbd := Lib.hid (adL_bd N0 gl k)
      have hlen := Lib.hid (adL_length N0 gl k)
      obtain ⟨L, hL0⟩ : ∃ L, adL N0 gl k = L := ⟨_, rfl⟩
      have hL := Lib.hid hL0
      rw [hL0] at hown hbd hlen
      clear hL0
      go_wp2_with (go_at_call 73; refine (spec_ciParts K x y _ hK).mono ?_; rintro e w2 ⟨A2, n2, c2, rfl, hr2, hn2, hb2⟩; have hX := (Blk.new wr 57 #[.int .i64 K, .int .i64 x, .int .i64 y]).keep hb2; have x0 := hX.cell 0 _ rfl; have xl := hX.lt; replace hB := (hB.alloc _).keep hb2; replace hW := (hW.alloc _).call hb2; replace hown := (hown.alloc _).keep hb2)
      obtain ⟨ps, hps0⟩ : ∃ ps, partsL ⟨K, x, y⟩ = ps := ⟨_, rfl⟩
      have HP := Lib.hid hps0
      rw [hps0] at hps hr2
      clear hps0 hX
      have hpl := Lib.hid hr2.length
      obtain ⟨hlp1, hlp2⟩ := hr2.le
      go_loop [6, 22] (fun d i => ∃ j, j ≤ n2 ∧ i = .int .i64 (j : Nat) ∧ d = .int .i64 (depMax L (ps.take j))) (fun d i => n2 - (intOf i).toNat)
      case atStart => exact ⟨0, by omega, rfl, rfl⟩
      case round =>
        obtain ⟨j, hj, rfl, rfl⟩ := hrel
        by_cases hlt2 : j < n2
        · obtain ⟨ad2, z, rfl, hadb2, hz, hcz⟩ := hr2.at_ hlt2
          have HZ := Lib.hid hz
          have hzb := hps.out z (List.mem_of_getElem? hz)
          clear hz
          obtain ⟨Z, rfl⟩ : ∃ Z : Nat, z = Z := ⟨z.toNat, by omega⟩
          have hZl : Z < N0 + k := by omega
          obtain ⟨ad3, v, rfl, hadb3, hv, hcv⟩ := hown.rd.at_ hZl
          have hst2 := Lib.hid (show depMax L (ps.take (j + 1)) = max (depMax L (ps.take j)) v by rw [take_snoc HZ.out, depMax_snoc, Int.toNat_natCast, hv]; rfl)
          have d0 := depMax_bd L k (by omega) hbd.out (ps.take j)
          have ij : (j : Int) < n2 := by omega
          have iz : (Z : Int) < ((N0 + k : Nat) : Int) := by omega
          clear hv
          go_wp2_with (go_at_call 59; refine (spec_l1Most _ _ _).mono ?_; rintro e w' ⟨rfl, rfl⟩)
          go_round
          case rel => exact ⟨j + 1, by omega, by go_num, by first | (rw [hst2.out]; done) | (rw [hst2.out]; go_num)⟩
          case measure => simp [intOf]; omega
        · have he : j = n2 := by omega
          have hE := Lib.hid (show depMax L (ps.take j) = depMax L ps by rw [List.take_of_length_le (by rw [hpl.out]; omega)])
          have d0 := depMax_bd L k (by omega) hbd.out ps
          rw [hE.out]
          have hD := Lib.hid (show depMax (adL N0 gl k) (partsL ⟨K, x, y⟩) = depMax L ps by rw [hL.out, HP.out])
          obtain ⟨D, hD1⟩ : ∃ D, depMax L ps = D := ⟨_, rfl⟩
          rw [hD1] at hD d0 ⊢
          clear hE hD1
          subst he
          rcases hk1 : (K == 1)
          · have hst := Lib.hid (show adL N0 gl (k + 1) = adL N0 gl k ++ [depMax (adL N0 gl k) (partsL ⟨K, x, y⟩)] by
              have hne : ¬ K = 1 := by simpa using hk1
              simp only [adL, HX.out, Option.getD_some, depG, if_neg hne, Int.add_zero])
            go_wp2_with (first | (at_builtin; refine ap_int rfl rfl rfl (hown.alloc _) rfl (rd_new1 _ _ _) (by omega) (by have := hW.sz; simp; omega) ?_; intro A3 c3 w3 hown3 hg3 hat3))
            go_roundw
            case rel => exact ⟨k + 1, A3, c3, by omega, by go_num, rfl, by rw [hst.out, hD.out, hL.out]; exact hown3, Blk.grown (hB.alloc _) hg3 (by intro he; exact hne0 he.symm), Bl.grown (hW.alloc _) hg3 (fun q hq => Nat.le_of_succ_le (hown.blk q hq).1)⟩
            case measure => simp [intOf]; omega
          · have hst := Lib.hid (show adL N0 gl (k + 1) = adL N0 gl k ++ [depMax (adL N0 gl k) (partsL ⟨K, x, y⟩) + 1] by
              have hne : K = 1 := by simpa using hk1
              simp only [adL, HX.out, Option.getD_some, depG, if_pos hne])
            go_wp2_with (first | (at_builtin; refine ap_int rfl rfl rfl (hown.alloc _) rfl (rd_new1 _ _ _) (by omega) (by have := hW.sz; simp; omega) ?_; intro A3 c3 w3 hown3 hg3 hat3))
            go_roundw
            case rel => exact ⟨k + 1, A3, c3, by omega, by go_num, rfl, by rw [hst.out, hD.out, hL.out]; exact hown3, Blk.grown (hB.alloc _) hg3 (by intro he; exact hne0 he.symm), Bl.grown (hW.alloc _) hg3 (fun q hq => Nat.le_of_succ_le (hown.blk q hq).1)⟩
            case measure => simp [intOf]; omega
    · have he : k = n := by omega
      subst he
      go_wp2
      go_ret
      exact ⟨A, c, rfl, OwnI.mono hown (by omega), hW⟩
end Go.Proofs.Ytlmlffiajgofeaa
