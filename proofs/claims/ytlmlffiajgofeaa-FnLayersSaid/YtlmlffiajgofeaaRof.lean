/- Contracts of RoundsOf, and the walk of its law.
   Conditions: none. -/
import Derived.Test.YtlmlffiajgofeaaCid
import Derived.Test.YtlmlffiajgofeaaCil
namespace Go.Proofs.Ytlmlffiajgofeaa
open Go.RowKit
set_option linter.unusedVariables false
theorem ne_of_le_lt {A : Option Addr} {b : Nat} {B : Option Addr} (h1 : ∀ k, A.map (·.block) = some k → b ≤ k) (h2 : ∀ k, B.map (·.block) = some k → k < b) : ∀ a, A = some a → some a.block ≠ B.map (·.block) := by
  rintro a rfl he
  have e1 := h1 a.block rfl
  have e2 := h2 a.block he.symm
  omega
/-- Two blocks stay apart where one of them grows. -/
theorem apart_grow {A A' A2 : Option Addr} {w : World} (hat : A'.map (·.block) = A.map (·.block) ∨ A'.map (·.block) = some w.heap.size) (h2 : ∀ k, A2.map (·.block) = some k → k < w.heap.size)
    (hap : ∀ a, A2 = some a → some a.block ≠ A.map (·.block)) : ∀ a, A2 = some a → some a.block ≠ A'.map (·.block) := by
  rintro a rfl he
  rcases hat with h | h
  · rw [h] at he; exact hap a rfl he
  · rw [h] at he
    injection he with he
    have := h2 a.block rfl
    omega
/-- The depths of the gates GtAnd among k gates. -/
def roL (N : Nat) (L : List Int) (gl : List Gt) : Nat → List Int
  | 0 => []
  | k + 1 => roL N L gl k ++ if (gl[k]?.getD Gt.zero).k = 1 then [L[N + k]?.getD 0] else []
theorem roL_y {N : Nat} {L : List Int} {gl : List Gt} {k : Nat} {x y v : Int} (h : gl[k]? = some ⟨1, x, y⟩) (hv : L[N + k]? = some v) : roL N L gl (k + 1) = roL N L gl k ++ [v] := by simp [roL, h, hv]
theorem roL_n {N : Nat} {L : List Int} {gl : List Gt} {k : Nat} {K x y : Int} (h : gl[k]? = some ⟨K, x, y⟩) (hk : (K == 1) = false) : roL N L gl (k + 1) = roL N L gl k := by
  have hk : ¬ K = 1 := by simpa using hk
  simp [roL, h, hk]
theorem roL_len (N : Nat) (L : List Int) (gl : List Gt) (k : Nat) : (roL N L gl k).length ≤ k := by
  induction k with
  | zero => simp [roL]
  | succ k ih => simp only [roL, List.length_append]; split <;> simp <;> omega
def roR (a b : Int) (gl : List Gt) (ol : List Int) : List Int := if goodC a b gl ol then roL (a + b).toNat (adL (a + b).toNat gl gl.length) gl gl.length else []
theorem roR_len (a b : Int) (gl : List Gt) (ol : List Int) : (roR a b gl ol).length ≤ 1000000000 := by
  unfold roR; split
  · rename_i h
    have := (goodC_facts h).2.2.2.2.1
    have := roL_len (a + b).toNat (adL (a + b).toNat gl gl.length) gl gl.length
    omega
  · simp
set_option maxHeartbeats 4000000 in
theorem impl_RoundsOf (a b : Int) (Ag Ao : Option Addr) (n cg m co : Nat) (gl : List Gt) (ol : List Int) (w : World) (hg : RdG w Ag n cg gl) (ho : RdI w Ao m co ol) :
    Calls Try.prog 7 #[.agg #[.int .i64 a, .int .i64 b, .slice Ag n cg, .slice Ao m co]] w fun e w' => ∃ A' n' c', e = .returned (.tuple #[.slice A' n' c', .bool (goodC a b gl ol)]) ∧ OwnI w.heap.size w' A' n' c' (roR a b gl ol) ∧ Bl w w' := by
  have hW := (Bl.refl w).alloc (.cells #[.int .i64 a, .int .i64 b, .slice Ag n cg, .slice Ao m co] 26)
  have hB := Blk.new w 26 #[.int .i64 a, .int .i64 b, .slice Ag n cg, .slice Ao m co]
  have hG := Lib.hid (impl_IsCircuit a b Ag Ao n cg m co gl ol (w.alloc (.cells #[.int .i64 a, .int .i64 b, .slice Ag n cg, .slice Ao m co] 26)) (hg.keep hW) (ho.keep hW))
  rcases hgd : goodC a b gl ol
  · rw [hgd] at hG
    have hR := Lib.hid (show roR a b gl ol = [] by simp [roR, hgd])
    go_enter Try.func7, Try.ntmps7
    go_wp2_with (go_at_call 50; refine hG.out.mono ?_; rintro e w1 ⟨rfl, hb1⟩)
    go_ret2
    exact ⟨none, 0, 0, rfl, by rw [hR.out]; exact OwnI.nil _ _, (by (repeat (first | assumption | with_reducible exact Bl.refl _ | with_reducible refine Bl.drewN ?_ _ | with_reducible refine Bl.drew ?_ | with_reducible refine Bl.alloc ?_ _ | (with_reducible refine Bl.call ?_ (by assumption)))))⟩
  · rw [hgd] at hG
    have hgl := Lib.hid hg.2
    obtain ⟨hle1, hle2⟩ := hg.le
    obtain ⟨a0, a1, b0, b1, hn, _, _, _⟩ := goodC_facts hgd
    rw [hg.2] at hn
    have HGD := Lib.hid hgd
    have hR := Lib.hid (show roR a b gl ol = roL (a + b).toNat (adL (a + b).toNat gl n) gl n by rw [roR, hgd, hg.2]; rfl)
    clear hgd
    obtain ⟨N0, hN0⟩ : ∃ N0 : Nat, a + b = N0 := ⟨(a + b).toNat, by omega⟩
    have HN := Lib.hid hN0
    have hT : (a + b).toNat = N0 := by omega
    have HAD := fun W (hW : Bl w W) => Lib.hid (impl_andDepths a b Ag Ao n cg m co gl ol W (hg.keep hW) HGD.out)
    rw [hT] at hR HAD
    clear hT
    have hlA := Lib.hid (adL_length N0 gl n)
    generalize adL N0 gl n = L at *
    go_enter Try.func7, Try.ntmps7
    go_wp2_with (first | (go_at_call 50; refine hG.out.mono ?_; rintro e w1 ⟨rfl, hb1⟩; replace hB := hB.keep hb1; replace hW := hW.call hb1; have hB_l := hB.lt; have hB_0 := hB.cell 0 _ rfl; have hB_1 := hB.cell 1 _ rfl; have hB_2 := hB.cell 2 _ rfl; have hB_3 := hB.cell 3 _ rfl))
    refine (HAD _ (by (repeat (first | assumption | with_reducible exact Bl.refl _ | with_reducible refine Bl.drewN ?_ _ | with_reducible refine Bl.drew ?_ | with_reducible refine Bl.alloc ?_ _ | (with_reducible refine Bl.call ?_ (by assumption)))))).out.mono ?_
    rintro e w2 ⟨A2, c2, rfl, ho2, hb2⟩
    have hown0 : OwnI (w.heap.size + 1) w2 (some ⟨w1.heap.size, 0, none⟩) 0 0 (roL N0 L gl 0) := (OwnI.mono (own_made w1) (by omega)).keep hb2
    have hap0 : ∀ a, A2 = some a → some a.block ≠ (some (⟨w1.heap.size, 0, none⟩ : Addr)).map (·.block) := fun a ha he => by (subst ha; have := (ho2.blk a.block rfl).1; simp at this he; omega)
    replace hB := (hB.alloc _).keep hb2
    replace hW := (hW.alloc _).call hb2
    clear hB_l hB_2
    have hB_l := hB.lt; have hB_2 := hB.cell 2 _ rfl
    go_wp2
    have h2b := ho2.blk
    have hr2 := ho2.rd
    clear ho2 HAD hG
    go_loopw [4, 17] (fun s i wr => ∃ k A p c, k ≤ n ∧ p ≤ k ∧ i = .int .i64 (k : Nat) ∧ s = .slice A p c ∧ OwnI (w.heap.size + 1) wr A p c (roL N0 L gl k) ∧ RdI wr A2 (N0 + n) c2 L ∧ (∀ a, A2 = some a → some a.block ≠ A.map (·.block)) ∧ w2.heap.size ≤ wr.heap.size ∧ Blk wr w.heap.size 26 #[.int .i64 a, .int .i64 b, .slice Ag n cg, .slice Ao m co] ∧ Bl w wr) (fun s i _ => n - (intOf i).toNat)
    case atStart => exact ⟨0, _, 0, _, by omega, by omega, rfl, rfl, hown0, hr2, hap0, Nat.le_refl _, hB, hW⟩
    case round =>
      clear hW hr2 hB hap0 hown0 hB_2 hB_l
      obtain ⟨k, A, p, c, hk, hp, rfl, rfl, hown, hr2, hap, hsz, hB, hW⟩ := hrel
      have hne0 : A.map (·.block) ≠ some w.heap.size := by intro he; have := (hown.blk _ he).1; omega
      by_cases hlt : k < n
      · obtain ⟨ad, K, x, y, rfl, hx, q0, q1, q2⟩ := (hg.keep hW).at_ hlt
        have HX := Lib.hid hx
        clear hx
        have ik : (k : Int) < n := by omega
        obtain ⟨ad3, v, rfl, hadb3, hv, hcv⟩ := hr2.at_ (show N0 + k < N0 + n by omega)
        have HV := Lib.hid hv
        clear hv
        have hwn : IntKind.i64.wrap ((N0 : Int) + (k : Int)) = ((N0 + k : Nat) : Int) := by rw [IntWalk.i64_in _ (by omega)]; omega
        have iz : ((N0 + k : Nat) : Int) < ((N0 + n : Nat) : Int) := by omega
        have kB := hB.lt
        have kB0 := hB.cell 0 _ rfl
        have kB1 := hB.cell 1 _ rfl
        have kB2 := hB.cell 2 _ rfl
        have kB3 := hB.cell 3 _ rfl
        rcases hk1 : (K == 1)
        · have hst := Lib.hid (roL_n (N := N0) (L := L) HX.out hk1)
          go_wp2
          go_roundw
          case rel => exact ⟨k + 1, A, p, c, by omega, by omega, by go_num, rfl, by rw [hst.out]; exact hown.alloc _, hr2.keep (by (repeat (first | assumption | with_reducible exact Bl.refl _ | with_reducible refine Bl.drewN ?_ _ | with_reducible refine Bl.drew ?_ | with_reducible refine Bl.alloc ?_ _ | (with_reducible refine Bl.call ?_ (by assumption))))), hap, Nat.le_trans hsz (Bl.sz (by (repeat (first | assumption | with_reducible exact Bl.refl _ | with_reducible refine Bl.drewN ?_ _ | with_reducible refine Bl.drew ?_ | with_reducible refine Bl.alloc ?_ _ | (with_reducible refine Bl.call ?_ (by assumption)))))), hB.alloc _, hW.alloc _⟩
          case measure => simp [intOf]; omega
        · obtain rfl : K = 1 := by simpa using hk1
          have hst := Lib.hid (roL_y (N := N0) (L := L) HX.out HV.out)
          go_wp2_with (first | (go_at_call 52; refine (impl_inputs _ _ _ _ _ _ _ _ _ (by omega) (by omega) (by omega) (by omega)).mono ?_; rintro e w3 ⟨rfl, hb3⟩; rw [HN.out]; replace hB := (hB.alloc _).keep hb3; replace hW := (hW.alloc _).call hb3; replace hown := (hown.alloc _).keep hb3; have hcv3 := hb3.cells (((Bl.refl wr).alloc (.cells #[.int .i64 1, .int .i64 x, .int .i64 y] 57)).cells hcv); have hadb4 : ad3.block < w3.heap.size := Nat.lt_of_lt_of_le hadb3 ((Bl.refl wr).alloc (.cells #[.int .i64 1, .int .i64 x, .int .i64 y] 57) |>.call hb3 |>.sz); replace hr2 := (hr2.keep ((Bl.refl wr).alloc _)).keep hb3; replace hsz := Nat.le_trans hsz ((Bl.refl wr).alloc (.cells #[.int .i64 1, .int .i64 x, .int .i64 y] 57) |>.call hb3 |>.sz)) | (at_builtin; refine ap_int rfl rfl rfl (hown.alloc _) rfl (rd_new1 _ _ _) (by omega) (by have := hW.sz; have := kB; simp; omega) ?_; intro A3 c3 w4 hown3 hg3 hat3))
          go_roundw
          case rel => exact ⟨k + 1, A3, p + 1, c3, by omega, by omega, by go_num, rfl, by rw [hst.out]; exact hown3, (hr2.keep ((Bl.refl w3).alloc _)).grown hg3 hap, apart_grow hat3 (fun q hq => by have := (h2b q hq).2; simp; omega) hap, Nat.le_trans hsz (Nat.le_trans (Bl.sz (Bl.alloc (Bl.refl w3) _)) hg3.size), Blk.grown (hB.alloc _) hg3 (by intro he; exact hne0 he.symm), Bl.grown (hW.alloc _) hg3 (fun q hq => Nat.le_of_succ_le (hown.blk q hq).1)⟩
          case measure => simp [intOf]; omega
      · have he : k = n := by omega
        subst he
        go_wp2
        go_ret2
        exact ⟨A, p, c, rfl, by rw [hR.out]; exact OwnI.mono hown (by omega), hW⟩
set_option maxHeartbeats 4000000 in
theorem spec_RoundsOf (a b : Int) (Ag Ao : Option Addr) (n cg m co : Nat) (gl : List Gt) (ol : List Int) (w : World) (hg : RdG w Ag n cg gl) (ho : RdI w Ao m co ol) :
    Calls Try.prog 8 #[.agg #[.int .i64 a, .int .i64 b, .slice Ag n cg, .slice Ao m co]] w fun e w' => ∃ A' n' c', e = .returned (.tuple #[.slice A' n' c', .bool (goodC a b gl ol)]) ∧ OwnI w.heap.size w' A' n' c' (roR a b gl ol) ∧ Bl w w' := by
  have hW := (Bl.refl w).alloc (.cells #[.int .i64 a, .int .i64 b, .slice Ag n cg, .slice Ao m co] 26)
  have hB := Blk.new w 26 #[.int .i64 a, .int .i64 b, .slice Ag n cg, .slice Ao m co]
  have hG := Lib.hid (spec_ciGood a b Ag Ao n cg m co gl ol (w.alloc (.cells #[.int .i64 a, .int .i64 b, .slice Ag n cg, .slice Ao m co] 26)) (hg.keep hW) (ho.keep hW))
  rcases hgd : goodC a b gl ol
  · rw [hgd] at hG
    have hR := Lib.hid (show roR a b gl ol = [] by simp [roR, hgd])
    go_enter Try.func8, Try.ntmps8
    go_wp2_with (go_at_call 53; refine hG.out.mono ?_; rintro e w1 ⟨rfl, hb1⟩)
    go_ret2
    exact ⟨none, 0, 0, rfl, by rw [hR.out]; exact OwnI.nil _ _, (by (repeat (first | assumption | with_reducible exact Bl.refl _ | with_reducible refine Bl.drewN ?_ _ | with_reducible refine Bl.drew ?_ | with_reducible refine Bl.alloc ?_ _ | (with_reducible refine Bl.call ?_ (by assumption)))))⟩
  · rw [hgd] at hG
    have hgl := Lib.hid hg.2
    obtain ⟨hle1, hle2⟩ := hg.le
    obtain ⟨a0, a1, b0, b1, hn, _, _, _⟩ := goodC_facts hgd
    rw [hg.2] at hn
    have HGD := Lib.hid hgd
    have hR := Lib.hid (show roR a b gl ol = roL (a + b).toNat (adL (a + b).toNat gl n) gl n by rw [roR, hgd, hg.2]; rfl)
    clear hgd
    obtain ⟨N0, hN0⟩ : ∃ N0 : Nat, a + b = N0 := ⟨(a + b).toNat, by omega⟩
    have HN := Lib.hid hN0
    have hT : (a + b).toNat = N0 := by omega
    have HAD := fun W (hW : Bl w W) => Lib.hid (spec_sbRounds a b Ag Ao n cg m co gl ol W (hg.keep hW) HGD.out)
    rw [hT] at hR HAD
    clear hT
    have hlA := Lib.hid (adL_length N0 gl n)
    generalize adL N0 gl n = L at *
    go_enter Try.func8, Try.ntmps8
    go_wp2_with (first | (go_at_call 53; refine hG.out.mono ?_; rintro e w1 ⟨rfl, hb1⟩; replace hB := hB.keep hb1; replace hW := hW.call hb1; have hB_l := hB.lt; have hB_0 := hB.cell 0 _ rfl; have hB_1 := hB.cell 1 _ rfl; have hB_2 := hB.cell 2 _ rfl; have hB_3 := hB.cell 3 _ rfl))
    refine (HAD _ (by (repeat (first | assumption | with_reducible exact Bl.refl _ | with_reducible refine Bl.drewN ?_ _ | with_reducible refine Bl.drew ?_ | with_reducible refine Bl.alloc ?_ _ | (with_reducible refine Bl.call ?_ (by assumption)))))).out.mono ?_
    rintro e w2 ⟨A2, c2, rfl, ho2, hb2⟩
    have hown0 : OwnI (w.heap.size + 1) w2 none 0 0 (roL N0 L gl 0) := OwnI.nil _ _
    have hap0 : ∀ a, A2 = some a → some a.block ≠ (none : Option Addr).map (·.block) := fun a ha he => (by cases he)
    replace hB := hB.keep hb2
    replace hW := hW.call hb2
    clear hB_l hB_2
    have hB_l := hB.lt; have hB_2 := hB.cell 2 _ rfl
    go_wp2
    have h2b := ho2.blk
    have hr2 := ho2.rd
    clear ho2 HAD hG
    go_loopw [5, 16] (fun s i wr => ∃ k A p c, k ≤ n ∧ p ≤ k ∧ i = .int .i64 (k : Nat) ∧ s = .slice A p c ∧ OwnI (w.heap.size + 1) wr A p c (roL N0 L gl k) ∧ RdI wr A2 (N0 + n) c2 L ∧ (∀ a, A2 = some a → some a.block ≠ A.map (·.block)) ∧ w2.heap.size ≤ wr.heap.size ∧ Blk wr w.heap.size 26 #[.int .i64 a, .int .i64 b, .slice Ag n cg, .slice Ao m co] ∧ Bl w wr) (fun s i _ => n - (intOf i).toNat)
    case atStart => exact ⟨0, _, 0, _, by omega, by omega, rfl, rfl, hown0, hr2, hap0, Nat.le_refl _, hB, hW⟩
    case round =>
      clear hW hr2 hB hap0 hown0 hB_2 hB_l
      obtain ⟨k, A, p, c, hk, hp, rfl, rfl, hown, hr2, hap, hsz, hB, hW⟩ := hrel
      have hne0 : A.map (·.block) ≠ some w.heap.size := by intro he; have := (hown.blk _ he).1; omega
      by_cases hlt : k < n
      · obtain ⟨ad, K, x, y, rfl, hx, q0, q1, q2⟩ := (hg.keep hW).at_ hlt
        have HX := Lib.hid hx
        clear hx
        have ik : (k : Int) < n := by omega
        obtain ⟨ad3, v, rfl, hadb3, hv, hcv⟩ := hr2.at_ (show N0 + k < N0 + n by omega)
        have HV := Lib.hid hv
        clear hv
        have hwn : IntKind.i64.wrap ((N0 : Int) + (k : Int)) = ((N0 + k : Nat) : Int) := by rw [IntWalk.i64_in _ (by omega)]; omega
        have iz : ((N0 + k : Nat) : Int) < ((N0 + n : Nat) : Int) := by omega
        have kB := hB.lt
        have kB0 := hB.cell 0 _ rfl
        have kB1 := hB.cell 1 _ rfl
        have kB2 := hB.cell 2 _ rfl
        have kB3 := hB.cell 3 _ rfl
        rcases hk1 : (K == 1)
        · have hst := Lib.hid (roL_n (N := N0) (L := L) HX.out hk1)
          go_wp2
          go_roundw
          case rel => exact ⟨k + 1, A, p, c, by omega, by omega, by go_num, rfl, by rw [hst.out]; exact hown.alloc _, hr2.keep (by (repeat (first | assumption | with_reducible exact Bl.refl _ | with_reducible refine Bl.drewN ?_ _ | with_reducible refine Bl.drew ?_ | with_reducible refine Bl.alloc ?_ _ | (with_reducible refine Bl.call ?_ (by assumption))))), hap, Nat.le_trans hsz (Bl.sz (by (repeat (first | assumption | with_reducible exact Bl.refl _ | with_reducible refine Bl.drewN ?_ _ | with_reducible refine Bl.drew ?_ | with_reducible refine Bl.alloc ?_ _ | (with_reducible refine Bl.call ?_ (by assumption)))))), hB.alloc _, hW.alloc _⟩
          case measure => simp [intOf]; omega
        · obtain rfl : K = 1 := by simpa using hk1
          have hst := Lib.hid (roL_y (N := N0) (L := L) HX.out HV.out)
          go_wp2_with (first | (go_at_call 55; refine (spec_ciInputs _ _ _ _ _ _ _ _ _ (by omega) (by omega) (by omega) (by omega)).mono ?_; rintro e w3 ⟨rfl, hb3⟩; rw [HN.out]; replace hB := (hB.alloc _).keep hb3; replace hW := (hW.alloc _).call hb3; replace hown := (hown.alloc _).keep hb3; have hcv3 := hb3.cells (((Bl.refl wr).alloc (.cells #[.int .i64 1, .int .i64 x, .int .i64 y] 57)).cells hcv); have hadb4 : ad3.block < w3.heap.size := Nat.lt_of_lt_of_le hadb3 ((Bl.refl wr).alloc (.cells #[.int .i64 1, .int .i64 x, .int .i64 y] 57) |>.call hb3 |>.sz); replace hr2 := (hr2.keep ((Bl.refl wr).alloc _)).keep hb3; replace hsz := Nat.le_trans hsz ((Bl.refl wr).alloc (.cells #[.int .i64 1, .int .i64 x, .int .i64 y] 57) |>.call hb3 |>.sz)) | (at_builtin; refine ap_int rfl rfl rfl (hown.alloc _) rfl (rd_new1 _ _ _) (by omega) (by have := hW.sz; have := kB; simp; omega) ?_; intro A3 c3 w4 hown3 hg3 hat3))
          go_roundw
          case rel => exact ⟨k + 1, A3, p + 1, c3, by omega, by omega, by go_num, rfl, by rw [hst.out]; exact hown3, (hr2.keep ((Bl.refl w3).alloc _)).grown hg3 hap, apart_grow hat3 (fun q hq => by have := (h2b q hq).2; simp; omega) hap, Nat.le_trans hsz (Nat.le_trans (Bl.sz (Bl.alloc (Bl.refl w3) _)) hg3.size), Blk.grown (hB.alloc _) hg3 (by intro he; exact hne0 he.symm), Bl.grown (hW.alloc _) hg3 (fun q hq => Nat.le_of_succ_le (hown.blk q hq).1)⟩
          case measure => simp [intOf]; omega
      · have he : k = n := by omega
        subst he
        go_wp2
        go_ret2
        exact ⟨A, p, c, rfl, by rw [hR.out]; exact OwnI.mono hown (by omega), hW⟩
end Go.Proofs.Ytlmlffiajgofeaa
