/- Contracts of RoundsOf, and the walk of its law.
   Conditions: none. -/
import Derived.Test.YtghoaheajgedoaaCid
import Derived.Test.YtghoaheajgedoaaCil
namespace Go.Proofs.Ytghoaheajgedoaa
open Go.RowKit
set_option linter.unusedVariables false
theorem ne_of_le_lt {A : Option Addr} {b : Nat} {B : Option Addr} (h1 : ∀ k, A.map (·.block) = some k → b ≤ k) (h2 : ∀ k, B.map (·.block) = some k → k < b) : ∀ a, A = some a → some a.block ≠ B.map (·.block) := by
  rintro a rfl he
  have e1 := h1 a.block rfl
  have e2 := h2 a.block he.symm
  omega
/-- Two blocks stay apart where one of them grows. -/
theorem apart_grow {A A' A2 : Option Addr} {w : World} (hat : A'.map (·.block) = A.map (·.block) ∨ A'.map (·.block) = some w.heap.size) (h2 : ∀ k, A2.map (·.block) = some k → k < w.heap.size)
    (hap : ∀ a, A2 = some a → some a.block ≠ A.map (·.block)) : ∀ a, A2 = some a → some a.block ≠ A'.map (·.block) := by
  rintro a rfl he
  rcases hat with h | h
  · rw [h] at he; exact hap a rfl he
  · rw [h] at he
    injection he with he
    have := h2 a.block rfl
    omega
/-- The depths of the gates GtAnd among k gates. -/
def roL (N : Nat) (L : List Int) (gl : List Gt) : Nat → List Int
  | 0 => []
  | k + 1 => roL N L gl k ++ if (gl[k]?.getD Gt.zero).k = 1 then [L[N + k]?.getD 0] else []
theorem roL_y {N : Nat} {L : List Int} {gl : List Gt} {k : Nat} {x y v : Int} (h : gl[k]? = some ⟨1, x, y⟩) (hv : L[N + k]? = some v) : roL N L gl (k + 1) = roL N L gl k ++ [v] := by simp [roL, h, hv]
theorem roL_n {N : Nat} {L : List Int} {gl : List Gt} {k : Nat} {K x y : Int} (h : gl[k]? = some ⟨K, x, y⟩) (hk : (K == 1) = false) : roL N L gl (k + 1) = roL N L gl k := by
  have hk : ¬ K = 1 := by simpa using hk
  simp [roL, h, hk]
theorem roL_len (N : Nat) (L : List Int) (gl : List Gt) (k : Nat) : (roL N L gl k).length ≤ k := by
  induction k with
  | zero => simp [roL]
  | succ k ih => simp only [roL, List.length_append]; split <;> simp <;> omega
def roR (a b : Int) (gl : List Gt) (ol : List Int) : List Int := if goodC a b gl ol then roL (a + b).toNat (adL (a + b).toNat gl gl.length) gl gl.length else []
theorem roR_len (a b : Int) (gl : List Gt) (ol : List Int) : (roR a b gl ol).length ≤ 1000000000 := by
  unfold roR; split
  · rename_i h
    have := (goodC_facts h).2.2.2.2.1
    have := roL_len (a + b).toNat (adL (a + b).toNat gl gl.length) gl gl.length
    omega
  · simp
set_option maxHeartbeats 4000000 in
theorem impl_RoundsOf (a b : Int) (Ag Ao : Option Addr) (n cg m co : Nat) (gl : List Gt) (ol : List Int) (w : World) (hg : RdG w Ag n cg gl) (ho : RdI w Ao m co ol) :
    Calls Try.prog 26 #[.agg #[.int .i64 a, .int .i64 b, .slice Ag n cg, .slice Ao m co]] w fun e w' => ∃ A' n' c', e = .returned (.tuple #[.slice A' n' c', .bool (goodC a b gl ol)]) ∧ OwnI w.heap.size w' A' n' c' (roR a b gl ol) ∧ Bl w w' := by
  have hW := (Bl.refl w).alloc (.cells #[.int .i64 a, .int .i64 b, .slice Ag n cg, .slice Ao m co] 31)
  have hB := Blk.new w 31 #[.int .i64 a, .int .i64 b, .slice Ag n cg, .slice Ao m co]
  have hG := Lib.hid (impl_IsCircuit a b Ag Ao n cg m co gl ol (w.alloc (.cells #[.int .i64 a, .int .i64 b, .slice Ag n cg, .slice Ao m co] 31)) (hg.keep hW) (ho.keep hW))
  rcases hgd : goodC a b gl ol
  · rw [hgd] at hG
    have hR := Lib.hid (show roR a b gl ol = [] by simp [roR, hgd])
    go_enter Try.func26, Try.ntmps26
    go_wp2_with (go_at_call 53; refine hG.out.mono ?_; rintro e w1 ⟨rfl, hb1⟩)
    go_ret2
    exact ⟨none, 0, 0, rfl, by rw [hR.out]; exact OwnI.nil _ _, (by (repeat (first | assumption | with_reducible exact Bl.refl _ | with_reducible refine Bl.drewN ?_ _ | with_reducible refine Bl.drew ?_ | with_reducible refine Bl.alloc ?_ _ | (with_reducible refine Bl.call ?_ (by assumption)))))⟩
  · rw [hgd] at hG
    have hgl := Lib.hid hg.2
    obtain ⟨hle1, hle2⟩ := hg.le
    obtain ⟨a0, a1, b0, b1, hn, _, _, _⟩ := goodC_facts hgd
    rw [hg.2] at hn
    have HGD := Lib.hid hgd
    have hR := Lib.hid (show roR a b gl ol = roL (a + b).toNat (adL (a + b).toNat gl n) gl n by rw [roR, hgd, hg.2]; rfl)
    clear hgd
    obtain ⟨N0, hN0⟩ : ∃ N0 : Nat, a + b = N0 := ⟨(a + b).toNat, by omega⟩
    have HN := Lib.hid hN0
    have hT : (a + b).toNat = N0 := by omega
    have HAD := fun W (hW : Bl w W) => Lib.hid (impl_andDepths a b Ag Ao n cg m co gl ol W (hg.keep hW) HGD.out)
    rw [hT] at hR HAD
    clear hT
    have hlA := Lib.hid (adL_length N0 gl n)
    generalize adL N0 gl n = L at *
    go_enter Try.func26, Try.ntmps26
    go_wp2_with (first | (go_at_call 53; refine hG.out.mono ?_; rintro e w1 ⟨rfl, hb1⟩; replace hB := hB.keep hb1; replace hW := hW.call hb1; have hB_l := hB.lt; have hB_0 := hB.cell 0 _ rfl; have hB_1 := hB.cell 1 _ rfl; have hB_2 := hB.cell 2 _ rfl; have hB_3 := hB.cell 3 _ rfl))
    refine (HAD _ (by (repeat (first | assumption | with_reducible exact Bl.refl _ | with_reducible refine Bl.drewN ?_ _ | with_reducible refine Bl.drew ?_ | with_reducible refine Bl.alloc ?_ _ | (with_reducible refine Bl.call ?_ (by assumption)))))).out.mono ?_
    rintro e w2 ⟨A2, c2, rfl, ho2, hb2⟩
    have hown0 : OwnI (w.heap.size + 1) w2 (some ⟨w1.heap.size, 0, none⟩) 0 0 (roL N0 L gl 0) := (OwnI.mono (own_made w1) (by omega)).keep hb2
    have hap0 : ∀ a, A2 = some a → some a.block ≠ (some (⟨w1.heap.size, 0, none⟩ : Addr)).map (·.block) := fun a ha he => by (subst ha; have := (ho2.blk a.block rfl).1; simp at this he; omega)
    replace hB := (hB.alloc _).keep hb2
    replace hW := (hW.alloc _).call hb2
    clear hB_l hB_2
    have hB_l := hB.lt; have hB_2 := hB.cell 2 _ rfl
    go_wp2
    have h2b := ho2.blk
    have hr2 := ho2.rd
    clear ho2 HAD hG
    go_loopw [4, 17] (fun s i wr => ∃ k A p c, k ≤ n ∧ p ≤ k ∧ i = .int .i64 (k : Nat) ∧ s = .slice A p c ∧ OwnI (w.heap.size + 1) wr A p c (roL N0 L gl k) ∧ RdI wr A2 (N0 + n) c2 L ∧ (∀ a, A2 = some a → some a.block ≠ A.map (·.block)) ∧ w2.heap.size ≤ wr.heap.size ∧ Blk wr w.heap.size 31 #[.int .i64 a, .int .i64 b, .slice Ag n cg, .slice Ao m co] ∧ Bl w wr) (fun s i _ => n - (intOf i).toNat)
    case atStart => exact ⟨0, _, 0, _, by omega, by omega, rfl, rfl, hown0, hr2, hap0, Nat.le_refl _, hB, hW⟩
    case round =>
      clear hW hr2 hB hap0 hown0 hB_2 hB_l
      obtain ⟨k, A, p, c, hk, hp, rfl, rfl, hown, hr2, hap, hsz, hB, hW⟩ := hrel
      have hne0 : A.map (·.block) ≠ some w.heap.size := by intro he; have := (hown.blk _ he).1; omega
      by_cases hlt : k < n
      · obtain ⟨ad, K, x, y, rfl, hx, q0, q1, q2⟩ := (hg.keep hW).at_ hlt
        have HX := Lib.hid hx
        clear hx
        have ik : (k : Int) < n := by omega
        obtain ⟨ad3, v, rfl, hadb3, hv, hcv⟩ := hr2.at_ (show N0 + k < N0 + n by omega)
        have HV := Lib.hid hv
        clear hv
        have hwn : IntKind.i64.wrap ((N0 : Int) + (k : Int)) = ((N0 + k : Nat) : Int) := by rw [IntWalk.i64_in _ (by omega)]; omega
        have iz : ((N0 + k : Nat) : Int) < ((N0 + n : Nat) : Int) := by omega
        have kB := hB.lt
        have kB0 := hB.cell 0 _ rfl
        have kB1 := hB.cell 1 _ rfl
        have kB2 := hB.cell 2 _ rfl
        have kB3 := hB.cell 3 _ rfl
        rcases hk1 : (K == 1)
        · have hst := Lib.hid (roL_n (N := N0) (L := L) HX.out hk1)
          go_wp2
          go_roundw
          case rel => exact ⟨k + 1, A, p, c, by omega, by omega, by go_num, rfl, by rw [hst.out]; exact hown.alloc _, hr2.keep (by (repeat (first | assumption | with_reducible exact Bl.refl _ | with_reducible refine Bl.drewN ?_ _ | with_reducible refine Bl.drew ?_ | with_reducible refine Bl.alloc ?_ _ | (with_reducible refine Bl.call ?_ (by assumption))))), hap, Nat.le_trans hsz (Bl.sz (by (repeat (first | assumption | with_reducible exact Bl.refl _ | with_reducible refine Bl.drewN ?_ _ | with_reducible refine Bl.drew ?_ | with_reducible refine Bl.alloc ?_ _ | (with_reducible refine Bl.call ?_ (by assumption)))))), hB.alloc _, hW.alloc _⟩
          case measure => simp [intOf]; omega
        · obtain rfl : K = 1 := by simpa using hk1
          have hst := Lib.hid (roL_y (N := N0) (L := L) HX.out HV.out)
          go_wp2_with (first | (go_at_call 59; refine (impl_inputs _ _ _ _ _ _ _ _ _ (by omega) (by omega) (by omega) (by omega)).mono ?_; rintro e w3 ⟨rfl, hb3⟩; rw [HN.out]; replace hB := (hB.alloc _).keep hb3; replace hW := (hW.alloc _).call hb3; replace hown := (hown.alloc _).keep hb3; have hcv3 := hb3.cells (((Bl.refl wr).alloc (.cells #[.int .i64 1, .int .i64 x, .int .i64 y] 62)).cells hcv); have hadb4 : ad3.block < w3.heap.size := Nat.lt_of_lt_of_le hadb3 ((Bl.refl wr).alloc (.cells #[.int .i64 1, .int .i64 x, .int .i64 y] 62) |>.call hb3 |>.sz); replace hr2 := (hr2.keep ((Bl.refl wr).alloc _)).keep hb3; replace hsz := Nat.le_trans hsz ((Bl.refl wr).alloc (.cells #[.int .i64 1, .int .i64 x, .int .i64 y] 62) |>.call hb3 |>.sz)) | (at_builtin; refine ap_int rfl rfl rfl (hown.alloc _) rfl (rd_new1 _ _ _) (by omega) (by have := hW.sz; have := kB; simp; omega) ?_; intro A3 c3 w4 hown3 hg3 hat3))
          go_roundw
          case rel => exact ⟨k + 1, A3, p + 1, c3, by omega, by omega, by go_num, rfl, by rw [hst.out]; exact hown3, (hr2.keep ((Bl.refl w3).alloc _)).grown hg3 hap, apart_grow hat3 (fun q hq => by have := (h2b q hq).2; simp; omega) hap, Nat.le_trans hsz (Nat.le_trans (Bl.sz (Bl.alloc (Bl.refl w3) _)) hg3.size), Blk.grown (hB.alloc _) hg3 (by intro he; exact hne0 he.symm), Bl.grown (hW.alloc _) hg3 (fun q hq => Nat.le_of_succ_le (hown.blk q hq).1)⟩
          case measure => simp [intOf]; omega
      · have he : k = n := by omega
        subst he
        go_wp2
        go_ret2
        exact ⟨A, p, c, rfl, by rw [hR.out]; exact OwnI.mono hown (by omega), hW⟩
set_option maxHeartbeats 4000000 in
theorem spec_RoundsOf (a b : Int) (Ag Ao : Option Addr) (n cg m co : Nat) (gl : List Gt) (ol : List Int) (w : World) (hg : RdG w Ag n cg gl) (ho : RdI w Ao m co ol) :
    Calls Try.prog 25 #[.agg #[.int .i64 a, .int .i64 b, .slice Ag n cg, .slice Ao m co]] w fun e w' => ∃ A' n' c', e = .returned (.tuple #[.slice A' n' c', .bool (goodC a b gl ol)]) ∧ OwnI w.heap.size w' A' n' c' (roR a b gl ol) ∧ Bl w w' := by
  have hW := (Bl.refl w).alloc (.cells #[.int .i64 a, .int .i64 b, .slice Ag n cg, .slice Ao m co] 31)
  have hB := Blk.new w 31 #[.int .i64 a, .int .i64 b, .slice Ag n cg, .slice Ao m co]
  have hG := Lib.hid (spec_ciGood a b Ag Ao n cg m co gl ol (w.alloc (.cells #[.int .i64 a, .int .i64 b, .slice Ag n cg, .slice Ao m co] 31)) (hg.keep hW) (ho.keep hW))
  rcases hgd : goodC a b gl ol
  · rw [hgd] at hG
    have hR := Lib.hid (show roR a b gl ol = [] by simp [roR, hgd])
    go_enter Try.func25, Try.ntmps25
    go_wp2_with (go_at_call 49; refine hG.out.mono ?_; rintro e w1 ⟨rfl, hb1⟩)
    go_ret2
    exact ⟨none, 0, 0, rfl, by rw [hR.out]; exact OwnI.nil _ _, (by (repeat (first | assumption | with_reducible exact Bl.refl _ | with_reducible refine Bl.drewN ?_ _ | with_reducible refine Bl.drew ?_ | with_reducible refine Bl.alloc ?_ _ | (with_reducible refine Bl.call ?_ (by assumption)))))⟩
  · rw [hgd] at hG
    have hgl := Lib.hid hg.2
    obtain ⟨hle1, hle2⟩ := hg.le
    obtain ⟨a0, a1, b0, b1, hn, _, _, _⟩ := goodC_facts hgd
    rw [hg.2] at hn
    have HGD := Lib.hid hgd
    have hR := Lib.hid (show roR a b gl ol = roL (a + b).toNat (adL (a + b).toNat gl n) gl n by rw [roR, hgd, hg.2]; rfl)
    clear hgd
    obtain ⟨N0, hN0⟩ : ∃ N0 : Nat, a + b = N0 := ⟨(a + b).toNat, by omega⟩
    have HN := Lib.hid hN0
    have hT : (a + b).toNat = N0 := by omega
    have HAD := fun W (hW : Bl w W) => Lib.hid (spec_sbRounds a b Ag Ao n cg m co gl ol W (hg.keep hW) HGD.out)
    rw [hT] at hR HAD
    clear hT
    have hlA := Lib.hid (adL_length N0 gl n)
    generalize adL N0 gl n = L at *
    go_enter Try.func25, Try.ntmps25
    go_wp2_with (first | (go_at_call 49; refine hG.out.mono ?_; rintro e w1 ⟨rfl, hb1⟩; replace hB := hB.keep hb1; replace hW := hW.call hb1; have hB_l := hB.lt; have hB_0 := hB.cell 0 _ rfl; have hB_1 := hB.cell 1 _ rfl; have hB_2 := hB.cell 2 _ rfl; have hB_3 := hB.cell 3 _ rfl))
    refine (HAD _ (by (repeat (first | assumption | with_reducible exact Bl.refl _ | with_reducible refine Bl.drewN ?_ _ | with_reducible refine Bl.drew ?_ | with_reducible refine Bl.alloc ?_ _ | (with_reducible refine Bl.call ?_ (by assumption)))))).out.mono ?_
    rintro e w2 ⟨A2, c2, rfl, ho2, hb2⟩
    have hown0 : OwnI (w.heap.size + 1) w2 none 0 0 (roL N0 L gl 0) := OwnI.nil _ _
    have hap0 : ∀ a, A2 = some a → some a.block ≠ (none : Option Addr).map (·.block) := fun a ha he => (by cases he)
    replace hB := hB.keep hb2
    replace hW := hW.call hb2
    clear hB_l hB_2
    have hB_l := hB.lt; have hB_2 := hB.cell 2 _ rfl
    go_wp2
    have h2b := ho2.blk
    have hr2 := ho2.rd
    clear ho2 HAD hG
    go_loopw [5, 16] (fun s i wr => ∃ k A p c, k ≤ n ∧ p ≤ k ∧ i = .int .i64 (k : Nat) ∧ s = .slice A p c ∧ OwnI (w.heap.size + 1) wr A p c (roL N0 L gl k) ∧ RdI wr A2 (N0 + n) c2 L ∧ (∀ a, A2 = some a → some a.block ≠ A.map (·.block)) ∧ w2.heap.size ≤ wr.heap.size ∧ Blk wr w.heap.size 31 #[.int .i64 a, .int .i64 b, .slice Ag n cg, .slice Ao m co] ∧ Bl w wr) (fun s i _ => n - (intOf i).toNat)
    case atStart => exact ⟨0, _, 0, _, by omega, by omega, rfl, rfl, hown0, hr2, hap0, Nat.le_refl _, hB, hW⟩
    case round =>
      clear hW hr2 hB hap0 hown0 hB_2 hB_l
      obtain ⟨k, A, p, c, hk, hp, rfl, rfl, hown, hr2, hap, hsz, hB, hW⟩ := hrel
      have hne0 : A.map (·.block) ≠ some w.heap.size := by intro he; have := (hown.blk _ he).1; omega
      by_cases hlt : k < n
      · obtain ⟨ad, K, x, y, rfl, hx, q0, q1, q2⟩ := (hg.keep hW).at_ hlt
        have HX := Lib.hid hx
        clear hx
        have ik : (k : Int) < n := by omega
        obtain ⟨ad3, v, rfl, hadb3, hv, hcv⟩ := hr2.at_ (show N0 + k < N0 + n by omega)
        have HV := Lib.hid hv
        clear hv
        have hwn : IntKind.i64.wrap ((N0 : Int) + (k : Int)) = ((N0 + k : Nat) : Int) := by rw [IntWalk.i64_in _ (by omega)]; omega
        have iz : ((N0 + k : Nat) : Int) < ((N0 + n : Nat) : Int) := by omega
        have kB := hB.lt
        have kB0 := hB.cell 0 _ rfl
        have kB1 := hB.cell 1 _ rfl
        have kB2 := hB.cell 2 _ rfl
        have kB3 := hB.cell 3 _ rfl
        rcases hk1 : (K == 1)
        · have hst := Lib.hid (roL_n (N := N0) (L := L) HX.out hk1)
          go_wp2
          go_roundw
          case rel => exact ⟨k + 1, A, p, c, by omega, by omega, by go_num, rfl, by rw [hst.out]; exact hown.alloc _, hr2.keep (by (repeat (first | assumption | with_reducible exact Bl.refl _ | with_reducible refine Bl.drewN ?_ _ | with_reducible refine Bl.drew ?_ | with_reducible refine Bl.alloc ?_ _ | (with_reducible refine Bl.call ?_ (by assumption))))), hap, Nat.le_trans hsz (Bl.sz (by (repeat (first | assumption | with_reducible exact Bl.refl _ | with_reducible refine Bl.drewN ?_ _ | with_reducible refine Bl.drew ?_ | with_reducible refine Bl.alloc ?_ _ | (with_reducible refine Bl.call ?_ (by assumption)))))), hB.alloc _, hW.alloc _⟩
          case measure => simp [intOf]; omega
        · obtain rfl : K = 1 := by simpa using hk1
          have hst := Lib.hid (roL_y (N := N0) (L := L) HX.out HV.out)
          go_wp2_with (first | (go_at_call 57; refine (spec_ciInputs _ _ _ _ _ _ _ _ _ (by omega) (by omega) (by omega) (by omega)).mono ?_; rintro e w3 ⟨rfl, hb3⟩; rw [HN.out]; replace hB := (hB.alloc _).keep hb3; replace hW := (hW.alloc _).call hb3; replace hown := (hown.alloc _).keep hb3; have hcv3 := hb3.cells (((Bl.refl wr).alloc (.cells #[.int .i64 1, .int .i64 x, .int .i64 y] 62)).cells hcv); have hadb4 : ad3.block < w3.heap.size := Nat.lt_of_lt_of_le hadb3 ((Bl.refl wr).alloc (.cells #[.int .i64 1, .int .i64 x, .int .i64 y] 62) |>.call hb3 |>.sz); replace hr2 := (hr2.keep ((Bl.refl wr).alloc _)).keep hb3; replace hsz := Nat.le_trans hsz ((Bl.refl wr).alloc (.cells #[.int .i64 1, .int .i64 x, .int .i64 y] 62) |>.call hb3 |>.sz)) | (at_builtin; refine ap_int rfl rfl rfl (hown.alloc _) rfl (rd_new1 _ _ _) (by omega) (by have := hW.sz; have := kB; simp; omega) ?_; intro A3 c3 w4 hown3 hg3 hat3))
          go_roundw
          case rel => exact ⟨k + 1, A3, p + 1, c3, by omega, by omega, by go_num, rfl, by rw [hst.out]; exact hown3, (hr2.keep ((Bl.refl w3).alloc _)).grown hg3 hap, apart_grow hat3 (fun q hq => by have := (h2b q hq).2; simp; omega) hap, Nat.le_trans hsz (Nat.le_trans (Bl.sz (Bl.alloc (Bl.refl w3) _)) hg3.size), Blk.grown (hB.alloc _) hg3 (by intro he; exact hne0 he.symm), Bl.grown (hW.alloc _) hg3 (fun q hq => Nat.le_of_succ_le (hown.blk q hq).1)⟩
          case measure => simp [intOf]; omega
      · have he : k = n := by omega
        subst he
        go_wp2
        go_ret2
        exact ⟨A, p, c, rfl, by rw [hR.out]; exact OwnI.mono hown (by omega), hW⟩
set_option maxHeartbeats 4000000 in
theorem law_RoundsOf (a b : Int) (A B : Option Addr) (n c m d : Nat) (gl : List Gt) (ol : List Int) (w : World) (h : RdC w A n c gl B m d ol) :
    Calls Try.prog 5 #[.agg #[.int .i64 a, .int .i64 b, .slice A n c, .slice B m d]] w fun e w' => e = .returned (.bool true) ∧ Bl w w' := by
  obtain ⟨hle1, hle2⟩ := h.g.le
  obtain ⟨hle3, hle4⟩ := h.o.le
  have hW := (Bl.refl w).alloc (.cells #[.int .i64 a, .int .i64 b, .slice A n c, .slice B m d] 25)
  have hA := Blk.new w 25 #[.int .i64 a, .int .i64 b, .slice A n c, .slice B m d]
  (try clear hA_l hA_0 hA_1 hA_2 hA_3)
  have hA_l := hA.lt; have hA_0 := hA.cell 0 _ rfl; have hA_1 := hA.cell 1 _ rfl; have hA_2 := hA.cell 2 _ rfl; have hA_3 := hA.cell 3 _ rfl
  go_enter Try.func5, Try.ntmps5
  go_wp2_with fail
  refine (laws_szCircuit a b A B n c m d _ hle1 hle2 hle3 hle4).mono ?_
  rintro e w2 ⟨r, rfl, hr, hb2⟩
  replace hA := hA.keep hb2
  replace hW := hW.call hb2
  (try clear hA_l hA_0 hA_1 hA_2 hA_3)
  have hA_l := hA.lt; have hA_0 := hA.cell 0 _ rfl; have hA_1 := hA.cell 1 _ rfl; have hA_2 := hA.cell 2 _ rfl; have hA_3 := hA.cell 3 _ rfl
  rcases hr with rfl | ⟨hr0, hn, hm⟩
  · go_wp2
    go_ret
    exact ⟨rfl, hW⟩
  go_wp2_with fail
  refine (laws_toCircuit a b A B n c m d gl ol _ (h.keep hW) (by omega) (by omega)).mono ?_
  rintro e w3 ⟨A3, c3, B3, d3, rfl, hC2, hb3⟩
  replace hA := hA.keep hb3
  replace hW := hW.call hb3
  (try clear hA_l hA_0 hA_1 hA_2 hA_3)
  have hA_l := hA.lt; have hA_0 := hA.cell 0 _ rfl; have hA_1 := hA.cell 1 _ rfl; have hA_2 := hA.cell 2 _ rfl; have hA_3 := hA.cell 3 _ rfl
  go_wp2_with fail
  refine (spec_RoundsOf a b A3 B3 n c3 m d3 gl ol _ hC2.1.rd hC2.2.1.rd).mono ?_
  rintro e w4 ⟨As, ns, cs, rfl, h3, hb4⟩
  replace hA := hA.keep hb4
  replace hC2 := hC2.keep hb4
  replace hW := hW.call hb4
  (try clear hA_l hA_0 hA_1 hA_2 hA_3)
  have hA_l := hA.lt; have hA_0 := hA.cell 0 _ rfl; have hA_1 := hA.cell 1 _ rfl; have hA_2 := hA.cell 2 _ rfl; have hA_3 := hA.cell 3 _ rfl
  have b3 : ∀ k, As.map (·.block) = some k → k < w4.heap.size := fun k hk => (h3.blk k hk).2
  have s3 := hW.sz
  have sA3 := hA.lt
  go_wp2_with fail
  refine (laws_toCircuit a b A B n c m d gl ol _ (h.keep hW) (by omega) (by omega)).mono ?_
  rintro e w5 ⟨A5, c5, B5, d5, rfl, hC4, hb5⟩
  replace hA := hA.keep hb5
  replace h3 := h3.keep hb5
  replace hW := hW.call hb5
  (try clear hA_l hA_0 hA_1 hA_2 hA_3)
  have hA_l := hA.lt; have hA_0 := hA.cell 0 _ rfl; have hA_1 := hA.cell 1 _ rfl; have hA_2 := hA.cell 2 _ rfl; have hA_3 := hA.cell 3 _ rfl
  have b4A := hC4.1.blk
  have b4B := hC4.2.1.blk
  have s4 := hb5.sz
  have hX := Blk.new w5 31 #[.int .i64 a, .int .i64 b, .slice A5 n c5, .slice B5 m d5]
  obtain ⟨gx, hgx⟩ : ∃ g, w5.heap.size = g := ⟨_, rfl⟩
  replace hA := hA.alloc (.cells #[.int .i64 a, .int .i64 b, .slice A5 n c5, .slice B5 m d5] 31)
  replace hW := hW.alloc (.cells #[.int .i64 a, .int .i64 b, .slice A5 n c5, .slice B5 m d5] 31)
  replace hC4 := hC4.keep ((Bl.refl w5).alloc (.cells #[.int .i64 a, .int .i64 b, .slice A5 n c5, .slice B5 m d5] 31))
  replace h3 := h3.keep ((Bl.refl w5).alloc (.cells #[.int .i64 a, .int .i64 b, .slice A5 n c5, .slice B5 m d5] 31))
  go_wp2_with fail
  rw [hgx] at hX
  refine (impl_RoundsOf a b A5 B5 n c5 m d5 gl ol _ hC4.1.rd hC4.2.1.rd).mono ?_
  rintro e w6 ⟨Ai, ni, ci, rfl, h5, hb6⟩
  have b5 : ∀ k, Ai.map (·.block) = some k → w5.heap.size ≤ k := fun k hk => by have := (h5.blk k hk).1; simp at this; omega
  replace hA := hA.keep hb6
  replace h3 := h3.keep hb6
  replace hC4 := hC4.keep hb6
  replace hX := hX.keep hb6
  replace hW := hW.call hb6
  (try clear hA_l hA_0 hA_1 hA_2 hA_3 hX_l hX_0 hX_1 hX_2 hX_3)
  have hA_l := hA.lt; have hA_0 := hA.cell 0 _ rfl; have hA_1 := hA.cell 1 _ rfl; have hA_2 := hA.cell 2 _ rfl; have hA_3 := hA.cell 3 _ rfl; have hX_l := hX.lt; have hX_0 := hX.cell 0 _ rfl; have hX_1 := hX.cell 1 _ rfl; have hX_2 := hX.cell 2 _ rfl; have hX_3 := hX.cell 3 _ rfl
  go_wp2_with fail
  refine (laws_eqIntS _ _ _ _ _ _ _ _ _ h5.rd h3.rd).mono ?_
  rintro e w7 ⟨rfl, hb7⟩
  replace hA := hA.keep hb7
  replace h3 := h3.keep hb7
  replace hC4 := hC4.keep hb7
  replace hX := hX.keep hb7
  replace h5 := h5.keep hb7
  replace hW := hW.call hb7
  (try clear hA_l hA_0 hA_1 hA_2 hA_3 hX_l hX_0 hX_1 hX_2 hX_3)
  have hA_l := hA.lt; have hA_0 := hA.cell 0 _ rfl; have hA_1 := hA.cell 1 _ rfl; have hA_2 := hA.cell 2 _ rfl; have hA_3 := hA.cell 3 _ rfl; have hX_l := hX.lt; have hX_0 := hX.cell 0 _ rfl; have hX_1 := hX.cell 1 _ rfl; have hX_2 := hX.cell 2 _ rfl; have hX_3 := hX.cell 3 _ rfl
  go_wp2_with fail
  go_region_held3 (fun w' => w'.cell? ⟨w.heap.size, 0, none⟩ = some (.int .i64 a) ∧ w'.cell? ⟨w.heap.size, 1, none⟩ = some (.int .i64 b) ∧ w'.cell? ⟨w.heap.size, 2, none⟩ = some (.slice A n c) ∧ w'.cell? ⟨w.heap.size, 3, none⟩ = some (.slice B m d) ∧ w'.cell? ⟨gx, 0, none⟩ = some (.int .i64 a) ∧ w'.cell? ⟨gx, 1, none⟩ = some (.int .i64 b) ∧ w'.cell? ⟨gx, 2, none⟩ = some (.slice A5 n c5) ∧ w'.cell? ⟨gx, 3, none⟩ = some (.slice B5 m d5)) (first | exact ⟨hA_0, hA_1, hA_2, hA_3, hX_0, hX_1, hX_2, hX_3⟩ | go_keep) (first | (go_at_call 16; refine (laws_toCircuit a b A B n c m d gl ol _ (h.keep (by first | exact hW | exact hW.drew)) (by omega) (by omega)).mono ?_; rintro e w1 ⟨A30, c30, B30, d30, rfl, hC30, hb30⟩; replace hW := (by first | exact hW.call hb30 | exact hW.drew.call hb30 | exact (hW.alloc _).call hb30 | exact (hW.alloc _).drew.call hb30 | exact (hW.drewN _).call hb30 | exact (hW.drew.alloc _).call hb30 | exact ((hW.alloc _).alloc _).call hb30 | exact ((hW.alloc _).alloc _).drew.call hb30 | exact (((hW.alloc _).alloc _).alloc _).call hb30); replace hA := (by first | exact hA.keep hb30 | exact hA.drew.keep hb30 | exact (hA.alloc _).keep hb30 | exact (hA.alloc _).drew.keep hb30 | exact (hA.drewN _).keep hb30 | exact (hA.drew.alloc _).keep hb30 | exact ((hA.alloc _).alloc _).keep hb30 | exact ((hA.alloc _).alloc _).drew.keep hb30 | exact (((hA.alloc _).alloc _).alloc _).keep hb30); replace hX := (by first | exact hX.keep hb30 | exact hX.drew.keep hb30 | exact (hX.alloc _).keep hb30 | exact (hX.alloc _).drew.keep hb30 | exact (hX.drewN _).keep hb30 | exact (hX.drew.alloc _).keep hb30 | exact ((hX.alloc _).alloc _).keep hb30 | exact ((hX.alloc _).alloc _).drew.keep hb30 | exact (((hX.alloc _).alloc _).alloc _).keep hb30); clear hA_l hA_0 hA_1 hA_2 hA_3 hX_l hX_0 hX_1 hX_2 hX_3; have hA_l := hA.lt; have hA_0 := hA.cell 0 _ rfl; have hA_1 := hA.cell 1 _ rfl; have hA_2 := hA.cell 2 _ rfl; have hA_3 := hA.cell 3 _ rfl; have hX_l := hX.lt; have hX_0 := hX.cell 0 _ rfl; have hX_1 := hX.cell 1 _ rfl; have hX_2 := hX.cell 2 _ rfl; have hX_3 := hX.cell 3 _ rfl; replace h3 := (by first | exact h3.keep hb30 | exact (h3.keep (Bl.refl _).drew).keep hb30 | exact (h3.keep ((Bl.refl _).drew)).keep hb30 | exact h3.keep ((Bl.refl _).drew.call hb30)); replace hC4 := (by first | exact hC4.keep hb30 | exact (hC4.keep (Bl.refl _).drew).keep hb30 | exact (hC4.keep ((Bl.refl _).drew)).keep hb30 | exact hC4.keep ((Bl.refl _).drew.call hb30)); replace h5 := (by first | exact h5.keep hb30 | exact (h5.keep (Bl.refl _).drew).keep hb30 | exact (h5.keep ((Bl.refl _).drew)).keep hb30 | exact h5.keep ((Bl.refl _).drew.call hb30))) | (go_at_call 18; refine (laws_eqCircuit a b A5 B5 A30 B30 n c5 m d5 c30 d30 gl ol _ (OwnC.rd hC4) hC30.rd).mono ?_; rintro e w1 ⟨rfl, hb31⟩; replace hW := (by first | exact hW.call hb31 | exact hW.drew.call hb31 | exact (hW.alloc _).call hb31 | exact (hW.alloc _).drew.call hb31 | exact (hW.drewN _).call hb31 | exact (hW.drew.alloc _).call hb31 | exact ((hW.alloc _).alloc _).call hb31 | exact ((hW.alloc _).alloc _).drew.call hb31 | exact (((hW.alloc _).alloc _).alloc _).call hb31); replace hA := (by first | exact hA.keep hb31 | exact hA.drew.keep hb31 | exact (hA.alloc _).keep hb31 | exact (hA.alloc _).drew.keep hb31 | exact (hA.drewN _).keep hb31 | exact (hA.drew.alloc _).keep hb31 | exact ((hA.alloc _).alloc _).keep hb31 | exact ((hA.alloc _).alloc _).drew.keep hb31 | exact (((hA.alloc _).alloc _).alloc _).keep hb31); replace hX := (by first | exact hX.keep hb31 | exact hX.drew.keep hb31 | exact (hX.alloc _).keep hb31 | exact (hX.alloc _).drew.keep hb31 | exact (hX.drewN _).keep hb31 | exact (hX.drew.alloc _).keep hb31 | exact ((hX.alloc _).alloc _).keep hb31 | exact ((hX.alloc _).alloc _).drew.keep hb31 | exact (((hX.alloc _).alloc _).alloc _).keep hb31); clear hA_l hA_0 hA_1 hA_2 hA_3 hX_l hX_0 hX_1 hX_2 hX_3; have hA_l := hA.lt; have hA_0 := hA.cell 0 _ rfl; have hA_1 := hA.cell 1 _ rfl; have hA_2 := hA.cell 2 _ rfl; have hA_3 := hA.cell 3 _ rfl; have hX_l := hX.lt; have hX_0 := hX.cell 0 _ rfl; have hX_1 := hX.cell 1 _ rfl; have hX_2 := hX.cell 2 _ rfl; have hX_3 := hX.cell 3 _ rfl; replace h3 := (by first | exact h3.keep hb31 | exact (h3.keep (Bl.refl _).drew).keep hb31 | exact (h3.keep ((Bl.refl _).drew)).keep hb31 | exact h3.keep ((Bl.refl _).drew.call hb31)); replace hC4 := (by first | exact hC4.keep hb31 | exact (hC4.keep (Bl.refl _).drew).keep hb31 | exact (hC4.keep ((Bl.refl _).drew)).keep hb31 | exact hC4.keep ((Bl.refl _).drew.call hb31)); replace h5 := (by first | exact h5.keep hb31 | exact (h5.keep (Bl.refl _).drew).keep hb31 | exact (h5.keep ((Bl.refl _).drew)).keep hb31 | exact h5.keep ((Bl.refl _).drew.call hb31))))
  have aA3 : ∀ a, As = some a → some a.block ≠ A5.map (·.block) := ne_of_lt_le b3 (fun k hk => (b4A k hk).1)
  have aB3 : ∀ a, As = some a → some a.block ≠ B5.map (·.block) := ne_of_lt_le b3 (fun k hk => (b4B k hk).1)
  have aA5 : ∀ a, Ai = some a → some a.block ≠ A5.map (·.block) := ne_of_le_lt b5 (fun k hk => (b4A k hk).2)
  have aB5 : ∀ a, Ai = some a → some a.block ≠ B5.map (·.block) := ne_of_le_lt b5 (fun k hk => (b4B k hk).2)
  have a35 : ∀ a, As = some a → some a.block ≠ Ai.map (·.block) := ne_of_lt_le (fun k hk => Nat.lt_of_lt_of_le (b3 k hk) s4) b5
  go_wp2_with fail
  refine (laws_markCircuit a b A5 B5 n c5 m d5 _ gl ol _ hC4 (by omega) (by omega)).mono ?_
  rintro e w20 ⟨rm, wa, wb, wx, rfl, hrm, hba, hgb, hgc⟩
  replace h3 := OwnI.grown (OwnI.grown (h3.keep hba) hgb aA3) hgc aB3
  replace h5 := OwnI.grown (OwnI.grown (h5.keep hba) hgb aA5) hgc aB5
  replace hW := ((hW.call hba).grown hgb (fun k hk => Nat.le_trans s3 (b4A k hk).1)).grown hgc (fun k hk => Nat.le_trans s3 (b4B k hk).1)
  clear hX hX_l hX_0 hX_1 hX_2 hX_3 hC4
  replace hA := Blk.grown (Blk.grown (hA.keep hba) hgb (by intro he; have := (b4A _ he.symm).1; omega)) hgc (by intro he; have := (b4B _ he.symm).1; omega)
  clear hgb hgc hba
  (try clear hA_l hA_0 hA_1 hA_2 hA_3)
  have hA_l := hA.lt; have hA_0 := hA.cell 0 _ rfl; have hA_1 := hA.cell 1 _ rfl; have hA_2 := hA.cell 2 _ rfl; have hA_3 := hA.cell 3 _ rfl
  have i0 : ¬ (rm < 0) := by omega
  go_wp2_with fail
  refine (laws_eqIntS _ _ _ _ _ _ _ _ _ h5.rd h3.rd).mono ?_
  rintro e w21 ⟨rfl, hb21⟩
  replace hA := hA.keep hb21
  replace h3 := h3.keep hb21
  replace h5 := h5.keep hb21
  replace hW := hW.call hb21
  (try clear hA_l hA_0 hA_1 hA_2 hA_3)
  have hA_l := hA.lt; have hA_0 := hA.cell 0 _ rfl; have hA_1 := hA.cell 1 _ rfl; have hA_2 := hA.cell 2 _ rfl; have hA_3 := hA.cell 3 _ rfl
  have hlen := h5.length
  have hlb := roR_len a b gl ol
  have hn5 : ni ≤ 1000000000000000000 := by omega
  clear hlen hlb
  go_wp2_with fail
  refine (laws_markIntS _ _ _ _ _ 1 _ h5 (by omega) (by omega)).mono ?_
  rintro e w22 ⟨rfl, hm5, hgm⟩
  replace h3 := OwnI.grown h3 hgm a35
  replace hW := hW.grown hgm (fun k hk => Nat.le_trans (Nat.le_trans s3 s4) (b5 k hk))
  replace hA := Blk.grown hA hgm (by intro he; have := b5 _ he.symm; omega)
  clear hgm h5
  (try clear hA_l hA_0 hA_1 hA_2 hA_3)
  have hA_l := hA.lt; have hA_0 := hA.cell 0 _ rfl; have hA_1 := hA.cell 1 _ rfl; have hA_2 := hA.cell 2 _ rfl; have hA_3 := hA.cell 3 _ rfl
  go_wp2_with fail
  refine (laws_heldIntS _ _ _ 1 _ hm5.rd (by omega) (by omega)).mono ?_
  rintro e w23 ⟨rfl, rfl⟩
  go_wp2_with fail
  refine (laws_toCircuit a b A B n c m d gl ol _ (h.keep hW) (by omega) (by omega)).mono ?_
  rintro e w24 ⟨A24, c24, B24, d24, rfl, hC6, hb24⟩
  replace hA := hA.keep hb24
  replace h3 := h3.keep hb24
  replace hm5 := hm5.keep hb24
  replace hW := hW.call hb24
  (try clear hA_l hA_0 hA_1 hA_2 hA_3)
  have hA_l := hA.lt; have hA_0 := hA.cell 0 _ rfl; have hA_1 := hA.cell 1 _ rfl; have hA_2 := hA.cell 2 _ rfl; have hA_3 := hA.cell 3 _ rfl
  go_wp2_with fail
  refine (impl_RoundsOf a b A24 B24 n c24 m d24 gl ol _ hC6.1.rd hC6.2.1.rd).mono ?_
  rintro e w25 ⟨Ah, nh, ch, rfl, h7, hb25⟩
  replace hA := hA.keep hb25
  replace h3 := h3.keep hb25
  replace hm5 := hm5.keep hb25
  replace hC6 := hC6.keep hb25
  replace hW := hW.call hb25
  (try clear hA_l hA_0 hA_1 hA_2 hA_3)
  have hA_l := hA.lt; have hA_0 := hA.cell 0 _ rfl; have hA_1 := hA.cell 1 _ rfl; have hA_2 := hA.cell 2 _ rfl; have hA_3 := hA.cell 3 _ rfl
  go_wp2_with fail
  refine (laws_eqIntS _ _ _ _ _ _ _ _ _ h7.rd h3.rd).mono ?_
  rintro e w26 ⟨rfl, hb26⟩
  replace hA := hA.keep hb26
  replace h3 := h3.keep hb26
  replace hm5 := hm5.keep hb26
  replace hC6 := hC6.keep hb26
  replace hW := hW.call hb26
  (try clear hA_l hA_0 hA_1 hA_2 hA_3)
  have hA_l := hA.lt; have hA_0 := hA.cell 0 _ rfl; have hA_1 := hA.cell 1 _ rfl; have hA_2 := hA.cell 2 _ rfl; have hA_3 := hA.cell 3 _ rfl
  go_wp2_with fail
  refine (laws_heldIntS _ _ _ 1 _ hm5.rd (by omega) (by omega)).mono ?_
  rintro e w30 ⟨rfl, rfl⟩
  go_wp2
  go_ret
  exact ⟨rfl, hW⟩
end Go.Proofs.Ytghoaheajgedoaa
