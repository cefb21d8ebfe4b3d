/- Contracts of the numbers of gates of all kinds, and of the triples that a circuit needs; and what rounds are.
   Conditions: a valid circuit, else the answer is no. -/
import Derived.Test.YtlmlffiajgofeaaRof
import Derived.Test.YtlmlffiajgofeaaRnd
import Derived.Test.YtlmlffiajgofeaaMak
import Derived.Test.YtlmlffiajgofeaaEvd
namespace Go.Proofs.Ytlmlffiajgofeaa
open Go.RowKit
set_option linter.unusedVariables false
/-- How many of the first gates are of a kind. -/
def kN (K : Int) (gl : List Gt) : Nat → Nat
  | 0 => 0
  | k + 1 => kN K gl k + if (gl[k]?.getD Gt.zero).k = K then 1 else 0
theorem kN_le (K : Int) (gl : List Gt) (k : Nat) : kN K gl k ≤ k := by
  induction k with
  | zero => simp [kN]
  | succ k ih => simp only [kN]; split <;> omega
theorem adL_at (N : Nat) (gl : List Gt) (T k : Nat) (hk : k < T) : (adL N gl T)[N + k]? = some (depG (adL N gl k) (gl[k]?.getD Gt.zero)) := by
  induction T with
  | zero => omega
  | succ T ih =>
    simp only [adL]
    by_cases h : k < T
    · rw [List.getElem?_append_left (by rw [adL_length]; omega)]; exact ih h
    · obtain rfl : k = T := by omega
      rw [List.getElem?_append_right (by rw [adL_length]; omega), adL_length, Nat.sub_self]; rfl
theorem mxL_ge (l : List Int) : ∀ m : Int, m ≤ mxL m l ∧ ∀ x ∈ l, x ≤ mxL m l := by
  induction l with
  | nil => intro m; exact ⟨Int.le_refl _, fun x hx => by cases hx⟩
  | cons y l ih =>
    intro m
    have h := ih (max m y)
    have e : mxL m (y :: l) = mxL (max m y) l := rfl
    rw [e]
    refine ⟨by omega, fun x hx => ?_⟩
    rcases List.mem_cons.1 hx with rfl | hx
    · omega
    · exact h.2 x hx
theorem mxL_zeros (N : Nat) : mxL 0 (List.replicate N 0) = 0 := by
  induction N with
  | zero => rfl
  | succ N ih => rw [List.replicate_succ]; show mxL (max 0 0) (List.replicate N 0) = 0; exact ih
theorem ro_max (N : Nat) (gl : List Gt) (T : Nat) : ∀ k, k ≤ T → mxL 0 (roL N (adL N gl T) gl k) = mxL 0 (adL N gl k)
  | 0, _ => by simp only [roL, adL]; rw [mxL_zeros]; rfl
  | k + 1, h => by
    have ih := ro_max N gl T k (by omega)
    simp only [roL, adL]
    rw [mxL_snoc]
    split
    · rw [mxL_snoc, ih, adL_at N gl T k (by omega)]; rfl
    · rename_i hk
      rw [List.append_nil, ih]
      have b := depMax_bd (adL N gl k) (mxL 0 (adL N gl k)) (mxL_ge _ 0).1 (fun x hx => ⟨(adL_bd N gl k x hx).1, (mxL_ge _ 0).2 x hx⟩) (partsL (gl[k]?.getD Gt.zero))
      unfold depG
      rw [if_neg hk]
      omega
theorem ro_pos (N : Nat) (gl : List Gt) (T : Nat) : ∀ k, k ≤ T → ∀ x ∈ roL N (adL N gl T) gl k, 1 ≤ x
  | 0, _, x, hx => by cases hx
  | k + 1, h, x, hx => by
    simp only [roL, List.mem_append] at hx
    rcases hx with hx | hx
    · exact ro_pos N gl T k (by omega) x hx
    · split at hx
      · rename_i hk
        rw [adL_at N gl T k (by omega), List.mem_singleton] at hx
        have b := depMax_bd (adL N gl k) k (by omega) (adL_bd N gl k) (partsL (gl[k]?.getD Gt.zero))
        subst hx
        show 1 ≤ depG _ _
        unfold depG
        rw [if_pos hk]
        omega
      · cases hx
theorem ro_len (N : Nat) (L : List Int) (gl : List Gt) (k : Nat) : (roL N L gl k).length = kN 1 gl k := by
  induction k with
  | zero => rfl
  | succ k ih =>
    simp only [roL, kN, List.length_append, ih]
    split <;> rfl
/-- The numbers of the first gates of all kinds. -/
def knL (gl : List Gt) (k : Nat) : List Int := [(kN 0 gl k : Int), (kN 1 gl k : Int), (kN 2 gl k : Int), (kN 3 gl k : Int)]
theorem knL_step {gl : List Gt} {k K : Nat} {x y : Int} (h : gl[k]? = some ⟨(K : Int), x, y⟩) (hK : K < 4) : ∃ v : Nat, (knL gl k)[K]? = some (v : Int) ∧ v ≤ k ∧ (knL gl k).set K ((v : Int) + 1) = knL gl (k + 1) := by
  rcases (by omega : K = 0 ∨ K = 1 ∨ K = 2 ∨ K = 3) with rfl | rfl | rfl | rfl
  · exact ⟨kN 0 gl k, rfl, kN_le _ _ _, by simp [knL, kN, h]⟩
  · exact ⟨kN 1 gl k, rfl, kN_le _ _ _, by simp [knL, kN, h]⟩
  · exact ⟨kN 2 gl k, rfl, kN_le _ _ _, by simp [knL, kN, h]⟩
  · exact ⟨kN 3 gl k, rfl, kN_le _ _ _, by simp [knL, kN, h]⟩
/-- All gates are of one of the four kinds. -/
def Kinds (gl : List Gt) : Prop := ∀ (i : Nat) (g : Gt), gl[i]? = some g → g.k = 0 ∨ g.k = 1 ∨ g.k = 2 ∨ g.k = 3
theorem kinds_of {a b : Int} {gl : List Gt} {ol : List Int} (h : goodC a b gl ol = true) : Kinds gl := fun i g hg => (goodG_facts (goodGs_at (goodC_facts h).2.2.2.2.2.2.1 hg)).1
/-- The triples that a circuit needs. -/
def tnR (a b : Int) (gl : List Gt) (ol : List Int) : Int := if goodC a b gl ol then (kN 1 gl gl.length : Int) else 0
set_option maxHeartbeats 2000000 in
theorem impl_countKinds (A : Option Addr) (n c : Nat) (gl : List Gt) (w : World) (h : RdG w A n c gl) (hk : Kinds gl) (hn : n ≤ 100000) :
    Calls Try.prog 56 #[.slice A n c] w fun e w' => ∃ A', e = .returned (.slice A' 4 4) ∧ OwnI w.heap.size w' A' 4 4 (knL gl n) ∧ Bl w w' := by
  obtain ⟨hle1, hle2⟩ := h.le
  have hmk : ∀ w : World, (Instr.makeSlice 24 (.int .i64 4) (.int .i64 4)).run Try.prog w = .ok (.slice (some ⟨w.heap.size, 0, none⟩) 4 4) (w.alloc (.cells (madeCells #[.int .i64 0] 4) 3)) := make_ints 4 (by omega)
  have hown0 : OwnI w.heap.size (w.alloc (.cells (madeCells #[.int .i64 0] 4) 3)) (some ⟨w.heap.size, 0, none⟩) 4 4 (knL gl 0) := own_zeros w 4 (by omega)
  have hW0 := (Bl.refl w).alloc (.cells (madeCells #[.int .i64 0] 4) 3)
  go_enter Try.func56, Try.ntmps56
  go_wp2_with fail
  go_loopw [9] (fun i wr => ∃ k : Nat, k ≤ n ∧ i = .int .i64 (k : Nat) ∧ OwnI w.heap.size wr (some ⟨w.heap.size, 0, none⟩) 4 4 (knL gl k) ∧ Bl w wr) (fun i _ => n - (intOf i).toNat)
  case atStart => exact ⟨0, by omega, rfl, hown0, hW0⟩
  case round =>
    clear hmk hown0 hW0
    obtain ⟨k, hkn, rfl, hown, hW⟩ := hrel
    by_cases hlt : k < n
    · obtain ⟨ad, K, x, y, rfl, hx, c0, c1, c2⟩ := (h.keep hW).at_ hlt
      have i1 : (k : Int) < n := by omega
      obtain ⟨K, rfl⟩ : ∃ q : Nat, K = (q : Int) := ⟨K.toNat, by have := hk k _ hx; dsimp only at this; omega⟩
      have hK4 : K < 4 := by have := hk k _ hx; dsimp only at this; omega
      obtain ⟨v, hv, hvk, hst⟩ := knL_step hx hK4
      have HX := Lib.hid hst
      clear hst hx
      obtain ⟨g, hg, hbg, hgl, hc2, hfr⟩ := hown.form (by omega)
      injection hg with hg
      injection hg with hg
      subst hg
      have hcv := hc2 K _ hv
      have hfv := hfr K
      clear hc2 hfr hv
      have iK : (K : Int) < 4 := by omega
      go_wp2_with fail
      go_roundw
      case rel => exact ⟨k + 1, by omega, by go_num, by rw [← HX.out]; exact (hown.set_ K _ hK4).alloc _, (hW.setCell (Nat.le_refl _) _).alloc _⟩
      case measure => simp [intOf]; omega
    · have he : k = n := by omega
      subst he
      go_wp2_with fail
      go_ret
      exact ⟨_, rfl, hown, hW⟩
set_option maxHeartbeats 2000000 in
theorem spec_ciCounts (a b : Int) (A Ao : Option Addr) (n c m co : Nat) (gl : List Gt) (w : World) (h : RdG w A n c gl) (hk : Kinds gl) (hn : n ≤ 100000) :
    Calls Try.prog 57 #[.agg #[.int .i64 a, .int .i64 b, .slice A n c, .slice Ao m co]] w fun e w' => ∃ A', e = .returned (.slice A' 4 4) ∧ OwnI w.heap.size w' A' 4 4 (knL gl n) ∧ Bl w w' := by
  obtain ⟨hle1, hle2⟩ := h.le
  have hmk : ∀ w : World, (Instr.makeSlice 24 (.int .i64 4) (.int .i64 4)).run Try.prog w = .ok (.slice (some ⟨w.heap.size, 0, none⟩) 4 4) (w.alloc (.cells (madeCells #[.int .i64 0] 4) 3)) := make_ints 4 (by omega)
  have hV := (Bl.refl w).alloc (.cells #[.int .i64 a, .int .i64 b, .slice A n c, .slice Ao m co] 26)
  have hs : (w.alloc (.cells #[.int .i64 a, .int .i64 b, .slice A n c, .slice Ao m co] 26)).heap.size = w.heap.size + 1 := by simp
  have hown0 : OwnI w.heap.size ((w.alloc (.cells #[.int .i64 a, .int .i64 b, .slice A n c, .slice Ao m co] 26)).alloc (.cells (madeCells #[.int .i64 0] 4) 3)) (some ⟨w.heap.size + 1, 0, none⟩) 4 4 (knL gl 0) :=
    (own_zeros (w.alloc (.cells #[.int .i64 a, .int .i64 b, .slice A n c, .slice Ao m co] 26)) 4 (by omega) (g := w.heap.size + 1) hs).mono (by omega)
  have hW0 := hV.alloc (.cells (madeCells #[.int .i64 0] 4) 3)
  clear hV hs
  go_enter Try.func57, Try.ntmps57
  go_wp2_with fail
  go_loopw [10] (fun i wr => ∃ k : Nat, k ≤ n ∧ i = .int .i64 (k : Nat) ∧ OwnI w.heap.size wr (some ⟨w.heap.size + 1, 0, none⟩) 4 4 (knL gl k) ∧ Bl w wr) (fun i _ => n - (intOf i).toNat)
  case atStart => exact ⟨0, by omega, rfl, hown0, hW0⟩
  case round =>
    clear hmk hown0 hW0
    obtain ⟨k, hkn, rfl, hown, hW⟩ := hrel
    by_cases hlt : k < n
    · obtain ⟨ad, K, x, y, rfl, hx, c0, c1, c2⟩ := (h.keep hW).at_ hlt
      have i1 : (k : Int) < n := by omega
      obtain ⟨K, rfl⟩ : ∃ q : Nat, K = (q : Int) := ⟨K.toNat, by have := hk k _ hx; dsimp only at this; omega⟩
      have hK4 : K < 4 := by have := hk k _ hx; dsimp only at this; omega
      obtain ⟨v, hv, hvk, hst⟩ := knL_step hx hK4
      have HX := Lib.hid hst
      clear hst hx
      obtain ⟨g, hg, hbg, hgl, hc2, hfr⟩ := hown.form (by omega)
      injection hg with hg
      injection hg with hg
      subst hg
      have hcv := hc2 K _ hv
      have hfv := hfr K
      clear hc2 hfr hv
      have iK : (K : Int) < 4 := by omega
      go_wp2_with fail
      go_roundw
      case rel => exact ⟨k + 1, by omega, by go_num, by rw [← HX.out]; exact (hown.set_ K _ hK4).alloc _, (hW.setCell (by show w.heap.size ≤ w.heap.size + 1; omega) _).alloc _⟩
      case measure => simp [intOf]; omega
    · have he : k = n := by omega
      subst he
      go_wp2_with fail
      go_ret
      exact ⟨_, rfl, hown, hW⟩
set_option maxHeartbeats 2000000 in
theorem impl_TriplesNeeded (a b : Int) (Ag Ao : Option Addr) (n cg m co : Nat) (gl : List Gt) (ol : List Int) (w : World) (hg : RdG w Ag n cg gl) (ho : RdI w Ao m co ol) :
    Calls Try.prog 9 #[.agg #[.int .i64 a, .int .i64 b, .slice Ag n cg, .slice Ao m co]] w fun e w' => e = .returned (.tuple #[.int .i64 (tnR a b gl ol), .bool (goodC a b gl ol)]) ∧ Bl w w' := by
  have hW := (Bl.refl w).alloc (.cells #[.int .i64 a, .int .i64 b, .slice Ag n cg, .slice Ao m co] 26)
  have hB := Blk.new w 26 #[.int .i64 a, .int .i64 b, .slice Ag n cg, .slice Ao m co]
  have hG := Lib.hid (impl_IsCircuit a b Ag Ao n cg m co gl ol _ (hg.keep hW) (ho.keep hW))
  have hgl := hg.2
  rcases hgd : goodC a b gl ol
  · have HR := Lib.hid (show tnR a b gl ol = 0 by unfold tnR; rw [hgd]; rfl)
    go_enter Try.func9, Try.ntmps9
    go_wp2_with fail
    refine hG.out.mono ?_
    rintro e w1 ⟨rfl, hb1⟩
    rw [hgd]
    go_wp2_with fail
    go_ret2
    exact ⟨by rw [HR.out]; rfl, hW.call hb1⟩
  · have HR := Lib.hid (show tnR a b gl ol = (kN 1 gl n : Int) by unfold tnR; rw [if_pos hgd, hgl])
    have hf := goodC_facts hgd
    have hn3 : n ≤ 300 := by omega
    have hkd := Lib.hid (kinds_of hgd)
    clear hf
    go_enter Try.func9, Try.ntmps9
    go_wp2_with fail
    refine hG.out.mono ?_
    rintro e w1 ⟨rfl, hb1⟩
    rw [hgd]
    replace hB := hB.keep hb1
    have hB_l := hB.lt; have hB_f := hB.frozen; have hB_0 := hB.cell 0 _ rfl; have hB_1 := hB.cell 1 _ rfl; have hB_2 := hB.cell 2 _ rfl; have hB_3 := hB.cell 3 _ rfl
    go_wp2_with fail
    refine (impl_countKinds Ag n cg gl w1 ((hg.keep hW).keep hb1) hkd.out (by omega)).mono ?_
    rintro e w2 ⟨A2, rfl, ho2, hb2⟩
    obtain ⟨g, hg2, _, _, hc2, hfr⟩ := ho2.form (by omega)
    subst hg2
    have hcv := hc2 1 (kN 1 gl n : Int) rfl
    clear hc2 hfr
    go_wp2_with fail
    go_ret2
    exact ⟨by rw [HR.out]; rfl, (hW.call hb1).call hb2⟩
set_option maxHeartbeats 2000000 in
theorem spec_TriplesNeeded (a b : Int) (Ag Ao : Option Addr) (n cg m co : Nat) (gl : List Gt) (ol : List Int) (w : World) (hg : RdG w Ag n cg gl) (ho : RdI w Ao m co ol) :
    Calls Try.prog 10 #[.agg #[.int .i64 a, .int .i64 b, .slice Ag n cg, .slice Ao m co]] w fun e w' => e = .returned (.tuple #[.int .i64 (tnR a b gl ol), .bool (goodC a b gl ol)]) ∧ Bl w w' := by
  have hW := (Bl.refl w).alloc (.cells #[.int .i64 a, .int .i64 b, .slice Ag n cg, .slice Ao m co] 26)
  have hB := Blk.new w 26 #[.int .i64 a, .int .i64 b, .slice Ag n cg, .slice Ao m co]
  have hG := Lib.hid (spec_ciGood a b Ag Ao n cg m co gl ol _ (hg.keep hW) (ho.keep hW))
  have hgl := hg.2
  rcases hgd : goodC a b gl ol
  · have HR := Lib.hid (show tnR a b gl ol = 0 by unfold tnR; rw [hgd]; rfl)
    go_enter Try.func10, Try.ntmps10
    go_wp2_with fail
    refine hG.out.mono ?_
    rintro e w1 ⟨rfl, hb1⟩
    rw [hgd]
    go_wp2_with fail
    go_ret2
    exact ⟨by rw [HR.out]; rfl, hW.call hb1⟩
  · have HR := Lib.hid (show tnR a b gl ol = (kN 1 gl n : Int) by unfold tnR; rw [if_pos hgd, hgl])
    have hf := goodC_facts hgd
    have hn3 : n ≤ 300 := by omega
    have hkd := Lib.hid (kinds_of hgd)
    clear hf
    go_enter Try.func10, Try.ntmps10
    go_wp2_with fail
    refine hG.out.mono ?_
    rintro e w1 ⟨rfl, hb1⟩
    rw [hgd]
    replace hB := hB.keep hb1
    have hB_l := hB.lt; have hB_f := hB.frozen; have hB_0 := hB.cell 0 _ rfl; have hB_1 := hB.cell 1 _ rfl; have hB_2 := hB.cell 2 _ rfl; have hB_3 := hB.cell 3 _ rfl
    go_wp2_with fail
    refine (spec_ciCounts a b Ag Ao n cg m co gl w1 ((hg.keep hW).keep hb1) hkd.out (by omega)).mono ?_
    rintro e w2 ⟨A2, rfl, ho2, hb2⟩
    obtain ⟨g, hg2, _, _, hc2, hfr⟩ := ho2.form (by omega)
    subst hg2
    have hcv := hc2 1 (kN 1 gl n : Int) rfl
    clear hc2 hfr
    go_wp2_with fail
    go_ret2
    exact ⟨by rw [HR.out]; rfl, (hW.call hb1).call hb2⟩
end Go.Proofs.Ytlmlffiajgofeaa
