/- Contracts of LastUses, and the walk of its law.
   Conditions: none. -/
import Derived.Test.YtlmlffiajgofeaaRep
namespace Go.Proofs.Ytlmlffiajgofeaa
open Go.RowKit
set_option linter.unusedVariables false
/-- All places of a list get v. -/
def putA (l : List Int) (ps : List Int) (v : Int) : List Int := ps.foldl (fun l (x : Int) => l.set x.toNat v) l
theorem putA_snoc (l ps : List Int) (x v : Int) : putA l (ps ++ [x]) v = (putA l ps v).set x.toNat v := by
  unfold putA
  rw [List.foldl_append]
  rfl
theorem putA_len (l ps : List Int) (v : Int) : (putA l ps v).length = l.length := by
  unfold putA
  induction ps generalizing l with
  | nil => rfl
  | cons x ps ih => rw [List.foldl_cons, ih, List.length_set]
theorem putA_bd (lo hi : Int) (ps : List Int) (v : Int) (hv : lo ≤ v ∧ v ≤ hi) : ∀ l : List Int, (∀ x ∈ l, lo ≤ x ∧ x ≤ hi) → ∀ x ∈ putA l ps v, lo ≤ x ∧ x ≤ hi := by
  unfold putA
  induction ps with
  | nil => intro l h; exact h
  | cons p ps ih =>
    intro l h
    rw [List.foldl_cons]
    refine ih _ fun x hx => ?_
    rcases List.mem_or_eq_of_mem_set hx with h1 | h1
    · exact h x h1
    · rw [h1]; exact hv
def luG (N : Nat) (gl : List Gt) : Nat → List Int
  | 0 => List.replicate N (-1)
  | k + 1 => putA (luG N gl k) (partsL (gl[k]?.getD Gt.zero)) k
theorem luG_len (N : Nat) (gl : List Gt) (k : Nat) : (luG N gl k).length = N := by
  induction k with
  | zero => simp [luG]
  | succ k ih => rw [luG, putA_len, ih]
theorem luG_bd (N : Nat) (gl : List Gt) (k : Nat) : ∀ x ∈ luG N gl k, -1 ≤ x ∧ x ≤ k := by
  induction k with
  | zero => intro x hx; have := List.eq_of_mem_replicate hx; omega
  | succ k ih => exact putA_bd _ _ _ _ (by omega) _ (fun x hx => by have := ih x hx; omega)
/-- The last use of each wire. -/
def luL (N : Nat) (gl : List Gt) (ol : List Int) : List Int := putA (luG N gl gl.length) ol gl.length
theorem luL_len (N : Nat) (gl : List Gt) (ol : List Int) : (luL N gl ol).length = N := by rw [luL, putA_len, luG_len]
theorem luL_bd (N : Nat) (gl : List Gt) (ol : List Int) : ∀ x ∈ luL N gl ol, -1 ≤ x ∧ x ≤ gl.length := putA_bd _ _ _ _ (by omega) _ (luG_bd N gl _)
def luR (a b : Int) (gl : List Gt) (ol : List Int) : List Int := if goodC a b gl ol then luL ((a + b).toNat + gl.length) gl ol else []
theorem luR_len (a b : Int) (gl : List Gt) (ol : List Int) : (luR a b gl ol).length ≤ 1000000000 := by
  unfold luR; split
  · rename_i h
    obtain ⟨h1, h2, h3, h4, h5, _⟩ := goodC_facts h
    rw [luL_len]; omega
  · simp
set_option maxRecDepth 20000 in
set_option maxHeartbeats 8000000 in
theorem impl_lastUses (a b : Int) (Ag Ao : Option Addr) (n cg m co : Nat) (gl : List Gt) (ol : List Int) (w : World) (hg : RdG w Ag n cg gl) (ho : RdI w Ao m co ol) (hgood : goodC a b gl ol = true) :
    Calls Try.prog 67 #[.agg #[.int .i64 a, .int .i64 b, .slice Ag n cg, .slice Ao m co]] w fun e w' => ∃ A c, e = .returned (.slice A ((a + b).toNat + n) c) ∧ OwnI w.heap.size w' A ((a + b).toNat + n) c (luL ((a + b).toNat + n) gl ol) ∧ Bl w w' := by
  obtain ⟨hle1, hle2⟩ := hg.le
  obtain ⟨hle3, hle4⟩ := ho.le
  have hgl := Lib.hid hg.2
  have hol := Lib.hid ho.length
  obtain ⟨a0, a1, b0, b1, hn, hm, hgs, hos⟩ := goodC_facts hgood
  rw [hg.2] at hn hos
  rw [ho.length] at hm
  obtain ⟨N0, hN0⟩ : ∃ N0 : Nat, a + b = N0 := ⟨(a + b).toNat, by omega⟩
  rw [hN0] at hgs hos
  obtain ⟨WN, hWN⟩ : ∃ WN : Nat, N0 + n = WN := ⟨_, rfl⟩
  have HN := Lib.hid (show a + b + (n : Int) = WN by omega)
  have HGS := Lib.hid hgs
  have HOL := Lib.hid hos
  rw [show (a + b).toNat + n = WN by omega]
  have hR := Lib.hid (show luL WN gl ol = putA (luG WN gl gl.length) ol (n : Nat) by rw [luL, hgl.out])
  have HLL := Lib.hid (luG_len WN gl gl.length)
  have hWN2 : WN ≤ 340 := by omega
  have hWI : (WN : Int) ≤ N0 + n := by omega
  have hWJ : (N0 : Int) + n ≤ WN := by omega
  clear hgood hgs hos hWN
  have hW := (Bl.refl w).alloc (.cells #[.int .i64 a, .int .i64 b, .slice Ag n cg, .slice Ao m co] 26)
  have hB := Blk.new w 26 #[.int .i64 a, .int .i64 b, .slice Ag n cg, .slice Ao m co]
  go_enter Try.func67, Try.ntmps67
  go_wp2_with (go_at_call 95; refine (impl_wires _ _ _ _ _ _ _ _ _ (by omega) (by omega) (by omega) (by omega) (by omega)).mono ?_; rintro e w1 ⟨rfl, hb1⟩; rw [HN.out])
  have hr1 : RdI w1 (some ⟨w.heap.size + 1, 0, none⟩) 1 1 [-1] := RdI.keep (rd_new1 (w.alloc (.cells #[.int .i64 a, .int .i64 b, .slice Ag n cg, .slice Ao m co] 26)) 3 (-1)) hb1
  have HRep : Calls Try.prog 112 #[.slice (some ⟨w.heap.size + 1, 0, none⟩) 1 1, .int .i64 (WN : Int)] w1 fun e w' => ∃ A' c', e = .returned (.slice A' WN c') ∧ OwnI w1.heap.size w' A' WN c' (List.replicate WN (-1)) ∧ Bl w1 w' := by
    rcases Nat.eq_zero_or_pos WN with h0 | h0
    · subst h0; exact slices_Repeat0 _ _ _ hr1
    · exact slices_Repeat _ _ WN _ hr1 (by omega) h0
  refine HRep.mono ?_
  rintro e w2 ⟨A, cA, rfl, ho2, hb2⟩
  have hown : OwnI (w.heap.size + 1) w2 A WN cA (luG WN gl 0) := OwnI.mono ho2 (by have := hb1.sz; simp at this; omega)
  replace hB := ((hB.alloc (.cells #[.int .i64 (-1)] 3)).keep hb1).keep hb2
  replace hW := ((hW.alloc (.cells #[.int .i64 (-1)] 3)).call hb1).call hb2
  clear hr1 HRep ho2
  have kB := hB.lt
  have kB2 := hB.cell 2 _ rfl
  have kB3 := hB.cell 3 _ rfl
  go_wp2
  go_loopw [17] (fun i wr => ∃ k : Nat, k ≤ n ∧ i = .int .i64 (k : Nat) ∧ OwnI (w.heap.size + 1) wr A WN cA (luG WN gl k) ∧ Blk wr w.heap.size 26 #[.int .i64 a, .int .i64 b, .slice Ag n cg, .slice Ao m co] ∧ Bl w wr) (fun i _ => n - (intOf i).toNat)
  case atStart => exact ⟨0, by omega, rfl, hown, hB, hW⟩
  case round =>
    clear hW hB hown kB kB2 kB3
    obtain ⟨k, hk, rfl, hown, hB, hW⟩ := hrel
    have kB := hB.lt
    have kB2 := hB.cell 2 _ rfl
    have kB3 := hB.cell 3 _ rfl
    by_cases hlt : k < n
    · obtain ⟨ad, K, x, y, rfl, hx, q0, q1, q2⟩ := (hg.keep hW).at_ hlt
      have HX := Lib.hid hx
      clear hx
      have hgd := goodG_facts (goodGs_at HGS.out HX.out)
      have hK := hgd.1
      have hps := Lib.hid hgd.2
      clear hgd
      have ik : (k : Int) < n := by omega
      have hst := Lib.hid (show luG WN gl (k + 1) = putA (luG WN gl k) (partsL ⟨K, x, y⟩) (k : Nat) by rw [luG, HX.out]; rfl)
      have hlen := Lib.hid (luG_len WN gl k)
      generalize luG WN gl k = L at *
      go_wp2_with (go_at_call 72; refine (impl_parts_o K x y _ hK).mono ?_; rintro e w3 ⟨A2, n2, c2, rfl, hr2, hn2, hq2, hb2⟩; have hblk := hown.blk; replace hB := (hB.alloc (.cells #[.int .i64 K, .int .i64 x, .int .i64 y] 57)).keep hb2; replace hW := (hW.alloc _).call hb2; replace hown := (hown.alloc (.cells #[.int .i64 K, .int .i64 x, .int .i64 y] 57)).keep hb2)
      obtain ⟨ps, hps0⟩ : ∃ ps, partsL ⟨K, x, y⟩ = ps := ⟨_, rfl⟩
      rw [hps0] at hps hr2 hst
      clear hps0 kB kB2 kB3
      have hpl := Lib.hid hr2.length
      obtain ⟨hlp1, hlp2⟩ := hr2.le
      have hap : ∀ q, A2 = some q → some q.block ≠ A.map (·.block) := fun q hq he => by (have h1 := hq2 q hq; have h2 := (hblk _ he.symm).2; simp at h1; omega)
      clear hblk hq2
      go_loopw [25] (fun i wq => ∃ z : Nat, z ≤ n2 ∧ i = .int .i64 (z : Nat) ∧ OwnI (w.heap.size + 1) wq A WN cA (putA L (ps.take z) (k : Nat)) ∧ RdI wq A2 n2 c2 ps ∧ Blk wq w.heap.size 26 #[.int .i64 a, .int .i64 b, .slice (some ad) n cg, .slice Ao m co] ∧ Bl w wq) (fun i _ => n2 - (intOf i).toNat)
      case atStart => exact ⟨0, by omega, rfl, hown, hr2, hB, hW⟩
      case round =>
        clear hown hr2 hB hW
        obtain ⟨z, hz, rfl, hown, hr2, hB, hW⟩ := hrel
        have kB := hB.lt
        have kB2 := hB.cell 2 _ rfl
        by_cases hlt3 : z < n2
        · obtain ⟨ad2, v, rfl, hadb2, hv, hcv⟩ := hr2.at_ hlt3
          have HV := Lib.hid hv
          have hvb := hps.out v (List.mem_of_getElem? hv)
          clear hv
          obtain ⟨V, rfl⟩ : ∃ V : Nat, v = V := ⟨v.toNat, by omega⟩
          have iz : (z : Int) < n2 := by omega
          have hVN : V < WN := by omega
          have iV : (V : Int) < WN := by omega
          have hpL : (putA L (ps.take z) (k : Nat)).length = WN := by rw [putA_len, hlen.out]
          have hs2 := Lib.hid (show putA L (ps.take (z + 1)) (k : Nat) = (putA L (ps.take z) (k : Nat)).set V (k : Nat) by rw [take_snoc HV.out, putA_snoc, Int.toNat_natCast])
          obtain ⟨g0, rfl, hgb, _, hcl, hfr⟩ := hown.form (by omega)
          have hfz := hfr V
          have hx2 := hcl V _ (List.getElem?_eq_getElem (by rw [hpL]; exact hVN))
          clear hcl hfr
          go_wp2
          go_roundw
          case rel => exact ⟨z + 1, by omega, by go_num, by rw [hs2.out]; exact hown.set_ V _ hVN, RdI.grown hr2 (grownBy_setCell _ _ _ _) hap, hB.far (by dsimp only; omega) _, hW.setCell (by dsimp only; omega) _⟩
          case measure => simp [intOf]; omega
        · have hE := Lib.hid (show ps.take z = ps from List.take_of_length_le (by rw [hpl.out]; omega))
          go_wp2
          go_roundw
          case rel => exact ⟨k + 1, by omega, by go_num, by rw [hst.out, ← hE.out]; exact hown, hB, hW⟩
          case measure => (simp [intOf]; omega)
    · have hE := Lib.hid (show luG WN gl k = luG WN gl gl.length by rw [hgl.out]; congr 1; omega)
      rw [hE.out] at hown
      generalize luG WN gl gl.length = L at *
      go_wp2
      go_loopw [38] (fun i wr => ∃ z : Nat, z ≤ m ∧ i = .int .i64 (z : Nat) ∧ OwnI (w.heap.size + 1) wr A WN cA (putA L (ol.take z) (n : Nat)) ∧ Blk wr w.heap.size 26 #[.int .i64 a, .int .i64 b, .slice Ag n cg, .slice Ao m co] ∧ Bl w wr) (fun i _ => m - (intOf i).toNat)
      case atStart => exact ⟨0, by omega, rfl, hown, hB, hW⟩
      case round =>
        clear hown hB hW kB kB2 kB3
        obtain ⟨z, hz, rfl, hown, hB, hW⟩ := hrel
        have kB := hB.lt
        have kB2 := hB.cell 2 _ rfl
        have kB3 := hB.cell 3 _ rfl
        by_cases hlt3 : z < m
        · obtain ⟨ad2, v, rfl, hadb2, hv, hcv⟩ := (ho.keep hW).at_ hlt3
          have HV := Lib.hid hv
          have hvb := HOL.out v (List.mem_of_getElem? hv)
          clear hv
          obtain ⟨V, rfl⟩ : ∃ V : Nat, v = V := ⟨v.toNat, by omega⟩
          have iz : (z : Int) < m := by omega
          have hVN : V < WN := by omega
          have iV : (V : Int) < WN := by omega
          have hpL : (putA L (ol.take z) (n : Nat)).length = WN := by rw [putA_len, HLL.out]
          have hs2 := Lib.hid (show putA L (ol.take (z + 1)) (n : Nat) = (putA L (ol.take z) (n : Nat)).set V (n : Nat) by rw [take_snoc HV.out, putA_snoc, Int.toNat_natCast])
          obtain ⟨g0, rfl, hgb, _, hcl, hfr⟩ := hown.form (by omega)
          have hfz := hfr V
          have hx2 := hcl V _ (List.getElem?_eq_getElem (by rw [hpL]; exact hVN))
          clear hcl hfr
          go_wp2
          go_roundw
          case rel => exact ⟨z + 1, by omega, by go_num, by rw [hs2.out]; exact hown.set_ V _ hVN, hB.far (by dsimp only; omega) _, hW.setCell (by dsimp only; omega) _⟩
          case measure => simp [intOf]; omega
        · have hE2 := Lib.hid (show ol.take z = ol from List.take_of_length_le (by rw [hol.out]; omega))
          go_wp2
          go_ret
          exact ⟨_, _, rfl, by rw [hR.out, ← hE2.out]; exact OwnI.mono hown (by omega), hW⟩
set_option maxRecDepth 20000 in
set_option maxHeartbeats 8000000 in
theorem spec_svLast (a b : Int) (Ag Ao : Option Addr) (n cg m co : Nat) (gl : List Gt) (ol : List Int) (w : World) (hg : RdG w Ag n cg gl) (ho : RdI w Ao m co ol) (hgood : goodC a b gl ol = true) :
    Calls Try.prog 68 #[.agg #[.int .i64 a, .int .i64 b, .slice Ag n cg, .slice Ao m co]] w fun e w' => ∃ A c, e = .returned (.slice A ((a + b).toNat + n) c) ∧ OwnI w.heap.size w' A ((a + b).toNat + n) c (luL ((a + b).toNat + n) gl ol) ∧ Bl w w' := by
  obtain ⟨hle1, hle2⟩ := hg.le
  obtain ⟨hle3, hle4⟩ := ho.le
  have hgl := Lib.hid hg.2
  have hol := Lib.hid ho.length
  obtain ⟨a0, a1, b0, b1, hn, hm, hgs, hos⟩ := goodC_facts hgood
  rw [hg.2] at hn hos
  rw [ho.length] at hm
  obtain ⟨N0, hN0⟩ : ∃ N0 : Nat, a + b = N0 := ⟨(a + b).toNat, by omega⟩
  rw [hN0] at hgs hos
  obtain ⟨WN, hWN⟩ : ∃ WN : Nat, N0 + n = WN := ⟨_, rfl⟩
  have HN := Lib.hid (show a + b + (n : Int) = WN by omega)
  have HGS := Lib.hid hgs
  have HOL := Lib.hid hos
  rw [show (a + b).toNat + n = WN by omega]
  have hR := Lib.hid (show luL WN gl ol = putA (luG WN gl gl.length) ol (n : Nat) by rw [luL, hgl.out])
  have HLL := Lib.hid (luG_len WN gl gl.length)
  have hWN2 : WN ≤ 340 := by omega
  have hWI : (WN : Int) ≤ N0 + n := by omega
  have hWJ : (N0 : Int) + n ≤ WN := by omega
  clear hgood hgs hos hWN
  have hW := (Bl.refl w).alloc (.cells #[.int .i64 a, .int .i64 b, .slice Ag n cg, .slice Ao m co] 26)
  have hB := Blk.new w 26 #[.int .i64 a, .int .i64 b, .slice Ag n cg, .slice Ao m co]
  have hmk := make_ints WN (by omega)
  go_enter Try.func68, Try.ntmps68
  go_wp2_with (go_at_call 104; refine (spec_ciWires _ _ _ _ _ _ _ _ _ (by omega) (by omega) (by omega) (by omega) (by omega)).mono ?_; rintro e w2 ⟨rfl, hb1⟩; rw [HN.out])
  replace hB := hB.keep hb1
  replace hW := hW.call hb1
  have sB := hB.lt
  have hown0 : OwnI (w.heap.size + 1) (w2.alloc (.cells (madeCells #[.int .i64 0] WN) 3)) (some ⟨w2.heap.size, 0, none⟩) WN WN (repL (-1) (List.replicate WN 0) 0) := by rw [repL_zero]; exact OwnI.mono (own_zeros w2 WN (by omega)) (by omega)
  replace hB := hB.alloc (.cells (madeCells #[.int .i64 0] WN) 3)
  replace hW := hW.alloc (.cells (madeCells #[.int .i64 0] WN) 3)
  go_wp2
  obtain ⟨g1, hg0⟩ : ∃ g1, w2.heap.size = g1 := ⟨_, rfl⟩
  rw [hg0] at hown0 sB ⊢
  clear hg0
  go_loopw [16] (fun i wr => ∃ k : Nat, k ≤ WN ∧ i = .int .i64 (k : Nat) ∧ OwnI (w.heap.size + 1) wr (some ⟨g1, 0, none⟩) WN WN (repL (-1) (List.replicate WN 0) k) ∧ Blk wr w.heap.size 26 #[.int .i64 a, .int .i64 b, .slice Ag n cg, .slice Ao m co] ∧ Bl w wr) (fun i _ => WN - (intOf i).toNat)
  case atStart => exact ⟨0, by omega, rfl, hown0, hB, hW⟩
  case round =>
    clear hW hB hown0 hmk
    obtain ⟨k, hk, rfl, hown, hB, hW⟩ := hrel
    have kB := hB.lt
    have kB2 := hB.cell 2 _ rfl
    have kB3 := hB.cell 3 _ rfl
    by_cases hlt : k < WN
    · have ik : (k : Int) < WN := by omega
      obtain ⟨q0, e0, _, _, hcl, hfr⟩ := hown.form (by omega)
      injection e0 with e0; injection e0 with e0; subst e0
      have hfz := hfr k
      have hx1 : (repL (-1) (List.replicate WN 0) k)[k]? = some 0 := by
        unfold repL; rw [List.getElem?_append_right (by simp), List.length_replicate, Nat.sub_self, List.getElem?_drop, List.getElem?_replicate, if_pos (by omega)]
      have hx2 := hcl _ _ hx1
      clear hcl hfr hx1
      have hst := Lib.hid (repL_step (-1) (List.replicate WN 0) k (by simp; exact hlt))
      go_wp2
      go_roundw
      case rel => exact ⟨k + 1, by omega, by go_num, by rw [← hst.out]; exact hown.set_ k _ hlt, hB.far (by dsimp only; omega) _, hW.setCell (by dsimp only; omega) _⟩
      case measure => simp [intOf]; omega
    · have hD0 : repL (-1) (List.replicate WN 0) k = luG WN gl 0 := by
        have := repL_all (-1) (List.replicate WN 0)
        rw [List.length_replicate] at this
        rw [show k = WN by omega, this]; rfl
      rw [hD0] at hown
      clear hD0
      go_wp2
      go_loopw [26] (fun i wr => ∃ k : Nat, k ≤ n ∧ i = .int .i64 (k : Nat) ∧ OwnI (w.heap.size + 1) wr (some ⟨g1, 0, none⟩) WN WN (luG WN gl k) ∧ Blk wr w.heap.size 26 #[.int .i64 a, .int .i64 b, .slice Ag n cg, .slice Ao m co] ∧ Bl w wr) (fun i _ => n - (intOf i).toNat)
      case atStart => exact ⟨0, by omega, rfl, hown, hB, hW⟩
      case round =>
        clear hW hB hown kB kB2 kB3
        obtain ⟨k, hk, rfl, hown, hB, hW⟩ := hrel
        have kB := hB.lt
        have kB2 := hB.cell 2 _ rfl
        have kB3 := hB.cell 3 _ rfl
        by_cases hlt : k < n
        · obtain ⟨ad, K, x, y, rfl, hx, q0, q1, q2⟩ := (hg.keep hW).at_ hlt
          have HX := Lib.hid hx
          clear hx
          have hgd := goodG_facts (goodGs_at HGS.out HX.out)
          have hK := hgd.1
          have hps := Lib.hid hgd.2
          clear hgd
          have ik : (k : Int) < n := by omega
          have hst := Lib.hid (show luG WN gl (k + 1) = putA (luG WN gl k) (partsL ⟨K, x, y⟩) (k : Nat) by rw [luG, HX.out]; rfl)
          have hlen := Lib.hid (luG_len WN gl k)
          generalize luG WN gl k = L at *
          go_wp2_with (go_at_call 73; refine (spec_ciParts_o K x y _ hK).mono ?_; rintro e w3 ⟨A2, n2, c2, rfl, hr2, hn2, hq2, hb2⟩; have hblk := hown.blk; replace hB := (hB.alloc (.cells #[.int .i64 K, .int .i64 x, .int .i64 y] 57)).keep hb2; replace hW := (hW.alloc _).call hb2; replace hown := (hown.alloc (.cells #[.int .i64 K, .int .i64 x, .int .i64 y] 57)).keep hb2)
          obtain ⟨ps, hps0⟩ : ∃ ps, partsL ⟨K, x, y⟩ = ps := ⟨_, rfl⟩
          rw [hps0] at hps hr2 hst
          clear hps0 kB kB2 kB3
          have hpl := Lib.hid hr2.length
          obtain ⟨hlp1, hlp2⟩ := hr2.le
          have hap : ∀ q, A2 = some q → some q.block ≠ (some g1 : Option Nat) := fun q hq he => by (have h1 := hq2 q hq; have h2 := (hblk g1 rfl).2; injection he with he; simp at h1; omega)
          clear hblk hq2
          go_loopw [34] (fun i wq => ∃ z : Nat, z ≤ n2 ∧ i = .int .i64 (z : Nat) ∧ OwnI (w.heap.size + 1) wq (some ⟨g1, 0, none⟩) WN WN (putA L (ps.take z) (k : Nat)) ∧ RdI wq A2 n2 c2 ps ∧ Blk wq w.heap.size 26 #[.int .i64 a, .int .i64 b, .slice (some ad) n cg, .slice Ao m co] ∧ Bl w wq) (fun i _ => n2 - (intOf i).toNat)
          case atStart => exact ⟨0, by omega, rfl, hown, hr2, hB, hW⟩
          case round =>
            clear hown hr2 hB hW
            obtain ⟨z, hz, rfl, hown, hr2, hB, hW⟩ := hrel
            have kB := hB.lt
            have kB2 := hB.cell 2 _ rfl
            by_cases hlt3 : z < n2
            · obtain ⟨ad2, v, rfl, hadb2, hv, hcv⟩ := hr2.at_ hlt3
              have HV := Lib.hid hv
              have hvb := hps.out v (List.mem_of_getElem? hv)
              clear hv
              obtain ⟨V, rfl⟩ : ∃ V : Nat, v = V := ⟨v.toNat, by omega⟩
              have iz : (z : Int) < n2 := by omega
              have hVN : V < WN := by omega
              have iV : (V : Int) < WN := by omega
              have hpL : (putA L (ps.take z) (k : Nat)).length = WN := by rw [putA_len, hlen.out]
              have hs2 := Lib.hid (show putA L (ps.take (z + 1)) (k : Nat) = (putA L (ps.take z) (k : Nat)).set V (k : Nat) by rw [take_snoc HV.out, putA_snoc, Int.toNat_natCast])
              obtain ⟨g0, e0, hgb, _, hcl, hfr⟩ := hown.form (by omega); injection e0 with e0; injection e0 with e0; subst e0
              have hfz := hfr V
              have hx2 := hcl V _ (List.getElem?_eq_getElem (by rw [hpL]; exact hVN))
              clear hcl hfr
              go_wp2
              go_roundw
              case rel => exact ⟨z + 1, by omega, by go_num, by rw [hs2.out]; exact hown.set_ V _ hVN, RdI.grown hr2 (grownBy_setCell _ _ _ _) hap, hB.far (by dsimp only; omega) _, hW.setCell (by dsimp only; omega) _⟩
              case measure => simp [intOf]; omega
            · have hE := Lib.hid (show ps.take z = ps from List.take_of_length_le (by rw [hpl.out]; omega))
              go_wp2
              go_roundw
              case rel => exact ⟨k + 1, by omega, by go_num, by rw [hst.out, ← hE.out]; exact hown, hB, hW⟩
              case measure => (simp [intOf]; omega)
        · have hE := Lib.hid (show luG WN gl k = luG WN gl gl.length by rw [hgl.out]; congr 1; omega)
          rw [hE.out] at hown
          generalize luG WN gl gl.length = L at *
          go_wp2
          go_loopw [47] (fun i wr => ∃ z : Nat, z ≤ m ∧ i = .int .i64 (z : Nat) ∧ OwnI (w.heap.size + 1) wr (some ⟨g1, 0, none⟩) WN WN (putA L (ol.take z) (n : Nat)) ∧ Blk wr w.heap.size 26 #[.int .i64 a, .int .i64 b, .slice Ag n cg, .slice Ao m co] ∧ Bl w wr) (fun i _ => m - (intOf i).toNat)
          case atStart => exact ⟨0, by omega, rfl, hown, hB, hW⟩
          case round =>
            clear hown hB hW kB kB2 kB3
            obtain ⟨z, hz, rfl, hown, hB, hW⟩ := hrel
            have kB := hB.lt
            have kB2 := hB.cell 2 _ rfl
            have kB3 := hB.cell 3 _ rfl
            by_cases hlt3 : z < m
            · obtain ⟨ad2, v, rfl, hadb2, hv, hcv⟩ := (ho.keep hW).at_ hlt3
              have HV := Lib.hid hv
              have hvb := HOL.out v (List.mem_of_getElem? hv)
              clear hv
              obtain ⟨V, rfl⟩ : ∃ V : Nat, v = V := ⟨v.toNat, by omega⟩
              have iz : (z : Int) < m := by omega
              have hVN : V < WN := by omega
              have iV : (V : Int) < WN := by omega
              have hpL : (putA L (ol.take z) (n : Nat)).length = WN := by rw [putA_len, HLL.out]
              have hs2 := Lib.hid (show putA L (ol.take (z + 1)) (n : Nat) = (putA L (ol.take z) (n : Nat)).set V (n : Nat) by rw [take_snoc HV.out, putA_snoc, Int.toNat_natCast])
              obtain ⟨g0, e0, hgb, _, hcl, hfr⟩ := hown.form (by omega); injection e0 with e0; injection e0 with e0; subst e0
              have hfz := hfr V
              have hx2 := hcl V _ (List.getElem?_eq_getElem (by rw [hpL]; exact hVN))
              clear hcl hfr
              go_wp2
              go_roundw
              case rel => exact ⟨z + 1, by omega, by go_num, by rw [hs2.out]; exact hown.set_ V _ hVN, hB.far (by dsimp only; omega) _, hW.setCell (by dsimp only; omega) _⟩
              case measure => simp [intOf]; omega
            · have hE2 := Lib.hid (show ol.take z = ol from List.take_of_length_le (by rw [hol.out]; omega))
              go_wp2
              go_ret
              exact ⟨_, _, rfl, by rw [hR.out, ← hE2.out]; exact OwnI.mono hown (by omega), hW⟩
set_option maxHeartbeats 2000000 in
theorem impl_LastUses (a b : Int) (Ag Ao : Option Addr) (n cg m co : Nat) (gl : List Gt) (ol : List Int) (w : World) (hg : RdG w Ag n cg gl) (ho : RdI w Ao m co ol) :
    Calls Try.prog 19 #[.agg #[.int .i64 a, .int .i64 b, .slice Ag n cg, .slice Ao m co]] w fun e w' => ∃ A' n' c', e = .returned (.tuple #[.slice A' n' c', .bool (goodC a b gl ol)]) ∧ OwnI w.heap.size w' A' n' c' (luR a b gl ol) ∧ Bl w w' := by
  have hW := (Bl.refl w).alloc (.cells #[.int .i64 a, .int .i64 b, .slice Ag n cg, .slice Ao m co] 26)
  have hB := Blk.new w 26 #[.int .i64 a, .int .i64 b, .slice Ag n cg, .slice Ao m co]
  have hG := Lib.hid (impl_IsCircuit a b Ag Ao n cg m co gl ol (w.alloc (.cells #[.int .i64 a, .int .i64 b, .slice Ag n cg, .slice Ao m co] 26)) (hg.keep hW) (ho.keep hW))
  rcases hgd : goodC a b gl ol
  · rw [hgd] at hG
    have hR := Lib.hid (show luR a b gl ol = [] by simp [luR, hgd])
    go_enter Try.func19, Try.ntmps19
    go_wp2_with (go_at_call 50; refine hG.out.mono ?_; rintro e w1 ⟨rfl, hb1⟩)
    go_ret2
    exact ⟨none, 0, 0, rfl, by rw [hR.out]; exact OwnI.nil _ _, (by (repeat (first | assumption | with_reducible exact Bl.refl _ | with_reducible refine Bl.drewN ?_ _ | with_reducible refine Bl.drew ?_ | with_reducible refine Bl.alloc ?_ _ | (with_reducible refine Bl.call ?_ (by assumption)))))⟩
  · rw [hgd] at hG
    have HGD := Lib.hid hgd
    have hR := Lib.hid (show luR a b gl ol = luL ((a + b).toNat + n) gl ol by rw [luR, hgd, hg.2]; rfl)
    clear hgd
    go_enter Try.func19, Try.ntmps19
    go_wp2_with (first | (go_at_call 50; refine hG.out.mono ?_; rintro e w1 ⟨rfl, hb1⟩; replace hB := hB.keep hb1; replace hW := hW.call hb1; have hB_l := hB.lt; have hB_0 := hB.cell 0 _ rfl; have hB_1 := hB.cell 1 _ rfl; have hB_2 := hB.cell 2 _ rfl; have hB_3 := hB.cell 3 _ rfl) | (go_at_call 67; refine (impl_lastUses a b Ag Ao n cg m co gl ol _ (hg.keep hW) (ho.keep hW) HGD.out).mono ?_; rintro e w2 ⟨A2, c2, rfl, ho2, hb2⟩))
    go_ret2
    exact ⟨_, _, _, rfl, by rw [hR.out]; exact OwnI.mono ho2 hW.sz, hW.call hb2⟩
set_option maxHeartbeats 2000000 in
theorem spec_LastUses (a b : Int) (Ag Ao : Option Addr) (n cg m co : Nat) (gl : List Gt) (ol : List Int) (w : World) (hg : RdG w Ag n cg gl) (ho : RdI w Ao m co ol) :
    Calls Try.prog 20 #[.agg #[.int .i64 a, .int .i64 b, .slice Ag n cg, .slice Ao m co]] w fun e w' => ∃ A' n' c', e = .returned (.tuple #[.slice A' n' c', .bool (goodC a b gl ol)]) ∧ OwnI w.heap.size w' A' n' c' (luR a b gl ol) ∧ Bl w w' := by
  have hW := (Bl.refl w).alloc (.cells #[.int .i64 a, .int .i64 b, .slice Ag n cg, .slice Ao m co] 26)
  have hB := Blk.new w 26 #[.int .i64 a, .int .i64 b, .slice Ag n cg, .slice Ao m co]
  have hG := Lib.hid (spec_ciGood a b Ag Ao n cg m co gl ol (w.alloc (.cells #[.int .i64 a, .int .i64 b, .slice Ag n cg, .slice Ao m co] 26)) (hg.keep hW) (ho.keep hW))
  rcases hgd : goodC a b gl ol
  · rw [hgd] at hG
    have hR := Lib.hid (show luR a b gl ol = [] by simp [luR, hgd])
    go_enter Try.func20, Try.ntmps20
    go_wp2_with (go_at_call 53; refine hG.out.mono ?_; rintro e w1 ⟨rfl, hb1⟩)
    go_ret2
    exact ⟨none, 0, 0, rfl, by rw [hR.out]; exact OwnI.nil _ _, (by (repeat (first | assumption | with_reducible exact Bl.refl _ | with_reducible refine Bl.drewN ?_ _ | with_reducible refine Bl.drew ?_ | with_reducible refine Bl.alloc ?_ _ | (with_reducible refine Bl.call ?_ (by assumption)))))⟩
  · rw [hgd] at hG
    have HGD := Lib.hid hgd
    have hR := Lib.hid (show luR a b gl ol = luL ((a + b).toNat + n) gl ol by rw [luR, hgd, hg.2]; rfl)
    clear hgd
    go_enter Try.func20, Try.ntmps20
    go_wp2_with (first | (go_at_call 53; refine hG.out.mono ?_; rintro e w1 ⟨rfl, hb1⟩; replace hB := hB.keep hb1; replace hW := hW.call hb1; have hB_l := hB.lt; have hB_0 := hB.cell 0 _ rfl; have hB_1 := hB.cell 1 _ rfl; have hB_2 := hB.cell 2 _ rfl; have hB_3 := hB.cell 3 _ rfl) | (go_at_call 68; refine (spec_svLast a b Ag Ao n cg m co gl ol _ (hg.keep hW) (ho.keep hW) HGD.out).mono ?_; rintro e w2 ⟨A2, c2, rfl, ho2, hb2⟩))
    go_ret2
    exact ⟨_, _, _, rfl, by rw [hR.out]; exact OwnI.mono ho2 hW.sz, hW.call hb2⟩
end Go.Proofs.Ytlmlffiajgofeaa
