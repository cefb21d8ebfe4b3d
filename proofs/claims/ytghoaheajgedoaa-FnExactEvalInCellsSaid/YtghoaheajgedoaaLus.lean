/- Contracts of LastUses, and the walk of its law.
   Conditions: none. -/
import Derived.Test.YtghoaheajgedoaaRep
namespace Go.Proofs.Ytghoaheajgedoaa
open Go.RowKit
set_option linter.unusedVariables false
/-- All places of a list get v. -/
def putA (l : List Int) (ps : List Int) (v : Int) : List Int := ps.foldl (fun l (x : Int) => l.set x.toNat v) l
theorem putA_snoc (l ps : List Int) (x v : Int) : putA l (ps ++ [x]) v = (putA l ps v).set x.toNat v := by
  unfold putA
  rw [List.foldl_append]
  rfl
theorem putA_len (l ps : List Int) (v : Int) : (putA l ps v).length = l.length := by
  unfold putA
  induction ps generalizing l with
  | nil => rfl
  | cons x ps ih => rw [List.foldl_cons, ih, List.length_set]
theorem putA_bd (lo hi : Int) (ps : List Int) (v : Int) (hv : lo ≤ v ∧ v ≤ hi) : ∀ l : List Int, (∀ x ∈ l, lo ≤ x ∧ x ≤ hi) → ∀ x ∈ putA l ps v, lo ≤ x ∧ x ≤ hi := by
  unfold putA
  induction ps with
  | nil => intro l h; exact h
  | cons p ps ih =>
    intro l h
    rw [List.foldl_cons]
    refine ih _ fun x hx => ?_
    rcases List.mem_or_eq_of_mem_set hx with h1 | h1
    · exact h x h1
    · rw [h1]; exact hv
def luG (N : Nat) (gl : List Gt) : Nat → List Int
  | 0 => List.replicate N (-1)
  | k + 1 => putA (luG N gl k) (partsL (gl[k]?.getD Gt.zero)) k
theorem luG_len (N : Nat) (gl : List Gt) (k : Nat) : (luG N gl k).length = N := by
  induction k with
  | zero => simp [luG]
  | succ k ih => rw [luG, putA_len, ih]
theorem luG_bd (N : Nat) (gl : List Gt) (k : Nat) : ∀ x ∈ luG N gl k, -1 ≤ x ∧ x ≤ k := by
  induction k with
  | zero => intro x hx; have := List.eq_of_mem_replicate hx; omega
  | succ k ih => exact putA_bd _ _ _ _ (by omega) _ (fun x hx => by have := ih x hx; omega)
/-- The last use of each wire. -/
def luL (N : Nat) (gl : List Gt) (ol : List Int) : List Int := putA (luG N gl gl.length) ol gl.length
theorem luL_len (N : Nat) (gl : List Gt) (ol : List Int) : (luL N gl ol).length = N := by rw [luL, putA_len, luG_len]
theorem luL_bd (N : Nat) (gl : List Gt) (ol : List Int) : ∀ x ∈ luL N gl ol, -1 ≤ x ∧ x ≤ gl.length := putA_bd _ _ _ _ (by omega) _ (luG_bd N gl _)
def luR (a b : Int) (gl : List Gt) (ol : List Int) : List Int := if goodC a b gl ol then luL ((a + b).toNat + gl.length) gl ol else []
theorem luR_len (a b : Int) (gl : List Gt) (ol : List Int) : (luR a b gl ol).length ≤ 1000000000 := by
  unfold luR; split
  · rename_i h
    obtain ⟨h1, h2, h3, h4, h5, _⟩ := goodC_facts h
    rw [luL_len]; omega
  · simp
set_option maxRecDepth 20000 in
set_option maxHeartbeats 8000000 in
theorem impl_lastUses (a b : Int) (Ag Ao : Option Addr) (n cg m co : Nat) (gl : List Gt) (ol : List Int) (w : World) (hg : RdG w Ag n cg gl) (ho : RdI w Ao m co ol) (hgood : goodC a b gl ol = true) :
    Calls Try.prog 66 #[.agg #[.int .i64 a, .int .i64 b, .slice Ag n cg, .slice Ao m co]] w fun e w' => ∃ A c, e = .returned (.slice A ((a + b).toNat + n) c) ∧ OwnI w.heap.size w' A ((a + b).toNat + n) c (luL ((a + b).toNat + n) gl ol) ∧ Bl w w' := by
  obtain ⟨hle1, hle2⟩ := hg.le
  obtain ⟨hle3, hle4⟩ := ho.le
  have hgl := Lib.hid hg.2
  have hol := Lib.hid ho.length
  obtain ⟨a0, a1, b0, b1, hn, hm, hgs, hos⟩ := goodC_facts hgood
  rw [hg.2] at hn hos
  rw [ho.length] at hm
  obtain ⟨N0, hN0⟩ : ∃ N0 : Nat, a + b = N0 := ⟨(a + b).toNat, by omega⟩
  rw [hN0] at hgs hos
  obtain ⟨WN, hWN⟩ : ∃ WN : Nat, N0 + n = WN := ⟨_, rfl⟩
  have HN := Lib.hid (show a + b + (n : Int) = WN by omega)
  have HGS := Lib.hid hgs
  have HOL := Lib.hid hos
  rw [show (a + b).toNat + n = WN by omega]
  have hR := Lib.hid (show luL WN gl ol = putA (luG WN gl gl.length) ol (n : Nat) by rw [luL, hgl.out])
  have HLL := Lib.hid (luG_len WN gl gl.length)
  have hWN2 : WN ≤ 340 := by omega
  have hWI : (WN : Int) ≤ N0 + n := by omega
  have hWJ : (N0 : Int) + n ≤ WN := by omega
  clear hgood hgs hos hWN
  have hW := (Bl.refl w).alloc (.cells #[.int .i64 a, .int .i64 b, .slice Ag n cg, .slice Ao m co] 31)
  have hB := Blk.new w 31 #[.int .i64 a, .int .i64 b, .slice Ag n cg, .slice Ao m co]
  go_enter Try.func66, Try.ntmps66
  go_wp2_with (go_at_call 73; refine (impl_wires _ _ _ _ _ _ _ _ _ (by omega) (by omega) (by omega) (by omega) (by omega)).mono ?_; rintro e w1 ⟨rfl, hb1⟩; rw [HN.out])
  have hr1 : RdI w1 (some ⟨w.heap.size + 1, 0, none⟩) 1 1 [-1] := RdI.keep (rd_new1 (w.alloc (.cells #[.int .i64 a, .int .i64 b, .slice Ag n cg, .slice Ao m co] 31)) 3 (-1)) hb1
  have HRep : Calls Try.prog 93 #[.slice (some ⟨w.heap.size + 1, 0, none⟩) 1 1, .int .i64 (WN : Int)] w1 fun e w' => ∃ A' c', e = .returned (.slice A' WN c') ∧ OwnI w1.heap.size w' A' WN c' (List.replicate WN (-1)) ∧ Bl w1 w' := by
    rcases Nat.eq_zero_or_pos WN with h0 | h0
    · subst h0; exact slices_Repeat0 _ _ _ hr1
    · exact slices_Repeat _ _ WN _ hr1 (by omega) h0
  refine HRep.mono ?_
  rintro e w2 ⟨A, cA, rfl, ho2, hb2⟩
  have hown : OwnI (w.heap.size + 1) w2 A WN cA (luG WN gl 0) := OwnI.mono ho2 (by have := hb1.sz; simp at this; omega)
  replace hB := ((hB.alloc (.cells #[.int .i64 (-1)] 3)).keep hb1).keep hb2
  replace hW := ((hW.alloc (.cells #[.int .i64 (-1)] 3)).call hb1).call hb2
  clear hr1 HRep ho2
  have kB := hB.lt
  have kB2 := hB.cell 2 _ rfl
  have kB3 := hB.cell 3 _ rfl
  go_wp2
  go_loopw [17] (fun i wr => ∃ k : Nat, k ≤ n ∧ i = .int .i64 (k : Nat) ∧ OwnI (w.heap.size + 1) wr A WN cA (luG WN gl k) ∧ Blk wr w.heap.size 31 #[.int .i64 a, .int .i64 b, .slice Ag n cg, .slice Ao m co] ∧ Bl w wr) (fun i _ => n - (intOf i).toNat)
  case atStart => exact ⟨0, by omega, rfl, hown, hB, hW⟩
  case round =>
    clear hW hB hown kB kB2 kB3
    obtain ⟨k, hk, rfl, hown, hB, hW⟩ := hrel
    have kB := hB.lt
    have kB2 := hB.cell 2 _ rfl
    have kB3 := hB.cell 3 _ rfl
    by_cases hlt : k < n
    · obtain ⟨ad, K, x, y, rfl, hx, q0, q1, q2⟩ := (hg.keep hW).at_ hlt
      have HX := Lib.hid hx
      clear hx
      have hgd := goodG_facts (goodGs_at HGS.out HX.out)
      have hK := hgd.1
      have hps := Lib.hid hgd.2
      clear hgd
      have ik : (k : Int) < n := by omega
      have hst := Lib.hid (show luG WN gl (k + 1) = putA (luG WN gl k) (partsL ⟨K, x, y⟩) (k : Nat) by rw [luG, HX.out]; rfl)
      have hlen := Lib.hid (luG_len WN gl k)
      generalize luG WN gl k = L at *
      go_wp2_with (go_at_call 63; refine (impl_parts_o K x y _ hK).mono ?_; rintro e w3 ⟨A2, n2, c2, rfl, hr2, hn2, hq2, hb2⟩; have hblk := hown.blk; replace hB := (hB.alloc (.cells #[.int .i64 K, .int .i64 x, .int .i64 y] 62)).keep hb2; replace hW := (hW.alloc _).call hb2; replace hown := (hown.alloc (.cells #[.int .i64 K, .int .i64 x, .int .i64 y] 62)).keep hb2)
      obtain ⟨ps, hps0⟩ : ∃ ps, partsL ⟨K, x, y⟩ = ps := ⟨_, rfl⟩
      rw [hps0] at hps hr2 hst
      clear hps0 kB kB2 kB3
      have hpl := Lib.hid hr2.length
      obtain ⟨hlp1, hlp2⟩ := hr2.le
      have hap : ∀ q, A2 = some q → some q.block ≠ A.map (·.block) := fun q hq he => by (have h1 := hq2 q hq; have h2 := (hblk _ he.symm).2; simp at h1; omega)
      clear hblk hq2
      go_loopw [25] (fun i wq => ∃ z : Nat, z ≤ n2 ∧ i = .int .i64 (z : Nat) ∧ OwnI (w.heap.size + 1) wq A WN cA (putA L (ps.take z) (k : Nat)) ∧ RdI wq A2 n2 c2 ps ∧ Blk wq w.heap.size 31 #[.int .i64 a, .int .i64 b, .slice (some ad) n cg, .slice Ao m co] ∧ Bl w wq) (fun i _ => n2 - (intOf i).toNat)
      case atStart => exact ⟨0, by omega, rfl, hown, hr2, hB, hW⟩
      case round =>
        clear hown hr2 hB hW
        obtain ⟨z, hz, rfl, hown, hr2, hB, hW⟩ := hrel
        have kB := hB.lt
        have kB2 := hB.cell 2 _ rfl
        by_cases hlt3 : z < n2
        · obtain ⟨ad2, v, rfl, hadb2, hv, hcv⟩ := hr2.at_ hlt3
          have HV := Lib.hid hv
          have hvb := hps.out v (List.mem_of_getElem? hv)
          clear hv
          obtain ⟨V, rfl⟩ : ∃ V : Nat, v = V := ⟨v.toNat, by omega⟩
          have iz : (z : Int) < n2 := by omega
          have hVN : V < WN := by omega
          have iV : (V : Int) < WN := by omega
          have hpL : (putA L (ps.take z) (k : Nat)).length = WN := by rw [putA_len, hlen.out]
          have hs2 := Lib.hid (show putA L (ps.take (z + 1)) (k : Nat) = (putA L (ps.take z) (k : Nat)).set V (k : Nat) by rw [take_snoc HV.out, putA_snoc, Int.toNat_natCast])
          obtain ⟨g0, rfl, hgb, _, hcl, hfr⟩ := hown.form (by omega)
          have hfz := hfr V
          have hx2 := hcl V _ (List.getElem?_eq_getElem (by rw [hpL]; exact hVN))
          clear hcl hfr
          go_wp2
          go_roundw
          case rel => exact ⟨z + 1, by omega, by go_num, by rw [hs2.out]; exact hown.set_ V _ hVN, RdI.grown hr2 (grownBy_setCell _ _ _ _) hap, hB.far (by dsimp only; omega) _, hW.setCell (by dsimp only; omega) _⟩
          case measure => simp [intOf]; omega
        · have hE := Lib.hid (show ps.take z = ps from List.take_of_length_le (by rw [hpl.out]; omega))
          go_wp2
          go_roundw
          case rel => exact ⟨k + 1, by omega, by go_num, by rw [hst.out, ← hE.out]; exact hown, hB, hW⟩
          case measure => (simp [intOf]; omega)
    · have hE := Lib.hid (show luG WN gl k = luG WN gl gl.length by rw [hgl.out]; congr 1; omega)
      rw [hE.out] at hown
      generalize luG WN gl gl.length = L at *
      go_wp2
      go_loopw [38] (fun i wr => ∃ z : Nat, z ≤ m ∧ i = .int .i64 (z : Nat) ∧ OwnI (w.heap.size + 1) wr A WN cA (putA L (ol.take z) (n : Nat)) ∧ Blk wr w.heap.size 31 #[.int .i64 a, .int .i64 b, .slice Ag n cg, .slice Ao m co] ∧ Bl w wr) (fun i _ => m - (intOf i).toNat)
      case atStart => exact ⟨0, by omega, rfl, hown, hB, hW⟩
      case round =>
        clear hown hB hW kB kB2 kB3
        obtain ⟨z, hz, rfl, hown, hB, hW⟩ := hrel
        have kB := hB.lt
        have kB2 := hB.cell 2 _ rfl
        have kB3 := hB.cell 3 _ rfl
        by_cases hlt3 : z < m
        · obtain ⟨ad2, v, rfl, hadb2, hv, hcv⟩ := (ho.keep hW).at_ hlt3
          have HV := Lib.hid hv
          have hvb := HOL.out v (List.mem_of_getElem? hv)
          clear hv
          obtain ⟨V, rfl⟩ : ∃ V : Nat, v = V := ⟨v.toNat, by omega⟩
          have iz : (z : Int) < m := by omega
          have hVN : V < WN := by omega
          have iV : (V : Int) < WN := by omega
          have hpL : (putA L (ol.take z) (n : Nat)).length = WN := by rw [putA_len, HLL.out]
          have hs2 := Lib.hid (show putA L (ol.take (z + 1)) (n : Nat) = (putA L (ol.take z) (n : Nat)).set V (n : Nat) by rw [take_snoc HV.out, putA_snoc, Int.toNat_natCast])
          obtain ⟨g0, rfl, hgb, _, hcl, hfr⟩ := hown.form (by omega)
          have hfz := hfr V
          have hx2 := hcl V _ (List.getElem?_eq_getElem (by rw [hpL]; exact hVN))
          clear hcl hfr
          go_wp2
          go_roundw
          case rel => exact ⟨z + 1, by omega, by go_num, by rw [hs2.out]; exact hown.set_ V _ hVN, hB.far (by dsimp only; omega) _, hW.setCell (by dsimp only; omega) _⟩
          case measure => simp [intOf]; omega
        · have hE2 := Lib.hid (show ol.take z = ol from List.take_of_length_le (by rw [hol.out]; omega))
          go_wp2
          go_ret
          exact ⟨_, _, rfl, by rw [hR.out, ← hE2.out]; exact OwnI.mono hown (by omega), hW⟩
set_option maxRecDepth 20000 in
set_option maxHeartbeats 8000000 in
theorem spec_svLast (a b : Int) (Ag Ao : Option Addr) (n cg m co : Nat) (gl : List Gt) (ol : List Int) (w : World) (hg : RdG w Ag n cg gl) (ho : RdI w Ao m co ol) (hgood : goodC a b gl ol = true) :
    Calls Try.prog 65 #[.agg #[.int .i64 a, .int .i64 b, .slice Ag n cg, .slice Ao m co]] w fun e w' => ∃ A c, e = .returned (.slice A ((a + b).toNat + n) c) ∧ OwnI w.heap.size w' A ((a + b).toNat + n) c (luL ((a + b).toNat + n) gl ol) ∧ Bl w w' := by
  obtain ⟨hle1, hle2⟩ := hg.le
  obtain ⟨hle3, hle4⟩ := ho.le
  have hgl := Lib.hid hg.2
  have hol := Lib.hid ho.length
  obtain ⟨a0, a1, b0, b1, hn, hm, hgs, hos⟩ := goodC_facts hgood
  rw [hg.2] at hn hos
  rw [ho.length] at hm
  obtain ⟨N0, hN0⟩ : ∃ N0 : Nat, a + b = N0 := ⟨(a + b).toNat, by omega⟩
  rw [hN0] at hgs hos
  obtain ⟨WN, hWN⟩ : ∃ WN : Nat, N0 + n = WN := ⟨_, rfl⟩
  have HN := Lib.hid (show a + b + (n : Int) = WN by omega)
  have HGS := Lib.hid hgs
  have HOL := Lib.hid hos
  rw [show (a + b).toNat + n = WN by omega]
  have hR := Lib.hid (show luL WN gl ol = putA (luG WN gl gl.length) ol (n : Nat) by rw [luL, hgl.out])
  have HLL := Lib.hid (luG_len WN gl gl.length)
  have hWN2 : WN ≤ 340 := by omega
  have hWI : (WN : Int) ≤ N0 + n := by omega
  have hWJ : (N0 : Int) + n ≤ WN := by omega
  clear hgood hgs hos hWN
  have hW := (Bl.refl w).alloc (.cells #[.int .i64 a, .int .i64 b, .slice Ag n cg, .slice Ao m co] 31)
  have hB := Blk.new w 31 #[.int .i64 a, .int .i64 b, .slice Ag n cg, .slice Ao m co]
  have hmk := make_ints WN (by omega)
  go_enter Try.func65, Try.ntmps65
  go_wp2_with (go_at_call 84; refine (spec_ciWires _ _ _ _ _ _ _ _ _ (by omega) (by omega) (by omega) (by omega) (by omega)).mono ?_; rintro e w2 ⟨rfl, hb1⟩; rw [HN.out])
  replace hB := hB.keep hb1
  replace hW := hW.call hb1
  have sB := hB.lt
  have hown0 : OwnI (w.heap.size + 1) (w2.alloc (.cells (madeCells #[.int .i64 0] WN) 3)) (some ⟨w2.heap.size, 0, none⟩) WN WN (repL (-1) (List.replicate WN 0) 0) := by rw [repL_zero]; exact OwnI.mono (own_zeros w2 WN (by omega)) (by omega)
  replace hB := hB.alloc (.cells (madeCells #[.int .i64 0] WN) 3)
  replace hW := hW.alloc (.cells (madeCells #[.int .i64 0] WN) 3)
  go_wp2
  obtain ⟨g1, hg0⟩ : ∃ g1, w2.heap.size = g1 := ⟨_, rfl⟩
  rw [hg0] at hown0 sB ⊢
  clear hg0
  go_loopw [16] (fun i wr => ∃ k : Nat, k ≤ WN ∧ i = .int .i64 (k : Nat) ∧ OwnI (w.heap.size + 1) wr (some ⟨g1, 0, none⟩) WN WN (repL (-1) (List.replicate WN 0) k) ∧ Blk wr w.heap.size 31 #[.int .i64 a, .int .i64 b, .slice Ag n cg, .slice Ao m co] ∧ Bl w wr) (fun i _ => WN - (intOf i).toNat)
  case atStart => exact ⟨0, by omega, rfl, hown0, hB, hW⟩
  case round =>
    clear hW hB hown0 hmk
    obtain ⟨k, hk, rfl, hown, hB, hW⟩ := hrel
    have kB := hB.lt
    have kB2 := hB.cell 2 _ rfl
    have kB3 := hB.cell 3 _ rfl
    by_cases hlt : k < WN
    · have ik : (k : Int) < WN := by omega
      obtain ⟨q0, e0, _, _, hcl, hfr⟩ := hown.form (by omega)
      injection e0 with e0; injection e0 with e0; subst e0
      have hfz := hfr k
      have hx1 : (repL (-1) (List.replicate WN 0) k)[k]? = some 0 := by
        unfold repL; rw [List.getElem?_append_right (by simp), List.length_replicate, Nat.sub_self, List.getElem?_drop, List.getElem?_replicate, if_pos (by omega)]
      have hx2 := hcl _ _ hx1
      clear hcl hfr hx1
      have hst := Lib.hid (repL_step (-1) (List.replicate WN 0) k (by simp; exact hlt))
      go_wp2
      go_roundw
      case rel => exact ⟨k + 1, by omega, by go_num, by rw [← hst.out]; exact hown.set_ k _ hlt, hB.far (by dsimp only; omega) _, hW.setCell (by dsimp only; omega) _⟩
      case measure => simp [intOf]; omega
    · have hD0 : repL (-1) (List.replicate WN 0) k = luG WN gl 0 := by
        have := repL_all (-1) (List.replicate WN 0)
        rw [List.length_replicate] at this
        rw [show k = WN by omega, this]; rfl
      rw [hD0] at hown
      clear hD0
      go_wp2
      go_loopw [26] (fun i wr => ∃ k : Nat, k ≤ n ∧ i = .int .i64 (k : Nat) ∧ OwnI (w.heap.size + 1) wr (some ⟨g1, 0, none⟩) WN WN (luG WN gl k) ∧ Blk wr w.heap.size 31 #[.int .i64 a, .int .i64 b, .slice Ag n cg, .slice Ao m co] ∧ Bl w wr) (fun i _ => n - (intOf i).toNat)
      case atStart => exact ⟨0, by omega, rfl, hown, hB, hW⟩
      case round =>
        clear hW hB hown kB kB2 kB3
        obtain ⟨k, hk, rfl, hown, hB, hW⟩ := hrel
        have kB := hB.lt
        have kB2 := hB.cell 2 _ rfl
        have kB3 := hB.cell 3 _ rfl
        by_cases hlt : k < n
        · obtain ⟨ad, K, x, y, rfl, hx, q0, q1, q2⟩ := (hg.keep hW).at_ hlt
          have HX := Lib.hid hx
          clear hx
          have hgd := goodG_facts (goodGs_at HGS.out HX.out)
          have hK := hgd.1
          have hps := Lib.hid hgd.2
          clear hgd
          have ik : (k : Int) < n := by omega
          have hst := Lib.hid (show luG WN gl (k + 1) = putA (luG WN gl k) (partsL ⟨K, x, y⟩) (k : Nat) by rw [luG, HX.out]; rfl)
          have hlen := Lib.hid (luG_len WN gl k)
          generalize luG WN gl k = L at *
          go_wp2_with (go_at_call 58; refine (spec_ciParts_o K x y _ hK).mono ?_; rintro e w3 ⟨A2, n2, c2, rfl, hr2, hn2, hq2, hb2⟩; have hblk := hown.blk; replace hB := (hB.alloc (.cells #[.int .i64 K, .int .i64 x, .int .i64 y] 62)).keep hb2; replace hW := (hW.alloc _).call hb2; replace hown := (hown.alloc (.cells #[.int .i64 K, .int .i64 x, .int .i64 y] 62)).keep hb2)
          obtain ⟨ps, hps0⟩ : ∃ ps, partsL ⟨K, x, y⟩ = ps := ⟨_, rfl⟩
          rw [hps0] at hps hr2 hst
          clear hps0 kB kB2 kB3
          have hpl := Lib.hid hr2.length
          obtain ⟨hlp1, hlp2⟩ := hr2.le
          have hap : ∀ q, A2 = some q → some q.block ≠ (some g1 : Option Nat) := fun q hq he => by (have h1 := hq2 q hq; have h2 := (hblk g1 rfl).2; injection he with he; simp at h1; omega)
          clear hblk hq2
          go_loopw [34] (fun i wq => ∃ z : Nat, z ≤ n2 ∧ i = .int .i64 (z : Nat) ∧ OwnI (w.heap.size + 1) wq (some ⟨g1, 0, none⟩) WN WN (putA L (ps.take z) (k : Nat)) ∧ RdI wq A2 n2 c2 ps ∧ Blk wq w.heap.size 31 #[.int .i64 a, .int .i64 b, .slice (some ad) n cg, .slice Ao m co] ∧ Bl w wq) (fun i _ => n2 - (intOf i).toNat)
          case atStart => exact ⟨0, by omega, rfl, hown, hr2, hB, hW⟩
          case round =>
            clear hown hr2 hB hW
            obtain ⟨z, hz, rfl, hown, hr2, hB, hW⟩ := hrel
            have kB := hB.lt
            have kB2 := hB.cell 2 _ rfl
            by_cases hlt3 : z < n2
            · obtain ⟨ad2, v, rfl, hadb2, hv, hcv⟩ := hr2.at_ hlt3
              have HV := Lib.hid hv
              have hvb := hps.out v (List.mem_of_getElem? hv)
              clear hv
              obtain ⟨V, rfl⟩ : ∃ V : Nat, v = V := ⟨v.toNat, by omega⟩
              have iz : (z : Int) < n2 := by omega
              have hVN : V < WN := by omega
              have iV : (V : Int) < WN := by omega
              have hpL : (putA L (ps.take z) (k : Nat)).length = WN := by rw [putA_len, hlen.out]
              have hs2 := Lib.hid (show putA L (ps.take (z + 1)) (k : Nat) = (putA L (ps.take z) (k : Nat)).set V (k : Nat) by rw [take_snoc HV.out, putA_snoc, Int.toNat_natCast])
              obtain ⟨g0, e0, hgb, _, hcl, hfr⟩ := hown.form (by omega); injection e0 with e0; injection e0 with e0; subst e0
              have hfz := hfr V
              have hx2 := hcl V _ (List.getElem?_eq_getElem (by rw [hpL]; exact hVN))
              clear hcl hfr
              go_wp2
              go_roundw
              case rel => exact ⟨z + 1, by omega, by go_num, by rw [hs2.out]; exact hown.set_ V _ hVN, RdI.grown hr2 (grownBy_setCell _ _ _ _) hap, hB.far (by dsimp only; omega) _, hW.setCell (by dsimp only; omega) _⟩
              case measure => simp [intOf]; omega
            · have hE := Lib.hid (show ps.take z = ps from List.take_of_length_le (by rw [hpl.out]; omega))
              go_wp2
              go_roundw
              case rel => exact ⟨k + 1, by omega, by go_num, by rw [hst.out, ← hE.out]; exact hown, hB, hW⟩
              case measure => (simp [intOf]; omega)
        · have hE := Lib.hid (show luG WN gl k = luG WN gl gl.length by rw [hgl.out]; congr 1; omega)
          rw [hE.out] at hown
          generalize luG WN gl gl.length = L at *
          go_wp2
          go_loopw [47] (fun i wr => ∃ z : Nat, z ≤ m ∧ i = .int .i64 (z : Nat) ∧ OwnI (w.heap.size + 1) wr (some ⟨g1, 0, none⟩) WN WN (putA L (ol.take z) (n : Nat)) ∧ Blk wr w.heap.size 31 #[.int .i64 a, .int .i64 b, .slice Ag n cg, .slice Ao m co] ∧ Bl w wr) (fun i _ => m - (intOf i).toNat)
          case atStart => exact ⟨0, by omega, rfl, hown, hB, hW⟩
          case round =>
            clear hown hB hW kB kB2 kB3
            obtain ⟨z, hz, rfl, hown, hB, hW⟩ := hrel
            have kB := hB.lt
            have kB2 := hB.cell 2 _ rfl
            have kB3 := hB.cell 3 _ rfl
            by_cases hlt3 : z < m
            · obtain ⟨ad2, v, rfl, hadb2, hv, hcv⟩ := (ho.keep hW).at_ hlt3
              have HV := Lib.hid hv
              have hvb := HOL.out v (List.mem_of_getElem? hv)
              clear hv
              obtain ⟨V, rfl⟩ : ∃ V : Nat, v = V := ⟨v.toNat, by omega⟩
              have iz : (z : Int) < m := by omega
              have hVN : V < WN := by omega
              have iV : (V : Int) < WN := by omega
              have hpL : (putA L (ol.take z) (n : Nat)).length = WN := by rw [putA_len, HLL.out]
              have hs2 := Lib.hid (show putA L (ol.take (z + 1)) (n : Nat) = (putA L (ol.take z) (n : Nat)).set V (n : Nat) by rw [take_snoc HV.out, putA_snoc, Int.toNat_natCast])
              obtain ⟨g0, e0, hgb, _, hcl, hfr⟩ := hown.form (by omega); injection e0 with e0; injection e0 with e0; subst e0
              have hfz := hfr V
              have hx2 := hcl V _ (List.getElem?_eq_getElem (by rw [hpL]; exact hVN))
              clear hcl hfr
              go_wp2
              go_roundw
              case rel => exact ⟨z + 1, by omega, by go_num, by rw [hs2.out]; exact hown.set_ V _ hVN, hB.far (by dsimp only; omega) _, hW.setCell (by dsimp only; omega) _⟩
              case measure => simp [intOf]; omega
            · have hE2 := Lib.hid (show ol.take z = ol from List.take_of_length_le (by rw [hol.out]; omega))
              go_wp2
              go_ret
              exact ⟨_, _, rfl, by rw [hR.out, ← hE2.out]; exact OwnI.mono hown (by omega), hW⟩
set_option maxHeartbeats 2000000 in
theorem impl_LastUses (a b : Int) (Ag Ao : Option Addr) (n cg m co : Nat) (gl : List Gt) (ol : List Int) (w : World) (hg : RdG w Ag n cg gl) (ho : RdI w Ao m co ol) :
    Calls Try.prog 28 #[.agg #[.int .i64 a, .int .i64 b, .slice Ag n cg, .slice Ao m co]] w fun e w' => ∃ A' n' c', e = .returned (.tuple #[.slice A' n' c', .bool (goodC a b gl ol)]) ∧ OwnI w.heap.size w' A' n' c' (luR a b gl ol) ∧ Bl w w' := by
  have hW := (Bl.refl w).alloc (.cells #[.int .i64 a, .int .i64 b, .slice Ag n cg, .slice Ao m co] 31)
  have hB := Blk.new w 31 #[.int .i64 a, .int .i64 b, .slice Ag n cg, .slice Ao m co]
  have hG := Lib.hid (impl_IsCircuit a b Ag Ao n cg m co gl ol (w.alloc (.cells #[.int .i64 a, .int .i64 b, .slice Ag n cg, .slice Ao m co] 31)) (hg.keep hW) (ho.keep hW))
  rcases hgd : goodC a b gl ol
  · rw [hgd] at hG
    have hR := Lib.hid (show luR a b gl ol = [] by simp [luR, hgd])
    go_enter Try.func28, Try.ntmps28
    go_wp2_with (go_at_call 53; refine hG.out.mono ?_; rintro e w1 ⟨rfl, hb1⟩)
    go_ret2
    exact ⟨none, 0, 0, rfl, by rw [hR.out]; exact OwnI.nil _ _, (by (repeat (first | assumption | with_reducible exact Bl.refl _ | with_reducible refine Bl.drewN ?_ _ | with_reducible refine Bl.drew ?_ | with_reducible refine Bl.alloc ?_ _ | (with_reducible refine Bl.call ?_ (by assumption)))))⟩
  · rw [hgd] at hG
    have HGD := Lib.hid hgd
    have hR := Lib.hid (show luR a b gl ol = luL ((a + b).toNat + n) gl ol by rw [luR, hgd, hg.2]; rfl)
    clear hgd
    go_enter Try.func28, Try.ntmps28
    go_wp2_with (first | (go_at_call 53; refine hG.out.mono ?_; rintro e w1 ⟨rfl, hb1⟩; replace hB := hB.keep hb1; replace hW := hW.call hb1; have hB_l := hB.lt; have hB_0 := hB.cell 0 _ rfl; have hB_1 := hB.cell 1 _ rfl; have hB_2 := hB.cell 2 _ rfl; have hB_3 := hB.cell 3 _ rfl) | (go_at_call 66; refine (impl_lastUses a b Ag Ao n cg m co gl ol _ (hg.keep hW) (ho.keep hW) HGD.out).mono ?_; rintro e w2 ⟨A2, c2, rfl, ho2, hb2⟩))
    go_ret2
    exact ⟨_, _, _, rfl, by rw [hR.out]; exact OwnI.mono ho2 hW.sz, hW.call hb2⟩
set_option maxHeartbeats 2000000 in
theorem spec_LastUses (a b : Int) (Ag Ao : Option Addr) (n cg m co : Nat) (gl : List Gt) (ol : List Int) (w : World) (hg : RdG w Ag n cg gl) (ho : RdI w Ao m co ol) :
    Calls Try.prog 27 #[.agg #[.int .i64 a, .int .i64 b, .slice Ag n cg, .slice Ao m co]] w fun e w' => ∃ A' n' c', e = .returned (.tuple #[.slice A' n' c', .bool (goodC a b gl ol)]) ∧ OwnI w.heap.size w' A' n' c' (luR a b gl ol) ∧ Bl w w' := by
  have hW := (Bl.refl w).alloc (.cells #[.int .i64 a, .int .i64 b, .slice Ag n cg, .slice Ao m co] 31)
  have hB := Blk.new w 31 #[.int .i64 a, .int .i64 b, .slice Ag n cg, .slice Ao m co]
  have hG := Lib.hid (spec_ciGood a b Ag Ao n cg m co gl ol (w.alloc (.cells #[.int .i64 a, .int .i64 b, .slice Ag n cg, .slice Ao m co] 31)) (hg.keep hW) (ho.keep hW))
  rcases hgd : goodC a b gl ol
  · rw [hgd] at hG
    have hR := Lib.hid (show luR a b gl ol = [] by simp [luR, hgd])
    go_enter Try.func27, Try.ntmps27
    go_wp2_with (go_at_call 49; refine hG.out.mono ?_; rintro e w1 ⟨rfl, hb1⟩)
    go_ret2
    exact ⟨none, 0, 0, rfl, by rw [hR.out]; exact OwnI.nil _ _, (by (repeat (first | assumption | with_reducible exact Bl.refl _ | with_reducible refine Bl.drewN ?_ _ | with_reducible refine Bl.drew ?_ | with_reducible refine Bl.alloc ?_ _ | (with_reducible refine Bl.call ?_ (by assumption)))))⟩
  · rw [hgd] at hG
    have HGD := Lib.hid hgd
    have hR := Lib.hid (show luR a b gl ol = luL ((a + b).toNat + n) gl ol by rw [luR, hgd, hg.2]; rfl)
    clear hgd
    go_enter Try.func27, Try.ntmps27
    go_wp2_with (first | (go_at_call 49; refine hG.out.mono ?_; rintro e w1 ⟨rfl, hb1⟩; replace hB := hB.keep hb1; replace hW := hW.call hb1; have hB_l := hB.lt; have hB_0 := hB.cell 0 _ rfl; have hB_1 := hB.cell 1 _ rfl; have hB_2 := hB.cell 2 _ rfl; have hB_3 := hB.cell 3 _ rfl) | (go_at_call 65; refine (spec_svLast a b Ag Ao n cg m co gl ol _ (hg.keep hW) (ho.keep hW) HGD.out).mono ?_; rintro e w2 ⟨A2, c2, rfl, ho2, hb2⟩))
    go_ret2
    exact ⟨_, _, _, rfl, by rw [hR.out]; exact OwnI.mono ho2 hW.sz, hW.call hb2⟩
set_option maxHeartbeats 4000000 in
theorem law_LastUses (a b : Int) (A B : Option Addr) (n c m d : Nat) (gl : List Gt) (ol : List Int) (w : World) (h : RdC w A n c gl B m d ol) :
    Calls Try.prog 6 #[.agg #[.int .i64 a, .int .i64 b, .slice A n c, .slice B m d]] w fun e w' => e = .returned (.bool true) ∧ Bl w w' := by
  obtain ⟨hle1, hle2⟩ := h.g.le
  obtain ⟨hle3, hle4⟩ := h.o.le
  have hW := (Bl.refl w).alloc (.cells #[.int .i64 a, .int .i64 b, .slice A n c, .slice B m d] 25)
  have hA := Blk.new w 25 #[.int .i64 a, .int .i64 b, .slice A n c, .slice B m d]
  (try clear hA_l hA_0 hA_1 hA_2 hA_3)
  have hA_l := hA.lt; have hA_0 := hA.cell 0 _ rfl; have hA_1 := hA.cell 1 _ rfl; have hA_2 := hA.cell 2 _ rfl; have hA_3 := hA.cell 3 _ rfl
  go_enter Try.func6, Try.ntmps6
  go_wp2_with fail
  refine (laws_szCircuit a b A B n c m d _ hle1 hle2 hle3 hle4).mono ?_
  rintro e w2 ⟨r, rfl, hr, hb2⟩
  replace hA := hA.keep hb2
  replace hW := hW.call hb2
  (try clear hA_l hA_0 hA_1 hA_2 hA_3)
  have hA_l := hA.lt; have hA_0 := hA.cell 0 _ rfl; have hA_1 := hA.cell 1 _ rfl; have hA_2 := hA.cell 2 _ rfl; have hA_3 := hA.cell 3 _ rfl
  rcases hr with rfl | ⟨hr0, hn, hm⟩
  · go_wp2
    go_ret
    exact ⟨rfl, hW⟩
  go_wp2_with fail
  refine (laws_toCircuit a b A B n c m d gl ol _ (h.keep hW) (by omega) (by omega)).mono ?_
  rintro e w3 ⟨A3, c3, B3, d3, rfl, hC2, hb3⟩
  replace hA := hA.keep hb3
  replace hW := hW.call hb3
  (try clear hA_l hA_0 hA_1 hA_2 hA_3)
  have hA_l := hA.lt; have hA_0 := hA.cell 0 _ rfl; have hA_1 := hA.cell 1 _ rfl; have hA_2 := hA.cell 2 _ rfl; have hA_3 := hA.cell 3 _ rfl
  go_wp2_with fail
  refine (spec_LastUses a b A3 B3 n c3 m d3 gl ol _ hC2.1.rd hC2.2.1.rd).mono ?_
  rintro e w4 ⟨As, ns, cs, rfl, h3, hb4⟩
  replace hA := hA.keep hb4
  replace hC2 := hC2.keep hb4
  replace hW := hW.call hb4
  (try clear hA_l hA_0 hA_1 hA_2 hA_3)
  have hA_l := hA.lt; have hA_0 := hA.cell 0 _ rfl; have hA_1 := hA.cell 1 _ rfl; have hA_2 := hA.cell 2 _ rfl; have hA_3 := hA.cell 3 _ rfl
  have b3 : ∀ k, As.map (·.block) = some k → k < w4.heap.size := fun k hk => (h3.blk k hk).2
  have s3 := hW.sz
  have sA3 := hA.lt
  go_wp2_with fail
  refine (laws_toCircuit a b A B n c m d gl ol _ (h.keep hW) (by omega) (by omega)).mono ?_
  rintro e w5 ⟨A5, c5, B5, d5, rfl, hC4, hb5⟩
  replace hA := hA.keep hb5
  replace h3 := h3.keep hb5
  replace hW := hW.call hb5
  (try clear hA_l hA_0 hA_1 hA_2 hA_3)
  have hA_l := hA.lt; have hA_0 := hA.cell 0 _ rfl; have hA_1 := hA.cell 1 _ rfl; have hA_2 := hA.cell 2 _ rfl; have hA_3 := hA.cell 3 _ rfl
  have b4A := hC4.1.blk
  have b4B := hC4.2.1.blk
  have s4 := hb5.sz
  have hX := Blk.new w5 31 #[.int .i64 a, .int .i64 b, .slice A5 n c5, .slice B5 m d5]
  obtain ⟨gx, hgx⟩ : ∃ g, w5.heap.size = g := ⟨_, rfl⟩
  replace hA := hA.alloc (.cells #[.int .i64 a, .int .i64 b, .slice A5 n c5, .slice B5 m d5] 31)
  replace hW := hW.alloc (.cells #[.int .i64 a, .int .i64 b, .slice A5 n c5, .slice B5 m d5] 31)
  replace hC4 := hC4.keep ((Bl.refl w5).alloc (.cells #[.int .i64 a, .int .i64 b, .slice A5 n c5, .slice B5 m d5] 31))
  replace h3 := h3.keep ((Bl.refl w5).alloc (.cells #[.int .i64 a, .int .i64 b, .slice A5 n c5, .slice B5 m d5] 31))
  go_wp2_with fail
  rw [hgx] at hX
  refine (impl_LastUses a b A5 B5 n c5 m d5 gl ol _ hC4.1.rd hC4.2.1.rd).mono ?_
  rintro e w6 ⟨Ai, ni, ci, rfl, h5, hb6⟩
  have b5 : ∀ k, Ai.map (·.block) = some k → w5.heap.size ≤ k := fun k hk => by have := (h5.blk k hk).1; simp at this; omega
  replace hA := hA.keep hb6
  replace h3 := h3.keep hb6
  replace hC4 := hC4.keep hb6
  replace hX := hX.keep hb6
  replace hW := hW.call hb6
  (try clear hA_l hA_0 hA_1 hA_2 hA_3 hX_l hX_0 hX_1 hX_2 hX_3)
  have hA_l := hA.lt; have hA_0 := hA.cell 0 _ rfl; have hA_1 := hA.cell 1 _ rfl; have hA_2 := hA.cell 2 _ rfl; have hA_3 := hA.cell 3 _ rfl; have hX_l := hX.lt; have hX_0 := hX.cell 0 _ rfl; have hX_1 := hX.cell 1 _ rfl; have hX_2 := hX.cell 2 _ rfl; have hX_3 := hX.cell 3 _ rfl
  go_wp2_with fail
  refine (laws_eqIntS _ _ _ _ _ _ _ _ _ h5.rd h3.rd).mono ?_
  rintro e w7 ⟨rfl, hb7⟩
  replace hA := hA.keep hb7
  replace h3 := h3.keep hb7
  replace hC4 := hC4.keep hb7
  replace hX := hX.keep hb7
  replace h5 := h5.keep hb7
  replace hW := hW.call hb7
  (try clear hA_l hA_0 hA_1 hA_2 hA_3 hX_l hX_0 hX_1 hX_2 hX_3)
  have hA_l := hA.lt; have hA_0 := hA.cell 0 _ rfl; have hA_1 := hA.cell 1 _ rfl; have hA_2 := hA.cell 2 _ rfl; have hA_3 := hA.cell 3 _ rfl; have hX_l := hX.lt; have hX_0 := hX.cell 0 _ rfl; have hX_1 := hX.cell 1 _ rfl; have hX_2 := hX.cell 2 _ rfl; have hX_3 := hX.cell 3 _ rfl
  go_wp2_with fail
  go_region_held3 (fun w' => w'.cell? ⟨w.heap.size, 0, none⟩ = some (.int .i64 a) ∧ w'.cell? ⟨w.heap.size, 1, none⟩ = some (.int .i64 b) ∧ w'.cell? ⟨w.heap.size, 2, none⟩ = some (.slice A n c) ∧ w'.cell? ⟨w.heap.size, 3, none⟩ = some (.slice B m d) ∧ w'.cell? ⟨gx, 0, none⟩ = some (.int .i64 a) ∧ w'.cell? ⟨gx, 1, none⟩ = some (.int .i64 b) ∧ w'.cell? ⟨gx, 2, none⟩ = some (.slice A5 n c5) ∧ w'.cell? ⟨gx, 3, none⟩ = some (.slice B5 m d5)) (first | exact ⟨hA_0, hA_1, hA_2, hA_3, hX_0, hX_1, hX_2, hX_3⟩ | go_keep) (first | (go_at_call 16; refine (laws_toCircuit a b A B n c m d gl ol _ (h.keep (by first | exact hW | exact hW.drew)) (by omega) (by omega)).mono ?_; rintro e w1 ⟨A30, c30, B30, d30, rfl, hC30, hb30⟩; replace hW := (by first | exact hW.call hb30 | exact hW.drew.call hb30 | exact (hW.alloc _).call hb30 | exact (hW.alloc _).drew.call hb30 | exact (hW.drewN _).call hb30 | exact (hW.drew.alloc _).call hb30 | exact ((hW.alloc _).alloc _).call hb30 | exact ((hW.alloc _).alloc _).drew.call hb30 | exact (((hW.alloc _).alloc _).alloc _).call hb30); replace hA := (by first | exact hA.keep hb30 | exact hA.drew.keep hb30 | exact (hA.alloc _).keep hb30 | exact (hA.alloc _).drew.keep hb30 | exact (hA.drewN _).keep hb30 | exact (hA.drew.alloc _).keep hb30 | exact ((hA.alloc _).alloc _).keep hb30 | exact ((hA.alloc _).alloc _).drew.keep hb30 | exact (((hA.alloc _).alloc _).alloc _).keep hb30); replace hX := (by first | exact hX.keep hb30 | exact hX.drew.keep hb30 | exact (hX.alloc _).keep hb30 | exact (hX.alloc _).drew.keep hb30 | exact (hX.drewN _).keep hb30 | exact (hX.drew.alloc _).keep hb30 | exact ((hX.alloc _).alloc _).keep hb30 | exact ((hX.alloc _).alloc _).drew.keep hb30 | exact (((hX.alloc _).alloc _).alloc _).keep hb30); clear hA_l hA_0 hA_1 hA_2 hA_3 hX_l hX_0 hX_1 hX_2 hX_3; have hA_l := hA.lt; have hA_0 := hA.cell 0 _ rfl; have hA_1 := hA.cell 1 _ rfl; have hA_2 := hA.cell 2 _ rfl; have hA_3 := hA.cell 3 _ rfl; have hX_l := hX.lt; have hX_0 := hX.cell 0 _ rfl; have hX_1 := hX.cell 1 _ rfl; have hX_2 := hX.cell 2 _ rfl; have hX_3 := hX.cell 3 _ rfl; replace h3 := (by first | exact h3.keep hb30 | exact (h3.keep (Bl.refl _).drew).keep hb30 | exact (h3.keep ((Bl.refl _).drew)).keep hb30 | exact h3.keep ((Bl.refl _).drew.call hb30)); replace hC4 := (by first | exact hC4.keep hb30 | exact (hC4.keep (Bl.refl _).drew).keep hb30 | exact (hC4.keep ((Bl.refl _).drew)).keep hb30 | exact hC4.keep ((Bl.refl _).drew.call hb30)); replace h5 := (by first | exact h5.keep hb30 | exact (h5.keep (Bl.refl _).drew).keep hb30 | exact (h5.keep ((Bl.refl _).drew)).keep hb30 | exact h5.keep ((Bl.refl _).drew.call hb30))) | (go_at_call 18; refine (laws_eqCircuit a b A5 B5 A30 B30 n c5 m d5 c30 d30 gl ol _ (OwnC.rd hC4) hC30.rd).mono ?_; rintro e w1 ⟨rfl, hb31⟩; replace hW := (by first | exact hW.call hb31 | exact hW.drew.call hb31 | exact (hW.alloc _).call hb31 | exact (hW.alloc _).drew.call hb31 | exact (hW.drewN _).call hb31 | exact (hW.drew.alloc _).call hb31 | exact ((hW.alloc _).alloc _).call hb31 | exact ((hW.alloc _).alloc _).drew.call hb31 | exact (((hW.alloc _).alloc _).alloc _).call hb31); replace hA := (by first | exact hA.keep hb31 | exact hA.drew.keep hb31 | exact (hA.alloc _).keep hb31 | exact (hA.alloc _).drew.keep hb31 | exact (hA.drewN _).keep hb31 | exact (hA.drew.alloc _).keep hb31 | exact ((hA.alloc _).alloc _).keep hb31 | exact ((hA.alloc _).alloc _).drew.keep hb31 | exact (((hA.alloc _).alloc _).alloc _).keep hb31); replace hX := (by first | exact hX.keep hb31 | exact hX.drew.keep hb31 | exact (hX.alloc _).keep hb31 | exact (hX.alloc _).drew.keep hb31 | exact (hX.drewN _).keep hb31 | exact (hX.drew.alloc _).keep hb31 | exact ((hX.alloc _).alloc _).keep hb31 | exact ((hX.alloc _).alloc _).drew.keep hb31 | exact (((hX.alloc _).alloc _).alloc _).keep hb31); clear hA_l hA_0 hA_1 hA_2 hA_3 hX_l hX_0 hX_1 hX_2 hX_3; have hA_l := hA.lt; have hA_0 := hA.cell 0 _ rfl; have hA_1 := hA.cell 1 _ rfl; have hA_2 := hA.cell 2 _ rfl; have hA_3 := hA.cell 3 _ rfl; have hX_l := hX.lt; have hX_0 := hX.cell 0 _ rfl; have hX_1 := hX.cell 1 _ rfl; have hX_2 := hX.cell 2 _ rfl; have hX_3 := hX.cell 3 _ rfl; replace h3 := (by first | exact h3.keep hb31 | exact (h3.keep (Bl.refl _).drew).keep hb31 | exact (h3.keep ((Bl.refl _).drew)).keep hb31 | exact h3.keep ((Bl.refl _).drew.call hb31)); replace hC4 := (by first | exact hC4.keep hb31 | exact (hC4.keep (Bl.refl _).drew).keep hb31 | exact (hC4.keep ((Bl.refl _).drew)).keep hb31 | exact hC4.keep ((Bl.refl _).drew.call hb31)); replace h5 := (by first | exact h5.keep hb31 | exact (h5.keep (Bl.refl _).drew).keep hb31 | exact (h5.keep ((Bl.refl _).drew)).keep hb31 | exact h5.keep ((Bl.refl _).drew.call hb31))))
  have aA3 : ∀ a, As = some a → some a.block ≠ A5.map (·.block) := ne_of_lt_le b3 (fun k hk => (b4A k hk).1)
  have aB3 : ∀ a, As = some a → some a.block ≠ B5.map (·.block) := ne_of_lt_le b3 (fun k hk => (b4B k hk).1)
  have aA5 : ∀ a, Ai = some a → some a.block ≠ A5.map (·.block) := ne_of_le_lt b5 (fun k hk => (b4A k hk).2)
  have aB5 : ∀ a, Ai = some a → some a.block ≠ B5.map (·.block) := ne_of_le_lt b5 (fun k hk => (b4B k hk).2)
  have a35 : ∀ a, As = some a → some a.block ≠ Ai.map (·.block) := ne_of_lt_le (fun k hk => Nat.lt_of_lt_of_le (b3 k hk) s4) b5
  go_wp2_with fail
  refine (laws_markCircuit a b A5 B5 n c5 m d5 _ gl ol _ hC4 (by omega) (by omega)).mono ?_
  rintro e w20 ⟨rm, wa, wb, wx, rfl, hrm, hba, hgb, hgc⟩
  replace h3 := OwnI.grown (OwnI.grown (h3.keep hba) hgb aA3) hgc aB3
  replace h5 := OwnI.grown (OwnI.grown (h5.keep hba) hgb aA5) hgc aB5
  replace hW := ((hW.call hba).grown hgb (fun k hk => Nat.le_trans s3 (b4A k hk).1)).grown hgc (fun k hk => Nat.le_trans s3 (b4B k hk).1)
  clear hX hX_l hX_0 hX_1 hX_2 hX_3 hC4
  replace hA := Blk.grown (Blk.grown (hA.keep hba) hgb (by intro he; have := (b4A _ he.symm).1; omega)) hgc (by intro he; have := (b4B _ he.symm).1; omega)
  clear hgb hgc hba
  (try clear hA_l hA_0 hA_1 hA_2 hA_3)
  have hA_l := hA.lt; have hA_0 := hA.cell 0 _ rfl; have hA_1 := hA.cell 1 _ rfl; have hA_2 := hA.cell 2 _ rfl; have hA_3 := hA.cell 3 _ rfl
  have i0 : ¬ (rm < 0) := by omega
  go_wp2_with fail
  refine (laws_eqIntS _ _ _ _ _ _ _ _ _ h5.rd h3.rd).mono ?_
  rintro e w21 ⟨rfl, hb21⟩
  replace hA := hA.keep hb21
  replace h3 := h3.keep hb21
  replace h5 := h5.keep hb21
  replace hW := hW.call hb21
  (try clear hA_l hA_0 hA_1 hA_2 hA_3)
  have hA_l := hA.lt; have hA_0 := hA.cell 0 _ rfl; have hA_1 := hA.cell 1 _ rfl; have hA_2 := hA.cell 2 _ rfl; have hA_3 := hA.cell 3 _ rfl
  have hlen := h5.length
  have hlb := luR_len a b gl ol
  have hn5 : ni ≤ 1000000000000000000 := by omega
  clear hlen hlb
  go_wp2_with fail
  refine (laws_markIntS _ _ _ _ _ 1 _ h5 (by omega) (by omega)).mono ?_
  rintro e w22 ⟨rfl, hm5, hgm⟩
  replace h3 := OwnI.grown h3 hgm a35
  replace hW := hW.grown hgm (fun k hk => Nat.le_trans (Nat.le_trans s3 s4) (b5 k hk))
  replace hA := Blk.grown hA hgm (by intro he; have := b5 _ he.symm; omega)
  clear hgm h5
  (try clear hA_l hA_0 hA_1 hA_2 hA_3)
  have hA_l := hA.lt; have hA_0 := hA.cell 0 _ rfl; have hA_1 := hA.cell 1 _ rfl; have hA_2 := hA.cell 2 _ rfl; have hA_3 := hA.cell 3 _ rfl
  go_wp2_with fail
  refine (laws_heldIntS _ _ _ 1 _ hm5.rd (by omega) (by omega)).mono ?_
  rintro e w23 ⟨rfl, rfl⟩
  go_wp2_with fail
  refine (laws_toCircuit a b A B n c m d gl ol _ (h.keep hW) (by omega) (by omega)).mono ?_
  rintro e w24 ⟨A24, c24, B24, d24, rfl, hC6, hb24⟩
  replace hA := hA.keep hb24
  replace h3 := h3.keep hb24
  replace hm5 := hm5.keep hb24
  replace hW := hW.call hb24
  (try clear hA_l hA_0 hA_1 hA_2 hA_3)
  have hA_l := hA.lt; have hA_0 := hA.cell 0 _ rfl; have hA_1 := hA.cell 1 _ rfl; have hA_2 := hA.cell 2 _ rfl; have hA_3 := hA.cell 3 _ rfl
  go_wp2_with fail
  refine (impl_LastUses a b A24 B24 n c24 m d24 gl ol _ hC6.1.rd hC6.2.1.rd).mono ?_
  rintro e w25 ⟨Ah, nh, ch, rfl, h7, hb25⟩
  replace hA := hA.keep hb25
  replace h3 := h3.keep hb25
  replace hm5 := hm5.keep hb25
  replace hC6 := hC6.keep hb25
  replace hW := hW.call hb25
  (try clear hA_l hA_0 hA_1 hA_2 hA_3)
  have hA_l := hA.lt; have hA_0 := hA.cell 0 _ rfl; have hA_1 := hA.cell 1 _ rfl; have hA_2 := hA.cell 2 _ rfl; have hA_3 := hA.cell 3 _ rfl
  go_wp2_with fail
  refine (laws_eqIntS _ _ _ _ _ _ _ _ _ h7.rd h3.rd).mono ?_
  rintro e w26 ⟨rfl, hb26⟩
  replace hA := hA.keep hb26
  replace h3 := h3.keep hb26
  replace hm5 := hm5.keep hb26
  replace hC6 := hC6.keep hb26
  replace hW := hW.call hb26
  (try clear hA_l hA_0 hA_1 hA_2 hA_3)
  have hA_l := hA.lt; have hA_0 := hA.cell 0 _ rfl; have hA_1 := hA.cell 1 _ rfl; have hA_2 := hA.cell 2 _ rfl; have hA_3 := hA.cell 3 _ rfl
  go_wp2_with fail
  refine (laws_heldIntS _ _ _ 1 _ hm5.rd (by omega) (by omega)).mono ?_
  rintro e w30 ⟨rfl, rfl⟩
  go_wp2
  go_ret
  exact ⟨rfl, hW⟩
end Go.Proofs.Ytghoaheajgedoaa
