/- Contracts of live wires, LiveCounts and GreatestLive, and the walks of their laws.
   Conditions: none. -/
import Derived.Test.YtlmlffiajgofeaaLus
import Derived.Test.YtlmlffiajgofeaaRnd
namespace Go.Proofs.Ytlmlffiajgofeaa
open Go.RowKit
set_option linter.unusedVariables false
/-- The wires among k that are used behind gate G. -/
def liveL (L : List Int) (G : Int) : Nat → List Int
  | 0 => []
  | k + 1 => liveL L G k ++ if G < L[k]?.getD 0 then [(k : Int)] else []
theorem liveL_y {L : List Int} {G v : Int} {k : Nat} (hv : L[k]? = some v) (h : G < v) : liveL L G (k + 1) = liveL L G k ++ [(k : Int)] := by simp [liveL, hv, h]
theorem liveL_n {L : List Int} {G v : Int} {k : Nat} (hv : L[k]? = some v) (h : ¬ G < v) : liveL L G (k + 1) = liveL L G k := by simp [liveL, hv, h]
theorem liveL_len (L : List Int) (G : Int) (k : Nat) : (liveL L G k).length ≤ k := by
  induction k with
  | zero => simp [liveL]
  | succ k ih => simp only [liveL, List.length_append]; split <;> simp <;> omega
theorem liveL_mem (L : List Int) (G : Int) (k : Nat) : ∀ x ∈ liveL L G k, 0 ≤ x ∧ x < k := by
  induction k with
  | zero => intro x hx; cases hx
  | succ k ih =>
    intro x hx
    simp only [liveL, List.mem_append] at hx
    rcases hx with hx | hx
    · have := ih x hx; omega
    · split at hx
      · simp at hx; omega
      · cases hx
set_option maxHeartbeats 4000000 in
theorem impl_liveBehind (a b : Int) (Ag Ao : Option Addr) (n cg m co : Nat) (G : Int) (T WN : Nat) (A2 : Option Addr) (c2 : Nat) (L : List Int) (w : World) (h : RdI w A2 WN c2 L) (ha : 0 ≤ a) (ha2 : a ≤ 1000) (hb : 0 ≤ b) (hb2 : b ≤ 1000) (hG : -1 ≤ G) (hG2 : G ≤ 1000) (hT1 : a + b + G + 1 ≤ T) (hT2 : (T : Int) ≤ a + b + G + 1) (hTW : T ≤ WN) :
    Calls Try.prog 82 #[.agg #[.int .i64 a, .int .i64 b, .slice Ag n cg, .slice Ao m co], .slice A2 WN c2, .int .i64 G] w fun e w' => ∃ A p c, e = .returned (.slice A p c) ∧ OwnI w.heap.size w' A p c (liveL L G T) ∧ Bl w w' := by
  obtain ⟨hle1, hle2⟩ := h.le
  have hlen := Lib.hid h.length
  have hW := (Bl.refl w).alloc (.cells #[.int .i64 a, .int .i64 b, .slice Ag n cg, .slice Ao m co] 26)
  have hB := Blk.new w 26 #[.int .i64 a, .int .i64 b, .slice Ag n cg, .slice Ao m co]
  go_enter Try.func82, Try.ntmps82
  go_wp2_with (go_at_call 52; refine (impl_inputs _ _ _ _ _ _ _ _ _ ha ha2 hb hb2).mono ?_; rintro e w1 ⟨rfl, hb1⟩)
  have hown0 : OwnI (w.heap.size + 1) w1 (some ⟨w.heap.size + 1, 0, none⟩) 0 0 (liveL L G 0) := (OwnI.mono (own_made (w.alloc (.cells #[.int .i64 a, .int .i64 b, .slice Ag n cg, .slice Ao m co] 26))) (by simp)).keep hb1
  replace hW := (hW.alloc (.cells #[] 3)).call hb1
  clear hB
  go_loopw [7, 15] (fun s i wr => ∃ k A p c, k ≤ T ∧ p ≤ k ∧ i = .int .i64 (k : Nat) ∧ s = .slice A p c ∧ OwnI (w.heap.size + 1) wr A p c (liveL L G k) ∧ Bl w wr) (fun s i _ => T - (intOf i).toNat)
  case atStart => exact ⟨0, _, 0, _, by omega, by omega, rfl, rfl, hown0, hW⟩
  case round =>
    clear hW hown0
    obtain ⟨k, A, p, c, hk, hp, rfl, rfl, hown, hW⟩ := hrel
    by_cases hlt : k < T
    · obtain ⟨ad, v, rfl, hadb, hv, hcv⟩ := (h.keep hW).at_ (show k < WN by omega)
      have HV := Lib.hid hv
      clear hv
      have ik : (k : Int) < a + b + G + 1 := by omega
      have iw : (k : Int) < WN := by omega
      by_cases hgv : G < v
      · have hst := Lib.hid (liveL_y HV.out hgv)
        go_wp2_with (first | (at_builtin; refine ap_int rfl rfl rfl (hown.alloc _) rfl (rd_new1 _ _ _) (by omega) (by have := hW.sz; have hz := World.block_lt_of_cell? wr _ hcv; simp; omega) ?_; intro A3 c3 w4 hown3 hg3 hat3))
        go_roundw
        case rel => exact ⟨k + 1, A3, p + 1, c3, by omega, by omega, by go_num, rfl, by rw [hst.out]; exact hown3, Bl.grown (hW.alloc _) hg3 (fun q hq => Nat.le_of_succ_le (hown.blk q hq).1)⟩
        case measure => simp [intOf]; omega
      · have hst := Lib.hid (liveL_n HV.out hgv)
        go_wp2
        go_roundw
        case rel => exact ⟨k + 1, A, p, c, by omega, by omega, by go_num, rfl, by rw [hst.out]; exact hown, hW⟩
        case measure => simp [intOf]; omega
    · have he : k = T := by omega
      have ik : ¬ (k : Int) < a + b + G + 1 := by omega
      subst he
      go_wp2
      go_ret
      exact ⟨A, p, c, rfl, OwnI.mono hown (by omega), hW⟩
set_option maxHeartbeats 4000000 in
theorem spec_svLive (a b : Int) (Ag Ao : Option Addr) (n cg m co : Nat) (G : Int) (T WN : Nat) (A2 : Option Addr) (c2 : Nat) (L : List Int) (w : World) (h : RdI w A2 WN c2 L) (ha : 0 ≤ a) (ha2 : a ≤ 1000) (hb : 0 ≤ b) (hb2 : b ≤ 1000) (hG : -1 ≤ G) (hG2 : G ≤ 1000) (hT1 : a + b + G + 1 ≤ T) (hT2 : (T : Int) ≤ a + b + G + 1) (hTW : T ≤ WN) :
    Calls Try.prog 91 #[.agg #[.int .i64 a, .int .i64 b, .slice Ag n cg, .slice Ao m co], .slice A2 WN c2, .int .i64 G] w fun e w' => ∃ A p c, e = .returned (.slice A p c) ∧ OwnI w.heap.size w' A p c (liveL L G T) ∧ Bl w w' := by
  obtain ⟨hle1, hle2⟩ := h.le
  have hlen := Lib.hid h.length
  have hW := (Bl.refl w).alloc (.cells #[.int .i64 a, .int .i64 b, .slice Ag n cg, .slice Ao m co] 26)
  have hB := Blk.new w 26 #[.int .i64 a, .int .i64 b, .slice Ag n cg, .slice Ao m co]
  go_enter Try.func91, Try.ntmps91
  have hown0 : OwnI (w.heap.size + 1) (w.alloc (.cells #[.int .i64 a, .int .i64 b, .slice Ag n cg, .slice Ao m co] 26)) none 0 0 (liveL L G 0) := OwnI.nil _ _
  go_wp2_with fail
  go_loopw [7, 8] (fun s i wr => ∃ k A p c, k ≤ T ∧ p ≤ k ∧ i = .int .i64 (k : Nat) ∧ s = .slice A p c ∧ OwnI (w.heap.size + 1) wr A p c (liveL L G k) ∧ Blk wr w.heap.size 26 #[.int .i64 a, .int .i64 b, .slice Ag n cg, .slice Ao m co] ∧ Bl w wr) (fun s i _ => T - (intOf i).toNat)
  case atStart => exact ⟨0, _, 0, _, by omega, by omega, rfl, rfl, hown0, hB, hW⟩
  case round =>
    clear hW hown0 hB
    obtain ⟨k, A, p, c, hk, hp, rfl, rfl, hown, hB, hW⟩ := hrel
    have hne0 : A.map (·.block) ≠ some w.heap.size := by intro he; have := (hown.blk _ he).1; omega
    have kB := hB.lt
    have kB0 := hB.cell 0 _ rfl
    have kB1 := hB.cell 1 _ rfl
    have kB2 := hB.cell 2 _ rfl
    have kB3 := hB.cell 3 _ rfl
    by_cases hlt : k < T
    · have ik : (k : Int) ≤ a + b + G := by omega
      have iw : (k : Int) < WN := by omega
      obtain ⟨ad, v, rfl, hadb, hv, hcv⟩ := (h.keep hW).at_ (show k < WN by omega)
      have HV := Lib.hid hv
      clear hv
      by_cases hgv : G < v
      · have hst := Lib.hid (liveL_y HV.out hgv)
        go_wp2_with (first | (go_at_call 55; refine (spec_ciInputs _ _ _ _ _ _ _ _ _ ha ha2 hb hb2).mono ?_; rintro e w1 ⟨rfl, hb1⟩; replace hW := hW.call hb1; replace hown := hown.keep hb1; replace hB := hB.keep hb1; (try replace hcv := hb1.cells hcv); (try replace hadb := Nat.lt_of_lt_of_le hadb hb1.sz)) | (at_builtin; refine ap_int rfl rfl rfl (hown.alloc _) rfl (rd_new1 _ _ _) (by omega) (by have := hW.sz; have := hB.lt; simp; omega) ?_; intro A3 c3 w4 hown3 hg3 hat3))
        go_roundw
        case rel => exact ⟨k + 1, A3, p + 1, c3, by omega, by omega, by go_num, rfl, by rw [hst.out]; exact hown3, Blk.grown (hB.alloc _) hg3 (by intro he; exact hne0 he.symm), Bl.grown (hW.alloc _) hg3 (fun q hq => Nat.le_of_succ_le (hown.blk q hq).1)⟩
        case measure => simp [intOf]; omega
      · have hst := Lib.hid (liveL_n HV.out hgv)
        go_wp2_with (first | (go_at_call 55; refine (spec_ciInputs _ _ _ _ _ _ _ _ _ ha ha2 hb hb2).mono ?_; rintro e w1 ⟨rfl, hb1⟩; replace hW := hW.call hb1; replace hown := hown.keep hb1; replace hB := hB.keep hb1; (try replace hcv := hb1.cells hcv); (try replace hadb := Nat.lt_of_lt_of_le hadb hb1.sz)))
        go_roundw
        case rel => exact ⟨k + 1, A, p, c, by omega, by omega, by go_num, rfl, by rw [hst.out]; exact hown, hB, hW⟩
        case measure => simp [intOf]; omega
    · have he : k = T := by omega
      have ik : ¬ (k : Int) ≤ a + b + G := by omega
      subst he
      go_wp2_with (first | (go_at_call 55; refine (spec_ciInputs _ _ _ _ _ _ _ _ _ ha ha2 hb hb2).mono ?_; rintro e w1 ⟨rfl, hb1⟩; replace hW := hW.call hb1; replace hown := hown.keep hb1; replace hB := hB.keep hb1; (try replace hcv := hb1.cells hcv); (try replace hadb := Nat.lt_of_lt_of_le hadb hb1.sz)))
      go_ret
      exact ⟨A, p, c, rfl, OwnI.mono hown (by omega), hW⟩
/-- How many wires are live behind the gates -1, 0 .. -/
def lvC (N : Nat) (L : List Int) : Nat → List Int
  | 0 => []
  | j + 1 => lvC N L j ++ [((liveL L ((j : Int) - 1) (N + j)).length : Int)]
theorem lvC_len (N : Nat) (L : List Int) (j : Nat) : (lvC N L j).length = j := by
  induction j with
  | zero => rfl
  | succ j ih => simp [lvC, ih]
theorem lvC_nn (N : Nat) (L : List Int) (j : Nat) : ∀ x ∈ lvC N L j, 0 ≤ x := by
  induction j with
  | zero => intro x hx; cases hx
  | succ j ih =>
    intro x hx
    simp only [lvC, List.mem_append, List.mem_singleton] at hx
    rcases hx with hx | rfl
    · exact ih x hx
    · omega
def lcL (a b : Int) (gl : List Gt) (ol : List Int) : List Int := lvC (a + b).toNat (luL ((a + b).toNat + gl.length) gl ol) (gl.length + 1)
def lcR (a b : Int) (gl : List Gt) (ol : List Int) : List Int := if goodC a b gl ol then lcL a b gl ol else []
theorem lcR_len (a b : Int) (gl : List Gt) (ol : List Int) : (lcR a b gl ol).length ≤ 1000000000 := by
  unfold lcR; split
  · rename_i h
    obtain ⟨h1, h2, h3, h4, h5, _⟩ := goodC_facts h
    rw [lcL, lvC_len]; omega
  · simp
def glR (a b : Int) (gl : List Gt) (ol : List Int) : Int := if goodC a b gl ol then mxL 0 (lcL a b gl ol) else 0
set_option maxHeartbeats 4000000 in
theorem spec_svCounts (a b : Int) (Ag Ao : Option Addr) (n cg m co : Nat) (gl : List Gt) (ol : List Int) (w : World) (hg : RdG w Ag n cg gl) (ho : RdI w Ao m co ol) (hgood : goodC a b gl ol = true) :
    Calls Try.prog 83 #[.agg #[.int .i64 a, .int .i64 b, .slice Ag n cg, .slice Ao m co]] w fun e w' => ∃ A c, e = .returned (.slice A (n + 1) c) ∧ OwnI w.heap.size w' A (n + 1) c (lcL a b gl ol) ∧ Bl w w' := by
  have HGD := Lib.hid hgood
  obtain ⟨hle1, hle2⟩ := hg.le
  have hgl := Lib.hid hg.2
  have hgd := HGD.out
  obtain ⟨a0, a1, b0, b1, hn, _, _, _⟩ := goodC_facts hgd
  rw [hg.2] at hn
  clear hgd
  obtain ⟨N0, hN0⟩ : ∃ N0 : Nat, a + b = N0 := ⟨(a + b).toNat, by omega⟩
  have hT : (a + b).toNat = N0 := by omega
  obtain ⟨WN, hWN⟩ : ∃ WN : Nat, N0 + n = WN := ⟨_, rfl⟩
  have HLU := fun W (hW : Bl w W) => Lib.hid (spec_svLast a b Ag Ao n cg m co gl ol W (hg.keep hW) (ho.keep hW) HGD.out)
  have hR := Lib.hid (show lcL a b gl ol = lvC N0 (luL WN gl ol) (n + 1) by rw [lcL, hg.2, hT, hWN])
  rw [hT, hWN] at HLU
  have hWI : (WN : Int) ≤ N0 + n := by omega
  have hWJ : (N0 : Int) + n ≤ WN := by omega
  have hNa : (N0 : Int) ≤ a + b := by omega
  have hNb : a + b ≤ (N0 : Int) := by omega
  clear hT hWN hN0
  generalize luL WN gl ol = L at *
  have hW := (Bl.refl w).alloc (.cells #[.int .i64 a, .int .i64 b, .slice Ag n cg, .slice Ao m co] 26)
  have hB := Blk.new w 26 #[.int .i64 a, .int .i64 b, .slice Ag n cg, .slice Ao m co]
  go_enter Try.func83, Try.ntmps83
  go_wp2_with (go_at_call 68; refine (HLU _ (by (repeat (first | assumption | with_reducible exact Bl.refl _ | with_reducible refine Bl.drewN ?_ _ | with_reducible refine Bl.drew ?_ | with_reducible refine Bl.alloc ?_ _ | (with_reducible refine Bl.call ?_ (by assumption)))))).out.mono ?_; rintro e w2 ⟨A2, c2, rfl, ho2, hb2⟩; replace hB := hB.keep hb2; replace hW := hW.call hb2; have hB_l := hB.lt; have hB_0 := hB.cell 0 _ rfl; have hB_1 := hB.cell 1 _ rfl; have hB_2 := hB.cell 2 _ rfl; have hB_3 := hB.cell 3 _ rfl)
  have h2b := fun k hk => (ho2.blk k hk).2
  have hr2 := ho2.rd
  clear ho2 HLU
  obtain ⟨hle7, hle8⟩ := hr2.le
  have hown0 : OwnI (w.heap.size + 1) w2 none 0 0 (lvC N0 L 0) := OwnI.nil _ _
  have hap0 : ∀ a, A2 = some a → some a.block ≠ (none : Option Addr).map (·.block) := fun a ha he => by cases he
  clear hB_l hB_0 hB_1 hB_2 hB_3
  go_loopw [4, 5] (fun s i wr => ∃ j A c, j ≤ n + 1 ∧ i = .int .i64 ((j : Int) - 1) ∧ s = .slice A j c ∧ OwnI (w.heap.size + 1) wr A j c (lvC N0 L j) ∧ RdI wr A2 WN c2 L ∧ (∀ a, A2 = some a → some a.block ≠ A.map (·.block)) ∧ w2.heap.size ≤ wr.heap.size ∧ Blk wr w.heap.size 26 #[.int .i64 a, .int .i64 b, .slice Ag n cg, .slice Ao m co] ∧ Bl w wr) (fun s i _ => (n + 1 : Int).toNat - (intOf i + 1).toNat)
  case atStart => exact ⟨0, _, _, by omega, by go_num, rfl, hown0, hr2, hap0, by first | exact Nat.le_refl _ | simp, hB, hW⟩
  case round =>
    clear hW hr2 hB hap0 hown0
    obtain ⟨j, A, c, hj, rfl, rfl, hown, hr2, hap, hsz, hB, hW⟩ := hrel
    have hne0 : A.map (·.block) ≠ some w.heap.size := by intro he; have := (hown.blk _ he).1; omega
    have kB := hB.lt
    have kB0 := hB.cell 0 _ rfl
    have kB1 := hB.cell 1 _ rfl
    have kB2 := hB.cell 2 _ rfl
    have kB3 := hB.cell 3 _ rfl
    by_cases hlt : j < n + 1
    · have ij : (j : Int) - 1 < n := by omega
      have hst := Lib.hid (show lvC N0 L (j + 1) = lvC N0 L j ++ [((liveL L ((j : Int) - 1) (N0 + j)).length : Int)] from rfl)
      go_wp2_with fail
      refine (spec_svLive a b Ag Ao n cg m co ((j : Int) - 1) (N0 + j) WN A2 c2 L _ hr2 (by omega) (by omega) (by omega) (by omega) (by omega) (by omega) (by omega) (by omega) (by omega)).mono ?_
      rintro e w3 ⟨A5, p5, c5, rfl, ho5, hb3⟩
      have hp5 := Lib.hid ho5.length
      obtain ⟨hle5, hle6⟩ := ho5.rd.le
      have hl5 := liveL_len L ((j : Int) - 1) (N0 + j)
      rw [hp5.out] at hl5
      replace hB := hB.keep hb3
      replace hW := hW.call hb3
      replace hown := hown.keep hb3
      replace hr2 := hr2.keep hb3
      replace hsz := Nat.le_trans hsz hb3.sz
      clear ho5
      go_wp2_with (first | (at_builtin; refine ap_int rfl rfl rfl (hown.alloc _) rfl (rd_new1 _ _ _) (by omega) (by have := hW.sz; have := hB.lt; simp; omega) ?_; intro A3 c3 w4 hown3 hg3 hat3))
      go_roundw
      case rel => exact ⟨j + 1, A3, c3, by omega, by go_num, rfl, by rw [hst.out, hp5.out]; exact hown3, (hr2.keep ((Bl.refl w3).alloc _)).grown hg3 hap, apart_grow hat3 (fun q hq => by have := h2b q hq; simp; omega) hap, Nat.le_trans hsz (Nat.le_trans (Bl.sz (Bl.alloc (Bl.refl w3) _)) hg3.size), Blk.grown (hB.alloc _) hg3 (by intro he; exact hne0 he.symm), Bl.grown (hW.alloc _) hg3 (fun q hq => Nat.le_of_succ_le (hown.blk q hq).1)⟩
      case measure => simp [intOf]; omega
    · have he : j = n + 1 := by omega
      have ij : ¬ ((j : Int) - 1 < n) := by omega
      have hE := Lib.hid (show lvC N0 L (n + 1) = lvC N0 L j by rw [he])
      clear he
      go_wp2
      go_ret
      exact ⟨A, c, by rw [show n + 1 = j by omega]; rfl, by rw [hR.out, hE.out, show n + 1 = j by omega]; exact OwnI.mono hown (by omega), hW⟩
set_option maxHeartbeats 4000000 in
theorem spec_LiveCounts (a b : Int) (Ag Ao : Option Addr) (n cg m co : Nat) (gl : List Gt) (ol : List Int) (w : World) (hg : RdG w Ag n cg gl) (ho : RdI w Ao m co ol) :
    Calls Try.prog 34 #[.agg #[.int .i64 a, .int .i64 b, .slice Ag n cg, .slice Ao m co]] w fun e w' => ∃ A' n' c', e = .returned (.tuple #[.slice A' n' c', .bool (goodC a b gl ol)]) ∧ OwnI w.heap.size w' A' n' c' (lcR a b gl ol) ∧ Bl w w' := by
  have hW0 := (Bl.refl w).alloc (.cells #[.int .i64 a, .int .i64 b, .slice Ag n cg, .slice Ao m co] 26)
  have hG := Lib.hid (spec_ciGood a b Ag Ao n cg m co gl ol (w.alloc (.cells #[.int .i64 a, .int .i64 b, .slice Ag n cg, .slice Ao m co] 26)) (hg.keep hW0) (ho.keep hW0))
  rcases hgd : goodC a b gl ol
  · rw [hgd] at hG
    have hR := Lib.hid (show lcR a b gl ol = [] by simp [lcR, hgd])
    go_enter Try.func34, Try.ntmps34
    go_wp2_with (go_at_call 53; refine hG.out.mono ?_; rintro e w1 ⟨rfl, hb1⟩)
    go_ret2
    exact ⟨none, 0, 0, rfl, by rw [hR.out]; exact OwnI.nil _ _, (by (repeat (first | assumption | with_reducible exact Bl.refl _ | with_reducible refine Bl.drewN ?_ _ | with_reducible refine Bl.drew ?_ | with_reducible refine Bl.alloc ?_ _ | (with_reducible refine Bl.call ?_ (by assumption)))))⟩
  · rw [hgd] at hG
    have hR := Lib.hid (show lcR a b gl ol = lcL a b gl ol by rw [lcR, hgd]; rfl)
    have HGD := Lib.hid hgd
    have hB := Blk.new w 26 #[.int .i64 a, .int .i64 b, .slice Ag n cg, .slice Ao m co]
    clear hgd
    go_enter Try.func34, Try.ntmps34
    go_wp2_with (first | (go_at_call 53; refine hG.out.mono ?_; rintro e w1 ⟨rfl, hb1⟩; replace hB := hB.keep hb1; replace hW0 := hW0.call hb1; have hB_l := hB.lt; have hB_0 := hB.cell 0 _ rfl; have hB_1 := hB.cell 1 _ rfl; have hB_2 := hB.cell 2 _ rfl; have hB_3 := hB.cell 3 _ rfl) | (go_at_call 83; refine (spec_svCounts a b Ag Ao n cg m co gl ol _ (hg.keep hW0) (ho.keep hW0) HGD.out).mono ?_; rintro e w2 ⟨A2, c2, rfl, ho2, hb2⟩))
    go_ret2
    exact ⟨_, _, _, rfl, by rw [hR.out]; exact OwnI.mono ho2 hW0.sz, hW0.call hb2⟩
set_option maxHeartbeats 4000000 in
theorem impl_LiveCounts (a b : Int) (Ag Ao : Option Addr) (n cg m co : Nat) (gl : List Gt) (ol : List Int) (w : World) (hg : RdG w Ag n cg gl) (ho : RdI w Ao m co ol) :
    Calls Try.prog 33 #[.agg #[.int .i64 a, .int .i64 b, .slice Ag n cg, .slice Ao m co]] w fun e w' => ∃ A' n' c', e = .returned (.tuple #[.slice A' n' c', .bool (goodC a b gl ol)]) ∧ OwnI w.heap.size w' A' n' c' (lcR a b gl ol) ∧ Bl w w' := by
  have hW0 := (Bl.refl w).alloc (.cells #[.int .i64 a, .int .i64 b, .slice Ag n cg, .slice Ao m co] 26)
  have hG := Lib.hid (impl_IsCircuit a b Ag Ao n cg m co gl ol (w.alloc (.cells #[.int .i64 a, .int .i64 b, .slice Ag n cg, .slice Ao m co] 26)) (hg.keep hW0) (ho.keep hW0))
  rcases hgd : goodC a b gl ol
  · rw [hgd] at hG
    have hR := Lib.hid (show lcR a b gl ol = [] by simp [lcR, hgd])
    go_enter Try.func33, Try.ntmps33
    go_wp2_with (go_at_call 50; refine hG.out.mono ?_; rintro e w1 ⟨rfl, hb1⟩)
    go_ret2
    exact ⟨none, 0, 0, rfl, by rw [hR.out]; exact OwnI.nil _ _, (by (repeat (first | assumption | with_reducible exact Bl.refl _ | with_reducible refine Bl.drewN ?_ _ | with_reducible refine Bl.drew ?_ | with_reducible refine Bl.alloc ?_ _ | (with_reducible refine Bl.call ?_ (by assumption)))))⟩
  · rw [hgd] at hG
    have hRR := Lib.hid (show lcR a b gl ol = lcL a b gl ol by rw [lcR, hgd]; rfl)
    have HGD := Lib.hid hgd
    clear hgd
    obtain ⟨hle1, hle2⟩ := hg.le
    have hgl := Lib.hid hg.2
    have hgd := HGD.out
    obtain ⟨a0, a1, b0, b1, hn, _, _, _⟩ := goodC_facts hgd
    rw [hg.2] at hn
    clear hgd
    obtain ⟨N0, hN0⟩ : ∃ N0 : Nat, a + b = N0 := ⟨(a + b).toNat, by omega⟩
    have hT : (a + b).toNat = N0 := by omega
    obtain ⟨WN, hWN⟩ : ∃ WN : Nat, N0 + n = WN := ⟨_, rfl⟩
    have HLU := fun W (hW : Bl w W) => Lib.hid (impl_lastUses a b Ag Ao n cg m co gl ol W (hg.keep hW) (ho.keep hW) HGD.out)
    have hR := Lib.hid (show lcL a b gl ol = lvC N0 (luL WN gl ol) (n + 1) by rw [lcL, hg.2, hT, hWN])
    rw [hT, hWN] at HLU
    have hWI : (WN : Int) ≤ N0 + n := by omega
    have hWJ : (N0 : Int) + n ≤ WN := by omega
    have hNa : (N0 : Int) ≤ a + b := by omega
    have hNb : a + b ≤ (N0 : Int) := by omega
    clear hT hWN hN0
    generalize luL WN gl ol = L at *
    have hW := (Bl.refl w).alloc (.cells #[.int .i64 a, .int .i64 b, .slice Ag n cg, .slice Ao m co] 26)
    have hB := Blk.new w 26 #[.int .i64 a, .int .i64 b, .slice Ag n cg, .slice Ao m co]
    clear hW0
    go_enter Try.func33, Try.ntmps33
    go_wp2_with (first | (go_at_call 50; refine hG.out.mono ?_; rintro e w1 ⟨rfl, hb1⟩; replace hB := hB.keep hb1; replace hW := hW.call hb1; have hB_l := hB.lt; have hB_0 := hB.cell 0 _ rfl; have hB_1 := hB.cell 1 _ rfl; have hB_2 := hB.cell 2 _ rfl; have hB_3 := hB.cell 3 _ rfl) | (go_at_call 67; refine (HLU _ (by (repeat (first | assumption | with_reducible exact Bl.refl _ | with_reducible refine Bl.drewN ?_ _ | with_reducible refine Bl.drew ?_ | with_reducible refine Bl.alloc ?_ _ | (with_reducible refine Bl.call ?_ (by assumption)))))).out.mono ?_; rintro e w2 ⟨A2, c2, rfl, ho2, hb2⟩; replace hB := hB.keep hb2; replace hW := hW.call hb2; clear hB_l hB_0 hB_1 hB_2 hB_3; have hB_l := hB.lt; have hB_0 := hB.cell 0 _ rfl; have hB_1 := hB.cell 1 _ rfl; have hB_2 := hB.cell 2 _ rfl; have hB_3 := hB.cell 3 _ rfl))
    have h2b := fun k hk => (ho2.blk k hk).2
    have hr2 : RdI (w2.alloc (.cells #[] 3)) A2 WN c2 L := ho2.rd.keep ((Bl.refl w2).alloc _)
    clear ho2 HLU hG
    obtain ⟨hle7, hle8⟩ := hr2.le
    have hown0 : OwnI (w.heap.size + 1) (w2.alloc (.cells #[] 3)) (some ⟨w2.heap.size, 0, none⟩) 0 0 (lvC N0 L 0) := OwnI.mono (own_made w2) (by omega)
    have hap0 : ∀ a, A2 = some a → some a.block ≠ (some (⟨w2.heap.size, 0, none⟩ : Addr)).map (·.block) := fun a ha he => by (subst ha; have := h2b a.block rfl; simp at he; omega)
    replace hB := hB.alloc (.cells #[] 3)
    replace hW := hW.alloc (.cells #[] 3)
    clear hB_l hB_0 hB_1 hB_2 hB_3
    go_loopw [5, 6] (fun s i wr => ∃ j A c, j ≤ n + 1 ∧ i = .int .i64 ((j : Int) - 1) ∧ s = .slice A j c ∧ OwnI (w.heap.size + 1) wr A j c (lvC N0 L j) ∧ RdI wr A2 WN c2 L ∧ (∀ a, A2 = some a → some a.block ≠ A.map (·.block)) ∧ w2.heap.size ≤ wr.heap.size ∧ Blk wr w.heap.size 26 #[.int .i64 a, .int .i64 b, .slice Ag n cg, .slice Ao m co] ∧ Bl w wr) (fun s i _ => (n + 1 : Int).toNat - (intOf i + 1).toNat)
    case atStart => exact ⟨0, _, _, by omega, by go_num, rfl, hown0, hr2, hap0, by first | exact Nat.le_refl _ | simp, hB, hW⟩
    case round =>
      clear hW hr2 hB hap0 hown0
      obtain ⟨j, A, c, hj, rfl, rfl, hown, hr2, hap, hsz, hB, hW⟩ := hrel
      have hne0 : A.map (·.block) ≠ some w.heap.size := by intro he; have := (hown.blk _ he).1; omega
      have kB := hB.lt
      have kB0 := hB.cell 0 _ rfl
      have kB1 := hB.cell 1 _ rfl
      have kB2 := hB.cell 2 _ rfl
      have kB3 := hB.cell 3 _ rfl
      by_cases hlt : j < n + 1
      · have ij : (j : Int) - 1 < n := by omega
        have hst := Lib.hid (show lvC N0 L (j + 1) = lvC N0 L j ++ [((liveL L ((j : Int) - 1) (N0 + j)).length : Int)] from rfl)
        go_wp2_with fail
        refine (impl_liveBehind a b Ag Ao n cg m co ((j : Int) - 1) (N0 + j) WN A2 c2 L _ hr2 (by omega) (by omega) (by omega) (by omega) (by omega) (by omega) (by omega) (by omega) (by omega)).mono ?_
        rintro e w3 ⟨A5, p5, c5, rfl, ho5, hb3⟩
        have hp5 := Lib.hid ho5.length
        obtain ⟨hle5, hle6⟩ := ho5.rd.le
        have hl5 := liveL_len L ((j : Int) - 1) (N0 + j)
        rw [hp5.out] at hl5
        replace hB := hB.keep hb3
        replace hW := hW.call hb3
        replace hown := hown.keep hb3
        replace hr2 := hr2.keep hb3
        replace hsz := Nat.le_trans hsz hb3.sz
        clear ho5
        go_wp2_with (first | (at_builtin; refine ap_int rfl rfl rfl (hown.alloc _) rfl (rd_new1 _ _ _) (by omega) (by have := hW.sz; have := hB.lt; simp; omega) ?_; intro A3 c3 w4 hown3 hg3 hat3))
        go_roundw
        case rel => exact ⟨j + 1, A3, c3, by omega, by go_num, rfl, by rw [hst.out, hp5.out]; exact hown3, (hr2.keep ((Bl.refl w3).alloc _)).grown hg3 hap, apart_grow hat3 (fun q hq => by have := h2b q hq; simp; omega) hap, Nat.le_trans hsz (Nat.le_trans (Bl.sz (Bl.alloc (Bl.refl w3) _)) hg3.size), Blk.grown (hB.alloc _) hg3 (by intro he; exact hne0 he.symm), Bl.grown (hW.alloc _) hg3 (fun q hq => Nat.le_of_succ_le (hown.blk q hq).1)⟩
        case measure => simp [intOf]; omega
      · have he : j = n + 1 := by omega
        have ij : ¬ ((j : Int) - 1 < n) := by omega
        have hE := Lib.hid (show lvC N0 L (n + 1) = lvC N0 L j by rw [he])
        clear he
        go_wp2
        go_ret2
        exact ⟨A, j, c, rfl, by rw [hRR.out, hR.out, hE.out]; exact OwnI.mono hown (by omega), hW⟩
set_option maxHeartbeats 4000000 in
theorem impl_GreatestLive (a b : Int) (Ag Ao : Option Addr) (n cg m co : Nat) (gl : List Gt) (ol : List Int) (w : World) (hg : RdG w Ag n cg gl) (ho : RdI w Ao m co ol) :
    Calls Try.prog 45 #[.agg #[.int .i64 a, .int .i64 b, .slice Ag n cg, .slice Ao m co]] w fun e w' => e = .returned (.tuple #[.int .i64 (glR a b gl ol), .bool (goodC a b gl ol)]) ∧ Bl w w' := by
  have hW := (Bl.refl w).alloc (.cells #[.int .i64 a, .int .i64 b, .slice Ag n cg, .slice Ao m co] 26)
  have HL := Lib.hid (impl_LiveCounts a b Ag Ao n cg m co gl ol (w.alloc (.cells #[.int .i64 a, .int .i64 b, .slice Ag n cg, .slice Ao m co] 26)) (hg.keep hW) (ho.keep hW))
  rcases hgd : goodC a b gl ol
  · rw [hgd] at HL
    have hR := Lib.hid (show glR a b gl ol = 0 by simp [glR, hgd])
    go_enter Try.func45, Try.ntmps45
    go_wp2_with (go_at_call 33; refine HL.out.mono ?_; rintro e w1 ⟨A1, n1, c1, rfl, ho1, hb1⟩)
    go_ret2
    exact ⟨by rw [hR.out]; rfl, (by (repeat (first | assumption | with_reducible exact Bl.refl _ | with_reducible refine Bl.drewN ?_ _ | with_reducible refine Bl.drew ?_ | with_reducible refine Bl.alloc ?_ _ | (with_reducible refine Bl.call ?_ (by assumption)))))⟩
  · rw [hgd] at HL
    have hm : ∃ y l, lcR a b gl ol = y :: l ∧ glR a b gl ol = mxL y l := by
      have hl := lvC_len (a + b).toNat (luL ((a + b).toNat + gl.length) gl ol) (gl.length + 1)
      have hn := lvC_nn (a + b).toNat (luL ((a + b).toNat + gl.length) gl ol) (gl.length + 1)
      rw [lcR, glR, hgd, if_pos rfl, if_pos rfl, lcL]
      generalize lvC (a + b).toNat (luL ((a + b).toNat + gl.length) gl ol) (gl.length + 1) = Z at *
      rcases Z with _ | ⟨y, l⟩
      · simp at hl
      · have hy := hn y (by simp)
        refine ⟨y, l, rfl, ?_⟩
        show mxL (max 0 y) l = mxL y l
        rw [show max 0 y = y by omega]
    obtain ⟨y, l, hyl, hmx⟩ := hm
    have HM := Lib.hid hmx
    rw [hyl] at HL
    clear hgd hyl hmx
    go_enter Try.func45, Try.ntmps45
    go_wp2_with (first | (go_at_call 33; refine HL.out.mono ?_; rintro e w1 ⟨A1, n1, c1, rfl, ho1, hb1⟩) | (go_at_call 58; refine (slices_Max _ _ _ y l _ ho1.rd).mono ?_; rintro e w' ⟨rfl, rfl⟩; rw [← HM.out]))
    go_ret2
    exact ⟨rfl, (by (repeat (first | assumption | with_reducible exact Bl.refl _ | with_reducible refine Bl.drewN ?_ _ | with_reducible refine Bl.drew ?_ | with_reducible refine Bl.alloc ?_ _ | (with_reducible refine Bl.call ?_ (by assumption)))))⟩
set_option maxHeartbeats 4000000 in
theorem spec_GreatestLive (a b : Int) (Ag Ao : Option Addr) (n cg m co : Nat) (gl : List Gt) (ol : List Int) (w : World) (hg : RdG w Ag n cg gl) (ho : RdI w Ao m co ol) :
    Calls Try.prog 46 #[.agg #[.int .i64 a, .int .i64 b, .slice Ag n cg, .slice Ao m co]] w fun e w' => e = .returned (.tuple #[.int .i64 (glR a b gl ol), .bool (goodC a b gl ol)]) ∧ Bl w w' := by
  have hW := (Bl.refl w).alloc (.cells #[.int .i64 a, .int .i64 b, .slice Ag n cg, .slice Ao m co] 26)
  have hB := Blk.new w 26 #[.int .i64 a, .int .i64 b, .slice Ag n cg, .slice Ao m co]
  have hG := Lib.hid (spec_ciGood a b Ag Ao n cg m co gl ol (w.alloc (.cells #[.int .i64 a, .int .i64 b, .slice Ag n cg, .slice Ao m co] 26)) (hg.keep hW) (ho.keep hW))
  rcases hgd : goodC a b gl ol
  · rw [hgd] at hG
    have hR := Lib.hid (show glR a b gl ol = 0 by simp [glR, hgd])
    go_enter Try.func46, Try.ntmps46
    go_wp2_with (go_at_call 53; refine hG.out.mono ?_; rintro e w1 ⟨rfl, hb1⟩)
    go_ret2
    exact ⟨by rw [hR.out]; rfl, (by (repeat (first | assumption | with_reducible exact Bl.refl _ | with_reducible refine Bl.drewN ?_ _ | with_reducible refine Bl.drew ?_ | with_reducible refine Bl.alloc ?_ _ | (with_reducible refine Bl.call ?_ (by assumption)))))⟩
  · rw [hgd] at hG
    have HGD := Lib.hid hgd
    have hR := Lib.hid (show glR a b gl ol = mxL 0 (lcL a b gl ol) by rw [glR, hgd]; rfl)
    clear hgd
    go_enter Try.func46, Try.ntmps46
    go_wp2_with (first | (go_at_call 53; refine hG.out.mono ?_; rintro e w1 ⟨rfl, hb1⟩; replace hB := hB.keep hb1; replace hW := hW.call hb1; have hB_l := hB.lt; have hB_0 := hB.cell 0 _ rfl; have hB_1 := hB.cell 1 _ rfl; have hB_2 := hB.cell 2 _ rfl; have hB_3 := hB.cell 3 _ rfl))
    refine (spec_svCounts a b Ag Ao n cg m co gl ol _ (hg.keep hW) (ho.keep hW) HGD.out).mono ?_
    rintro e w2 ⟨A2, c2, rfl, ho2, hb2⟩
    replace hW := hW.call hb2
    generalize lcL a b gl ol = L at *
    have hlA := Lib.hid ho2.length
    obtain ⟨N, hN⟩ : ∃ N, n + 1 = N := ⟨_, rfl⟩
    rw [hN] at ho2 hlA ⊢
    have hr2 := ho2.rd
    obtain ⟨hle3, hle4⟩ := hr2.le
    clear hN ho2
    go_wp2
    go_loop [4, 13] (fun q i => ∃ j : Nat, j ≤ N ∧ i = .int .i64 (j : Nat) ∧ q = .int .i64 (mxL 0 (L.take j))) (fun _ i => N - (intOf i).toNat)
    case atStart => exact ⟨0, by omega, rfl, rfl⟩
    case round =>
      obtain ⟨j, hj, rfl, rfl⟩ := hrel
      by_cases hlt : j < N
      · obtain ⟨ad2, y, rfl, hadb2, hy, hcy⟩ := hr2.at_ hlt
        have hst := Lib.hid (mxL_step (m := 0) hy)
        have ij : (j : Int) < N := by omega
        clear hy
        go_wp2_with (go_at_call 59; refine (spec_l1Most _ _ _).mono ?_; rintro e w' ⟨rfl, rfl⟩)
        go_round
        case rel => exact ⟨j + 1, by omega, by go_num, by rw [hst.out]⟩
        case measure => simp [intOf]; omega
      · have he : j = N := by omega
        have hE := Lib.hid (show L.take j = L from List.take_of_length_le (by rw [hlA.out]; omega))
        subst he
        rw [hE.out]
        go_wp2
        go_ret2
        exact ⟨by rw [hR.out]; rfl, hW⟩
end Go.Proofs.Ytlmlffiajgofeaa
