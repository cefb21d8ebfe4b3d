/- Contracts: a message is copied, is bent; the meddle of a message.
   Conditions: none. -/
import Derived.Test.YtcjpalhclgkjiaaDoorPgx
import Derived.Test.YtcjpalhclgkjiaaDoorPgm
namespace Go.Proofs.YtcjpalhclgkjiaaDoor
open Go.RowKit
set_option linter.unusedVariables false
theorem impl_copyMessage (f s : Int) (A : Option Addr) (n c : Nat) (l : List Int) (w : World) (h : RdI w A n c l) (hn : n ≤ 17592186044415) :
  Calls Tryd.prog 71 #[.agg #[.int .i64 f, .int .i64 s, .slice A n c]] w fun e w' => ∃ A' c', e = .returned (.agg #[.int .i64 f, .int .i64 s, .slice A' n c']) ∧ OwnI w.heap.size w' A' n c' l ∧ Bl w w' := by
 have hW : Bl w ((w.alloc (.cells #[.int .i64 f, .int .i64 s, .slice A n c] 87)).alloc (.cells #[.int .i64 0, .int .i64 0, .slice none 0 0] 87)) := Bl.a2
 have hB : Blk ((w.alloc (.cells #[.int .i64 f, .int .i64 s, .slice A n c] 87)).alloc (.cells #[.int .i64 0, .int .i64 0, .slice none 0 0] 87)) (w.heap.size) 87 #[.int .i64 f, .int .i64 s, .slice A n c] := ((Blk.new w 87 #[.int .i64 f, .int .i64 s, .slice A n c] (g := w.heap.size)).alloc (.cells #[.int .i64 0, .int .i64 0, .slice none 0 0] 87))
 have hR : Blk ((w.alloc (.cells #[.int .i64 f, .int .i64 s, .slice A n c] 87)).alloc (.cells #[.int .i64 0, .int .i64 0, .slice none 0 0] 87)) (w.heap.size + 1) 87 #[.int .i64 0, .int .i64 0, .slice none 0 0] := (Blk.new (w.alloc (.cells #[.int .i64 f, .int .i64 s, .slice A n c] 87)) 87 #[.int .i64 0, .int .i64 0, .slice none 0 0] (g := w.heap.size + 1))
 obtain ⟨B_l, B_f, B_0, B_1, B_2⟩ := hB.l3; obtain ⟨R_l, R_f, R_0, R_1, R_2⟩ := hR.l3
 go_enter Tryd.func71, Tryd.ntmps71
 go_wp2_with fail
 refine (slices_Clone A n c l _ (h.keep Bl.a2) hn).mono ?_
 rintro e w1 ⟨A1, c1, rfl, ho, hb1⟩
 have hlo := ho.blk
 simp only [World.size_alloc] at hlo
 replace ho := ho.mono (base' := w.heap.size + 2) (by simp)
 replace hW : Bl w w1 := Bl.a2; replace hB := hB.kp hb1; replace hR := hR.kp hb1; (try clear B_l B_f B_0 B_1 B_2 R_l R_f R_0 R_1 R_2); obtain ⟨B_l, B_f, B_0, B_1, B_2⟩ := hB.l3; obtain ⟨R_l, R_f, R_0, R_1, R_2⟩ := hR.l3
 go_wp2
 have hR3 : Blk (((((w1.setCell ⟨w.heap.size, 2, none⟩ (.slice A1 n c1)).setCell ⟨w.heap.size + 1, 0, none⟩ (.int .i64 f)).setCell ⟨w.heap.size + 1, 1, none⟩ (.int .i64 s)).setCell ⟨w.heap.size + 1, 2, none⟩ (.slice A1 n c1))) (w.heap.size + 1) 87 #[.int .i64 f, .int .i64 s, .slice A1 n c1] := put3_blk (hR.far (p := ⟨w.heap.size, 2, none⟩) (by dsimp only; omega) _) (.int .i64 f) (.int .i64 s) (.slice A1 n c1)
 have hg3 : w1.grownBy (w1.setCell ⟨w.heap.size, 2, none⟩ (.slice A1 n c1)) (some w.heap.size) := grownBy_setCell _ _ _ _
 have hg4 : ((w1.setCell ⟨w.heap.size, 2, none⟩ (.slice A1 n c1))).grownBy (((((w1.setCell ⟨w.heap.size, 2, none⟩ (.slice A1 n c1)).setCell ⟨w.heap.size + 1, 0, none⟩ (.int .i64 f)).setCell ⟨w.heap.size + 1, 1, none⟩ (.int .i64 s)).setCell ⟨w.heap.size + 1, 2, none⟩ (.slice A1 n c1))) (some (w.heap.size + 1)) := put3_grown _ _ (.int .i64 f) (.int .i64 s) (.slice A1 n c1)
 have hW4 := (hW.grown hg3 (fun k h => by injection h with h; omega)).grown hg4 (fun k h => by injection h with h; omega)
 have hX := (ho.grownR hg3 (fun q hq e => by have := hlo q hq; injection e with e; omega)).grownR hg4 (fun q hq e => by have := hlo q hq; injection e with e; omega)
 generalize ((((w1.setCell ⟨w.heap.size, 2, none⟩ (.slice A1 n c1)).setCell ⟨w.heap.size + 1, 0, none⟩ (.int .i64 f)).setCell ⟨w.heap.size + 1, 1, none⟩ (.int .i64 s)).setCell ⟨w.heap.size + 1, 2, none⟩ (.slice A1 n c1)) = wy at hW4 hR3 hX ⊢
 have R3_0 := hR3.cell 0 _ rfl
 have R3_1 := hR3.cell 1 _ rfl
 have R3_2 := hR3.cell 2 _ rfl
 refine bodyPost_ret (v := .agg #[.int .i64 f, .int .i64 s, .slice A1 n c1]) (by simp [results, Tryd.results71, go_sem, R3_0, R3_1, R3_2]) rfl ?_
 exact ⟨A1, c1, rfl, hX.mono (by omega), hW4⟩
set_option maxHeartbeats 1000000 in
theorem impl_bend (p f s : Int) (k : Nat) (v : Int) (A : Option Addr) (n c : Nat) (l : List Int) (w : World) (h : RdI w A n c l) (hn : n ≤ 1000) (hk : k < n) (hp : 2 ≤ p ∧ p ≤ 251) (hv : 0 ≤ v ∧ v < p) (hl : ∀ y ∈ l, 0 ≤ y ∧ y < p) :
  Calls Tryd.prog 70 #[.int .i64 p, .agg #[.int .i64 f, .int .i64 s, .slice A n c], .int .i64 (k : Int), .int .i64 v] w fun e w' => ∃ A' c', e = .returned (.agg #[.int .i64 f, .int .i64 s, .slice A' n c']) ∧ OwnI w.heap.size w' A' n c' (l.set k ((num l k + v) % p)) ∧ Bl w w' := by
 obtain ⟨x, hx⟩ : ∃ x, num l k = x := ⟨_, rfl⟩
 have hkl : l[k]? = some x := by rw [← hx]; unfold num; rw [List.getElem?_eq_getElem (by rw [h.length]; exact hk), Option.getD_some]
 have hxr := hl x (List.mem_of_getElem? hkl)
 have HX := Lib.hid hx
 have HK := Lib.hid hkl
 have zs : IntKind.i64.wrap (x + v) = x + v := IntWalk.i64_in _ (by omega)
 have i1 : (k : Int) < n := by omega
 clear hx hkl hl
 have hW : Bl w ((w.alloc (.cells #[.int .i64 f, .int .i64 s, .slice A n c] 87)).alloc (.cells #[.int .i64 0, .int .i64 0, .slice none 0 0] 87)) := Bl.a2
 have hB : Blk ((w.alloc (.cells #[.int .i64 f, .int .i64 s, .slice A n c] 87)).alloc (.cells #[.int .i64 0, .int .i64 0, .slice none 0 0] 87)) (w.heap.size) 87 #[.int .i64 f, .int .i64 s, .slice A n c] := ((Blk.new w 87 #[.int .i64 f, .int .i64 s, .slice A n c] (g := w.heap.size)).alloc (.cells #[.int .i64 0, .int .i64 0, .slice none 0 0] 87))
 have hR : Blk ((w.alloc (.cells #[.int .i64 f, .int .i64 s, .slice A n c] 87)).alloc (.cells #[.int .i64 0, .int .i64 0, .slice none 0 0] 87)) (w.heap.size + 1) 87 #[.int .i64 0, .int .i64 0, .slice none 0 0] := (Blk.new (w.alloc (.cells #[.int .i64 f, .int .i64 s, .slice A n c] 87)) 87 #[.int .i64 0, .int .i64 0, .slice none 0 0] (g := w.heap.size + 1))
 obtain ⟨B_l, B_f, B_0, B_1, B_2⟩ := hB.l3; obtain ⟨R_l, R_f, R_0, R_1, R_2⟩ := hR.l3
 go_enter Tryd.func70, Tryd.ntmps70
 go_wp2_with fail
 refine (slices_Clone A n c l _ (h.keep Bl.a2) (by omega)).mono ?_
 rintro e w1 ⟨A1, c1, rfl, ho, hb1⟩
 have hlo := ho.blk
 simp only [World.size_alloc] at hlo
 replace ho := ho.mono (base' := w.heap.size + 2) (by simp)
 obtain ⟨g, rfl, hg1, hg2, hgc, hgf⟩ := ho.form (by omega)
 replace hW : Bl w w1 := Bl.a2; replace hB := hB.kp hb1; replace hR := hR.kp hb1; (try clear B_l B_f B_0 B_1 B_2 R_l R_f R_0 R_1 R_2); obtain ⟨B_l, B_f, B_0, B_1, B_2⟩ := hB.l3; obtain ⟨R_l, R_f, R_0, R_1, R_2⟩ := hR.l3
 go_wp2_with fail
 (try clear B_l B_f B_0 B_1 B_2 R_l R_f R_0 R_1 R_2)
 replace hB : Blk (w1.setCell ⟨w.heap.size, 2, none⟩ (.slice (some ⟨g, 0, none⟩) n c1)) (w.heap.size) 87 #[.int .i64 f, .int .i64 s, .slice (some ⟨g, 0, none⟩) n c1] := hB.set_ 2 _
 replace hR : Blk (w1.setCell ⟨w.heap.size, 2, none⟩ (.slice (some ⟨g, 0, none⟩) n c1)) (w.heap.size + 1) 87 #[.int .i64 0, .int .i64 0, .slice none 0 0] := hR.far (by dsimp only; omega) _
 have hg3 : w1.grownBy (w1.setCell ⟨w.heap.size, 2, none⟩ (.slice (some ⟨g, 0, none⟩) n c1)) (some w.heap.size) := grownBy_setCell _ _ _ _
 replace ho := ho.grownR hg3 (fun q hq e => by have := hlo q hq; injection e with e; omega)
 replace hW := hW.grown hg3 (fun k h => by injection h with h; omega)
 clear hg3 hgc hgf hb1
 generalize (w1.setCell ⟨w.heap.size, 2, none⟩ (.slice (some ⟨g, 0, none⟩) n c1)) = w2 at hB hR ho hW ⊢
 obtain ⟨g', hgg, hg4, hg5, hgc, hgf⟩ := ho.form (by omega)
 injection hgg with hgg
 injection hgg with hgg
 subst hgg
 have hx2 := hgc k x HK.out
 have hxf := hgf k
 clear hgc hgf
 obtain ⟨B_l, B_f, B_0, B_1, B_2⟩ := hB.l3; obtain ⟨R_l, R_f, R_0, R_1, R_2⟩ := hR.l3
 refine region_F (fun _ => True) (fun w' => w'.cell? ⟨w.heap.size, 2, none⟩ = some (.slice (some ⟨g, 0, none⟩) n c1) ∧ w'.cell? ⟨g, k, none⟩ = some (.int .i64 x)) 13 (by kernel_rfl) ?_ (fun hHeld => ?_)
 ·(try dsimp only); exact ⟨trivial, B_2, hx2⟩
 refine tC 0 13 [0] ?_ hHeld
 refine tC 1 14 [1] ?_ hHeld
 refine tC 2 15 [2] ?_ hHeld
 refine tC 3 16 [3] ?_ hHeld
 refine tC 4 17 [4] ?_ hHeld
 refine tC 5 18 [5] ?_ hHeld
 refine tC 6 19 [6] ?_ hHeld
 refine tC 7 20 [7] ?_ hHeld
 refine tC 8 21 [8] ?_ hHeld
 refine tC 9 22 [9] ?_ hHeld
 refine tC 10 23 [10] ?_ hHeld
 refine f_step (i := 11) (by kernel_rfl) rfl (fun K hK => ?_)
 go_simp
 go_at_call 45; refine (impl_mod _ _ _ (by omega) (by omega) (by omega) (by omega)).mono ?_; rintro e w6 ⟨rfl, rfl⟩
 go_wp2_with fail
 refine ko hK ?_ fun hHeld => ?_
 ·(try dsimp only); exact ⟨trivial, B_2, hx2⟩
 clear hK K
 refine tC 12 25 [12] ?_ hHeld
 refine f_last (i := 13) (by kernel_rfl) rfl (by simp) (fun K hK => ?_)
 go_simp
 refine ko hK ?_ fun hHeld => ?_
 ·exact trivial
 clear hK K
 refine f_done (by kernel_rfl) ?_ _
 go_wp2
 have ho5 : OwnI (w.heap.size + 2) (w2.setCell ⟨g, k, none⟩ (.int .i64 ((x + v) % p))) (some ⟨g, 0, none⟩) n c1 (l.set k ((x + v) % p)) := ho.set_ k _ hk
 have hR5 : Blk (w2.setCell ⟨g, k, none⟩ (.int .i64 ((x + v) % p))) (w.heap.size + 1) 87 #[.int .i64 0, .int .i64 0, .slice none 0 0] := hR.far (by dsimp only; omega) _
 have hW5 : Bl w (w2.setCell ⟨g, k, none⟩ (.int .i64 ((x + v) % p))) := hW.setCell (by dsimp only; omega) _
 have hR3 : Blk (((((w2.setCell ⟨g, k, none⟩ (.int .i64 ((x + v) % p))).setCell ⟨w.heap.size + 1, 0, none⟩ (.int .i64 f)).setCell ⟨w.heap.size + 1, 1, none⟩ (.int .i64 s)).setCell ⟨w.heap.size + 1, 2, none⟩ (.slice (some ⟨g, 0, none⟩) n c1))) (w.heap.size + 1) 87 #[.int .i64 f, .int .i64 s, .slice (some ⟨g, 0, none⟩) n c1] := put3_blk hR5 (.int .i64 f) (.int .i64 s) (.slice (some ⟨g, 0, none⟩) n c1)
 have hg4 : ((w2.setCell ⟨g, k, none⟩ (.int .i64 ((x + v) % p)))).grownBy (((((w2.setCell ⟨g, k, none⟩ (.int .i64 ((x + v) % p))).setCell ⟨w.heap.size + 1, 0, none⟩ (.int .i64 f)).setCell ⟨w.heap.size + 1, 1, none⟩ (.int .i64 s)).setCell ⟨w.heap.size + 1, 2, none⟩ (.slice (some ⟨g, 0, none⟩) n c1))) (some (w.heap.size + 1)) := put3_grown _ _ (.int .i64 f) (.int .i64 s) (.slice (some ⟨g, 0, none⟩) n c1)
 have hW4 := hW5.grown hg4 (fun k h => by injection h with h; omega)
 have hX := ho5.grownR hg4 (fun q hq e => by have := hlo q hq; injection e with e; omega)
 generalize ((((w2.setCell ⟨g, k, none⟩ (.int .i64 ((x + v) % p))).setCell ⟨w.heap.size + 1, 0, none⟩ (.int .i64 f)).setCell ⟨w.heap.size + 1, 1, none⟩ (.int .i64 s)).setCell ⟨w.heap.size + 1, 2, none⟩ (.slice (some ⟨g, 0, none⟩) n c1)) = wy at hW4 hR3 hX ⊢
 have R3_0 := hR3.cell 0 _ rfl
 have R3_1 := hR3.cell 1 _ rfl
 have R3_2 := hR3.cell 2 _ rfl
 refine bodyPost_ret (v := .agg #[.int .i64 f, .int .i64 s, .slice (some ⟨g, 0, none⟩) n c1]) (by simp [results, Tryd.results70, go_sem, R3_0, R3_1, R3_2]) rfl ?_
 exact ⟨_, c1, rfl, by rw [HX.out]; exact (hX.mono (by omega)).keep ((Bl.refl _).drew), hW4.drew⟩
theorem meddle_1 (at_ K A I V : Int) (g : Nat) (w : World) (hc : w.cell? ⟨g, 0, none⟩ = some (.int .i64 at_)) :
  Calls Tryd.prog 69 #[.agg #[.int .i64 K, .int .i64 A, .int .i64 I, .int .i64 V], .pointer (some ⟨g, 0, none⟩)] w fun e w' => e = .returned (.bool (A == at_)) ∧ Bl w w' := by
 have hgl : g < w.heap.size := World.block_lt_of_cell? w _ hc
 go_enter Tryd.func69, Tryd.ntmps69
 go_wp2
 go_ret
 exact ⟨rfl, Bl.a1⟩
theorem enters_meddle_1 : Enters 69 := fun _ _ => by kernel_rfl
/-- Where a meddle for a message stands. -/
def meddleI (l : List Md) (at_ : Int) : Option Nat := l.findIdx? fun m => m.at_ == at_
def meddleV (l : List Md) (at_ : Int) : Int := match meddleI l at_ with
 | some k => (k : Int)
 | none => -1
theorem meddleI_some {l : List Md} {at_ : Int} {k : Nat} (h : meddleI l at_ = some k) : ∃ m, l[k]? = some m ∧ meddleAt l at_ = some m ∧ m.at_ = at_ := by
 obtain ⟨hk, h2, h3⟩ := List.findIdx?_eq_some_iff_getElem.1 h
 refine ⟨l[k], List.getElem?_eq_getElem hk, ?_, by simpa using h2⟩
 unfold meddleAt
 rw [List.find?_eq_some_iff_getElem]
 exact ⟨h2, k, hk, rfl, fun j hj => by have := h3 j hj; simpa using this⟩
theorem meddleI_none {l : List Md} {at_ : Int} (h : meddleI l at_ = none) : meddleAt l at_ = none := by
 unfold meddleI at h
 unfold meddleAt
 rw [List.findIdx?_eq_none_iff] at h
 rw [List.find?_eq_none]
 intro x hx; simpa using h x hx
set_option maxHeartbeats 1000000 in
theorem slices_IndexFunc_md (at_ : Int) (g : Nat) (A : Option Addr) (n c : Nat) (l : List Md) (w : World) (hc : w.cell? ⟨g, 0, none⟩ = some (.int .i64 at_)) (h : RdMd w A n c l) :
  Calls Tryd.prog 68 #[.slice A n c, .func (.func 69) #[] #[.pointer (some ⟨g, 0, none⟩)]] w
   fun e w' => e = .returned (.int .i64 (meddleV l at_)) ∧ Bl w w' := by
 obtain ⟨hle1, hle2⟩ := h.le
 have hlen := Lib.hid h.2
 have hen := enters_meddle_1
 unfold Enters at hen
 have h0 := Bl.refl w
 go_enter Tryd.func68, Tryd.ntmps68
 go_wp2
 go_loopw [8] (fun i wr => ∃ k : Nat, k ≤ n ∧ i = .int .i64 k ∧ Hid (∀ (j : Nat) (m : Md), j < k → l[j]? = some m → (m.at_ == at_) = false) ∧ Bl w wr) (fun i _ => n - (intOf i).toNat)
 case atStart => exact ⟨0, by omega, rfl, Lib.hid (fun j m hj => by omega), h0⟩
 case round =>
  obtain ⟨k, hk, rfl, hq, hb⟩ := hrel
  clear h0
  by_cases hlt : k < n
  ·obtain ⟨ad, K, B, C, D, rfl, hx, q0, q1, q2, q3⟩ := (h.keep hb).at_ hlt
   have HX := Lib.hid hx
   clear hx
   have hc' := hb.cells hc
   have i1 : (k : Int) < n := by omega
   rcases hg : (B == at_)
   ·have hst := Lib.hid (show ∀ (j : Nat) (m : Md), j < k + 1 → l[j]? = some m → (m.at_ == at_) = false from fun j m hj hm => by
     by_cases e : j = k
     ·subst e
      rw [HX.out] at hm; injection hm with hm; subst hm; exact hg
     ·exact hq.out j m (by omega) hm)
    go_wp2_with (go_at_call 69; refine (meddle_1 at_ K B C D g _ (Bl.cells Bl.a1 hc)).mono ?_; rintro e w' ⟨rfl, hb1⟩; rw [hg])
    go_roundw
    case rel => exact ⟨k + 1, by omega, by go_num, hst, Bl.a1⟩
    case measure => simp [intOf]; omega
   ·have hst := Lib.hid (show meddleI l at_ = some k by
     unfold meddleI
     rw [List.findIdx?_eq_some_iff_getElem]
     have hkl : k < l.length := (List.getElem?_eq_some_iff.1 HX.out).1
     refine ⟨hkl, ?_, fun j hj => ?_⟩
     ·have := (List.getElem?_eq_some_iff.1 HX.out).2
      rw [this]; exact hg
     ·have := hq.out j l[j] hj (List.getElem?_eq_getElem (by omega))
      rw [this]; simp)
    go_wp2_with (go_at_call 69; refine (meddle_1 at_ K B C D g _ (Bl.cells Bl.a1 hc)).mono ?_; rintro e w' ⟨rfl, hb1⟩; rw [hg])
    go_ret
    exact ⟨by unfold meddleV; rw [hst.out]; rfl, Bl.a1⟩
  ·have he : k = n := by omega
   have hst := Lib.hid (show meddleI l at_ = none by
    unfold meddleI
    rw [List.findIdx?_eq_none_iff]
    intro x hx
    obtain ⟨j, hj⟩ := List.mem_iff_getElem?.1 hx
    exact hq.out j x (by have := (List.getElem?_eq_some_iff.1 hj).1; have := hlen.out; omega) hj)
   go_wp2
   go_ret
   exact ⟨by unfold meddleV; rw [hst.out]; rfl, hb⟩
end Go.Proofs.YtcjpalhclgkjiaaDoor
/- Contracts: what a run with meddles makes of a message.
   Conditions: the meddles are valid. -/
namespace Go.Proofs.YtcjpalhclgkjiaaDoor
open Go.RowKit
set_option linter.unusedVariables false
theorem two_l (g t : Nat) : Two g t g := Or.inl rfl
theorem two_r (g t : Nat) : Two g t t := Or.inr rfl
theorem grownBy_setCell_ (w : World) (p : Addr) (u : Value) : w.grownBy (w.setCell p u) (some p.block) :=
 ⟨rfl, rfl, rfl, by simp, fun k hk hne => Below.heap_setCell w p u k (fun e => hne (by rw [e]))⟩
theorem Gp.setCell {P : Nat → Prop} {W w : World} (h : Gp P W w) {p : Addr} (hp : P p.block ∨ W.heap.size ≤ p.block) (u : Value) : Gp P W (w.setCell p u) :=
 h.grown (grownBy_setCell_ w p u) (fun k e => by injection e with e; subst e; exact hp)
theorem mdB_fields {p K A I V : Int} (h : mdB p ⟨K, A, I, V⟩ = true) : (0 ≤ A ∧ A ≤ 5) ∧ (K = 1 ∧ (0 ≤ I ∧ I ≤ (bodyN (A / 2).toNat : Int) - 1) ∧ 0 ≤ V ∧ V ≤ p - 1 ∨ K = 2 ∨ (K = 3 ∧ 2 ≤ A) ∨ K = 4) := by
 simp only [mdB, Bool.and_eq_true, inR_iff] at h
 obtain ⟨h1, h2⟩ := h
 refine ⟨h1, ?_⟩
 by_cases hK : K = 1
 ·rw [if_pos hK, Bool.and_eq_true, inR_iff, inR_iff] at h2
  exact .inl ⟨hK, h2.1, h2.2⟩
 ·rw [if_neg hK] at h2
  simp only [Bool.and_eq_true, inR_iff, Bool.or_eq_true, bne_iff_ne, decide_eq_true_eq, beq_iff_eq] at h2
  omega
theorem taken_none {l : List Md} {a p : Int} {m o : Ms} (h : meddleI l a = none) : takenP p l a m o = m := by unfold takenP; rw [meddleI_none h]
theorem taken_1 {l : List Md} {a p A V : Int} {q : Nat} {m o : Ms} (h : meddleAt l a = some ⟨1, A, q, V⟩) : takenP p l a m o = { m with b := m.b.set q ((num m.b q + V) % p) } := by unfold takenP; rw [h]; rfl
theorem taken_2 {l : List Md} {a p A I V : Int} {m o : Ms} (h : meddleAt l a = some ⟨2, A, I, V⟩) : takenP p l a m o = { m with b := [] } := by unfold takenP; rw [h]; rfl
theorem taken_3 {l : List Md} {a p A I V : Int} {m o : Ms} (h : meddleAt l a = some ⟨3, A, I, V⟩) : takenP p l a m o = o := by unfold takenP; rw [h]; rfl
theorem taken_4 {l : List Md} {a p A I V : Int} {m o : Ms} (h : meddleAt l a = some ⟨4, A, I, V⟩) : takenP p l a m o = { m with f := 1 - m.f } := by unfold takenP; rw [h]; rfl
end Go.Proofs.YtcjpalhclgkjiaaDoor
