/- Contracts: the reference's message bent, and a message as it is taken.
   Conditions: the meddles are valid. -/
import Derived.Test.YtcjpalhclgkjiaaDoorPqd
import Derived.Test.YtcjpalhclgkjiaaDoorPkaG
namespace Go.Proofs.YtcjpalhclgkjiaaDoor
open Go.RowKit
set_option linter.unusedVariables false
section
variable {l : List Md} {j : Int} {x : Md}
theorem meddleAt_ne (h : ¬ x.at_ = j) : meddleAt (l ++ [x]) j = meddleAt l j := by
 unfold meddleAt; rw [List.find?_append]; simp [h]
theorem meddleAt_eq (h0 : meddleAt l j = none) (h : x.at_ = j) : meddleAt (l ++ [x]) j = some x := by
 unfold meddleAt at *; rw [List.find?_append, h0]; simp [h]
theorem meddleAt_lt {p : Int} {k : Nat} (hm : mdsB p l = true) (hx : l[k]? = some x) (h : x.at_ = j) : meddleAt (l.take k) j = none := by
 unfold meddleAt
 rw [List.find?_eq_none]
 intro o ho
 obtain ⟨i, hi⟩ := List.mem_iff_getElem?.1 ho
 rw [List.getElem?_take] at hi
 split at hi
 ·have := mds_lt hm (by assumption) hi hx
  simp; omega
 ·cases hi
theorem taken_ne {p : Int} {k : Nat} {m mo : Ms} (hx : l[k]? = some x) (h : ¬ x.at_ = j) : takenP p (l.take (k + 1)) j m mo = takenP p (l.take k) j m mo := by
 unfold takenP; rw [List.take_add_one, hx]; show (match meddleAt (l.take k ++ [x]) j with | none => m | some x => meddled p x m mo) = _; rw [meddleAt_ne h]; cases meddleAt (l.take k) j <;> rfl
theorem taken_at {p : Int} {k : Nat} {m mo : Ms} (hm : mdsB p l = true) (hx : l[k]? = some x) (h : x.at_ = j) : takenP p (l.take k) j m mo = m ∧ meddleAt (l.take (k + 1)) j = some x := by
 have h0 := meddleAt_lt hm hx h
 refine ⟨by unfold takenP; rw [h0], ?_⟩
 rw [List.take_add_one, hx]; exact meddleAt_eq h0 h
end
theorem hm_at {w : World} {As : Option Addr} {ns cs : Nat} {L : List Hm} (h : Rd w 3 As ns cs (encs Hm.enc L)) (hl : L.length = ns) {k : Nat} {x : Hm} (hx : L[k]? = some x) :
  ∃ ad, As = some ad ∧ k < ns ∧ ns ≤ cs ∧ cs ≤ 9223372036854775807 ∧ w.cell? (ad.add (k * 3)) = some (.int .i64 x.f) ∧ w.cell? ⟨(ad.add (k * 3)).block, (ad.add (k * 3)).off + 1, none⟩ = some (.int .i64 x.s) ∧ w.cell? ⟨(ad.add (k * 3)).block, (ad.add (k * 3)).off + 2, none⟩ = some (.slice x.A x.n x.c) := by
 have hk : k < ns := by rw [← hl]; exact (List.getElem?_eq_some_iff.1 hx).1
 obtain ⟨ad, y, e, _, hy, hc⟩ := Rd.elem Hm.enc_len h hl hk
 rw [hx] at hy
 injection hy with hy
 subst hy
 have h0 := hc 0 _ (by omega) rfl
 rw [add_zero_] at h0
 exact ⟨ad, e, hk, h.cap, by have := h.max; unfold maxLen at this; exact this, h0, hc 1 _ (by omega) rfl, hc 2 _ (by omega) rfl⟩
set_option maxRecDepth 20000 in
set_option maxHeartbeats 1000000 in
theorem spec_ptBend (p f s : Int) (k : Nat) (v : Int) (A : Option Addr) (n c : Nat) (b : List Int) (w : World) (hmr : RdI w A n c b) (hn : n ≤ 1000) (hk : k < n) (hp : 2 ≤ p ∧ p ≤ 251) (hv : 0 ≤ v ∧ v < p) (hl : ∀ y ∈ b, 0 ≤ y ∧ y < p) :
  Calls Tryd.prog 78 #[.int .i64 p, .agg #[.int .i64 f, .int .i64 s, .slice A n c], .int .i64 (k : Int), .int .i64 v] w fun e w' => ∃ A' c', e = .returned (.agg #[.int .i64 f, .int .i64 s, .slice A' n c']) ∧ OwnI w.heap.size w' A' n c' (b.set k ((num b k + v) % p)) ∧ Bl w w' := by
 obtain ⟨x, hx⟩ : ∃ x, num b k = x := ⟨_, rfl⟩
 have hkl : b[k]? = some x := by rw [← hx]; unfold num; rw [List.getElem?_eq_getElem (by rw [hmr.length]; exact hk), Option.getD_some]
 have hxr := hl x (List.mem_of_getElem? hkl)
 have HX := Lib.hid hx
 have HK := Lib.hid hkl
 have zs : IntKind.i64.wrap (x + v) = x + v := IntWalk.i64_in _ (by omega)
 have et : (x + v).tmod p = (x + v) % p := Int.tmod_eq_emod_of_nonneg (by omega)
 have hp0 : (p == 0) = false := by simp; omega
 have hp1 : ¬ p = 0 := by omega
 have i1 : (k : Int) < n := by omega
 clear hx hkl hl
 have hW : Bl w ((w.alloc (.cells #[.int .i64 f, .int .i64 s, .slice A n c] 87)).alloc (.cells #[.int .i64 0, .int .i64 0, .slice none 0 0] 87)) := Bl.a2
 have hM : Blk ((w.alloc (.cells #[.int .i64 f, .int .i64 s, .slice A n c] 87)).alloc (.cells #[.int .i64 0, .int .i64 0, .slice none 0 0] 87)) (w.heap.size) 87 #[.int .i64 f, .int .i64 s, .slice A n c] := ((Blk.new w 87 #[.int .i64 f, .int .i64 s, .slice A n c] (g := w.heap.size)).alloc (.cells #[.int .i64 0, .int .i64 0, .slice none 0 0] 87))
 have hR : Blk ((w.alloc (.cells #[.int .i64 f, .int .i64 s, .slice A n c] 87)).alloc (.cells #[.int .i64 0, .int .i64 0, .slice none 0 0] 87)) (w.heap.size + 1) 87 #[.int .i64 0, .int .i64 0, .slice none 0 0] := (Blk.new (w.alloc (.cells #[.int .i64 f, .int .i64 s, .slice A n c] 87)) 87 #[.int .i64 0, .int .i64 0, .slice none 0 0] (g := w.heap.size + 1))
 go_enter Tryd.func78, Tryd.ntmps78
 go_upto_region 1 with fail
 replace hmr := hmr.keep hW
 have hzw := hW.sz
 generalize ((w.alloc (.cells #[.int .i64 f, .int .i64 s, .slice A n c] 87)).alloc (.cells #[.int .i64 0, .int .i64 0, .slice none 0 0] 87)) = w0 at hW hM hR hmr hzw ⊢
 obtain ⟨M_l, M_f, M_0, M_1, M_2⟩ := hM.l3
 go_cut [9] (fun sx wx => ∃ gX A1 c1, sx = .pointer (some ⟨gX, 0, none⟩) ∧ w0.heap.size ≤ gX ∧ Blk wx gX 87 #[.int .i64 f, .int .i64 s, .slice A1 n c1] ∧ OwnI w0.heap.size wx A1 n c1 b ∧ (∀ k, A1.map (·.block) = some k → k ≠ gX) ∧ Bl w0 wx)
 case first =>
  refine wp_region_held_drew (S := (fun w' => w'.cell? ⟨w.heap.size, 0, none⟩ = some (.int .i64 f) ∧ w'.cell? ⟨w.heap.size, 1, none⟩ = some (.int .i64 s) ∧ w'.cell? ⟨w.heap.size, 2, none⟩ = some (.slice A n c))) (by kernel_rfl) ?_ (fun hHeld => ?_)
  ·(try dsimp only); exact ⟨M_0, M_1, M_2⟩
  have hV : Bl w0 w0.drew := (Bl.refl w0).drew
  generalize w0.drew = vi at hV hHeld ⊢
  refine tkO 0 10 ?_
  refine tkO 1 11 ?_
  refine tkO 2 12 ?_
  refine tkO 3 13 ?_
  refine tkO 4 14 ?_
  refine tkO 5 15 ?_
  refine wpAnyH_ready (rs := [6, 8]) (by kernel_rfl) (by simp) ?_
  refine AllReadyH.cons rfl (fun K hK => ?_) (AllReadyH.cons rfl (fun K hK => ?_) AllReadyH.nil)
  ·go_simp
   go_at_call 77; refine (spec_l1Own A n c b _ (hmr.keep hV) (by omega)).mono ?_; rintro e v6 ⟨A1, c1, rfl, o1, hb6⟩; have hzv := hV.sz; replace o1 := o1.mono (base' := w0.heap.size) hzv; replace hV := hV.call hb6; clear hb6
   go_wp2_with fail
   refine ko hK ?_ fun hHeld => ?_
   ·(try dsimp only); exact ⟨hV.cells M_0, hV.cells M_1, hV.cells M_2⟩
   clear hK K
   refine tkO 7 17 ?_
   refine rdy1 8 fun K hK => ?_
   go_simp
   have hX := Blk.new v6 87 #[.int .i64 0, .int .i64 0, .slice none 0 0] (g := v6.heap.size)
   have hgX := hV.sz
   replace hV := hV.alloc (.cells #[.int .i64 0, .int .i64 0, .slice none 0 0] 87)
   have nX : ∀ k, A1.map (·.block) = some k → k ≠ v6.heap.size := fun k q1 q2 => (by have a1 := (o1.blk k q1).2; omega)
   replace o1 := o1.alloc (.cells #[.int .i64 0, .int .i64 0, .slice none 0 0] 87)
   generalize v6.alloc (.cells #[.int .i64 0, .int .i64 0, .slice none 0 0] 87) = v8 at hX hV o1 ⊢
   generalize v6.heap.size = gX at hX hgX nX ⊢
   refine ko hK ?_ fun hHeld => ?_
   ·(try dsimp only); exact ⟨hV.cells M_0, hV.cells M_1, hV.cells M_2⟩
   clear hK K
   refine rdy1 9 fun K hK => ?_
   refine wp_store_row 87 _ _ rfl (gX) #[.int .i64 f, .int .i64 s, .slice A1 n c1] rfl rfl 87 #[.int .i64 0, .int .i64 0, .slice none 0 0] hX (by kernel_rfl) rfl (by first | rfl | simp [Value.oneCell'] | kernel_rfl) ?_; replace hX := Blk.row (cs' := #[.int .i64 f, .int .i64 s, .slice A1 n c1]) hX; replace o1 := OwnI.grownR o1 (setRow_grown v8 gX #[.int .i64 f, .int .i64 s, .slice A1 n c1]) (fun k hk e => nX k hk (by injection e with e; exact e.symm)); replace hV := hV.row hgX #[.int .i64 f, .int .i64 s, .slice A1 n c1]; generalize v8.setRow gX #[.int .i64 f, .int .i64 s, .slice A1 n c1] = v9 at hX o1 hV ⊢
   refine ko hK ?_ fun hHeld => ?_
   ·(try dsimp only); exact ⟨hV.cells M_0, hV.cells M_1, hV.cells M_2⟩
   clear hK K
   refine wpAnyH_done (by kernel_rfl) ?_ _
   go_wp2_with fail
   go_meet
   exact ⟨gX, A1, c1, rfl, hgX, hX, o1, nX, hV⟩
  ·go_simp
   have hX := Blk.new vi 87 #[.int .i64 0, .int .i64 0, .slice none 0 0] (g := vi.heap.size)
   have hgX := hV.sz
   replace hV := hV.alloc (.cells #[.int .i64 0, .int .i64 0, .slice none 0 0] 87)
   generalize vi.alloc (.cells #[.int .i64 0, .int .i64 0, .slice none 0 0] 87) = v8 at hX hV ⊢
   generalize vi.heap.size = gX at hX hgX ⊢
   refine ko hK ?_ fun hHeld => ?_
   ·(try dsimp only); exact ⟨hV.cells M_0, hV.cells M_1, hV.cells M_2⟩
   clear hK K
   refine rdy1 6 fun K hK => ?_
   go_simp
   go_at_call 77; refine (spec_l1Own A n c b _ (hmr.keep hV) (by omega)).mono ?_; rintro e v6 ⟨A1, c1, rfl, o1, hb6⟩; have hzv := hV.sz; have nX : ∀ k, A1.map (·.block) = some k → k ≠ gX := fun k q1 q2 => (by have a1 := (o1.blk k q1).1; have a2 := hX.lt; omega); replace hX := hX.keep hb6; replace o1 := o1.mono (base' := w0.heap.size) hzv; replace hV := hV.call hb6; clear hb6
   go_wp2_with fail
   refine ko hK ?_ fun hHeld => ?_
   ·(try dsimp only); exact ⟨hV.cells M_0, hV.cells M_1, hV.cells M_2⟩
   clear hK K
   refine tkO 7 17 ?_
   refine rdy1 9 fun K hK => ?_
   refine wp_store_row 87 _ _ rfl (gX) #[.int .i64 f, .int .i64 s, .slice A1 n c1] rfl rfl 87 #[.int .i64 0, .int .i64 0, .slice none 0 0] hX (by kernel_rfl) rfl (by first | rfl | simp [Value.oneCell'] | kernel_rfl) ?_; replace hX := Blk.row (cs' := #[.int .i64 f, .int .i64 s, .slice A1 n c1]) hX; replace o1 := OwnI.grownR o1 (setRow_grown v6 gX #[.int .i64 f, .int .i64 s, .slice A1 n c1]) (fun k hk e => nX k hk (by injection e with e; exact e.symm)); replace hV := hV.row hgX #[.int .i64 f, .int .i64 s, .slice A1 n c1]; generalize v6.setRow gX #[.int .i64 f, .int .i64 s, .slice A1 n c1] = v9 at hX o1 hV ⊢
   refine ko hK ?_ fun hHeld => ?_
   ·(try dsimp only); exact ⟨hV.cells M_0, hV.cells M_1, hV.cells M_2⟩
   clear hK K
   refine wpAnyH_done (by kernel_rfl) ?_ _
   go_wp2_with fail
   go_meet
   exact ⟨gX, A1, c1, rfl, hgX, hX, o1, nX, hV⟩
 case rest =>
 obtain ⟨gX, A1, c1, rfl, hgX, hX, o1, nX, hV⟩ := hcut
 (try clear M_l M_f M_0 M_1 M_2)
 have hMl := hM.lt
 have hRl := hR.lt
 replace hW := hW.call hV
 replace hR := hR.keep hV
 obtain ⟨g, rfl, hg1, hg2, hgc, hgf⟩ := o1.form (by omega)
 have hx2 := hgc k x HK.out
 have hxf := hgf k
 have nXg : g ≠ gX := nX g rfl
 clear hgc hgf hV hmr hM nX
 obtain ⟨X_l, X_f, X_0, X_1, X_2⟩ := hX.l3
 obtain ⟨R_l, R_f, R_0, R_1, R_2⟩ := hR.l3
 go_wp2_with fail
 refine region_F (fun _ => True) (fun w' => w'.cell? ⟨gX, 2, none⟩ = some (.slice (some ⟨g, 0, none⟩) n c1) ∧ w'.cell? ⟨g, k, none⟩ = some (.int .i64 x)) 13 (by kernel_rfl) ?_ (fun hHeld => ?_)
 ·(try dsimp only); exact ⟨trivial, X_2, hx2⟩
 refine tC 0 18 [0] ?_ hHeld
 refine tC 1 19 [1] ?_ hHeld
 refine tC 2 20 [2] ?_ hHeld
 refine tC 3 21 [3] ?_ hHeld
 refine tC 4 22 [4] ?_ hHeld
 refine tC 5 23 [5] ?_ hHeld
 refine tC 6 24 [6] ?_ hHeld
 refine tC 7 25 [7] ?_ hHeld
 refine tC 8 26 [8] ?_ hHeld
 refine tC 9 27 [9] ?_ hHeld
 refine tC 10 28 [10] ?_ hHeld
 refine tC 11 29 [11] ?_ hHeld
 refine tC 12 30 [12] ?_ hHeld
 refine f_last (i := 13) (by kernel_rfl) rfl (by simp) (fun K hK => ?_)
 go_simp
 refine ko hK ?_ fun hHeld => ?_
 ·exact trivial
 clear hK K
 refine f_done (by kernel_rfl) ?_ _
 have ho5 : OwnI w0.heap.size ((wc.setCell ⟨g, k, none⟩ (.int .i64 ((x + v) % p))).drew) (some ⟨g, 0, none⟩) n c1 (b.set k ((x + v) % p)) := OwnI.drew (o1.set_ k _ hk)
 have hR5 : Blk ((wc.setCell ⟨g, k, none⟩ (.int .i64 ((x + v) % p))).drew) (w.heap.size + 1) 87 #[.int .i64 0, .int .i64 0, .slice none 0 0] := (hR.far (by dsimp only; omega) _).drew
 have hX5 : Blk ((wc.setCell ⟨g, k, none⟩ (.int .i64 ((x + v) % p))).drew) gX 87 #[.int .i64 f, .int .i64 s, .slice (some ⟨g, 0, none⟩) n c1] := (hX.far (by dsimp only; omega) _).drew
 have hW5 : Bl w ((wc.setCell ⟨g, k, none⟩ (.int .i64 ((x + v) % p))).drew) := (hW.setCell (by dsimp only; omega) _).drew
 clear o1 hR hX hW
 (try clear X_l X_f X_0 X_1 X_2)
 (try clear R_l R_f R_0 R_1 R_2)
 clear hx2 hxf
 generalize ((wc.setCell ⟨g, k, none⟩ (.int .i64 ((x + v) % p))).drew) = w5 at ho5 hR5 hX5 hW5 ⊢
 have hX := hX5; have hR := hR5
 obtain ⟨X_l, X_f, X_0, X_1, X_2⟩ := hX.l3
 obtain ⟨R_l, R_f, R_0, R_1, R_2⟩ := hR.l3
 go_wp2_with fail
 have hR3 : Blk ((((w5.setCell ⟨w.heap.size + 1, 0, none⟩ (.int .i64 f)).setCell ⟨w.heap.size + 1, 1, none⟩ (.int .i64 s)).setCell ⟨w.heap.size + 1, 2, none⟩ (.slice (some ⟨g, 0, none⟩) n c1))) (w.heap.size + 1) 87 #[.int .i64 f, .int .i64 s, .slice (some ⟨g, 0, none⟩) n c1] := put3_blk hR5 (.int .i64 f) (.int .i64 s) (.slice (some ⟨g, 0, none⟩) n c1)
 have hg4 : World.grownBy w5 ((((w5.setCell ⟨w.heap.size + 1, 0, none⟩ (.int .i64 f)).setCell ⟨w.heap.size + 1, 1, none⟩ (.int .i64 s)).setCell ⟨w.heap.size + 1, 2, none⟩ (.slice (some ⟨g, 0, none⟩) n c1))) (some (w.heap.size + 1)) := put3_grown _ _ (.int .i64 f) (.int .i64 s) (.slice (some ⟨g, 0, none⟩) n c1)
 have hW4 := hW5.grown hg4 (fun k h => by injection h with h; omega)
 have hY := ho5.grownR hg4 (fun q hq e => by have := (ho5.blk q hq).1; injection e with e; omega)
 generalize (((w5.setCell ⟨w.heap.size + 1, 0, none⟩ (.int .i64 f)).setCell ⟨w.heap.size + 1, 1, none⟩ (.int .i64 s)).setCell ⟨w.heap.size + 1, 2, none⟩ (.slice (some ⟨g, 0, none⟩) n c1)) = wy at hW4 hR3 hY ⊢
 have R3_0 := hR3.cell 0 _ rfl
 have R3_1 := hR3.cell 1 _ rfl
 have R3_2 := hR3.cell 2 _ rfl
 refine bodyPost_ret (v := .agg #[.int .i64 f, .int .i64 s, .slice (some ⟨g, 0, none⟩) n c1]) (by simp [results, Tryd.results78, go_sem, R3_0, R3_1, R3_2]) rfl ?_
 exact ⟨_, c1, rfl, by rw [HX.out]; exact hY.mono (by omega), hW4⟩
set_option maxRecDepth 20000 in
set_option maxHeartbeats 4000000 in
theorem spec_nwTaken (p : Int) (Al : Option Addr) (nl cl : Nat) (l : List Md) (As : Option Addr) (ns cs : Nat) (L : List Hm) (j : Nat) (i : Int) (hi : i = (j : Int)) (f s : Int) (A : Option Addr) (n c : Nat) (m mo : Ms) (w : World) (hlr : RdMd w Al nl cl l) (hsr : Rd w 3 As ns cs (encs Hm.enc L)) (hLl : L.length = ns) (hj6 : j < 6)
  (hLj : L[j]? = some ⟨f, s, A, n, c⟩) (hm : RdM w ⟨f, s, A, n, c⟩ m) (hml : mdsB p l = true) (hp : 2 ≤ p ∧ p ≤ 251) (hmb : m.b.length = bodyN (j / 2) ∧ ∀ y ∈ m.b, 0 ≤ y ∧ y < p) (hmf : m.f = 0 ∨ m.f = 1) (ho : 2 ≤ j → ∃ h0, L[j - 2]? = some h0 ∧ RdM w h0 mo ∧ h0.n ≤ 1000) :
  Calls Tryd.prog 55 #[.int .i64 p, .slice Al nl cl, .slice As ns cs, .int .i64 i] w fun e w' => ∃ f' s' A' n' c', e = .returned (.agg #[.int .i64 f', .int .i64 s', .slice A' n' c']) ∧ RdM w' ⟨f', s', A', n', c'⟩ (takenP p l j m mo) ∧ (∀ q, A'.map (·.block) = some q → w.heap.size ≤ q) ∧ n' ≤ 1000 ∧ Bl w w' := by
 subst hi
 have hnb : n = bodyN (j / 2) := hm.b.length.symm.trans hmb.1
 have hb4 := bodyN_le (j / 2)
 have hn : n ≤ 1000 := by omega
 have HNB := Lib.hid hnb
 have HMB := Lib.hid hmb
 have HMF := Lib.hid hmf
 have HML := Lib.hid hml
 have HO := Lib.hid ho
 have HM := Lib.hid hm
 have HLL := Lib.hid hLl
 obtain ⟨hl1, hl2⟩ := hlr.le
 obtain ⟨ad, rfl, hjn, hs1, hs2, x0, x1, x2⟩ := hm_at hsr hLl hLj
 have hmr : RdI w A n c m.b := hm.b
 obtain ⟨b, hb⟩ : ∃ b, m.b = b := ⟨_, rfl⟩
 rw [hb] at hmr
 have HB := Lib.hid hb
 have HMR := Lib.hid hmr
 clear hnb hb4 hmb hmf hml ho hm hLl hb hLj
 have i1 : (j : Int) < ns := by omega
 have i0 : (0 : Int) ≤ j := by omega
 have hW : Bl w ((w.alloc (.cells #[.int .i64 0, .int .i64 0, .slice none 0 0] 87)).alloc (.cells #[.int .i64 f, .int .i64 s, .slice A n c] 87)) := Bl.a2
 have hR : Blk ((w.alloc (.cells #[.int .i64 0, .int .i64 0, .slice none 0 0] 87)).alloc (.cells #[.int .i64 f, .int .i64 s, .slice A n c] 87)) (w.heap.size) 87 #[.int .i64 0, .int .i64 0, .slice none 0 0] := ((Blk.new w 87 #[.int .i64 0, .int .i64 0, .slice none 0 0] (g := w.heap.size)).alloc (.cells #[.int .i64 f, .int .i64 s, .slice A n c] 87))
 have hM : Blk ((w.alloc (.cells #[.int .i64 0, .int .i64 0, .slice none 0 0] 87)).alloc (.cells #[.int .i64 f, .int .i64 s, .slice A n c] 87)) (w.heap.size + 1) 87 #[.int .i64 f, .int .i64 s, .slice A n c] := (Blk.new (w.alloc (.cells #[.int .i64 0, .int .i64 0, .slice none 0 0] 87)) 87 #[.int .i64 f, .int .i64 s, .slice A n c] (g := w.heap.size + 1))
 have X0 := Lib.hid x0; have X1 := Lib.hid x1; have X2 := Lib.hid x2
 clear hW hR hM
 have hWr : Bl w (w.alloc (.cells #[.int .i64 0, .int .i64 0, .slice none 0 0] 87)) := Bl.a2
 have x0 := hWr.cells X0.out; have x1 := hWr.cells X1.out; have x2 := hWr.cells X2.out
 have hW : Bl w ((w.alloc (.cells #[.int .i64 0, .int .i64 0, .slice none 0 0] 87)).alloc (.cells #[.int .i64 f, .int .i64 s, .slice A n c] 87)) := Bl.a2
 have hR : Blk ((w.alloc (.cells #[.int .i64 0, .int .i64 0, .slice none 0 0] 87)).alloc (.cells #[.int .i64 f, .int .i64 s, .slice A n c] 87)) (w.heap.size) 87 #[.int .i64 0, .int .i64 0, .slice none 0 0] := ((Blk.new w 87 #[.int .i64 0, .int .i64 0, .slice none 0 0] (g := w.heap.size)).alloc (.cells #[.int .i64 f, .int .i64 s, .slice A n c] 87))
 have hM : Blk ((w.alloc (.cells #[.int .i64 0, .int .i64 0, .slice none 0 0] 87)).alloc (.cells #[.int .i64 f, .int .i64 s, .slice A n c] 87)) (w.heap.size + 1) 87 #[.int .i64 f, .int .i64 s, .slice A n c] := (Blk.new (w.alloc (.cells #[.int .i64 0, .int .i64 0, .slice none 0 0] 87)) 87 #[.int .i64 f, .int .i64 s, .slice A n c] (g := w.heap.size + 1))
 go_enter Tryd.func55, Tryd.ntmps55
 go_upto_region 2 with fail
 replace hmr := hmr.keep hW
 have hzw := hW.sz
 generalize ((w.alloc (.cells #[.int .i64 0, .int .i64 0, .slice none 0 0] 87)).alloc (.cells #[.int .i64 f, .int .i64 s, .slice A n c] 87)) = w0 at hW hR hM hmr hzw ⊢
 clear x0 x1 x2 hWr
 obtain ⟨M_l, M_f, M_0, M_1, M_2⟩ := hM.l3
 go_cut [10] (fun sx wx => ∃ gX A1 c1, sx = .pointer (some ⟨gX, 0, none⟩) ∧ w0.heap.size ≤ gX ∧ Blk wx gX 87 #[.int .i64 f, .int .i64 s, .slice A1 n c1] ∧ OwnI w0.heap.size wx A1 n c1 b ∧ (∀ k, A1.map (·.block) = some k → k ≠ gX) ∧ Bl w0 wx)
 case first =>
  refine wp_region_held_drew (S := (fun w' => w'.cell? ⟨w.heap.size + 1, 0, none⟩ = some (.int .i64 f) ∧ w'.cell? ⟨w.heap.size + 1, 1, none⟩ = some (.int .i64 s) ∧ w'.cell? ⟨w.heap.size + 1, 2, none⟩ = some (.slice A n c))) (by kernel_rfl) ?_ (fun hHeld => ?_)
  ·(try dsimp only); exact ⟨M_0, M_1, M_2⟩
  have hV : Bl w0 w0.drew := (Bl.refl w0).drew
  generalize w0.drew = vi at hV hHeld ⊢
  refine tkO 0 17 ?_
  refine tkO 1 18 ?_
  refine tkO 2 19 ?_
  refine tkO 3 20 ?_
  refine tkO 4 21 ?_
  refine tkO 5 22 ?_
  refine wpAnyH_ready (rs := [6, 8]) (by kernel_rfl) (by simp) ?_
  refine AllReadyH.cons rfl (fun K hK => ?_) (AllReadyH.cons rfl (fun K hK => ?_) AllReadyH.nil)
  ·go_simp
   go_at_call 77; refine (spec_l1Own A n c b _ (hmr.keep hV) (by omega)).mono ?_; rintro e v6 ⟨A1, c1, rfl, o1, hb6⟩; have hzv := hV.sz; replace o1 := o1.mono (base' := w0.heap.size) hzv; replace hV := hV.call hb6; clear hb6
   go_wp2_with fail
   refine ko hK ?_ fun hHeld => ?_
   ·(try dsimp only); exact ⟨hV.cells M_0, hV.cells M_1, hV.cells M_2⟩
   clear hK K
   refine tkO 7 24 ?_
   refine rdy1 8 fun K hK => ?_
   go_simp
   have hX := Blk.new v6 87 #[.int .i64 0, .int .i64 0, .slice none 0 0] (g := v6.heap.size)
   have hgX := hV.sz
   replace hV := hV.alloc (.cells #[.int .i64 0, .int .i64 0, .slice none 0 0] 87)
   have nX : ∀ k, A1.map (·.block) = some k → k ≠ v6.heap.size := fun k q1 q2 => (by have a1 := (o1.blk k q1).2; omega)
   replace o1 := o1.alloc (.cells #[.int .i64 0, .int .i64 0, .slice none 0 0] 87)
   generalize v6.alloc (.cells #[.int .i64 0, .int .i64 0, .slice none 0 0] 87) = v8 at hX hV o1 ⊢
   generalize v6.heap.size = gX at hX hgX nX ⊢
   refine ko hK ?_ fun hHeld => ?_
   ·(try dsimp only); exact ⟨hV.cells M_0, hV.cells M_1, hV.cells M_2⟩
   clear hK K
   refine rdy1 9 fun K hK => ?_
   refine wp_store_row 87 _ _ rfl (gX) #[.int .i64 f, .int .i64 s, .slice A1 n c1] rfl rfl 87 #[.int .i64 0, .int .i64 0, .slice none 0 0] hX (by kernel_rfl) rfl (by first | rfl | simp [Value.oneCell'] | kernel_rfl) ?_; replace hX := Blk.row (cs' := #[.int .i64 f, .int .i64 s, .slice A1 n c1]) hX; replace o1 := OwnI.grownR o1 (setRow_grown v8 gX #[.int .i64 f, .int .i64 s, .slice A1 n c1]) (fun k hk e => nX k hk (by injection e with e; exact e.symm)); replace hV := hV.row hgX #[.int .i64 f, .int .i64 s, .slice A1 n c1]; generalize v8.setRow gX #[.int .i64 f, .int .i64 s, .slice A1 n c1] = v9 at hX o1 hV ⊢
   refine ko hK ?_ fun hHeld => ?_
   ·(try dsimp only); exact ⟨hV.cells M_0, hV.cells M_1, hV.cells M_2⟩
   clear hK K
   refine wpAnyH_done (by kernel_rfl) ?_ _
   go_wp2_with fail
   go_meet
   exact ⟨gX, A1, c1, rfl, hgX, hX, o1, nX, hV⟩
  ·go_simp
   have hX := Blk.new vi 87 #[.int .i64 0, .int .i64 0, .slice none 0 0] (g := vi.heap.size)
   have hgX := hV.sz
   replace hV := hV.alloc (.cells #[.int .i64 0, .int .i64 0, .slice none 0 0] 87)
   generalize vi.alloc (.cells #[.int .i64 0, .int .i64 0, .slice none 0 0] 87) = v8 at hX hV ⊢
   generalize vi.heap.size = gX at hX hgX ⊢
   refine ko hK ?_ fun hHeld => ?_
   ·(try dsimp only); exact ⟨hV.cells M_0, hV.cells M_1, hV.cells M_2⟩
   clear hK K
   refine rdy1 6 fun K hK => ?_
   go_simp
   go_at_call 77; refine (spec_l1Own A n c b _ (hmr.keep hV) (by omega)).mono ?_; rintro e v6 ⟨A1, c1, rfl, o1, hb6⟩; have hzv := hV.sz; have nX : ∀ k, A1.map (·.block) = some k → k ≠ gX := fun k q1 q2 => (by have a1 := (o1.blk k q1).1; have a2 := hX.lt; omega); replace hX := hX.keep hb6; replace o1 := o1.mono (base' := w0.heap.size) hzv; replace hV := hV.call hb6; clear hb6
   go_wp2_with fail
   refine ko hK ?_ fun hHeld => ?_
   ·(try dsimp only); exact ⟨hV.cells M_0, hV.cells M_1, hV.cells M_2⟩
   clear hK K
   refine tkO 7 24 ?_
   refine rdy1 9 fun K hK => ?_
   refine wp_store_row 87 _ _ rfl (gX) #[.int .i64 f, .int .i64 s, .slice A1 n c1] rfl rfl 87 #[.int .i64 0, .int .i64 0, .slice none 0 0] hX (by kernel_rfl) rfl (by first | rfl | simp [Value.oneCell'] | kernel_rfl) ?_; replace hX := Blk.row (cs' := #[.int .i64 f, .int .i64 s, .slice A1 n c1]) hX; replace o1 := OwnI.grownR o1 (setRow_grown v6 gX #[.int .i64 f, .int .i64 s, .slice A1 n c1]) (fun k hk e => nX k hk (by injection e with e; exact e.symm)); replace hV := hV.row hgX #[.int .i64 f, .int .i64 s, .slice A1 n c1]; generalize v6.setRow gX #[.int .i64 f, .int .i64 s, .slice A1 n c1] = v9 at hX o1 hV ⊢
   refine ko hK ?_ fun hHeld => ?_
   ·(try dsimp only); exact ⟨hV.cells M_0, hV.cells M_1, hV.cells M_2⟩
   clear hK K
   refine wpAnyH_done (by kernel_rfl) ?_ _
   go_wp2_with fail
   go_meet
   exact ⟨gX, A1, c1, rfl, hgX, hX, o1, nX, hV⟩
 case rest =>
 obtain ⟨gX, A1, c1, rfl, hgX, hX, o1, nX, hV⟩ := hcut
 (try clear M_l M_f M_0 M_1 M_2)
 have hMl := hM.lt
 have hRl := hR.lt
 replace hW := hW.call hV
 replace hR := hR.keep hV
 replace hM := hM.keep hV
 have hz2 : w.heap.size + 2 ≤ w0.heap.size := by omega
 have r0 : RdM wc ⟨f, s, A1, n, c1⟩ (takenP p (l.take 0) j m mo) := by
  rw [show takenP p (l.take 0) j m mo = m from rfl]
  exact ⟨HM.out.f, HM.out.s, by rw [HB.out]; exact o1.rd⟩
 have a0 : ∀ q, A1.map (·.block) = some q → q ≠ gX ∧ w.heap.size + 2 ≤ q := fun q hq => ⟨nX q hq, by have := (o1.blk q hq).1; omega⟩
 clear hV hmr nX o1 hRl hMl
 go_wp2_with fail
 go_loopw [27] (fun i wr => ∃ k : Nat, k ≤ nl ∧ i = .int .i64 k ∧ ∃ (f' s' : Int) (A' : Option Addr) (n' c' : Nat), RdM wr ⟨f', s', A', n', c'⟩ (takenP p (l.take k) j m mo) ∧ (∀ q, A'.map (·.block) = some q → q ≠ gX ∧ w.heap.size + 2 ≤ q) ∧ n' ≤ 1000 ∧ Bl w wr ∧ Blk wr (w.heap.size + 1) 87 #[.int .i64 f, .int .i64 s, .slice A n c] ∧ Blk wr w.heap.size 87 #[.int .i64 0, .int .i64 0, .slice none 0 0] ∧ Blk wr gX 87 #[.int .i64 f', .int .i64 s', .slice A' n' c']) (fun i _ => nl - (intOf i).toNat)
 case atStart => exact ⟨0, by omega, rfl, f, s, A1, n, c1, r0, a0, hn, hW, hM, hR, hX⟩
 case round =>
  clear hW hM hR hX r0 a0
  obtain ⟨k, hk, rfl, f', s', A', n', c', hrd, hap, hn', hW, hM, hR, hO⟩ := hrel
  have HRD := Lib.hid hrd
  clear hrd
  have hOl := hO.lt
  have hRl := hR.lt
  by_cases hlt : k < nl
  ·obtain ⟨al, K, T, I, V, rfl, hx, q0, q1, q2, q3⟩ := (hlr.keep hW).at_ hlt
   have HX := Lib.hid hx
   clear hx
   have ik : (k : Int) < nl := by omega
   by_cases hT : T = (j : Int)
   ·subst hT
    obtain ⟨e1, e2⟩ := taken_at (mo := mo) (m := m) HML.out HX.out rfl
    have hrm : RdM wr ⟨f', s', A', n', c'⟩ m := e1 ▸ HRD.out
    have HRM := Lib.hid hrm
    have E2 := Lib.hid e2
    obtain ⟨-, hK⟩ := mdB_fields (mdsB_at HML.out HX.out).1
    clear e1 e2 hrm
    obtain ⟨M_l, M_f, M_0, M_1, M_2⟩ := hM.l3
    obtain ⟨O_l, O_f, O_0, O_1, O_2⟩ := hO.l3
    rcases hK with ⟨rfl, hI, hV⟩ | rfl | ⟨rfl, h2⟩ | rfl
    ·obtain ⟨q, rfl⟩ : ∃ q : Nat, I = (q : Int) := ⟨I.toNat, by omega⟩
     have hjj : ((j : Int) / 2).toNat = j / 2 := by omega
     have hqn : q < n := by rw [HNB.out, ← hjj]; omega
     have HT := Lib.hid (taken_1 (p := p) (m := m) (o := mo) E2.out)
     clear hjj hI
     have hWx := hW.alloc (.cells #[.int .i64 1, .int .i64 j, .int .i64 q, .int .i64 V] 55)
     go_wp2_with fail
     refine (spec_ptBend p f s q V A n c b _ (HMR.out.keep hWx) hn hqn hp (by omega) (by rw [← HB.out]; exact HMB.out.2)).mono ?_
     rintro e w1 ⟨A2, c2, rfl, o2, hb2⟩
     have hWy := hWx.call hb2
     have hzx := hb2.sz
     (try clear M_l M_f M_0 M_1 M_2); (try clear O_l O_f O_0 O_1 O_2)
     replace hO := (hO.alloc (.cells #[.int .i64 1, .int .i64 j, .int .i64 q, .int .i64 V] 55)).keep hb2
     replace hM := (hM.alloc (.cells #[.int .i64 1, .int .i64 j, .int .i64 q, .int .i64 V] 55)).keep hb2
     replace hR := (hR.alloc (.cells #[.int .i64 1, .int .i64 j, .int .i64 q, .int .i64 V] 55)).keep hb2
     obtain ⟨O_l, O_f, O_0, O_1, O_2⟩ := hO.l3
     go_wp2_with fail
     have hO3 : Blk ((((w1.setCell ⟨gX, 0, none⟩ (.int .i64 f)).setCell ⟨gX, 1, none⟩ (.int .i64 s)).setCell ⟨gX, 2, none⟩ (.slice A2 n c2))) gX 87 #[.int .i64 f, .int .i64 s, .slice A2 n c2] := put3_blk hO (.int .i64 f) (.int .i64 s) (.slice A2 n c2)
     have hg4 : World.grownBy w1 ((((w1.setCell ⟨gX, 0, none⟩ (.int .i64 f)).setCell ⟨gX, 1, none⟩ (.int .i64 s)).setCell ⟨gX, 2, none⟩ (.slice A2 n c2))) (some gX) := put3_grown _ _ (.int .i64 f) (.int .i64 s) (.slice A2 n c2)
     have nA2 : ∀ q, A2.map (·.block) = some q → q ≠ gX ∧ w.heap.size + 2 ≤ q := fun q hq => by have := (o2.blk q hq).1; simp at this; omega
     have hW4 := hWy.grown hg4 (fun k h => by injection h with h; omega)
     have hM4 := Blk.grown hM hg4 (fun e => by injection e with e; omega)
     have hR4 := Blk.grown hR hg4 (fun e => by injection e with e; omega)
     have o4 := o2.grownR hg4 (fun q hq e => (nA2 q hq).1 (by injection e with e; exact e.symm))
     go_roundw
     case rel => exact ⟨k + 1, by omega, by go_num, f, s, A2, n, c2, by rw [HT.out, HB.out]; exact ⟨HM.out.f, HM.out.s, o4.rd⟩, nA2, hn, hW4, hM4, hR4, hO3⟩
     case measure => simp [intOf]; omega
    ·have HT := Lib.hid (taken_2 (p := p) (m := m) (o := mo) E2.out)
     go_wp2_with fail
     go_roundw
     case rel => exact ⟨k + 1, by omega, by go_num, f', s', none, 0, 0, by rw [HT.out]; exact ⟨HRM.out.f, HRM.out.s, RdI.nil _⟩, by simp, by omega, (hW.setCell (by dsimp only; omega) _).alloc _, (hM.far (by dsimp only; omega) _).alloc _, (hR.far (by dsimp only; omega) _).alloc _, (hO.set_ 2 _).alloc _⟩
     case measure => simp [intOf]; omega
    ·obtain ⟨⟨f0, s0, A0, n0, c0⟩, hL0, hr0, hn0⟩ := HO.out (by omega)
     obtain ⟨ad', e', hj2, _, _, y0, y1, y2⟩ := hm_at hsr HLL.out hL0
     injection e' with e'
     subst e'
     dsimp only at y0 y1 y2 hn0
     have HT := Lib.hid (taken_3 (p := p) (m := m) (o := mo) E2.out)
     have HR0 := Lib.hid hr0
     have hWx := hW.alloc (.cells #[.int .i64 3, .int .i64 j, .int .i64 I, .int .i64 V] 55)
     replace y0 := hWx.cells y0
     replace y1 := hWx.cells y1
     replace y2 := hWx.cells y2
     have zj : IntKind.i64.wrap ((j : Int) - 2) = ((j - 2 : Nat) : Int) := by rw [IntWalk.i64_in _ (by omega)]; omega
     generalize j - 2 = jq at zj y0 y1 y2 hj2
     have i2 : (jq : Int) < ns := by omega
     clear hL0 hr0 h2
     go_wp2_with fail
     have hg4 : World.grownBy wr ((((wr.setCell ⟨gX, 0, none⟩ (.int .i64 f0)).setCell ⟨gX, 1, none⟩ (.int .i64 s0)).setCell ⟨gX, 2, none⟩ (.slice A0 n0 c0))) (some gX) := put3_grown _ _ (.int .i64 f0) (.int .i64 s0) (.slice A0 n0 c0)
     have hO3 : Blk (((((wr.setCell ⟨gX, 0, none⟩ (.int .i64 f0)).setCell ⟨gX, 1, none⟩ (.int .i64 s0)).setCell ⟨gX, 2, none⟩ (.slice A0 n0 c0))).alloc (.cells #[.int .i64 3, .int .i64 j, .int .i64 I, .int .i64 V] 55)) gX 87 #[.int .i64 f0, .int .i64 s0, .slice A0 n0 c0] := Blk.alloc (put3_blk hO (.int .i64 f0) (.int .i64 s0) (.slice A0 n0 c0)) _
     have hW4 := (hW.grown hg4 (fun k h => by injection h with h; omega)).alloc (.cells #[.int .i64 3, .int .i64 j, .int .i64 I, .int .i64 V] 55)
     have hM4 := (Blk.grown hM hg4 (fun e => by injection e with e; omega)).alloc (.cells #[.int .i64 3, .int .i64 j, .int .i64 I, .int .i64 V] 55)
     have hR4 := (Blk.grown hR hg4 (fun e => by injection e with e; omega)).alloc (.cells #[.int .i64 3, .int .i64 j, .int .i64 I, .int .i64 V] 55)
     (try clear M_l M_f M_0 M_1 M_2); (try clear O_l O_f O_0 O_1 O_2)
     clear hO hM hR hg4 y0 y1 y2
     generalize World.alloc ((((wr.setCell ⟨gX, 0, none⟩ (.int .i64 f0)).setCell ⟨gX, 1, none⟩ (.int .i64 s0)).setCell ⟨gX, 2, none⟩ (.slice A0 n0 c0))) (.cells #[.int .i64 3, .int .i64 j, .int .i64 I, .int .i64 V] 55) = w5 at hO3 hW4 hM4 hR4 ⊢
     refine (spec_l1Own A0 n0 c0 mo.b _ (HR0.out.b.keep hW4) (by omega)).mono ?_
     rintro e w6 ⟨A6, c6, rfl, o6, hb6⟩
     have hO := hO3.keep hb6
     have hgl := hO3.lt
     have nA6 : ∀ q, A6.map (·.block) = some q → q ≠ gX ∧ w.heap.size + 2 ≤ q := fun q hq => by have := (o6.blk q hq).1; omega
     obtain ⟨O_l, O_f, O_0, O_1, O_2⟩ := hO.l3
     go_wp2_with fail
     go_roundw
     case rel => exact ⟨k + 1, by omega, by go_num, f0, s0, A6, n0, c6, by rw [HT.out]; exact ⟨HR0.out.f, HR0.out.s, (o6.grownR (grownBy_setCell _ _ _ _) (fun q hq e => (nA6 q hq).1 (by injection e with e; exact e.symm))).rd⟩, nA6, hn0, (hW4.call hb6).setCell (by dsimp only; omega) _, (hM4.keep hb6).far (by dsimp only; omega) _, (hR4.keep hb6).far (by dsimp only; omega) _, hO.set_ 2 _⟩
     case measure => simp [intOf]; omega
    ·have HT := Lib.hid (taken_4 (p := p) (m := m) (o := mo) E2.out)
     have zf : IntKind.i64.wrap (1 - f) = 1 - f := IntWalk.i64_in _ (by have q1 := HM.out.f; have q2 := HMF.out; dsimp only at q1; omega)
     go_wp2_with fail
     go_roundw
     case rel => exact ⟨k + 1, by omega, by go_num, 1 - f, s', A', n', c', by rw [HT.out]; exact ⟨by have := HM.out.f; dsimp only at this ⊢; rw [this], HRM.out.s, Rd.keep (Rd.gp HRM.out.b (Gp.of_grown (P := fun k => k = gX) (grownBy_setCell wr gX 0 (.int .i64 (1 - f))) (fun k e => by injection e with e; exact e.symm)) (fun k hk e => (hap k hk).1 e)) ((Bl.refl _).alloc _)⟩, hap, hn', (hW.setCell (by dsimp only; omega) _).alloc _, (hM.far (by dsimp only; omega) _).alloc _, (hR.far (by dsimp only; omega) _).alloc _, (hO.set_ 0 _).alloc _⟩
     case measure => simp [intOf]; omega
   ·have HT := Lib.hid (taken_ne (p := p) (m := m) (mo := mo) HX.out hT)
    obtain ⟨M_l, M_f, M_0, M_1, M_2⟩ := hM.l3
    obtain ⟨O_l, O_f, O_0, O_1, O_2⟩ := hO.l3
    go_wp2_with fail
    go_roundw
    case rel => exact ⟨k + 1, by omega, by go_num, f', s', A', n', c', by rw [HT.out]; exact HRD.out.keep ((Bl.refl wr).alloc _), hap, hn', hW.alloc _, hM.alloc _, hR.alloc _, hO.alloc _⟩
    case measure => simp [intOf]; omega
  ·have he : k = nl := by omega
   have htk := Lib.hid (show l.take k = l from List.take_of_length_le (by rw [he]; exact Nat.le_of_eq hlr.2))
   clear hlt
   subst he
   obtain ⟨O_l, O_f, O_0, O_1, O_2⟩ := hO.l3
   obtain ⟨R_l, R_f, R_0, R_1, R_2⟩ := hR.l3
   go_wp2_with fail
   have hR3 : Blk ((((wr.setCell ⟨w.heap.size, 0, none⟩ (.int .i64 f')).setCell ⟨w.heap.size, 1, none⟩ (.int .i64 s')).setCell ⟨w.heap.size, 2, none⟩ (.slice A' n' c'))) w.heap.size 87 #[.int .i64 f', .int .i64 s', .slice A' n' c'] := put3_blk hR (.int .i64 f') (.int .i64 s') (.slice A' n' c')
   have hg4 : World.grownBy wr ((((wr.setCell ⟨w.heap.size, 0, none⟩ (.int .i64 f')).setCell ⟨w.heap.size, 1, none⟩ (.int .i64 s')).setCell ⟨w.heap.size, 2, none⟩ (.slice A' n' c'))) (some w.heap.size) := put3_grown _ _ (.int .i64 f') (.int .i64 s') (.slice A' n' c')
   have hW4 := hW.grown hg4 (fun k h => by injection h with h; omega)
   have hY : RdM ((((wr.setCell ⟨w.heap.size, 0, none⟩ (.int .i64 f')).setCell ⟨w.heap.size, 1, none⟩ (.int .i64 s')).setCell ⟨w.heap.size, 2, none⟩ (.slice A' n' c'))) ⟨f', s', A', n', c'⟩ (takenP p l j m mo) := by
    have q := HRD.out
    rw [htk.out] at q
    exact ⟨q.f, q.s, Rd.gp q.b (Gp.of_grown (P := fun k => k = w.heap.size) hg4 (fun k e => by injection e with e; exact e.symm)) (fun k hk e => by have := (hap k hk).2; omega)⟩
   generalize (((wr.setCell ⟨w.heap.size, 0, none⟩ (.int .i64 f')).setCell ⟨w.heap.size, 1, none⟩ (.int .i64 s')).setCell ⟨w.heap.size, 2, none⟩ (.slice A' n' c')) = wy at hW4 hR3 hY ⊢
   have R3_0 := hR3.cell 0 _ rfl
   have R3_1 := hR3.cell 1 _ rfl
   have R3_2 := hR3.cell 2 _ rfl
   refine bodyPost_ret (v := .agg #[.int .i64 f', .int .i64 s', .slice A' n' c']) (by simp [results, Tryd.results55, go_sem, R3_0, R3_1, R3_2]) rfl ?_
   exact ⟨f', s', A', n', c', rfl, hY, fun q hq => by have := (hap q hq).2; omega, hn', hW4⟩
end Go.Proofs.YtcjpalhclgkjiaaDoor
