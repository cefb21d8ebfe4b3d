/- Contracts: whether meddles are valid for a field, of the program and of the reference.
   Conditions: the table of lengths holds what its text lays. -/
import Derived.Test.YtcjpalhclgkjiaaDoorPgn
import Derived.Test.YtcjpalhclgkjiaaDoorPgq
namespace Go.Proofs.YtcjpalhclgkjiaaDoor
open Go.RowKit
set_option linter.unusedVariables false
/-- The first meddles are valid. -/
def MdsTo (p : Int) (l : List Md) (k : Nat) : Prop := ∀ (i : Nat) (m : Md), i < k → l[i]? = some m → mdB p m = true ∧ (0 < i → ∀ o, l[i - 1]? = some o → o.at_ < m.at_)
theorem MdsTo.zero (p : Int) (l : List Md) : MdsTo p l 0 := fun i m h => absurd h (by omega)
theorem MdsTo.step {p : Int} {l : List Md} {k : Nat} {x : Md} (h : MdsTo p l k) (hx : l[k]? = some x) (h1 : mdB p x = true) (h2 : 0 < k → ∀ o, l[k - 1]? = some o → o.at_ < x.at_) : MdsTo p l (k + 1) := fun i m hi hm => by
 rcases Nat.lt_or_eq_of_le (Nat.le_of_lt_succ hi) with h3 | h3
 ·exact h i m h3 hm
 ·subst h3; rw [hx] at hm; injection hm with hm; subst hm; exact ⟨h1, h2⟩
theorem MdsTo.all {p : Int} {l : List Md} {k : Nat} (h : MdsTo p l k) (hk : l.length ≤ k) : mdsB p l = true := mdsB_of fun i m hm => h i m (by have := (List.getElem?_eq_some_iff.1 hm).1; omega) hm
set_option maxRecDepth 20000 in
set_option maxHeartbeats 4000000 in
theorem impl_areMeddles (p : Int) (Al : Option Addr) (nl cl : Nat) (l : List Md) (w : World) (hTb : Tab w) (hlr : RdMd w Al nl cl l) (hp : 2 ≤ p ∧ p ≤ 251) :
  Calls Tryd.prog 59 #[.int .i64 p, .slice Al nl cl] w fun e w' => e = .returned (.bool (mdsB p l)) ∧ Bl w w' := by
 obtain ⟨hl1, hl2⟩ := hlr.le
 have z0 : IntKind.i64.wrap 0 = 0 := rfl
 have z1 : IntKind.i64.wrap 1 = 1 := rfl
 have h0 := Bl.refl w
 go_enter Tryd.func59, Tryd.ntmps59
 go_wp2
 go_loopw [9] (fun i wr => ∃ k : Nat, k ≤ nl ∧ i = .int .i64 k ∧ Hid (MdsTo p l k) ∧ Bl w wr) (fun i _ => nl - (intOf i).toNat)
 case atStart => exact ⟨0, by omega, rfl, Lib.hid (MdsTo.zero p l), h0⟩
 case round =>
  clear h0
  obtain ⟨k, hk, hie, hto, hW⟩ := hrel
  by_cases hlt : k < nl
  ·obtain ⟨ad, KK, T, I, V, rfl, hx, q0, q1, q2, q3⟩ := (hlr.keep hW).at_ hlt
   have HX := Lib.hid hx
   clear hx
   have ik : (k : Int) < nl := by omega
   rcases e1 : mdB p ⟨KK, T, I, V⟩
   ·have HF := Lib.hid (mdsB_not HX.out e1)
    subst hie
    have hX := Blk.new wr 55 #[.int .i64 KK, .int .i64 T, .int .i64 I, .int .i64 V] (g := wr.heap.size)
    have hWx := hW.alloc (.cells #[.int .i64 KK, .int .i64 T, .int .i64 I, .int .i64 V] 55)
    go_wp2_with fail
    generalize wr.alloc (.cells #[.int .i64 KK, .int .i64 T, .int .i64 I, .int .i64 V] 55) = wx at hX hWx ⊢
    generalize wr.heap.size = gX at hX ⊢
    obtain ⟨X_l, X_f, X_0, X_1, X_2, X_3⟩ := hX.l4
    refine wp_region_held_drew (S := (fun w' => w'.cell? ⟨gX, 0, none⟩ = some (.int .i64 KK) ∧ w'.cell? ⟨gX, 1, none⟩ = some (.int .i64 T) ∧ w'.cell? ⟨gX, 2, none⟩ = some (.int .i64 I) ∧ w'.cell? ⟨gX, 3, none⟩ = some (.int .i64 V))) (by kernel_rfl) ?_ (fun hHeld => ?_)
    ·(try dsimp only); first | exact ⟨X_0, X_1, X_2, X_3⟩ | go_keep
    refine tkO 0 14 ?_
    refine tkO 1 15 ?_
    refine rdy1 2 fun K hK => ?_
    go_simp
    (first | (go_at_call 83; refine (impl_meddleOk p KK T I V _ (hTb.keep (by first | exact hWx.drew | exact hWx)) (by omega)).mono ?_; rintro e w1 ⟨rfl, hb1⟩; rw [e1]; replace hX := hX.drew.keep hb1; replace hWx : Bl w w1 := hWx.drew.call hb1; (try clear X_l X_f X_0 X_1 X_2 X_3); obtain ⟨X_l, X_f, X_0, X_1, X_2, X_3⟩ := hX.l4))
    go_wp2_with fail
    refine ko hK ?_ fun hHeld => ?_
    ·(try dsimp only); first | exact ⟨X_0, X_1, X_2, X_3⟩ | go_keep
    clear hK K
    refine tkO 3 17 ?_
    refine tkO 4 18 ?_
    refine tkz 5 19 ?_
    refine tkz 6 20 ?_
    refine tkz 7 21 ?_
    refine tkz 8 22 ?_
    refine tkz 9 23 ?_
    refine tkz 10 24 ?_
    refine tkz 11 25 ?_
    refine tkz 12 26 ?_
    refine tkz 13 27 ?_
    refine tkz 14 28 ?_
    refine tkz 15 29 ?_
    refine tkz 16 30 ?_
    refine tkz 17 31 ?_
    refine tkO 18 32 ?_
    refine wpAnyH_done (by kernel_rfl) ?_ _
    go_wp2_with fail
    go_ret
    exact ⟨ret_bool HF.out.symm, hWx⟩
   by_cases h0k : k = 0
   ·subst h0k
    have hst := Lib.hid (hto.out.step HX.out e1 (fun h => absurd h (by omega)))
    obtain rfl := hie.trans (show _ = Value.int .i64 0 from rfl)
    clear hie hto
    rw [show ad.add (0 * 4) = ad from add_zero_ ad] at q0 q1 q2 q3
    have g1 : (0 : Int) < nl := by omega
    have g2 : 0 < nl := by omega
    have g3 : ¬ nl = 0 := by omega
    have hX := Blk.new wr 55 #[.int .i64 KK, .int .i64 T, .int .i64 I, .int .i64 V] (g := wr.heap.size)
    have hWx := hW.alloc (.cells #[.int .i64 KK, .int .i64 T, .int .i64 I, .int .i64 V] 55)
    go_wp2_with fail
    generalize wr.alloc (.cells #[.int .i64 KK, .int .i64 T, .int .i64 I, .int .i64 V] 55) = wx at hX hWx ⊢
    generalize wr.heap.size = gX at hX ⊢
    obtain ⟨X_l, X_f, X_0, X_1, X_2, X_3⟩ := hX.l4
    refine wp_region_held_drew (S := (fun w' => w'.cell? ⟨gX, 0, none⟩ = some (.int .i64 KK) ∧ w'.cell? ⟨gX, 1, none⟩ = some (.int .i64 T) ∧ w'.cell? ⟨gX, 2, none⟩ = some (.int .i64 I) ∧ w'.cell? ⟨gX, 3, none⟩ = some (.int .i64 V))) (by kernel_rfl) ?_ (fun hHeld => ?_)
    ·(try dsimp only); first | exact ⟨X_0, X_1, X_2, X_3⟩ | go_keep
    refine tkO 0 14 ?_
    refine tkO 1 15 ?_
    refine rdy1 2 fun K hK => ?_
    go_simp
    (first | (go_at_call 83; refine (impl_meddleOk p KK T I V _ (hTb.keep (by first | exact hWx.drew | exact hWx)) (by omega)).mono ?_; rintro e w1 ⟨rfl, hb1⟩; rw [e1]; replace hX := hX.drew.keep hb1; replace hWx : Bl w w1 := hWx.drew.call hb1; (try clear X_l X_f X_0 X_1 X_2 X_3); obtain ⟨X_l, X_f, X_0, X_1, X_2, X_3⟩ := hX.l4))
    go_wp2_with fail
    refine ko hK ?_ fun hHeld => ?_
    ·(try dsimp only); first | exact ⟨X_0, X_1, X_2, X_3⟩ | go_keep
    clear hK K
    refine tkO 3 17 ?_
    refine tkO 4 18 ?_
    refine tkO 5 19 ?_
    refine tkO 6 20 ?_
    refine tkO 7 21 ?_
    refine tkz 8 22 ?_
    refine tkz 9 23 ?_
    refine tkz 10 24 ?_
    refine tkz 11 25 ?_
    refine tkz 12 26 ?_
    refine tkz 13 27 ?_
    refine tkz 14 28 ?_
    refine tkz 15 29 ?_
    refine tkz 16 30 ?_
    refine tkO 17 31 ?_
    refine tkO 18 32 ?_
    refine wpAnyH_done (by kernel_rfl) ?_ _
    go_wp2_with fail
    go_roundw
    case rel => exact ⟨1, by omega, rfl, hst, hWx⟩
    case measure => simp [intOf]; omega
   ·subst hie
    obtain ⟨kq, hkq⟩ : ∃ q, k - 1 = q := ⟨_, rfl⟩
    obtain ⟨ad2, K2, T2, I2, V2, ea, hx2, _, y1, _, _⟩ := (hlr.keep hW).at_ (k := kq) (by omega)
    injection ea with ea
    subst ea
    have zk : IntKind.i64.wrap ((k : Int) - 1) = (kq : Int) := by rw [IntWalk.i64_in _ (by omega)]; omega
    have gk : (0 : Int) < k := by omega
    have gk2 : 0 < k := by omega
    have gk3 : ¬ k = 0 := h0k
    have iq : (kq : Int) < nl := by omega
    have iq0 : (0 : Int) ≤ kq := by omega
    rw [← hkq] at hx2
    have HX2 := Lib.hid hx2
    clear hx2 h0k
    replace y1 := ((Bl.refl wr).alloc (.cells #[.int .i64 KK, .int .i64 T, .int .i64 I, .int .i64 V] 55)).cells y1
    by_cases hge : T ≤ T2
    ·have HF := Lib.hid (mdsB_not2 (p := p) HX.out gk2 HX2.out (show ¬ T2 < T by omega))
     clear hkq
     have hX := Blk.new wr 55 #[.int .i64 KK, .int .i64 T, .int .i64 I, .int .i64 V] (g := wr.heap.size)
     have hWx := hW.alloc (.cells #[.int .i64 KK, .int .i64 T, .int .i64 I, .int .i64 V] 55)
     go_wp2_with fail
     generalize wr.alloc (.cells #[.int .i64 KK, .int .i64 T, .int .i64 I, .int .i64 V] 55) = wx at hX hWx y1 ⊢
     generalize wr.heap.size = gX at hX ⊢
     obtain ⟨X_l, X_f, X_0, X_1, X_2, X_3⟩ := hX.l4
     refine wp_region_held_drew (S := (fun w' => w'.cell? ⟨gX, 0, none⟩ = some (.int .i64 KK) ∧ w'.cell? ⟨gX, 1, none⟩ = some (.int .i64 T) ∧ w'.cell? ⟨gX, 2, none⟩ = some (.int .i64 I) ∧ w'.cell? ⟨gX, 3, none⟩ = some (.int .i64 V) ∧ w'.cell? ⟨(ad.add (kq * 4)).block, (ad.add (kq * 4)).off + 1, none⟩ = some (.int .i64 T2))) (by kernel_rfl) ?_ (fun hHeld => ?_)
     ·(try dsimp only); first | exact ⟨X_0, X_1, X_2, X_3, y1⟩ | go_keep
     refine tkO 0 14 ?_
     refine tkO 1 15 ?_
     refine rdy1 2 fun K hK => ?_
     go_simp
     (first | (go_at_call 83; refine (impl_meddleOk p KK T I V _ (hTb.keep (by first | exact hWx.drew | exact hWx)) (by omega)).mono ?_; rintro e w1 ⟨rfl, hb1⟩; rw [e1]; replace hX := hX.drew.keep hb1; replace hWx : Bl w w1 := hWx.drew.call hb1; (try clear X_l X_f X_0 X_1 X_2 X_3); obtain ⟨X_l, X_f, X_0, X_1, X_2, X_3⟩ := hX.l4; replace y1 := hb1.cells y1))
     go_wp2_with fail
     refine ko hK ?_ fun hHeld => ?_
     ·(try dsimp only); first | exact ⟨X_0, X_1, X_2, X_3, y1⟩ | go_keep
     clear hK K
     refine tkO 3 17 ?_
     refine tkO 4 18 ?_
     refine tkO 5 19 ?_
     refine tkO 6 20 ?_
     refine tkO 7 21 ?_
     refine tkO 8 22 ?_
     refine tkO 9 23 ?_
     refine tkO 10 24 ?_
     refine tkO 11 25 ?_
     refine tkO 12 26 ?_
     refine tkO 13 27 ?_
     refine tkO 14 28 ?_
     refine tkO 15 29 ?_
     refine tkO 16 30 ?_
     refine tkO 17 31 ?_
     refine tkO 18 32 ?_
     refine wpAnyH_done (by kernel_rfl) ?_ _
     go_wp2_with fail
     go_ret
     exact ⟨ret_bool HF.out.symm, hWx⟩
    ·have hst := Lib.hid (hto.out.step HX.out e1 (fun _ o ho => by rw [HX2.out] at ho; injection ho with ho; subst ho; exact Int.not_le.1 hge))
     clear hkq hto
     have hX := Blk.new wr 55 #[.int .i64 KK, .int .i64 T, .int .i64 I, .int .i64 V] (g := wr.heap.size)
     have hWx := hW.alloc (.cells #[.int .i64 KK, .int .i64 T, .int .i64 I, .int .i64 V] 55)
     go_wp2_with fail
     generalize wr.alloc (.cells #[.int .i64 KK, .int .i64 T, .int .i64 I, .int .i64 V] 55) = wx at hX hWx y1 ⊢
     generalize wr.heap.size = gX at hX ⊢
     obtain ⟨X_l, X_f, X_0, X_1, X_2, X_3⟩ := hX.l4
     refine wp_region_held_drew (S := (fun w' => w'.cell? ⟨gX, 0, none⟩ = some (.int .i64 KK) ∧ w'.cell? ⟨gX, 1, none⟩ = some (.int .i64 T) ∧ w'.cell? ⟨gX, 2, none⟩ = some (.int .i64 I) ∧ w'.cell? ⟨gX, 3, none⟩ = some (.int .i64 V) ∧ w'.cell? ⟨(ad.add (kq * 4)).block, (ad.add (kq * 4)).off + 1, none⟩ = some (.int .i64 T2))) (by kernel_rfl) ?_ (fun hHeld => ?_)
     ·(try dsimp only); first | exact ⟨X_0, X_1, X_2, X_3, y1⟩ | go_keep
     refine tkO 0 14 ?_
     refine tkO 1 15 ?_
     refine rdy1 2 fun K hK => ?_
     go_simp
     (first | (go_at_call 83; refine (impl_meddleOk p KK T I V _ (hTb.keep (by first | exact hWx.drew | exact hWx)) (by omega)).mono ?_; rintro e w1 ⟨rfl, hb1⟩; rw [e1]; replace hX := hX.drew.keep hb1; replace hWx : Bl w w1 := hWx.drew.call hb1; (try clear X_l X_f X_0 X_1 X_2 X_3); obtain ⟨X_l, X_f, X_0, X_1, X_2, X_3⟩ := hX.l4; replace y1 := hb1.cells y1))
     go_wp2_with fail
     refine ko hK ?_ fun hHeld => ?_
     ·(try dsimp only); first | exact ⟨X_0, X_1, X_2, X_3, y1⟩ | go_keep
     clear hK K
     refine tkO 3 17 ?_
     refine tkO 4 18 ?_
     refine tkO 5 19 ?_
     refine tkO 6 20 ?_
     refine tkO 7 21 ?_
     refine tkO 8 22 ?_
     refine tkO 9 23 ?_
     refine tkO 10 24 ?_
     refine tkO 11 25 ?_
     refine tkO 12 26 ?_
     refine tkO 13 27 ?_
     refine tkO 14 28 ?_
     refine tkO 15 29 ?_
     refine tkO 16 30 ?_
     refine tkO 17 31 ?_
     refine tkO 18 32 ?_
     refine wpAnyH_done (by kernel_rfl) ?_ _
     go_wp2_with fail
     go_roundw
     case rel => exact ⟨k + 1, by omega, by go_num, hst, hWx⟩
     case measure => simp [intOf]; omega
  ·have HA := Lib.hid (show mdsB p l = true from hto.out.all (by have := hlr.2; omega))
   subst hie
   clear hto
   go_wp2_with fail
   go_ret
   exact ⟨ret_bool (by rw [HA.out]), hW⟩
set_option maxRecDepth 20000 in
set_option maxHeartbeats 4000000 in
theorem spec_nwGood (p : Int) (Al : Option Addr) (nl cl : Nat) (l : List Md) (w : World) (hTb : Tab w) (hlr : RdMd w Al nl cl l) (hp : 2 ≤ p ∧ p ≤ 251) (hpr : primeB p = true) :
  Calls Tryd.prog 53 #[.int .i64 p, .slice Al nl cl] w fun e w' => e = .returned (.bool (mdsB p l)) ∧ Bl w w' := by
 obtain ⟨hl1, hl2⟩ := hlr.le
 have z0 : IntKind.i64.wrap 0 = 0 := rfl
 have z1 : IntKind.i64.wrap 1 = 1 := rfl
 have h0 := Bl.refl w
 go_enter Tryd.func53, Tryd.ntmps53
 go_wp2
 go_loopw [9] (fun i wr => ∃ k : Nat, k ≤ nl ∧ i = .int .i64 k ∧ Hid (MdsTo p l k) ∧ Bl w wr) (fun i _ => nl - (intOf i).toNat)
 case atStart => exact ⟨0, by omega, rfl, Lib.hid (MdsTo.zero p l), h0⟩
 case round =>
  clear h0
  obtain ⟨k, hk, hie, hto, hW⟩ := hrel
  by_cases hlt : k < nl
  ·obtain ⟨ad, KK, T, I, V, rfl, hx, q0, q1, q2, q3⟩ := (hlr.keep hW).at_ hlt
   have HX := Lib.hid hx
   clear hx
   have ik : (k : Int) < nl := by omega
   rcases e1 : mdB p ⟨KK, T, I, V⟩
   ·have HF := Lib.hid (mdsB_not HX.out e1)
    subst hie
    have hX := Blk.new wr 55 #[.int .i64 KK, .int .i64 T, .int .i64 I, .int .i64 V] (g := wr.heap.size)
    have hWx := hW.alloc (.cells #[.int .i64 KK, .int .i64 T, .int .i64 I, .int .i64 V] 55)
    go_wp2_with fail
    generalize wr.alloc (.cells #[.int .i64 KK, .int .i64 T, .int .i64 I, .int .i64 V] 55) = wx at hX hWx ⊢
    generalize wr.heap.size = gX at hX ⊢
    obtain ⟨X_l, X_f, X_0, X_1, X_2, X_3⟩ := hX.l4
    refine wp_region_held_drew (S := (fun w' => w'.cell? ⟨gX, 0, none⟩ = some (.int .i64 KK) ∧ w'.cell? ⟨gX, 1, none⟩ = some (.int .i64 T) ∧ w'.cell? ⟨gX, 2, none⟩ = some (.int .i64 I) ∧ w'.cell? ⟨gX, 3, none⟩ = some (.int .i64 V))) (by kernel_rfl) ?_ (fun hHeld => ?_)
    ·(try dsimp only); first | exact ⟨X_0, X_1, X_2, X_3⟩ | go_keep
    refine tkO 0 14 ?_
    refine tkO 1 15 ?_
    refine rdy1 2 fun K hK => ?_
    go_simp
    (first | (go_at_call 74; refine (spec_nwOne p KK T I V _ (hTb.keep (by first | exact hWx.drew | exact hWx)) (by omega)).mono ?_; rintro e w1 ⟨rfl, hb1⟩; rw [e1]; replace hX := hX.drew.keep hb1; replace hWx : Bl w w1 := hWx.drew.call hb1; (try clear X_l X_f X_0 X_1 X_2 X_3); obtain ⟨X_l, X_f, X_0, X_1, X_2, X_3⟩ := hX.l4))
    go_wp2_with fail
    refine ko hK ?_ fun hHeld => ?_
    ·(try dsimp only); first | exact ⟨X_0, X_1, X_2, X_3⟩ | go_keep
    clear hK K
    refine tkO 3 17 ?_
    refine tkO 4 18 ?_
    refine tkz 5 19 ?_
    refine tkz 6 20 ?_
    refine tkz 7 21 ?_
    refine tkz 8 22 ?_
    refine tkz 9 23 ?_
    refine tkz 10 24 ?_
    refine tkz 11 25 ?_
    refine tkz 12 26 ?_
    refine tkz 13 27 ?_
    refine tkz 14 28 ?_
    refine tkz 15 29 ?_
    refine tkz 16 30 ?_
    refine tkz 17 31 ?_
    refine tkO 18 32 ?_
    refine wpAnyH_done (by kernel_rfl) ?_ _
    go_wp2_with fail
    go_ret
    exact ⟨ret_bool HF.out.symm, hWx⟩
   by_cases h0k : k = 0
   ·subst h0k
    have hst := Lib.hid (hto.out.step HX.out e1 (fun h => absurd h (by omega)))
    obtain rfl := hie.trans (show _ = Value.int .i64 0 from rfl)
    clear hie hto
    rw [show ad.add (0 * 4) = ad from add_zero_ ad] at q0 q1 q2 q3
    have g1 : (0 : Int) < nl := by omega
    have g2 : 0 < nl := by omega
    have g3 : ¬ nl = 0 := by omega
    have hX := Blk.new wr 55 #[.int .i64 KK, .int .i64 T, .int .i64 I, .int .i64 V] (g := wr.heap.size)
    have hWx := hW.alloc (.cells #[.int .i64 KK, .int .i64 T, .int .i64 I, .int .i64 V] 55)
    go_wp2_with fail
    generalize wr.alloc (.cells #[.int .i64 KK, .int .i64 T, .int .i64 I, .int .i64 V] 55) = wx at hX hWx ⊢
    generalize wr.heap.size = gX at hX ⊢
    obtain ⟨X_l, X_f, X_0, X_1, X_2, X_3⟩ := hX.l4
    refine wp_region_held_drew (S := (fun w' => w'.cell? ⟨gX, 0, none⟩ = some (.int .i64 KK) ∧ w'.cell? ⟨gX, 1, none⟩ = some (.int .i64 T) ∧ w'.cell? ⟨gX, 2, none⟩ = some (.int .i64 I) ∧ w'.cell? ⟨gX, 3, none⟩ = some (.int .i64 V))) (by kernel_rfl) ?_ (fun hHeld => ?_)
    ·(try dsimp only); first | exact ⟨X_0, X_1, X_2, X_3⟩ | go_keep
    refine tkO 0 14 ?_
    refine tkO 1 15 ?_
    refine rdy1 2 fun K hK => ?_
    go_simp
    (first | (go_at_call 74; refine (spec_nwOne p KK T I V _ (hTb.keep (by first | exact hWx.drew | exact hWx)) (by omega)).mono ?_; rintro e w1 ⟨rfl, hb1⟩; rw [e1]; replace hX := hX.drew.keep hb1; replace hWx : Bl w w1 := hWx.drew.call hb1; (try clear X_l X_f X_0 X_1 X_2 X_3); obtain ⟨X_l, X_f, X_0, X_1, X_2, X_3⟩ := hX.l4))
    go_wp2_with fail
    refine ko hK ?_ fun hHeld => ?_
    ·(try dsimp only); first | exact ⟨X_0, X_1, X_2, X_3⟩ | go_keep
    clear hK K
    refine tkO 3 17 ?_
    refine tkO 4 18 ?_
    refine tkO 5 19 ?_
    refine tkO 6 20 ?_
    refine tkO 7 21 ?_
    refine tkz 8 22 ?_
    refine tkz 9 23 ?_
    refine tkz 10 24 ?_
    refine tkz 11 25 ?_
    refine tkz 12 26 ?_
    refine tkz 13 27 ?_
    refine tkz 14 28 ?_
    refine tkz 15 29 ?_
    refine tkz 16 30 ?_
    refine tkO 17 31 ?_
    refine tkO 18 32 ?_
    refine wpAnyH_done (by kernel_rfl) ?_ _
    go_wp2_with fail
    go_roundw
    case rel => exact ⟨1, by omega, rfl, hst, hWx⟩
    case measure => simp [intOf]; omega
   ·subst hie
    obtain ⟨kq, hkq⟩ : ∃ q, k - 1 = q := ⟨_, rfl⟩
    obtain ⟨ad2, K2, T2, I2, V2, ea, hx2, _, y1, _, _⟩ := (hlr.keep hW).at_ (k := kq) (by omega)
    injection ea with ea
    subst ea
    have zk : IntKind.i64.wrap ((k : Int) - 1) = (kq : Int) := by rw [IntWalk.i64_in _ (by omega)]; omega
    have gk : (0 : Int) < k := by omega
    have gk2 : 0 < k := by omega
    have gk3 : ¬ k = 0 := h0k
    have iq : (kq : Int) < nl := by omega
    have iq0 : (0 : Int) ≤ kq := by omega
    rw [← hkq] at hx2
    have HX2 := Lib.hid hx2
    clear hx2 h0k
    replace y1 := ((Bl.refl wr).alloc (.cells #[.int .i64 KK, .int .i64 T, .int .i64 I, .int .i64 V] 55)).cells y1
    by_cases hge : T ≤ T2
    ·have HF := Lib.hid (mdsB_not2 (p := p) HX.out gk2 HX2.out (show ¬ T2 < T by omega))
     clear hkq
     have hX := Blk.new wr 55 #[.int .i64 KK, .int .i64 T, .int .i64 I, .int .i64 V] (g := wr.heap.size)
     have hWx := hW.alloc (.cells #[.int .i64 KK, .int .i64 T, .int .i64 I, .int .i64 V] 55)
     go_wp2_with fail
     generalize wr.alloc (.cells #[.int .i64 KK, .int .i64 T, .int .i64 I, .int .i64 V] 55) = wx at hX hWx y1 ⊢
     generalize wr.heap.size = gX at hX ⊢
     obtain ⟨X_l, X_f, X_0, X_1, X_2, X_3⟩ := hX.l4
     refine wp_region_held_drew (S := (fun w' => w'.cell? ⟨gX, 0, none⟩ = some (.int .i64 KK) ∧ w'.cell? ⟨gX, 1, none⟩ = some (.int .i64 T) ∧ w'.cell? ⟨gX, 2, none⟩ = some (.int .i64 I) ∧ w'.cell? ⟨gX, 3, none⟩ = some (.int .i64 V) ∧ w'.cell? ⟨(ad.add (kq * 4)).block, (ad.add (kq * 4)).off + 1, none⟩ = some (.int .i64 T2))) (by kernel_rfl) ?_ (fun hHeld => ?_)
     ·(try dsimp only); first | exact ⟨X_0, X_1, X_2, X_3, y1⟩ | go_keep
     refine tkO 0 14 ?_
     refine tkO 1 15 ?_
     refine rdy1 2 fun K hK => ?_
     go_simp
     (first | (go_at_call 74; refine (spec_nwOne p KK T I V _ (hTb.keep (by first | exact hWx.drew | exact hWx)) (by omega)).mono ?_; rintro e w1 ⟨rfl, hb1⟩; rw [e1]; replace hX := hX.drew.keep hb1; replace hWx : Bl w w1 := hWx.drew.call hb1; (try clear X_l X_f X_0 X_1 X_2 X_3); obtain ⟨X_l, X_f, X_0, X_1, X_2, X_3⟩ := hX.l4; replace y1 := hb1.cells y1))
     go_wp2_with fail
     refine ko hK ?_ fun hHeld => ?_
     ·(try dsimp only); first | exact ⟨X_0, X_1, X_2, X_3, y1⟩ | go_keep
     clear hK K
     refine tkO 3 17 ?_
     refine tkO 4 18 ?_
     refine tkO 5 19 ?_
     refine tkO 6 20 ?_
     refine tkO 7 21 ?_
     refine tkO 8 22 ?_
     refine tkO 9 23 ?_
     refine tkO 10 24 ?_
     refine tkO 11 25 ?_
     refine tkO 12 26 ?_
     refine tkO 13 27 ?_
     refine tkO 14 28 ?_
     refine tkO 15 29 ?_
     refine tkO 16 30 ?_
     refine tkO 17 31 ?_
     refine tkO 18 32 ?_
     refine wpAnyH_done (by kernel_rfl) ?_ _
     go_wp2_with fail
     go_ret
     exact ⟨ret_bool HF.out.symm, hWx⟩
    ·have hst := Lib.hid (hto.out.step HX.out e1 (fun _ o ho => by rw [HX2.out] at ho; injection ho with ho; subst ho; exact Int.not_le.1 hge))
     clear hkq hto
     have hX := Blk.new wr 55 #[.int .i64 KK, .int .i64 T, .int .i64 I, .int .i64 V] (g := wr.heap.size)
     have hWx := hW.alloc (.cells #[.int .i64 KK, .int .i64 T, .int .i64 I, .int .i64 V] 55)
     go_wp2_with fail
     generalize wr.alloc (.cells #[.int .i64 KK, .int .i64 T, .int .i64 I, .int .i64 V] 55) = wx at hX hWx y1 ⊢
     generalize wr.heap.size = gX at hX ⊢
     obtain ⟨X_l, X_f, X_0, X_1, X_2, X_3⟩ := hX.l4
     refine wp_region_held_drew (S := (fun w' => w'.cell? ⟨gX, 0, none⟩ = some (.int .i64 KK) ∧ w'.cell? ⟨gX, 1, none⟩ = some (.int .i64 T) ∧ w'.cell? ⟨gX, 2, none⟩ = some (.int .i64 I) ∧ w'.cell? ⟨gX, 3, none⟩ = some (.int .i64 V) ∧ w'.cell? ⟨(ad.add (kq * 4)).block, (ad.add (kq * 4)).off + 1, none⟩ = some (.int .i64 T2))) (by kernel_rfl) ?_ (fun hHeld => ?_)
     ·(try dsimp only); first | exact ⟨X_0, X_1, X_2, X_3, y1⟩ | go_keep
     refine tkO 0 14 ?_
     refine tkO 1 15 ?_
     refine rdy1 2 fun K hK => ?_
     go_simp
     (first | (go_at_call 74; refine (spec_nwOne p KK T I V _ (hTb.keep (by first | exact hWx.drew | exact hWx)) (by omega)).mono ?_; rintro e w1 ⟨rfl, hb1⟩; rw [e1]; replace hX := hX.drew.keep hb1; replace hWx : Bl w w1 := hWx.drew.call hb1; (try clear X_l X_f X_0 X_1 X_2 X_3); obtain ⟨X_l, X_f, X_0, X_1, X_2, X_3⟩ := hX.l4; replace y1 := hb1.cells y1))
     go_wp2_with fail
     refine ko hK ?_ fun hHeld => ?_
     ·(try dsimp only); first | exact ⟨X_0, X_1, X_2, X_3, y1⟩ | go_keep
     clear hK K
     refine tkO 3 17 ?_
     refine tkO 4 18 ?_
     refine tkO 5 19 ?_
     refine tkO 6 20 ?_
     refine tkO 7 21 ?_
     refine tkO 8 22 ?_
     refine tkO 9 23 ?_
     refine tkO 10 24 ?_
     refine tkO 11 25 ?_
     refine tkO 12 26 ?_
     refine tkO 13 27 ?_
     refine tkO 14 28 ?_
     refine tkO 15 29 ?_
     refine tkO 16 30 ?_
     refine tkO 17 31 ?_
     refine tkO 18 32 ?_
     refine wpAnyH_done (by kernel_rfl) ?_ _
     go_wp2_with fail
     go_roundw
     case rel => exact ⟨k + 1, by omega, by go_num, hst, hWx⟩
     case measure => simp [intOf]; omega
  ·have HA := Lib.hid (show mdsB p l = true from hto.out.all (by have := hlr.2; omega))
   subst hie
   clear hto
   go_wp2_with (go_at_call 75; refine (spec_fpGood _ _).mono ?_; rintro e w1 ⟨rfl, rfl⟩; rw [hpr])
   go_ret
   exact ⟨ret_bool (by rw [HA.out]), hW⟩
end Go.Proofs.YtcjpalhclgkjiaaDoor
