/- Contracts: a valid meddle in the reference.
   Conditions: the table of lengths holds what its text lays. -/
import Derived.Test.YtcjpalhclgkjiaaDoorPgm
namespace Go.Proofs.YtcjpalhclgkjiaaDoor
open Go.RowKit
set_option linter.unusedVariables false
set_option maxHeartbeats 4000000 in
theorem spec_nwOne (p K A I V : Int) (w : World) (hT : Tab w) (hp : -1000 ≤ p ∧ p ≤ 1000) :
  Calls Tryd.prog 74 #[.int .i64 p, .agg #[.int .i64 K, .int .i64 A, .int .i64 I, .int .i64 V]] w fun e w' => e = .returned (.bool (mdB p ⟨K, A, I, V⟩)) ∧ Bl w w' := by
 have hW : Bl w (w.alloc (.cells #[.int .i64 K, .int .i64 A, .int .i64 I, .int .i64 V] 55)) := (Bl.refl w).alloc _
 have t0 := hW.cells hT.c0
 have t1 := hW.cells hT.c1
 have t2 := hW.cells hT.c2
 rcases e1 : inR A 0 5
 ·go_enter Tryd.func74, Tryd.ntmps74
  go_wp2_with (first | (go_at_call 100; refine (spec_l1In _ _ _ _).mono ?_; rintro e w2 ⟨rfl, rfl⟩; rw [e1]))
  go_ret
  exact ⟨ret_bool (by unfold mdB; rw [e1]; rfl), Bl.a1⟩
 have hA := inR_iff.1 e1
 by_cases hk : K = 1
 ·subst hk
  obtain rfl | rfl | rfl | rfl | rfl | rfl : A = 0 ∨ A = 1 ∨ A = 2 ∨ A = 3 ∨ A = 4 ∨ A = 5 := by omega
  ·have hR := Lib.hid (show mdB p ⟨1, 0, I, V⟩ = (inR I 0 0 && inR V 0 (p - 1)) by rfl)
   have hX := Blk.new w 55 #[.int .i64 1, .int .i64 0, .int .i64 I, .int .i64 V]
   obtain ⟨X_l, -, X_0, X_1, X_2, X_3⟩ := hX.l4
   have z0 : IntKind.i64.wrap 0 = 0 := rfl
   have y1 : IntKind.i64.wrap 1 = 1 := rfl
   have y2 : IntKind.i64.wrap 2 = 2 := rfl
   have y3 : IntKind.i64.wrap 3 = 3 := rfl
   have zb : IntKind.i64.wrap ((bodyN 0 : Int) - 1) = 0 := rfl
   have z1 : IntKind.i64.wrap (p - 1) = p - 1 := IntWalk.i64_in _ (by omega)
   rcases g1 : inR I 0 0
   ·go_enter Tryd.func74, Tryd.ntmps74
    go_wp2_with (first | (go_at_call 100; refine (spec_l1In _ _ _ _).mono ?_; rintro e w2 ⟨rfl, rfl⟩; rw [e1]))
    refine wp_region_held_drew (S := (fun w' => w'.cell? ⟨w.heap.size, 0, none⟩ = some (.int .i64 1) ∧ w'.cell? ⟨w.heap.size, 1, none⟩ = some (.int .i64 0) ∧ w'.cell? ⟨w.heap.size, 2, none⟩ = some (.int .i64 I) ∧ w'.cell? ⟨w.heap.size, 3, none⟩ = some (.int .i64 V) ∧ w'.cell? ⟨0, 0, none⟩ = some (.int .i64 1))) (by kernel_rfl) ?_ (fun hHeld => ?_)
    ·(try dsimp only); first | exact ⟨X_0, X_1, X_2, X_3, (by first | exact t0 | exact hW.cells hT.c0)⟩ | go_keep
    refine tkO 0 12 ?_
    refine tkO 1 13 ?_
    refine tkO 2 14 ?_
    refine tkO 3 15 ?_
    refine tkO 4 16 ?_
    refine rdy1 5 fun K hK => ?_
    go_simp
    (first | (go_at_call 79; refine (spec_ptLength 0 _ (by omega)).mono ?_; rintro e w3 ⟨rfl, hb3⟩; replace hW : Bl w w3 := Bl.a1; replace hX := hX.kp hb3; clear X_l X_0 X_1 X_2 X_3; obtain ⟨X_l, -, X_0, X_1, X_2, X_3⟩ := hX.l4) | (go_at_call 100; refine (spec_l1In _ _ _ _).mono ?_; rintro e w2 ⟨rfl, rfl⟩; rw [g1]))
    go_wp2_with fail
    refine ko hK ?_ fun hHeld => ?_
    ·(try dsimp only); first | exact ⟨X_0, X_1, X_2, X_3, (by first | exact t0 | exact hW.cells hT.c0)⟩ | go_keep
    clear hK K
    refine tkO 6 18 ?_
    refine rdy1 7 fun K hK => ?_
    go_simp
    (first | (go_at_call 79; refine (spec_ptLength 0 _ (by omega)).mono ?_; rintro e w3 ⟨rfl, hb3⟩; replace hW : Bl w w3 := Bl.a1; replace hX := hX.kp hb3; clear X_l X_0 X_1 X_2 X_3; obtain ⟨X_l, -, X_0, X_1, X_2, X_3⟩ := hX.l4) | (go_at_call 100; refine (spec_l1In _ _ _ _).mono ?_; rintro e w2 ⟨rfl, rfl⟩; rw [g1]))
    go_wp2_with fail
    refine ko hK ?_ fun hHeld => ?_
    ·(try dsimp only); first | exact ⟨X_0, X_1, X_2, X_3, (by first | exact t0 | exact hW.cells hT.c0)⟩ | go_keep
    clear hK K
    refine tkO 8 20 ?_
    refine tkz 9 21 ?_
    refine tkz 10 22 ?_
    refine tkz 11 23 ?_
    refine tkz 12 24 ?_
    refine tkz 13 25 ?_
    refine tkO 14 26 ?_
    refine tkO 15 4 ?_
    refine wpAnyH_done (by kernel_rfl) ?_ _
    go_wp2
    go_ret
    exact ⟨ret_bool (by rw [hR.out, g1]; rfl), Bl.a1⟩
   ·rcases g2 : inR V 0 (p - 1)
    ·go_enter Tryd.func74, Tryd.ntmps74
     go_wp2_with (first | (go_at_call 100; refine (spec_l1In _ _ _ _).mono ?_; rintro e w2 ⟨rfl, rfl⟩; rw [e1]))
     refine wp_region_held_drew (S := (fun w' => w'.cell? ⟨w.heap.size, 0, none⟩ = some (.int .i64 1) ∧ w'.cell? ⟨w.heap.size, 1, none⟩ = some (.int .i64 0) ∧ w'.cell? ⟨w.heap.size, 2, none⟩ = some (.int .i64 I) ∧ w'.cell? ⟨w.heap.size, 3, none⟩ = some (.int .i64 V) ∧ w'.cell? ⟨0, 0, none⟩ = some (.int .i64 1))) (by kernel_rfl) ?_ (fun hHeld => ?_)
     ·(try dsimp only); first | exact ⟨X_0, X_1, X_2, X_3, (by first | exact t0 | exact hW.cells hT.c0)⟩ | go_keep
     refine tkO 0 12 ?_
     refine tkO 1 13 ?_
     refine tkO 2 14 ?_
     refine tkO 3 15 ?_
     refine tkO 4 16 ?_
     refine rdy1 5 fun K hK => ?_
     go_simp
     (first | (go_at_call 79; refine (spec_ptLength 0 _ (by omega)).mono ?_; rintro e w3 ⟨rfl, hb3⟩; replace hW : Bl w w3 := Bl.a1; replace hX := hX.kp hb3; clear X_l X_0 X_1 X_2 X_3; obtain ⟨X_l, -, X_0, X_1, X_2, X_3⟩ := hX.l4) | (go_at_call 100; refine (spec_l1In _ _ _ _).mono ?_; rintro e w2 ⟨rfl, rfl⟩; rw [g1]) | (go_at_call 100; refine (spec_l1In _ _ _ _).mono ?_; rintro e w2 ⟨rfl, rfl⟩; rw [g2]))
     go_wp2_with fail
     refine ko hK ?_ fun hHeld => ?_
     ·(try dsimp only); first | exact ⟨X_0, X_1, X_2, X_3, (by first | exact t0 | exact hW.cells hT.c0)⟩ | go_keep
     clear hK K
     refine tkO 6 18 ?_
     refine rdy1 7 fun K hK => ?_
     go_simp
     (first | (go_at_call 79; refine (spec_ptLength 0 _ (by omega)).mono ?_; rintro e w3 ⟨rfl, hb3⟩; replace hW : Bl w w3 := Bl.a1; replace hX := hX.kp hb3; clear X_l X_0 X_1 X_2 X_3; obtain ⟨X_l, -, X_0, X_1, X_2, X_3⟩ := hX.l4) | (go_at_call 100; refine (spec_l1In _ _ _ _).mono ?_; rintro e w2 ⟨rfl, rfl⟩; rw [g1]) | (go_at_call 100; refine (spec_l1In _ _ _ _).mono ?_; rintro e w2 ⟨rfl, rfl⟩; rw [g2]))
     go_wp2_with fail
     refine ko hK ?_ fun hHeld => ?_
     ·(try dsimp only); first | exact ⟨X_0, X_1, X_2, X_3, (by first | exact t0 | exact hW.cells hT.c0)⟩ | go_keep
     clear hK K
     refine tkO 8 20 ?_
     refine tkO 9 21 ?_
     refine tkO 10 22 ?_
     refine tkO 11 23 ?_
     refine tkO 12 24 ?_
     refine rdy1 13 fun K hK => ?_
     go_simp
     (first | (go_at_call 79; refine (spec_ptLength 0 _ (by omega)).mono ?_; rintro e w3 ⟨rfl, hb3⟩; replace hW : Bl w w3 := Bl.a1; replace hX := hX.kp hb3; clear X_l X_0 X_1 X_2 X_3; obtain ⟨X_l, -, X_0, X_1, X_2, X_3⟩ := hX.l4) | (go_at_call 100; refine (spec_l1In _ _ _ _).mono ?_; rintro e w2 ⟨rfl, rfl⟩; rw [g1]) | (go_at_call 100; refine (spec_l1In _ _ _ _).mono ?_; rintro e w2 ⟨rfl, rfl⟩; rw [g2]))
     go_wp2_with fail
     refine ko hK ?_ fun hHeld => ?_
     ·(try dsimp only); first | exact ⟨X_0, X_1, X_2, X_3, (by first | exact t0 | exact hW.cells hT.c0)⟩ | go_keep
     clear hK K
     refine tkO 14 26 ?_
     refine tkO 15 4 ?_
     refine wpAnyH_done (by kernel_rfl) ?_ _
     go_wp2
     go_ret
     exact ⟨ret_bool (by rw [hR.out, g1, g2]; rfl), Bl.a1⟩
    ·go_enter Tryd.func74, Tryd.ntmps74
     go_wp2_with (first | (go_at_call 100; refine (spec_l1In _ _ _ _).mono ?_; rintro e w2 ⟨rfl, rfl⟩; rw [e1]))
     refine wp_region_held_drew (S := (fun w' => w'.cell? ⟨w.heap.size, 0, none⟩ = some (.int .i64 1) ∧ w'.cell? ⟨w.heap.size, 1, none⟩ = some (.int .i64 0) ∧ w'.cell? ⟨w.heap.size, 2, none⟩ = some (.int .i64 I) ∧ w'.cell? ⟨w.heap.size, 3, none⟩ = some (.int .i64 V) ∧ w'.cell? ⟨0, 0, none⟩ = some (.int .i64 1))) (by kernel_rfl) ?_ (fun hHeld => ?_)
     ·(try dsimp only); first | exact ⟨X_0, X_1, X_2, X_3, (by first | exact t0 | exact hW.cells hT.c0)⟩ | go_keep
     refine tkO 0 12 ?_
     refine tkO 1 13 ?_
     refine tkO 2 14 ?_
     refine tkO 3 15 ?_
     refine tkO 4 16 ?_
     refine rdy1 5 fun K hK => ?_
     go_simp
     (first | (go_at_call 79; refine (spec_ptLength 0 _ (by omega)).mono ?_; rintro e w3 ⟨rfl, hb3⟩; replace hW : Bl w w3 := Bl.a1; replace hX := hX.kp hb3; clear X_l X_0 X_1 X_2 X_3; obtain ⟨X_l, -, X_0, X_1, X_2, X_3⟩ := hX.l4) | (go_at_call 100; refine (spec_l1In _ _ _ _).mono ?_; rintro e w2 ⟨rfl, rfl⟩; rw [g1]) | (go_at_call 100; refine (spec_l1In _ _ _ _).mono ?_; rintro e w2 ⟨rfl, rfl⟩; rw [g2]))
     go_wp2_with fail
     refine ko hK ?_ fun hHeld => ?_
     ·(try dsimp only); first | exact ⟨X_0, X_1, X_2, X_3, (by first | exact t0 | exact hW.cells hT.c0)⟩ | go_keep
     clear hK K
     refine tkO 6 18 ?_
     refine rdy1 7 fun K hK => ?_
     go_simp
     (first | (go_at_call 79; refine (spec_ptLength 0 _ (by omega)).mono ?_; rintro e w3 ⟨rfl, hb3⟩; replace hW : Bl w w3 := Bl.a1; replace hX := hX.kp hb3; clear X_l X_0 X_1 X_2 X_3; obtain ⟨X_l, -, X_0, X_1, X_2, X_3⟩ := hX.l4) | (go_at_call 100; refine (spec_l1In _ _ _ _).mono ?_; rintro e w2 ⟨rfl, rfl⟩; rw [g1]) | (go_at_call 100; refine (spec_l1In _ _ _ _).mono ?_; rintro e w2 ⟨rfl, rfl⟩; rw [g2]))
     go_wp2_with fail
     refine ko hK ?_ fun hHeld => ?_
     ·(try dsimp only); first | exact ⟨X_0, X_1, X_2, X_3, (by first | exact t0 | exact hW.cells hT.c0)⟩ | go_keep
     clear hK K
     refine tkO 8 20 ?_
     refine tkO 9 21 ?_
     refine tkO 10 22 ?_
     refine tkO 11 23 ?_
     refine tkO 12 24 ?_
     refine rdy1 13 fun K hK => ?_
     go_simp
     (first | (go_at_call 79; refine (spec_ptLength 0 _ (by omega)).mono ?_; rintro e w3 ⟨rfl, hb3⟩; replace hW : Bl w w3 := Bl.a1; replace hX := hX.kp hb3; clear X_l X_0 X_1 X_2 X_3; obtain ⟨X_l, -, X_0, X_1, X_2, X_3⟩ := hX.l4) | (go_at_call 100; refine (spec_l1In _ _ _ _).mono ?_; rintro e w2 ⟨rfl, rfl⟩; rw [g1]) | (go_at_call 100; refine (spec_l1In _ _ _ _).mono ?_; rintro e w2 ⟨rfl, rfl⟩; rw [g2]))
     go_wp2_with fail
     refine ko hK ?_ fun hHeld => ?_
     ·(try dsimp only); first | exact ⟨X_0, X_1, X_2, X_3, (by first | exact t0 | exact hW.cells hT.c0)⟩ | go_keep
     clear hK K
     refine tkO 14 26 ?_
     refine tkO 15 4 ?_
     refine wpAnyH_done (by kernel_rfl) ?_ _
     go_wp2
     go_ret
     exact ⟨ret_bool (by rw [hR.out, g1, g2]; rfl), Bl.a1⟩
  ·have hR := Lib.hid (show mdB p ⟨1, 1, I, V⟩ = (inR I 0 0 && inR V 0 (p - 1)) by rfl)
   have hX := Blk.new w 55 #[.int .i64 1, .int .i64 1, .int .i64 I, .int .i64 V]
   obtain ⟨X_l, -, X_0, X_1, X_2, X_3⟩ := hX.l4
   have z0 : IntKind.i64.wrap 0 = 0 := rfl
   have y1 : IntKind.i64.wrap 1 = 1 := rfl
   have y2 : IntKind.i64.wrap 2 = 2 := rfl
   have y3 : IntKind.i64.wrap 3 = 3 := rfl
   have zb : IntKind.i64.wrap ((bodyN 0 : Int) - 1) = 0 := rfl
   have z1 : IntKind.i64.wrap (p - 1) = p - 1 := IntWalk.i64_in _ (by omega)
   rcases g1 : inR I 0 0
   ·go_enter Tryd.func74, Tryd.ntmps74
    go_wp2_with (first | (go_at_call 100; refine (spec_l1In _ _ _ _).mono ?_; rintro e w2 ⟨rfl, rfl⟩; rw [e1]))
    refine wp_region_held_drew (S := (fun w' => w'.cell? ⟨w.heap.size, 0, none⟩ = some (.int .i64 1) ∧ w'.cell? ⟨w.heap.size, 1, none⟩ = some (.int .i64 1) ∧ w'.cell? ⟨w.heap.size, 2, none⟩ = some (.int .i64 I) ∧ w'.cell? ⟨w.heap.size, 3, none⟩ = some (.int .i64 V) ∧ w'.cell? ⟨0, 0, none⟩ = some (.int .i64 1))) (by kernel_rfl) ?_ (fun hHeld => ?_)
    ·(try dsimp only); first | exact ⟨X_0, X_1, X_2, X_3, (by first | exact t0 | exact hW.cells hT.c0)⟩ | go_keep
    refine tkO 0 12 ?_
    refine tkO 1 13 ?_
    refine tkO 2 14 ?_
    refine tkO 3 15 ?_
    refine tkO 4 16 ?_
    refine rdy1 5 fun K hK => ?_
    go_simp
    (first | (go_at_call 79; refine (spec_ptLength 0 _ (by omega)).mono ?_; rintro e w3 ⟨rfl, hb3⟩; replace hW : Bl w w3 := Bl.a1; replace hX := hX.kp hb3; clear X_l X_0 X_1 X_2 X_3; obtain ⟨X_l, -, X_0, X_1, X_2, X_3⟩ := hX.l4) | (go_at_call 100; refine (spec_l1In _ _ _ _).mono ?_; rintro e w2 ⟨rfl, rfl⟩; rw [g1]))
    go_wp2_with fail
    refine ko hK ?_ fun hHeld => ?_
    ·(try dsimp only); first | exact ⟨X_0, X_1, X_2, X_3, (by first | exact t0 | exact hW.cells hT.c0)⟩ | go_keep
    clear hK K
    refine tkO 6 18 ?_
    refine rdy1 7 fun K hK => ?_
    go_simp
    (first | (go_at_call 79; refine (spec_ptLength 0 _ (by omega)).mono ?_; rintro e w3 ⟨rfl, hb3⟩; replace hW : Bl w w3 := Bl.a1; replace hX := hX.kp hb3; clear X_l X_0 X_1 X_2 X_3; obtain ⟨X_l, -, X_0, X_1, X_2, X_3⟩ := hX.l4) | (go_at_call 100; refine (spec_l1In _ _ _ _).mono ?_; rintro e w2 ⟨rfl, rfl⟩; rw [g1]))
    go_wp2_with fail
    refine ko hK ?_ fun hHeld => ?_
    ·(try dsimp only); first | exact ⟨X_0, X_1, X_2, X_3, (by first | exact t0 | exact hW.cells hT.c0)⟩ | go_keep
    clear hK K
    refine tkO 8 20 ?_
    refine tkz 9 21 ?_
    refine tkz 10 22 ?_
    refine tkz 11 23 ?_
    refine tkz 12 24 ?_
    refine tkz 13 25 ?_
    refine tkO 14 26 ?_
    refine tkO 15 4 ?_
    refine wpAnyH_done (by kernel_rfl) ?_ _
    go_wp2
    go_ret
    exact ⟨ret_bool (by rw [hR.out, g1]; rfl), Bl.a1⟩
   ·rcases g2 : inR V 0 (p - 1)
    ·go_enter Tryd.func74, Tryd.ntmps74
     go_wp2_with (first | (go_at_call 100; refine (spec_l1In _ _ _ _).mono ?_; rintro e w2 ⟨rfl, rfl⟩; rw [e1]))
     refine wp_region_held_drew (S := (fun w' => w'.cell? ⟨w.heap.size, 0, none⟩ = some (.int .i64 1) ∧ w'.cell? ⟨w.heap.size, 1, none⟩ = some (.int .i64 1) ∧ w'.cell? ⟨w.heap.size, 2, none⟩ = some (.int .i64 I) ∧ w'.cell? ⟨w.heap.size, 3, none⟩ = some (.int .i64 V) ∧ w'.cell? ⟨0, 0, none⟩ = some (.int .i64 1))) (by kernel_rfl) ?_ (fun hHeld => ?_)
     ·(try dsimp only); first | exact ⟨X_0, X_1, X_2, X_3, (by first | exact t0 | exact hW.cells hT.c0)⟩ | go_keep
     refine tkO 0 12 ?_
     refine tkO 1 13 ?_
     refine tkO 2 14 ?_
     refine tkO 3 15 ?_
     refine tkO 4 16 ?_
     refine rdy1 5 fun K hK => ?_
     go_simp
     (first | (go_at_call 79; refine (spec_ptLength 0 _ (by omega)).mono ?_; rintro e w3 ⟨rfl, hb3⟩; replace hW : Bl w w3 := Bl.a1; replace hX := hX.kp hb3; clear X_l X_0 X_1 X_2 X_3; obtain ⟨X_l, -, X_0, X_1, X_2, X_3⟩ := hX.l4) | (go_at_call 100; refine (spec_l1In _ _ _ _).mono ?_; rintro e w2 ⟨rfl, rfl⟩; rw [g1]) | (go_at_call 100; refine (spec_l1In _ _ _ _).mono ?_; rintro e w2 ⟨rfl, rfl⟩; rw [g2]))
     go_wp2_with fail
     refine ko hK ?_ fun hHeld => ?_
     ·(try dsimp only); first | exact ⟨X_0, X_1, X_2, X_3, (by first | exact t0 | exact hW.cells hT.c0)⟩ | go_keep
     clear hK K
     refine tkO 6 18 ?_
     refine rdy1 7 fun K hK => ?_
     go_simp
     (first | (go_at_call 79; refine (spec_ptLength 0 _ (by omega)).mono ?_; rintro e w3 ⟨rfl, hb3⟩; replace hW : Bl w w3 := Bl.a1; replace hX := hX.kp hb3; clear X_l X_0 X_1 X_2 X_3; obtain ⟨X_l, -, X_0, X_1, X_2, X_3⟩ := hX.l4) | (go_at_call 100; refine (spec_l1In _ _ _ _).mono ?_; rintro e w2 ⟨rfl, rfl⟩; rw [g1]) | (go_at_call 100; refine (spec_l1In _ _ _ _).mono ?_; rintro e w2 ⟨rfl, rfl⟩; rw [g2]))
     go_wp2_with fail
     refine ko hK ?_ fun hHeld => ?_
     ·(try dsimp only); first | exact ⟨X_0, X_1, X_2, X_3, (by first | exact t0 | exact hW.cells hT.c0)⟩ | go_keep
     clear hK K
     refine tkO 8 20 ?_
     refine tkO 9 21 ?_
     refine tkO 10 22 ?_
     refine tkO 11 23 ?_
     refine tkO 12 24 ?_
     refine rdy1 13 fun K hK => ?_
     go_simp
     (first | (go_at_call 79; refine (spec_ptLength 0 _ (by omega)).mono ?_; rintro e w3 ⟨rfl, hb3⟩; replace hW : Bl w w3 := Bl.a1; replace hX := hX.kp hb3; clear X_l X_0 X_1 X_2 X_3; obtain ⟨X_l, -, X_0, X_1, X_2, X_3⟩ := hX.l4) | (go_at_call 100; refine (spec_l1In _ _ _ _).mono ?_; rintro e w2 ⟨rfl, rfl⟩; rw [g1]) | (go_at_call 100; refine (spec_l1In _ _ _ _).mono ?_; rintro e w2 ⟨rfl, rfl⟩; rw [g2]))
     go_wp2_with fail
     refine ko hK ?_ fun hHeld => ?_
     ·(try dsimp only); first | exact ⟨X_0, X_1, X_2, X_3, (by first | exact t0 | exact hW.cells hT.c0)⟩ | go_keep
     clear hK K
     refine tkO 14 26 ?_
     refine tkO 15 4 ?_
     refine wpAnyH_done (by kernel_rfl) ?_ _
     go_wp2
     go_ret
     exact ⟨ret_bool (by rw [hR.out, g1, g2]; rfl), Bl.a1⟩
    ·go_enter Tryd.func74, Tryd.ntmps74
     go_wp2_with (first | (go_at_call 100; refine (spec_l1In _ _ _ _).mono ?_; rintro e w2 ⟨rfl, rfl⟩; rw [e1]))
     refine wp_region_held_drew (S := (fun w' => w'.cell? ⟨w.heap.size, 0, none⟩ = some (.int .i64 1) ∧ w'.cell? ⟨w.heap.size, 1, none⟩ = some (.int .i64 1) ∧ w'.cell? ⟨w.heap.size, 2, none⟩ = some (.int .i64 I) ∧ w'.cell? ⟨w.heap.size, 3, none⟩ = some (.int .i64 V) ∧ w'.cell? ⟨0, 0, none⟩ = some (.int .i64 1))) (by kernel_rfl) ?_ (fun hHeld => ?_)
     ·(try dsimp only); first | exact ⟨X_0, X_1, X_2, X_3, (by first | exact t0 | exact hW.cells hT.c0)⟩ | go_keep
     refine tkO 0 12 ?_
     refine tkO 1 13 ?_
     refine tkO 2 14 ?_
     refine tkO 3 15 ?_
     refine tkO 4 16 ?_
     refine rdy1 5 fun K hK => ?_
     go_simp
     (first | (go_at_call 79; refine (spec_ptLength 0 _ (by omega)).mono ?_; rintro e w3 ⟨rfl, hb3⟩; replace hW : Bl w w3 := Bl.a1; replace hX := hX.kp hb3; clear X_l X_0 X_1 X_2 X_3; obtain ⟨X_l, -, X_0, X_1, X_2, X_3⟩ := hX.l4) | (go_at_call 100; refine (spec_l1In _ _ _ _).mono ?_; rintro e w2 ⟨rfl, rfl⟩; rw [g1]) | (go_at_call 100; refine (spec_l1In _ _ _ _).mono ?_; rintro e w2 ⟨rfl, rfl⟩; rw [g2]))
     go_wp2_with fail
     refine ko hK ?_ fun hHeld => ?_
     ·(try dsimp only); first | exact ⟨X_0, X_1, X_2, X_3, (by first | exact t0 | exact hW.cells hT.c0)⟩ | go_keep
     clear hK K
     refine tkO 6 18 ?_
     refine rdy1 7 fun K hK => ?_
     go_simp
     (first | (go_at_call 79; refine (spec_ptLength 0 _ (by omega)).mono ?_; rintro e w3 ⟨rfl, hb3⟩; replace hW : Bl w w3 := Bl.a1; replace hX := hX.kp hb3; clear X_l X_0 X_1 X_2 X_3; obtain ⟨X_l, -, X_0, X_1, X_2, X_3⟩ := hX.l4) | (go_at_call 100; refine (spec_l1In _ _ _ _).mono ?_; rintro e w2 ⟨rfl, rfl⟩; rw [g1]) | (go_at_call 100; refine (spec_l1In _ _ _ _).mono ?_; rintro e w2 ⟨rfl, rfl⟩; rw [g2]))
     go_wp2_with fail
     refine ko hK ?_ fun hHeld => ?_
     ·(try dsimp only); first | exact ⟨X_0, X_1, X_2, X_3, (by first | exact t0 | exact hW.cells hT.c0)⟩ | go_keep
     clear hK K
     refine tkO 8 20 ?_
     refine tkO 9 21 ?_
     refine tkO 10 22 ?_
     refine tkO 11 23 ?_
     refine tkO 12 24 ?_
     refine rdy1 13 fun K hK => ?_
     go_simp
     (first | (go_at_call 79; refine (spec_ptLength 0 _ (by omega)).mono ?_; rintro e w3 ⟨rfl, hb3⟩; replace hW : Bl w w3 := Bl.a1; replace hX := hX.kp hb3; clear X_l X_0 X_1 X_2 X_3; obtain ⟨X_l, -, X_0, X_1, X_2, X_3⟩ := hX.l4) | (go_at_call 100; refine (spec_l1In _ _ _ _).mono ?_; rintro e w2 ⟨rfl, rfl⟩; rw [g1]) | (go_at_call 100; refine (spec_l1In _ _ _ _).mono ?_; rintro e w2 ⟨rfl, rfl⟩; rw [g2]))
     go_wp2_with fail
     refine ko hK ?_ fun hHeld => ?_
     ·(try dsimp only); first | exact ⟨X_0, X_1, X_2, X_3, (by first | exact t0 | exact hW.cells hT.c0)⟩ | go_keep
     clear hK K
     refine tkO 14 26 ?_
     refine tkO 15 4 ?_
     refine wpAnyH_done (by kernel_rfl) ?_ _
     go_wp2
     go_ret
     exact ⟨ret_bool (by rw [hR.out, g1, g2]; rfl), Bl.a1⟩
  ·have hR := Lib.hid (show mdB p ⟨1, 2, I, V⟩ = (inR I 0 3 && inR V 0 (p - 1)) by rfl)
   have hX := Blk.new w 55 #[.int .i64 1, .int .i64 2, .int .i64 I, .int .i64 V]
   obtain ⟨X_l, -, X_0, X_1, X_2, X_3⟩ := hX.l4
   have z0 : IntKind.i64.wrap 0 = 0 := rfl
   have y1 : IntKind.i64.wrap 1 = 1 := rfl
   have y2 : IntKind.i64.wrap 2 = 2 := rfl
   have y3 : IntKind.i64.wrap 3 = 3 := rfl
   have zb : IntKind.i64.wrap ((bodyN 1 : Int) - 1) = 3 := rfl
   have z1 : IntKind.i64.wrap (p - 1) = p - 1 := IntWalk.i64_in _ (by omega)
   rcases g1 : inR I 0 3
   ·go_enter Tryd.func74, Tryd.ntmps74
    go_wp2_with (first | (go_at_call 100; refine (spec_l1In _ _ _ _).mono ?_; rintro e w2 ⟨rfl, rfl⟩; rw [e1]))
    refine wp_region_held_drew (S := (fun w' => w'.cell? ⟨w.heap.size, 0, none⟩ = some (.int .i64 1) ∧ w'.cell? ⟨w.heap.size, 1, none⟩ = some (.int .i64 2) ∧ w'.cell? ⟨w.heap.size, 2, none⟩ = some (.int .i64 I) ∧ w'.cell? ⟨w.heap.size, 3, none⟩ = some (.int .i64 V) ∧ w'.cell? ⟨0, 1, none⟩ = some (.int .i64 4))) (by kernel_rfl) ?_ (fun hHeld => ?_)
    ·(try dsimp only); first | exact ⟨X_0, X_1, X_2, X_3, (by first | exact t1 | exact hW.cells hT.c1)⟩ | go_keep
    refine tkO 0 12 ?_
    refine tkO 1 13 ?_
    refine tkO 2 14 ?_
    refine tkO 3 15 ?_
    refine tkO 4 16 ?_
    refine rdy1 5 fun K hK => ?_
    go_simp
    (first | (go_at_call 79; refine (spec_ptLength 1 _ (by omega)).mono ?_; rintro e w3 ⟨rfl, hb3⟩; replace hW : Bl w w3 := Bl.a1; replace hX := hX.kp hb3; clear X_l X_0 X_1 X_2 X_3; obtain ⟨X_l, -, X_0, X_1, X_2, X_3⟩ := hX.l4) | (go_at_call 100; refine (spec_l1In _ _ _ _).mono ?_; rintro e w2 ⟨rfl, rfl⟩; rw [g1]))
    go_wp2_with fail
    refine ko hK ?_ fun hHeld => ?_
    ·(try dsimp only); first | exact ⟨X_0, X_1, X_2, X_3, (by first | exact t1 | exact hW.cells hT.c1)⟩ | go_keep
    clear hK K
    refine tkO 6 18 ?_
    refine rdy1 7 fun K hK => ?_
    go_simp
    (first | (go_at_call 79; refine (spec_ptLength 1 _ (by omega)).mono ?_; rintro e w3 ⟨rfl, hb3⟩; replace hW : Bl w w3 := Bl.a1; replace hX := hX.kp hb3; clear X_l X_0 X_1 X_2 X_3; obtain ⟨X_l, -, X_0, X_1, X_2, X_3⟩ := hX.l4) | (go_at_call 100; refine (spec_l1In _ _ _ _).mono ?_; rintro e w2 ⟨rfl, rfl⟩; rw [g1]))
    go_wp2_with fail
    refine ko hK ?_ fun hHeld => ?_
    ·(try dsimp only); first | exact ⟨X_0, X_1, X_2, X_3, (by first | exact t1 | exact hW.cells hT.c1)⟩ | go_keep
    clear hK K
    refine tkO 8 20 ?_
    refine tkz 9 21 ?_
    refine tkz 10 22 ?_
    refine tkz 11 23 ?_
    refine tkz 12 24 ?_
    refine tkz 13 25 ?_
    refine tkO 14 26 ?_
    refine tkO 15 4 ?_
    refine wpAnyH_done (by kernel_rfl) ?_ _
    go_wp2
    go_ret
    exact ⟨ret_bool (by rw [hR.out, g1]; rfl), Bl.a1⟩
   ·rcases g2 : inR V 0 (p - 1)
    ·go_enter Tryd.func74, Tryd.ntmps74
     go_wp2_with (first | (go_at_call 100; refine (spec_l1In _ _ _ _).mono ?_; rintro e w2 ⟨rfl, rfl⟩; rw [e1]))
     refine wp_region_held_drew (S := (fun w' => w'.cell? ⟨w.heap.size, 0, none⟩ = some (.int .i64 1) ∧ w'.cell? ⟨w.heap.size, 1, none⟩ = some (.int .i64 2) ∧ w'.cell? ⟨w.heap.size, 2, none⟩ = some (.int .i64 I) ∧ w'.cell? ⟨w.heap.size, 3, none⟩ = some (.int .i64 V) ∧ w'.cell? ⟨0, 1, none⟩ = some (.int .i64 4))) (by kernel_rfl) ?_ (fun hHeld => ?_)
     ·(try dsimp only); first | exact ⟨X_0, X_1, X_2, X_3, (by first | exact t1 | exact hW.cells hT.c1)⟩ | go_keep
     refine tkO 0 12 ?_
     refine tkO 1 13 ?_
     refine tkO 2 14 ?_
     refine tkO 3 15 ?_
     refine tkO 4 16 ?_
     refine rdy1 5 fun K hK => ?_
     go_simp
     (first | (go_at_call 79; refine (spec_ptLength 1 _ (by omega)).mono ?_; rintro e w3 ⟨rfl, hb3⟩; replace hW : Bl w w3 := Bl.a1; replace hX := hX.kp hb3; clear X_l X_0 X_1 X_2 X_3; obtain ⟨X_l, -, X_0, X_1, X_2, X_3⟩ := hX.l4) | (go_at_call 100; refine (spec_l1In _ _ _ _).mono ?_; rintro e w2 ⟨rfl, rfl⟩; rw [g1]) | (go_at_call 100; refine (spec_l1In _ _ _ _).mono ?_; rintro e w2 ⟨rfl, rfl⟩; rw [g2]))
     go_wp2_with fail
     refine ko hK ?_ fun hHeld => ?_
     ·(try dsimp only); first | exact ⟨X_0, X_1, X_2, X_3, (by first | exact t1 | exact hW.cells hT.c1)⟩ | go_keep
     clear hK K
     refine tkO 6 18 ?_
     refine rdy1 7 fun K hK => ?_
     go_simp
     (first | (go_at_call 79; refine (spec_ptLength 1 _ (by omega)).mono ?_; rintro e w3 ⟨rfl, hb3⟩; replace hW : Bl w w3 := Bl.a1; replace hX := hX.kp hb3; clear X_l X_0 X_1 X_2 X_3; obtain ⟨X_l, -, X_0, X_1, X_2, X_3⟩ := hX.l4) | (go_at_call 100; refine (spec_l1In _ _ _ _).mono ?_; rintro e w2 ⟨rfl, rfl⟩; rw [g1]) | (go_at_call 100; refine (spec_l1In _ _ _ _).mono ?_; rintro e w2 ⟨rfl, rfl⟩; rw [g2]))
     go_wp2_with fail
     refine ko hK ?_ fun hHeld => ?_
     ·(try dsimp only); first | exact ⟨X_0, X_1, X_2, X_3, (by first | exact t1 | exact hW.cells hT.c1)⟩ | go_keep
     clear hK K
     refine tkO 8 20 ?_
     refine tkO 9 21 ?_
     refine tkO 10 22 ?_
     refine tkO 11 23 ?_
     refine tkO 12 24 ?_
     refine rdy1 13 fun K hK => ?_
     go_simp
     (first | (go_at_call 79; refine (spec_ptLength 1 _ (by omega)).mono ?_; rintro e w3 ⟨rfl, hb3⟩; replace hW : Bl w w3 := Bl.a1; replace hX := hX.kp hb3; clear X_l X_0 X_1 X_2 X_3; obtain ⟨X_l, -, X_0, X_1, X_2, X_3⟩ := hX.l4) | (go_at_call 100; refine (spec_l1In _ _ _ _).mono ?_; rintro e w2 ⟨rfl, rfl⟩; rw [g1]) | (go_at_call 100; refine (spec_l1In _ _ _ _).mono ?_; rintro e w2 ⟨rfl, rfl⟩; rw [g2]))
     go_wp2_with fail
     refine ko hK ?_ fun hHeld => ?_
     ·(try dsimp only); first | exact ⟨X_0, X_1, X_2, X_3, (by first | exact t1 | exact hW.cells hT.c1)⟩ | go_keep
     clear hK K
     refine tkO 14 26 ?_
     refine tkO 15 4 ?_
     refine wpAnyH_done (by kernel_rfl) ?_ _
     go_wp2
     go_ret
     exact ⟨ret_bool (by rw [hR.out, g1, g2]; rfl), Bl.a1⟩
    ·go_enter Tryd.func74, Tryd.ntmps74
     go_wp2_with (first | (go_at_call 100; refine (spec_l1In _ _ _ _).mono ?_; rintro e w2 ⟨rfl, rfl⟩; rw [e1]))
     refine wp_region_held_drew (S := (fun w' => w'.cell? ⟨w.heap.size, 0, none⟩ = some (.int .i64 1) ∧ w'.cell? ⟨w.heap.size, 1, none⟩ = some (.int .i64 2) ∧ w'.cell? ⟨w.heap.size, 2, none⟩ = some (.int .i64 I) ∧ w'.cell? ⟨w.heap.size, 3, none⟩ = some (.int .i64 V) ∧ w'.cell? ⟨0, 1, none⟩ = some (.int .i64 4))) (by kernel_rfl) ?_ (fun hHeld => ?_)
     ·(try dsimp only); first | exact ⟨X_0, X_1, X_2, X_3, (by first | exact t1 | exact hW.cells hT.c1)⟩ | go_keep
     refine tkO 0 12 ?_
     refine tkO 1 13 ?_
     refine tkO 2 14 ?_
     refine tkO 3 15 ?_
     refine tkO 4 16 ?_
     refine rdy1 5 fun K hK => ?_
     go_simp
     (first | (go_at_call 79; refine (spec_ptLength 1 _ (by omega)).mono ?_; rintro e w3 ⟨rfl, hb3⟩; replace hW : Bl w w3 := Bl.a1; replace hX := hX.kp hb3; clear X_l X_0 X_1 X_2 X_3; obtain ⟨X_l, -, X_0, X_1, X_2, X_3⟩ := hX.l4) | (go_at_call 100; refine (spec_l1In _ _ _ _).mono ?_; rintro e w2 ⟨rfl, rfl⟩; rw [g1]) | (go_at_call 100; refine (spec_l1In _ _ _ _).mono ?_; rintro e w2 ⟨rfl, rfl⟩; rw [g2]))
     go_wp2_with fail
     refine ko hK ?_ fun hHeld => ?_
     ·(try dsimp only); first | exact ⟨X_0, X_1, X_2, X_3, (by first | exact t1 | exact hW.cells hT.c1)⟩ | go_keep
     clear hK K
     refine tkO 6 18 ?_
     refine rdy1 7 fun K hK => ?_
     go_simp
     (first | (go_at_call 79; refine (spec_ptLength 1 _ (by omega)).mono ?_; rintro e w3 ⟨rfl, hb3⟩; replace hW : Bl w w3 := Bl.a1; replace hX := hX.kp hb3; clear X_l X_0 X_1 X_2 X_3; obtain ⟨X_l, -, X_0, X_1, X_2, X_3⟩ := hX.l4) | (go_at_call 100; refine (spec_l1In _ _ _ _).mono ?_; rintro e w2 ⟨rfl, rfl⟩; rw [g1]) | (go_at_call 100; refine (spec_l1In _ _ _ _).mono ?_; rintro e w2 ⟨rfl, rfl⟩; rw [g2]))
     go_wp2_with fail
     refine ko hK ?_ fun hHeld => ?_
     ·(try dsimp only); first | exact ⟨X_0, X_1, X_2, X_3, (by first | exact t1 | exact hW.cells hT.c1)⟩ | go_keep
     clear hK K
     refine tkO 8 20 ?_
     refine tkO 9 21 ?_
     refine tkO 10 22 ?_
     refine tkO 11 23 ?_
     refine tkO 12 24 ?_
     refine rdy1 13 fun K hK => ?_
     go_simp
     (first | (go_at_call 79; refine (spec_ptLength 1 _ (by omega)).mono ?_; rintro e w3 ⟨rfl, hb3⟩; replace hW : Bl w w3 := Bl.a1; replace hX := hX.kp hb3; clear X_l X_0 X_1 X_2 X_3; obtain ⟨X_l, -, X_0, X_1, X_2, X_3⟩ := hX.l4) | (go_at_call 100; refine (spec_l1In _ _ _ _).mono ?_; rintro e w2 ⟨rfl, rfl⟩; rw [g1]) | (go_at_call 100; refine (spec_l1In _ _ _ _).mono ?_; rintro e w2 ⟨rfl, rfl⟩; rw [g2]))
     go_wp2_with fail
     refine ko hK ?_ fun hHeld => ?_
     ·(try dsimp only); first | exact ⟨X_0, X_1, X_2, X_3, (by first | exact t1 | exact hW.cells hT.c1)⟩ | go_keep
     clear hK K
     refine tkO 14 26 ?_
     refine tkO 15 4 ?_
     refine wpAnyH_done (by kernel_rfl) ?_ _
     go_wp2
     go_ret
     exact ⟨ret_bool (by rw [hR.out, g1, g2]; rfl), Bl.a1⟩
  ·have hR := Lib.hid (show mdB p ⟨1, 3, I, V⟩ = (inR I 0 3 && inR V 0 (p - 1)) by rfl)
   have hX := Blk.new w 55 #[.int .i64 1, .int .i64 3, .int .i64 I, .int .i64 V]
   obtain ⟨X_l, -, X_0, X_1, X_2, X_3⟩ := hX.l4
   have z0 : IntKind.i64.wrap 0 = 0 := rfl
   have y1 : IntKind.i64.wrap 1 = 1 := rfl
   have y2 : IntKind.i64.wrap 2 = 2 := rfl
   have y3 : IntKind.i64.wrap 3 = 3 := rfl
   have zb : IntKind.i64.wrap ((bodyN 1 : Int) - 1) = 3 := rfl
   have z1 : IntKind.i64.wrap (p - 1) = p - 1 := IntWalk.i64_in _ (by omega)
   rcases g1 : inR I 0 3
   ·go_enter Tryd.func74, Tryd.ntmps74
    go_wp2_with (first | (go_at_call 100; refine (spec_l1In _ _ _ _).mono ?_; rintro e w2 ⟨rfl, rfl⟩; rw [e1]))
    refine wp_region_held_drew (S := (fun w' => w'.cell? ⟨w.heap.size, 0, none⟩ = some (.int .i64 1) ∧ w'.cell? ⟨w.heap.size, 1, none⟩ = some (.int .i64 3) ∧ w'.cell? ⟨w.heap.size, 2, none⟩ = some (.int .i64 I) ∧ w'.cell? ⟨w.heap.size, 3, none⟩ = some (.int .i64 V) ∧ w'.cell? ⟨0, 1, none⟩ = some (.int .i64 4))) (by kernel_rfl) ?_ (fun hHeld => ?_)
    ·(try dsimp only); first | exact ⟨X_0, X_1, X_2, X_3, (by first | exact t1 | exact hW.cells hT.c1)⟩ | go_keep
    refine tkO 0 12 ?_
    refine tkO 1 13 ?_
    refine tkO 2 14 ?_
    refine tkO 3 15 ?_
    refine tkO 4 16 ?_
    refine rdy1 5 fun K hK => ?_
    go_simp
    (first | (go_at_call 79; refine (spec_ptLength 1 _ (by omega)).mono ?_; rintro e w3 ⟨rfl, hb3⟩; replace hW : Bl w w3 := Bl.a1; replace hX := hX.kp hb3; clear X_l X_0 X_1 X_2 X_3; obtain ⟨X_l, -, X_0, X_1, X_2, X_3⟩ := hX.l4) | (go_at_call 100; refine (spec_l1In _ _ _ _).mono ?_; rintro e w2 ⟨rfl, rfl⟩; rw [g1]))
    go_wp2_with fail
    refine ko hK ?_ fun hHeld => ?_
    ·(try dsimp only); first | exact ⟨X_0, X_1, X_2, X_3, (by first | exact t1 | exact hW.cells hT.c1)⟩ | go_keep
    clear hK K
    refine tkO 6 18 ?_
    refine rdy1 7 fun K hK => ?_
    go_simp
    (first | (go_at_call 79; refine (spec_ptLength 1 _ (by omega)).mono ?_; rintro e w3 ⟨rfl, hb3⟩; replace hW : Bl w w3 := Bl.a1; replace hX := hX.kp hb3; clear X_l X_0 X_1 X_2 X_3; obtain ⟨X_l, -, X_0, X_1, X_2, X_3⟩ := hX.l4) | (go_at_call 100; refine (spec_l1In _ _ _ _).mono ?_; rintro e w2 ⟨rfl, rfl⟩; rw [g1]))
    go_wp2_with fail
    refine ko hK ?_ fun hHeld => ?_
    ·(try dsimp only); first | exact ⟨X_0, X_1, X_2, X_3, (by first | exact t1 | exact hW.cells hT.c1)⟩ | go_keep
    clear hK K
    refine tkO 8 20 ?_
    refine tkz 9 21 ?_
    refine tkz 10 22 ?_
    refine tkz 11 23 ?_
    refine tkz 12 24 ?_
    refine tkz 13 25 ?_
    refine tkO 14 26 ?_
    refine tkO 15 4 ?_
    refine wpAnyH_done (by kernel_rfl) ?_ _
    go_wp2
    go_ret
    exact ⟨ret_bool (by rw [hR.out, g1]; rfl), Bl.a1⟩
   ·rcases g2 : inR V 0 (p - 1)
    ·go_enter Tryd.func74, Tryd.ntmps74
     go_wp2_with (first | (go_at_call 100; refine (spec_l1In _ _ _ _).mono ?_; rintro e w2 ⟨rfl, rfl⟩; rw [e1]))
     refine wp_region_held_drew (S := (fun w' => w'.cell? ⟨w.heap.size, 0, none⟩ = some (.int .i64 1) ∧ w'.cell? ⟨w.heap.size, 1, none⟩ = some (.int .i64 3) ∧ w'.cell? ⟨w.heap.size, 2, none⟩ = some (.int .i64 I) ∧ w'.cell? ⟨w.heap.size, 3, none⟩ = some (.int .i64 V) ∧ w'.cell? ⟨0, 1, none⟩ = some (.int .i64 4))) (by kernel_rfl) ?_ (fun hHeld => ?_)
     ·(try dsimp only); first | exact ⟨X_0, X_1, X_2, X_3, (by first | exact t1 | exact hW.cells hT.c1)⟩ | go_keep
     refine tkO 0 12 ?_
     refine tkO 1 13 ?_
     refine tkO 2 14 ?_
     refine tkO 3 15 ?_
     refine tkO 4 16 ?_
     refine rdy1 5 fun K hK => ?_
     go_simp
     (first | (go_at_call 79; refine (spec_ptLength 1 _ (by omega)).mono ?_; rintro e w3 ⟨rfl, hb3⟩; replace hW : Bl w w3 := Bl.a1; replace hX := hX.kp hb3; clear X_l X_0 X_1 X_2 X_3; obtain ⟨X_l, -, X_0, X_1, X_2, X_3⟩ := hX.l4) | (go_at_call 100; refine (spec_l1In _ _ _ _).mono ?_; rintro e w2 ⟨rfl, rfl⟩; rw [g1]) | (go_at_call 100; refine (spec_l1In _ _ _ _).mono ?_; rintro e w2 ⟨rfl, rfl⟩; rw [g2]))
     go_wp2_with fail
     refine ko hK ?_ fun hHeld => ?_
     ·(try dsimp only); first | exact ⟨X_0, X_1, X_2, X_3, (by first | exact t1 | exact hW.cells hT.c1)⟩ | go_keep
     clear hK K
     refine tkO 6 18 ?_
     refine rdy1 7 fun K hK => ?_
     go_simp
     (first | (go_at_call 79; refine (spec_ptLength 1 _ (by omega)).mono ?_; rintro e w3 ⟨rfl, hb3⟩; replace hW : Bl w w3 := Bl.a1; replace hX := hX.kp hb3; clear X_l X_0 X_1 X_2 X_3; obtain ⟨X_l, -, X_0, X_1, X_2, X_3⟩ := hX.l4) | (go_at_call 100; refine (spec_l1In _ _ _ _).mono ?_; rintro e w2 ⟨rfl, rfl⟩; rw [g1]) | (go_at_call 100; refine (spec_l1In _ _ _ _).mono ?_; rintro e w2 ⟨rfl, rfl⟩; rw [g2]))
     go_wp2_with fail
     refine ko hK ?_ fun hHeld => ?_
     ·(try dsimp only); first | exact ⟨X_0, X_1, X_2, X_3, (by first | exact t1 | exact hW.cells hT.c1)⟩ | go_keep
     clear hK K
     refine tkO 8 20 ?_
     refine tkO 9 21 ?_
     refine tkO 10 22 ?_
     refine tkO 11 23 ?_
     refine tkO 12 24 ?_
     refine rdy1 13 fun K hK => ?_
     go_simp
     (first | (go_at_call 79; refine (spec_ptLength 1 _ (by omega)).mono ?_; rintro e w3 ⟨rfl, hb3⟩; replace hW : Bl w w3 := Bl.a1; replace hX := hX.kp hb3; clear X_l X_0 X_1 X_2 X_3; obtain ⟨X_l, -, X_0, X_1, X_2, X_3⟩ := hX.l4) | (go_at_call 100; refine (spec_l1In _ _ _ _).mono ?_; rintro e w2 ⟨rfl, rfl⟩; rw [g1]) | (go_at_call 100; refine (spec_l1In _ _ _ _).mono ?_; rintro e w2 ⟨rfl, rfl⟩; rw [g2]))
     go_wp2_with fail
     refine ko hK ?_ fun hHeld => ?_
     ·(try dsimp only); first | exact ⟨X_0, X_1, X_2, X_3, (by first | exact t1 | exact hW.cells hT.c1)⟩ | go_keep
     clear hK K
     refine tkO 14 26 ?_
     refine tkO 15 4 ?_
     refine wpAnyH_done (by kernel_rfl) ?_ _
     go_wp2
     go_ret
     exact ⟨ret_bool (by rw [hR.out, g1, g2]; rfl), Bl.a1⟩
    ·go_enter Tryd.func74, Tryd.ntmps74
     go_wp2_with (first | (go_at_call 100; refine (spec_l1In _ _ _ _).mono ?_; rintro e w2 ⟨rfl, rfl⟩; rw [e1]))
     refine wp_region_held_drew (S := (fun w' => w'.cell? ⟨w.heap.size, 0, none⟩ = some (.int .i64 1) ∧ w'.cell? ⟨w.heap.size, 1, none⟩ = some (.int .i64 3) ∧ w'.cell? ⟨w.heap.size, 2, none⟩ = some (.int .i64 I) ∧ w'.cell? ⟨w.heap.size, 3, none⟩ = some (.int .i64 V) ∧ w'.cell? ⟨0, 1, none⟩ = some (.int .i64 4))) (by kernel_rfl) ?_ (fun hHeld => ?_)
     ·(try dsimp only); first | exact ⟨X_0, X_1, X_2, X_3, (by first | exact t1 | exact hW.cells hT.c1)⟩ | go_keep
     refine tkO 0 12 ?_
     refine tkO 1 13 ?_
     refine tkO 2 14 ?_
     refine tkO 3 15 ?_
     refine tkO 4 16 ?_
     refine rdy1 5 fun K hK => ?_
     go_simp
     (first | (go_at_call 79; refine (spec_ptLength 1 _ (by omega)).mono ?_; rintro e w3 ⟨rfl, hb3⟩; replace hW : Bl w w3 := Bl.a1; replace hX := hX.kp hb3; clear X_l X_0 X_1 X_2 X_3; obtain ⟨X_l, -, X_0, X_1, X_2, X_3⟩ := hX.l4) | (go_at_call 100; refine (spec_l1In _ _ _ _).mono ?_; rintro e w2 ⟨rfl, rfl⟩; rw [g1]) | (go_at_call 100; refine (spec_l1In _ _ _ _).mono ?_; rintro e w2 ⟨rfl, rfl⟩; rw [g2]))
     go_wp2_with fail
     refine ko hK ?_ fun hHeld => ?_
     ·(try dsimp only); first | exact ⟨X_0, X_1, X_2, X_3, (by first | exact t1 | exact hW.cells hT.c1)⟩ | go_keep
     clear hK K
     refine tkO 6 18 ?_
     refine rdy1 7 fun K hK => ?_
     go_simp
     (first | (go_at_call 79; refine (spec_ptLength 1 _ (by omega)).mono ?_; rintro e w3 ⟨rfl, hb3⟩; replace hW : Bl w w3 := Bl.a1; replace hX := hX.kp hb3; clear X_l X_0 X_1 X_2 X_3; obtain ⟨X_l, -, X_0, X_1, X_2, X_3⟩ := hX.l4) | (go_at_call 100; refine (spec_l1In _ _ _ _).mono ?_; rintro e w2 ⟨rfl, rfl⟩; rw [g1]) | (go_at_call 100; refine (spec_l1In _ _ _ _).mono ?_; rintro e w2 ⟨rfl, rfl⟩; rw [g2]))
     go_wp2_with fail
     refine ko hK ?_ fun hHeld => ?_
     ·(try dsimp only); first | exact ⟨X_0, X_1, X_2, X_3, (by first | exact t1 | exact hW.cells hT.c1)⟩ | go_keep
     clear hK K
     refine tkO 8 20 ?_
     refine tkO 9 21 ?_
     refine tkO 10 22 ?_
     refine tkO 11 23 ?_
     refine tkO 12 24 ?_
     refine rdy1 13 fun K hK => ?_
     go_simp
     (first | (go_at_call 79; refine (spec_ptLength 1 _ (by omega)).mono ?_; rintro e w3 ⟨rfl, hb3⟩; replace hW : Bl w w3 := Bl.a1; replace hX := hX.kp hb3; clear X_l X_0 X_1 X_2 X_3; obtain ⟨X_l, -, X_0, X_1, X_2, X_3⟩ := hX.l4) | (go_at_call 100; refine (spec_l1In _ _ _ _).mono ?_; rintro e w2 ⟨rfl, rfl⟩; rw [g1]) | (go_at_call 100; refine (spec_l1In _ _ _ _).mono ?_; rintro e w2 ⟨rfl, rfl⟩; rw [g2]))
     go_wp2_with fail
     refine ko hK ?_ fun hHeld => ?_
     ·(try dsimp only); first | exact ⟨X_0, X_1, X_2, X_3, (by first | exact t1 | exact hW.cells hT.c1)⟩ | go_keep
     clear hK K
     refine tkO 14 26 ?_
     refine tkO 15 4 ?_
     refine wpAnyH_done (by kernel_rfl) ?_ _
     go_wp2
     go_ret
     exact ⟨ret_bool (by rw [hR.out, g1, g2]; rfl), Bl.a1⟩
  ·have hR := Lib.hid (show mdB p ⟨1, 4, I, V⟩ = (inR I 0 1 && inR V 0 (p - 1)) by rfl)
   have hX := Blk.new w 55 #[.int .i64 1, .int .i64 4, .int .i64 I, .int .i64 V]
   obtain ⟨X_l, -, X_0, X_1, X_2, X_3⟩ := hX.l4
   have z0 : IntKind.i64.wrap 0 = 0 := rfl
   have y1 : IntKind.i64.wrap 1 = 1 := rfl
   have y2 : IntKind.i64.wrap 2 = 2 := rfl
   have y3 : IntKind.i64.wrap 3 = 3 := rfl
   have zb : IntKind.i64.wrap ((bodyN 2 : Int) - 1) = 1 := rfl
   have z1 : IntKind.i64.wrap (p - 1) = p - 1 := IntWalk.i64_in _ (by omega)
   rcases g1 : inR I 0 1
   ·go_enter Tryd.func74, Tryd.ntmps74
    go_wp2_with (first | (go_at_call 100; refine (spec_l1In _ _ _ _).mono ?_; rintro e w2 ⟨rfl, rfl⟩; rw [e1]))
    refine wp_region_held_drew (S := (fun w' => w'.cell? ⟨w.heap.size, 0, none⟩ = some (.int .i64 1) ∧ w'.cell? ⟨w.heap.size, 1, none⟩ = some (.int .i64 4) ∧ w'.cell? ⟨w.heap.size, 2, none⟩ = some (.int .i64 I) ∧ w'.cell? ⟨w.heap.size, 3, none⟩ = some (.int .i64 V) ∧ w'.cell? ⟨0, 2, none⟩ = some (.int .i64 2))) (by kernel_rfl) ?_ (fun hHeld => ?_)
    ·(try dsimp only); first | exact ⟨X_0, X_1, X_2, X_3, (by first | exact t2 | exact hW.cells hT.c2)⟩ | go_keep
    refine tkO 0 12 ?_
    refine tkO 1 13 ?_
    refine tkO 2 14 ?_
    refine tkO 3 15 ?_
    refine tkO 4 16 ?_
    refine rdy1 5 fun K hK => ?_
    go_simp
    (first | (go_at_call 79; refine (spec_ptLength 2 _ (by omega)).mono ?_; rintro e w3 ⟨rfl, hb3⟩; replace hW : Bl w w3 := Bl.a1; replace hX := hX.kp hb3; clear X_l X_0 X_1 X_2 X_3; obtain ⟨X_l, -, X_0, X_1, X_2, X_3⟩ := hX.l4) | (go_at_call 100; refine (spec_l1In _ _ _ _).mono ?_; rintro e w2 ⟨rfl, rfl⟩; rw [g1]))
    go_wp2_with fail
    refine ko hK ?_ fun hHeld => ?_
    ·(try dsimp only); first | exact ⟨X_0, X_1, X_2, X_3, (by first | exact t2 | exact hW.cells hT.c2)⟩ | go_keep
    clear hK K
    refine tkO 6 18 ?_
    refine rdy1 7 fun K hK => ?_
    go_simp
    (first | (go_at_call 79; refine (spec_ptLength 2 _ (by omega)).mono ?_; rintro e w3 ⟨rfl, hb3⟩; replace hW : Bl w w3 := Bl.a1; replace hX := hX.kp hb3; clear X_l X_0 X_1 X_2 X_3; obtain ⟨X_l, -, X_0, X_1, X_2, X_3⟩ := hX.l4) | (go_at_call 100; refine (spec_l1In _ _ _ _).mono ?_; rintro e w2 ⟨rfl, rfl⟩; rw [g1]))
    go_wp2_with fail
    refine ko hK ?_ fun hHeld => ?_
    ·(try dsimp only); first | exact ⟨X_0, X_1, X_2, X_3, (by first | exact t2 | exact hW.cells hT.c2)⟩ | go_keep
    clear hK K
    refine tkO 8 20 ?_
    refine tkz 9 21 ?_
    refine tkz 10 22 ?_
    refine tkz 11 23 ?_
    refine tkz 12 24 ?_
    refine tkz 13 25 ?_
    refine tkO 14 26 ?_
    refine tkO 15 4 ?_
    refine wpAnyH_done (by kernel_rfl) ?_ _
    go_wp2
    go_ret
    exact ⟨ret_bool (by rw [hR.out, g1]; rfl), Bl.a1⟩
   ·rcases g2 : inR V 0 (p - 1)
    ·go_enter Tryd.func74, Tryd.ntmps74
     go_wp2_with (first | (go_at_call 100; refine (spec_l1In _ _ _ _).mono ?_; rintro e w2 ⟨rfl, rfl⟩; rw [e1]))
     refine wp_region_held_drew (S := (fun w' => w'.cell? ⟨w.heap.size, 0, none⟩ = some (.int .i64 1) ∧ w'.cell? ⟨w.heap.size, 1, none⟩ = some (.int .i64 4) ∧ w'.cell? ⟨w.heap.size, 2, none⟩ = some (.int .i64 I) ∧ w'.cell? ⟨w.heap.size, 3, none⟩ = some (.int .i64 V) ∧ w'.cell? ⟨0, 2, none⟩ = some (.int .i64 2))) (by kernel_rfl) ?_ (fun hHeld => ?_)
     ·(try dsimp only); first | exact ⟨X_0, X_1, X_2, X_3, (by first | exact t2 | exact hW.cells hT.c2)⟩ | go_keep
     refine tkO 0 12 ?_
     refine tkO 1 13 ?_
     refine tkO 2 14 ?_
     refine tkO 3 15 ?_
     refine tkO 4 16 ?_
     refine rdy1 5 fun K hK => ?_
     go_simp
     (first | (go_at_call 79; refine (spec_ptLength 2 _ (by omega)).mono ?_; rintro e w3 ⟨rfl, hb3⟩; replace hW : Bl w w3 := Bl.a1; replace hX := hX.kp hb3; clear X_l X_0 X_1 X_2 X_3; obtain ⟨X_l, -, X_0, X_1, X_2, X_3⟩ := hX.l4) | (go_at_call 100; refine (spec_l1In _ _ _ _).mono ?_; rintro e w2 ⟨rfl, rfl⟩; rw [g1]) | (go_at_call 100; refine (spec_l1In _ _ _ _).mono ?_; rintro e w2 ⟨rfl, rfl⟩; rw [g2]))
     go_wp2_with fail
     refine ko hK ?_ fun hHeld => ?_
     ·(try dsimp only); first | exact ⟨X_0, X_1, X_2, X_3, (by first | exact t2 | exact hW.cells hT.c2)⟩ | go_keep
     clear hK K
     refine tkO 6 18 ?_
     refine rdy1 7 fun K hK => ?_
     go_simp
     (first | (go_at_call 79; refine (spec_ptLength 2 _ (by omega)).mono ?_; rintro e w3 ⟨rfl, hb3⟩; replace hW : Bl w w3 := Bl.a1; replace hX := hX.kp hb3; clear X_l X_0 X_1 X_2 X_3; obtain ⟨X_l, -, X_0, X_1, X_2, X_3⟩ := hX.l4) | (go_at_call 100; refine (spec_l1In _ _ _ _).mono ?_; rintro e w2 ⟨rfl, rfl⟩; rw [g1]) | (go_at_call 100; refine (spec_l1In _ _ _ _).mono ?_; rintro e w2 ⟨rfl, rfl⟩; rw [g2]))
     go_wp2_with fail
     refine ko hK ?_ fun hHeld => ?_
     ·(try dsimp only); first | exact ⟨X_0, X_1, X_2, X_3, (by first | exact t2 | exact hW.cells hT.c2)⟩ | go_keep
     clear hK K
     refine tkO 8 20 ?_
     refine tkO 9 21 ?_
     refine tkO 10 22 ?_
     refine tkO 11 23 ?_
     refine tkO 12 24 ?_
     refine rdy1 13 fun K hK => ?_
     go_simp
     (first | (go_at_call 79; refine (spec_ptLength 2 _ (by omega)).mono ?_; rintro e w3 ⟨rfl, hb3⟩; replace hW : Bl w w3 := Bl.a1; replace hX := hX.kp hb3; clear X_l X_0 X_1 X_2 X_3; obtain ⟨X_l, -, X_0, X_1, X_2, X_3⟩ := hX.l4) | (go_at_call 100; refine (spec_l1In _ _ _ _).mono ?_; rintro e w2 ⟨rfl, rfl⟩; rw [g1]) | (go_at_call 100; refine (spec_l1In _ _ _ _).mono ?_; rintro e w2 ⟨rfl, rfl⟩; rw [g2]))
     go_wp2_with fail
     refine ko hK ?_ fun hHeld => ?_
     ·(try dsimp only); first | exact ⟨X_0, X_1, X_2, X_3, (by first | exact t2 | exact hW.cells hT.c2)⟩ | go_keep
     clear hK K
     refine tkO 14 26 ?_
     refine tkO 15 4 ?_
     refine wpAnyH_done (by kernel_rfl) ?_ _
     go_wp2
     go_ret
     exact ⟨ret_bool (by rw [hR.out, g1, g2]; rfl), Bl.a1⟩
    ·go_enter Tryd.func74, Tryd.ntmps74
     go_wp2_with (first | (go_at_call 100; refine (spec_l1In _ _ _ _).mono ?_; rintro e w2 ⟨rfl, rfl⟩; rw [e1]))
     refine wp_region_held_drew (S := (fun w' => w'.cell? ⟨w.heap.size, 0, none⟩ = some (.int .i64 1) ∧ w'.cell? ⟨w.heap.size, 1, none⟩ = some (.int .i64 4) ∧ w'.cell? ⟨w.heap.size, 2, none⟩ = some (.int .i64 I) ∧ w'.cell? ⟨w.heap.size, 3, none⟩ = some (.int .i64 V) ∧ w'.cell? ⟨0, 2, none⟩ = some (.int .i64 2))) (by kernel_rfl) ?_ (fun hHeld => ?_)
     ·(try dsimp only); first | exact ⟨X_0, X_1, X_2, X_3, (by first | exact t2 | exact hW.cells hT.c2)⟩ | go_keep
     refine tkO 0 12 ?_
     refine tkO 1 13 ?_
     refine tkO 2 14 ?_
     refine tkO 3 15 ?_
     refine tkO 4 16 ?_
     refine rdy1 5 fun K hK => ?_
     go_simp
     (first | (go_at_call 79; refine (spec_ptLength 2 _ (by omega)).mono ?_; rintro e w3 ⟨rfl, hb3⟩; replace hW : Bl w w3 := Bl.a1; replace hX := hX.kp hb3; clear X_l X_0 X_1 X_2 X_3; obtain ⟨X_l, -, X_0, X_1, X_2, X_3⟩ := hX.l4) | (go_at_call 100; refine (spec_l1In _ _ _ _).mono ?_; rintro e w2 ⟨rfl, rfl⟩; rw [g1]) | (go_at_call 100; refine (spec_l1In _ _ _ _).mono ?_; rintro e w2 ⟨rfl, rfl⟩; rw [g2]))
     go_wp2_with fail
     refine ko hK ?_ fun hHeld => ?_
     ·(try dsimp only); first | exact ⟨X_0, X_1, X_2, X_3, (by first | exact t2 | exact hW.cells hT.c2)⟩ | go_keep
     clear hK K
     refine tkO 6 18 ?_
     refine rdy1 7 fun K hK => ?_
     go_simp
     (first | (go_at_call 79; refine (spec_ptLength 2 _ (by omega)).mono ?_; rintro e w3 ⟨rfl, hb3⟩; replace hW : Bl w w3 := Bl.a1; replace hX := hX.kp hb3; clear X_l X_0 X_1 X_2 X_3; obtain ⟨X_l, -, X_0, X_1, X_2, X_3⟩ := hX.l4) | (go_at_call 100; refine (spec_l1In _ _ _ _).mono ?_; rintro e w2 ⟨rfl, rfl⟩; rw [g1]) | (go_at_call 100; refine (spec_l1In _ _ _ _).mono ?_; rintro e w2 ⟨rfl, rfl⟩; rw [g2]))
     go_wp2_with fail
     refine ko hK ?_ fun hHeld => ?_
     ·(try dsimp only); first | exact ⟨X_0, X_1, X_2, X_3, (by first | exact t2 | exact hW.cells hT.c2)⟩ | go_keep
     clear hK K
     refine tkO 8 20 ?_
     refine tkO 9 21 ?_
     refine tkO 10 22 ?_
     refine tkO 11 23 ?_
     refine tkO 12 24 ?_
     refine rdy1 13 fun K hK => ?_
     go_simp
     (first | (go_at_call 79; refine (spec_ptLength 2 _ (by omega)).mono ?_; rintro e w3 ⟨rfl, hb3⟩; replace hW : Bl w w3 := Bl.a1; replace hX := hX.kp hb3; clear X_l X_0 X_1 X_2 X_3; obtain ⟨X_l, -, X_0, X_1, X_2, X_3⟩ := hX.l4) | (go_at_call 100; refine (spec_l1In _ _ _ _).mono ?_; rintro e w2 ⟨rfl, rfl⟩; rw [g1]) | (go_at_call 100; refine (spec_l1In _ _ _ _).mono ?_; rintro e w2 ⟨rfl, rfl⟩; rw [g2]))
     go_wp2_with fail
     refine ko hK ?_ fun hHeld => ?_
     ·(try dsimp only); first | exact ⟨X_0, X_1, X_2, X_3, (by first | exact t2 | exact hW.cells hT.c2)⟩ | go_keep
     clear hK K
     refine tkO 14 26 ?_
     refine tkO 15 4 ?_
     refine wpAnyH_done (by kernel_rfl) ?_ _
     go_wp2
     go_ret
     exact ⟨ret_bool (by rw [hR.out, g1, g2]; rfl), Bl.a1⟩
  ·have hR := Lib.hid (show mdB p ⟨1, 5, I, V⟩ = (inR I 0 1 && inR V 0 (p - 1)) by rfl)
   have hX := Blk.new w 55 #[.int .i64 1, .int .i64 5, .int .i64 I, .int .i64 V]
   obtain ⟨X_l, -, X_0, X_1, X_2, X_3⟩ := hX.l4
   have z0 : IntKind.i64.wrap 0 = 0 := rfl
   have y1 : IntKind.i64.wrap 1 = 1 := rfl
   have y2 : IntKind.i64.wrap 2 = 2 := rfl
   have y3 : IntKind.i64.wrap 3 = 3 := rfl
   have zb : IntKind.i64.wrap ((bodyN 2 : Int) - 1) = 1 := rfl
   have z1 : IntKind.i64.wrap (p - 1) = p - 1 := IntWalk.i64_in _ (by omega)
   rcases g1 : inR I 0 1
   ·go_enter Tryd.func74, Tryd.ntmps74
    go_wp2_with (first | (go_at_call 100; refine (spec_l1In _ _ _ _).mono ?_; rintro e w2 ⟨rfl, rfl⟩; rw [e1]))
    refine wp_region_held_drew (S := (fun w' => w'.cell? ⟨w.heap.size, 0, none⟩ = some (.int .i64 1) ∧ w'.cell? ⟨w.heap.size, 1, none⟩ = some (.int .i64 5) ∧ w'.cell? ⟨w.heap.size, 2, none⟩ = some (.int .i64 I) ∧ w'.cell? ⟨w.heap.size, 3, none⟩ = some (.int .i64 V) ∧ w'.cell? ⟨0, 2, none⟩ = some (.int .i64 2))) (by kernel_rfl) ?_ (fun hHeld => ?_)
    ·(try dsimp only); first | exact ⟨X_0, X_1, X_2, X_3, (by first | exact t2 | exact hW.cells hT.c2)⟩ | go_keep
    refine tkO 0 12 ?_
    refine tkO 1 13 ?_
    refine tkO 2 14 ?_
    refine tkO 3 15 ?_
    refine tkO 4 16 ?_
    refine rdy1 5 fun K hK => ?_
    go_simp
    (first | (go_at_call 79; refine (spec_ptLength 2 _ (by omega)).mono ?_; rintro e w3 ⟨rfl, hb3⟩; replace hW : Bl w w3 := Bl.a1; replace hX := hX.kp hb3; clear X_l X_0 X_1 X_2 X_3; obtain ⟨X_l, -, X_0, X_1, X_2, X_3⟩ := hX.l4) | (go_at_call 100; refine (spec_l1In _ _ _ _).mono ?_; rintro e w2 ⟨rfl, rfl⟩; rw [g1]))
    go_wp2_with fail
    refine ko hK ?_ fun hHeld => ?_
    ·(try dsimp only); first | exact ⟨X_0, X_1, X_2, X_3, (by first | exact t2 | exact hW.cells hT.c2)⟩ | go_keep
    clear hK K
    refine tkO 6 18 ?_
    refine rdy1 7 fun K hK => ?_
    go_simp
    (first | (go_at_call 79; refine (spec_ptLength 2 _ (by omega)).mono ?_; rintro e w3 ⟨rfl, hb3⟩; replace hW : Bl w w3 := Bl.a1; replace hX := hX.kp hb3; clear X_l X_0 X_1 X_2 X_3; obtain ⟨X_l, -, X_0, X_1, X_2, X_3⟩ := hX.l4) | (go_at_call 100; refine (spec_l1In _ _ _ _).mono ?_; rintro e w2 ⟨rfl, rfl⟩; rw [g1]))
    go_wp2_with fail
    refine ko hK ?_ fun hHeld => ?_
    ·(try dsimp only); first | exact ⟨X_0, X_1, X_2, X_3, (by first | exact t2 | exact hW.cells hT.c2)⟩ | go_keep
    clear hK K
    refine tkO 8 20 ?_
    refine tkz 9 21 ?_
    refine tkz 10 22 ?_
    refine tkz 11 23 ?_
    refine tkz 12 24 ?_
    refine tkz 13 25 ?_
    refine tkO 14 26 ?_
    refine tkO 15 4 ?_
    refine wpAnyH_done (by kernel_rfl) ?_ _
    go_wp2
    go_ret
    exact ⟨ret_bool (by rw [hR.out, g1]; rfl), Bl.a1⟩
   ·rcases g2 : inR V 0 (p - 1)
    ·go_enter Tryd.func74, Tryd.ntmps74
     go_wp2_with (first | (go_at_call 100; refine (spec_l1In _ _ _ _).mono ?_; rintro e w2 ⟨rfl, rfl⟩; rw [e1]))
     refine wp_region_held_drew (S := (fun w' => w'.cell? ⟨w.heap.size, 0, none⟩ = some (.int .i64 1) ∧ w'.cell? ⟨w.heap.size, 1, none⟩ = some (.int .i64 5) ∧ w'.cell? ⟨w.heap.size, 2, none⟩ = some (.int .i64 I) ∧ w'.cell? ⟨w.heap.size, 3, none⟩ = some (.int .i64 V) ∧ w'.cell? ⟨0, 2, none⟩ = some (.int .i64 2))) (by kernel_rfl) ?_ (fun hHeld => ?_)
     ·(try dsimp only); first | exact ⟨X_0, X_1, X_2, X_3, (by first | exact t2 | exact hW.cells hT.c2)⟩ | go_keep
     refine tkO 0 12 ?_
     refine tkO 1 13 ?_
     refine tkO 2 14 ?_
     refine tkO 3 15 ?_
     refine tkO 4 16 ?_
     refine rdy1 5 fun K hK => ?_
     go_simp
     (first | (go_at_call 79; refine (spec_ptLength 2 _ (by omega)).mono ?_; rintro e w3 ⟨rfl, hb3⟩; replace hW : Bl w w3 := Bl.a1; replace hX := hX.kp hb3; clear X_l X_0 X_1 X_2 X_3; obtain ⟨X_l, -, X_0, X_1, X_2, X_3⟩ := hX.l4) | (go_at_call 100; refine (spec_l1In _ _ _ _).mono ?_; rintro e w2 ⟨rfl, rfl⟩; rw [g1]) | (go_at_call 100; refine (spec_l1In _ _ _ _).mono ?_; rintro e w2 ⟨rfl, rfl⟩; rw [g2]))
     go_wp2_with fail
     refine ko hK ?_ fun hHeld => ?_
     ·(try dsimp only); first | exact ⟨X_0, X_1, X_2, X_3, (by first | exact t2 | exact hW.cells hT.c2)⟩ | go_keep
     clear hK K
     refine tkO 6 18 ?_
     refine rdy1 7 fun K hK => ?_
     go_simp
     (first | (go_at_call 79; refine (spec_ptLength 2 _ (by omega)).mono ?_; rintro e w3 ⟨rfl, hb3⟩; replace hW : Bl w w3 := Bl.a1; replace hX := hX.kp hb3; clear X_l X_0 X_1 X_2 X_3; obtain ⟨X_l, -, X_0, X_1, X_2, X_3⟩ := hX.l4) | (go_at_call 100; refine (spec_l1In _ _ _ _).mono ?_; rintro e w2 ⟨rfl, rfl⟩; rw [g1]) | (go_at_call 100; refine (spec_l1In _ _ _ _).mono ?_; rintro e w2 ⟨rfl, rfl⟩; rw [g2]))
     go_wp2_with fail
     refine ko hK ?_ fun hHeld => ?_
     ·(try dsimp only); first | exact ⟨X_0, X_1, X_2, X_3, (by first | exact t2 | exact hW.cells hT.c2)⟩ | go_keep
     clear hK K
     refine tkO 8 20 ?_
     refine tkO 9 21 ?_
     refine tkO 10 22 ?_
     refine tkO 11 23 ?_
     refine tkO 12 24 ?_
     refine rdy1 13 fun K hK => ?_
     go_simp
     (first | (go_at_call 79; refine (spec_ptLength 2 _ (by omega)).mono ?_; rintro e w3 ⟨rfl, hb3⟩; replace hW : Bl w w3 := Bl.a1; replace hX := hX.kp hb3; clear X_l X_0 X_1 X_2 X_3; obtain ⟨X_l, -, X_0, X_1, X_2, X_3⟩ := hX.l4) | (go_at_call 100; refine (spec_l1In _ _ _ _).mono ?_; rintro e w2 ⟨rfl, rfl⟩; rw [g1]) | (go_at_call 100; refine (spec_l1In _ _ _ _).mono ?_; rintro e w2 ⟨rfl, rfl⟩; rw [g2]))
     go_wp2_with fail
     refine ko hK ?_ fun hHeld => ?_
     ·(try dsimp only); first | exact ⟨X_0, X_1, X_2, X_3, (by first | exact t2 | exact hW.cells hT.c2)⟩ | go_keep
     clear hK K
     refine tkO 14 26 ?_
     refine tkO 15 4 ?_
     refine wpAnyH_done (by kernel_rfl) ?_ _
     go_wp2
     go_ret
     exact ⟨ret_bool (by rw [hR.out, g1, g2]; rfl), Bl.a1⟩
    ·go_enter Tryd.func74, Tryd.ntmps74
     go_wp2_with (first | (go_at_call 100; refine (spec_l1In _ _ _ _).mono ?_; rintro e w2 ⟨rfl, rfl⟩; rw [e1]))
     refine wp_region_held_drew (S := (fun w' => w'.cell? ⟨w.heap.size, 0, none⟩ = some (.int .i64 1) ∧ w'.cell? ⟨w.heap.size, 1, none⟩ = some (.int .i64 5) ∧ w'.cell? ⟨w.heap.size, 2, none⟩ = some (.int .i64 I) ∧ w'.cell? ⟨w.heap.size, 3, none⟩ = some (.int .i64 V) ∧ w'.cell? ⟨0, 2, none⟩ = some (.int .i64 2))) (by kernel_rfl) ?_ (fun hHeld => ?_)
     ·(try dsimp only); first | exact ⟨X_0, X_1, X_2, X_3, (by first | exact t2 | exact hW.cells hT.c2)⟩ | go_keep
     refine tkO 0 12 ?_
     refine tkO 1 13 ?_
     refine tkO 2 14 ?_
     refine tkO 3 15 ?_
     refine tkO 4 16 ?_
     refine rdy1 5 fun K hK => ?_
     go_simp
     (first | (go_at_call 79; refine (spec_ptLength 2 _ (by omega)).mono ?_; rintro e w3 ⟨rfl, hb3⟩; replace hW : Bl w w3 := Bl.a1; replace hX := hX.kp hb3; clear X_l X_0 X_1 X_2 X_3; obtain ⟨X_l, -, X_0, X_1, X_2, X_3⟩ := hX.l4) | (go_at_call 100; refine (spec_l1In _ _ _ _).mono ?_; rintro e w2 ⟨rfl, rfl⟩; rw [g1]) | (go_at_call 100; refine (spec_l1In _ _ _ _).mono ?_; rintro e w2 ⟨rfl, rfl⟩; rw [g2]))
     go_wp2_with fail
     refine ko hK ?_ fun hHeld => ?_
     ·(try dsimp only); first | exact ⟨X_0, X_1, X_2, X_3, (by first | exact t2 | exact hW.cells hT.c2)⟩ | go_keep
     clear hK K
     refine tkO 6 18 ?_
     refine rdy1 7 fun K hK => ?_
     go_simp
     (first | (go_at_call 79; refine (spec_ptLength 2 _ (by omega)).mono ?_; rintro e w3 ⟨rfl, hb3⟩; replace hW : Bl w w3 := Bl.a1; replace hX := hX.kp hb3; clear X_l X_0 X_1 X_2 X_3; obtain ⟨X_l, -, X_0, X_1, X_2, X_3⟩ := hX.l4) | (go_at_call 100; refine (spec_l1In _ _ _ _).mono ?_; rintro e w2 ⟨rfl, rfl⟩; rw [g1]) | (go_at_call 100; refine (spec_l1In _ _ _ _).mono ?_; rintro e w2 ⟨rfl, rfl⟩; rw [g2]))
     go_wp2_with fail
     refine ko hK ?_ fun hHeld => ?_
     ·(try dsimp only); first | exact ⟨X_0, X_1, X_2, X_3, (by first | exact t2 | exact hW.cells hT.c2)⟩ | go_keep
     clear hK K
     refine tkO 8 20 ?_
     refine tkO 9 21 ?_
     refine tkO 10 22 ?_
     refine tkO 11 23 ?_
     refine tkO 12 24 ?_
     refine rdy1 13 fun K hK => ?_
     go_simp
     (first | (go_at_call 79; refine (spec_ptLength 2 _ (by omega)).mono ?_; rintro e w3 ⟨rfl, hb3⟩; replace hW : Bl w w3 := Bl.a1; replace hX := hX.kp hb3; clear X_l X_0 X_1 X_2 X_3; obtain ⟨X_l, -, X_0, X_1, X_2, X_3⟩ := hX.l4) | (go_at_call 100; refine (spec_l1In _ _ _ _).mono ?_; rintro e w2 ⟨rfl, rfl⟩; rw [g1]) | (go_at_call 100; refine (spec_l1In _ _ _ _).mono ?_; rintro e w2 ⟨rfl, rfl⟩; rw [g2]))
     go_wp2_with fail
     refine ko hK ?_ fun hHeld => ?_
     ·(try dsimp only); first | exact ⟨X_0, X_1, X_2, X_3, (by first | exact t2 | exact hW.cells hT.c2)⟩ | go_keep
     clear hK K
     refine tkO 14 26 ?_
     refine tkO 15 4 ?_
     refine wpAnyH_done (by kernel_rfl) ?_ _
     go_wp2
     go_ret
     exact ⟨ret_bool (by rw [hR.out, g1, g2]; rfl), Bl.a1⟩
 ·have hk1 : (K == 1) = false := by simpa using hk
  rcases hk2 : inR K 2 4
  ·go_enter Tryd.func74, Tryd.ntmps74
   go_wp2_with (first | (go_at_call 100; refine (spec_l1In _ _ _ _).mono ?_; rintro e w2 ⟨rfl, rfl⟩; rw [e1]) | (go_at_call 100; refine (spec_l1In _ _ _ _).mono ?_; rintro e w2 ⟨rfl, rfl⟩; rw [hk2]))
   go_ret
   exact ⟨ret_bool (by unfold mdB; rw [if_neg hk]; dsimp only; rw [e1, hk2]; rfl), Bl.a1⟩
  have hR := Lib.hid (show mdB p ⟨K, A, I, V⟩ = ((I == 0) && (V == 0) && (K != 3 || decide (2 ≤ A))) by unfold mdB; rw [if_neg hk]; dsimp only; rw [e1, hk2]; simp)
  rcases g1 : (I == 0)
  ·go_enter Tryd.func74, Tryd.ntmps74
   go_wp2_with (first | (go_at_call 100; refine (spec_l1In _ _ _ _).mono ?_; rintro e w2 ⟨rfl, rfl⟩; rw [e1]) | (go_at_call 100; refine (spec_l1In _ _ _ _).mono ?_; rintro e w2 ⟨rfl, rfl⟩; rw [hk2]))
   go_ret
   exact ⟨ret_bool (by rw [hR.out, g1]; rfl), Bl.a1⟩
  rcases g2 : (V == 0)
  ·go_enter Tryd.func74, Tryd.ntmps74
   go_wp2_with (first | (go_at_call 100; refine (spec_l1In _ _ _ _).mono ?_; rintro e w2 ⟨rfl, rfl⟩; rw [e1]) | (go_at_call 100; refine (spec_l1In _ _ _ _).mono ?_; rintro e w2 ⟨rfl, rfl⟩; rw [hk2]))
   go_ret
   exact ⟨ret_bool (by rw [hR.out, g1, g2]; rfl), Bl.a1⟩
  rcases g3 : (K == 3)
  ·have g4 := bn_f g3
   go_enter Tryd.func74, Tryd.ntmps74
   go_wp2_with (first | (go_at_call 100; refine (spec_l1In _ _ _ _).mono ?_; rintro e w2 ⟨rfl, rfl⟩; rw [e1]) | (go_at_call 100; refine (spec_l1In _ _ _ _).mono ?_; rintro e w2 ⟨rfl, rfl⟩; rw [hk2]))
   go_ret
   exact ⟨ret_bool (by rw [hR.out, g1, g2, g4]; rfl), Bl.a1⟩
  have g4 := bn_t g3
  by_cases g5 : 2 ≤ A
  all_goals go_enter Tryd.func74, Tryd.ntmps74
  all_goals go_wp2_with (first | (go_at_call 100; refine (spec_l1In _ _ _ _).mono ?_; rintro e w2 ⟨rfl, rfl⟩; rw [e1]) | (go_at_call 100; refine (spec_l1In _ _ _ _).mono ?_; rintro e w2 ⟨rfl, rfl⟩; rw [hk2]))
  all_goals go_ret
  all_goals exact ⟨ret_bool (by rw [hR.out, g1, g2, g4]; simp [g5]), Bl.a1⟩
end Go.Proofs.YtcjpalhclgkjiaaDoor
