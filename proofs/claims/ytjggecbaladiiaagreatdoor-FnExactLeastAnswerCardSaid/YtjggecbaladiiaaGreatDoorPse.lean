/- Contracts of the expected results of a program of the dozen, on both sides.
   Conditions: inputs of the program. -/
import Derived.Test.YtjggecbaladiiaaGreatDoorPsd
import Derived.Test.YtjggecbaladiiaaGreatDoorPrk
namespace Go.Proofs.YtjggecbaladiiaaGreatDoor
open Go.RowKit
set_option linter.unusedVariables false
theorem own_lit (w : World) (l : List Int) {base g : Nat} (hg : w.heap.size = g) (hb : base ≤ g) (hm : l.length ≤ 1000000) : OwnI base (w.alloc (.cells (l.map (Value.int .i64)).toArray 3)) (some ⟨g, 0, none⟩) l.length l.length l := by
  subst hg
  refine ⟨by simp, .inr ⟨w.heap.size, l.length, _, rfl, hb, heap_alloc_new w _, Nat.le_refl _, by unfold maxLen; omega, by simp, ?_⟩⟩
  rw [Nat.mul_one, List.take_of_length_le (by simp)]
  rfl
theorem spec_pgBit (b : Bool) (w : World) : Calls Tryz.prog 92 #[.bool b] w fun e w' => e = .returned (.int .i64 (if b then 1 else 0)) ∧ w = w' := by
  cases b <;> go_enter Tryz.func92, Tryz.ntmps92 <;> go_wp2 <;> go_ret <;> exact ⟨rfl, rfl⟩
theorem spec_l1MostE (x y : Int) (w : World) : Calls Tryz.prog 93 #[.int .i64 x, .int .i64 y] w fun e w' => e = .returned (.int .i64 (max x y)) ∧ w = w' := by
  go_enter Tryz.func93, Tryz.ntmps93
  go_wp2
  all_goals go_ret
  all_goals exact ⟨ret_int (by omega), rfl⟩
theorem spec_l1LeastE (x y : Int) (w : World) : Calls Tryz.prog 53 #[.int .i64 x, .int .i64 y] w fun e w' => e = .returned (.int .i64 (min x y)) ∧ w = w' := by
  go_enter Tryz.func53, Tryz.ntmps53
  go_wp2
  all_goals go_ret
  all_goals exact ⟨ret_int (by omega), rfl⟩
theorem spec_l1AbsE (x : Int) (h : -1000 ≤ x) (h2 : x ≤ 1000) (w : World) : Calls Tryz.prog 94 #[.int .i64 x] w fun e w' => e = .returned (.int .i64 (max x (-x))) ∧ w = w' := by
  go_enter Tryz.func94, Tryz.ntmps94
  go_wp2
  all_goals go_ret
  all_goals exact ⟨ret_int (by omega), rfl⟩
theorem bits_all : ∀ x, x < 16 → ∀ y, y < 16 → 0 ≤ bits .and .i64 (x : Nat) (y : Nat) := by decide +kernel
theorem bits_pos {x y : Int} (hx : 0 ≤ x ∧ x ≤ 15) (hy : 0 ≤ y ∧ y ≤ 15) : 0 ≤ bits .and .i64 x y := by
  obtain ⟨a, rfl⟩ : ∃ a : Nat, x = a := ⟨x.toNat, by omega⟩
  obtain ⟨b, rfl⟩ : ∃ b : Nat, y = b := ⟨y.toNat, by omega⟩
  exact bits_all a (by omega) b (by omega)
/-- The results of a program of the dozen. -/
def exL (k : Nat) (wd x y z : Int) : List Int := match k with
  | 0 => if y < x then [1] else [0]
  | 1 => if x = y then [1] else [0]
  | 2 => [max x y]
  | 3 => [min x y]
  | 4 => [max (x - y) (y - x)]
  | 5 => [max (min x z) (min y (max x z))]
  | 6 => if (bits .and .i64 x y) = 0 then [(bits .and .i64 x y), 0] else [(bits .and .i64 x y), 1]
  | 7 => if x < y then [1, min x y] else [0, min x y]
  | 8 => if 1 < x + z + y then [1] else [0]
  | 9 => [x * y]
  | 10 => if y = 1 then [z, x] else [x, z]
  | _ => [(x + y) % 2 ^ wd.toNat]
set_option maxRecDepth 20000 in
set_option maxHeartbeats 2000000 in
theorem pgE_0 (wd x y : Int) (ad bd : Addr) (c d : Nat) (w : World) (hx : 0 ≤ x ∧ x ≤ 15) (hy : 0 ≤ y ∧ y ≤ 15) (hwd : 1 ≤ wd ∧ wd ≤ 4) (had : ad.block < w.heap.size) (hbd : bd.block < w.heap.size) (c0 : w.cell? ad = some (.int .i64 x)) (c1 : w.cell? bd = some (.int .i64 y)) :
    Calls Tryz.prog 51 #[.int .i64 0, .int .i64 wd, .slice (some ad) 1 c, .slice (some bd) 1 d] w fun e w' => ∃ A n c', e = .returned (.slice A n c') ∧ OwnI w.heap.size w' A n c' (exL 0 wd x y 0) ∧ Bl w w' := by
  by_cases hc : y < x
  · have HE := Lib.hid (show exL 0 wd x y 0 = [1] from if_pos hc)
    skip
    go_enter Tryz.func51, Tryz.ntmps51
    go_wp2_with fail
    refine wp_region_held_drew (S := (fun w' => w'.cell? ad = some (.int .i64 x) ∧ w'.cell? bd = some (.int .i64 y))) (by kernel_rfl) ?_ (fun hHeld => ?_)
    · (try dsimp only); exact ⟨Bl.cells ((Bl.refl _).drew) c0, Bl.cells ((Bl.refl _).drew) c1⟩
    refine held_take (i := 0) (d := 13) (v := ?_) rfl rfl (by kernel_rfl) (by kernel_rfl) (by kernel_rfl) (fun _ _ _ h => h) (Or.inl ⟨by rfl, ?_⟩) (by assumption) ?_
    rotate_left
    · (intro w hSw; (try dsimp only at hSw); go_simp; (try with_reducible rfl))
    (try simp only [List.set_cons_zero, List.set_cons_succ])
    refine held_take (i := 1) (d := 14) (v := ?_) rfl rfl (by kernel_rfl) (by kernel_rfl) (by kernel_rfl) (fun _ _ _ h => h) (Or.inl ⟨by rfl, ?_⟩) (by assumption) ?_
    rotate_left
    · (intro w hSw; (try dsimp only at hSw); go_simp; (try with_reducible rfl))
    (try simp only [List.set_cons_zero, List.set_cons_succ])
    refine held_take (i := 2) (d := 15) (v := ?_) rfl rfl (by kernel_rfl) (by kernel_rfl) (by kernel_rfl) (fun _ _ _ h => h) (Or.inl ⟨by rfl, ?_⟩) (by assumption) ?_
    rotate_left
    · (intro w hSw; (try dsimp only at hSw); go_simp; (try with_reducible rfl))
    (try simp only [List.set_cons_zero, List.set_cons_succ])
    refine held_take (i := 3) (d := 16) (v := ?_) rfl rfl (by kernel_rfl) (by kernel_rfl) (by kernel_rfl) (fun _ _ _ h => h) (Or.inl ⟨by rfl, ?_⟩) (by assumption) ?_
    rotate_left
    · (intro w hSw; (try dsimp only at hSw); go_simp; (try with_reducible rfl))
    (try simp only [List.set_cons_zero, List.set_cons_succ])
    refine held_take (i := 4) (d := 17) (v := ?_) rfl rfl (by kernel_rfl) (by kernel_rfl) (by kernel_rfl) (fun _ _ _ h => h) (Or.inl ⟨by rfl, ?_⟩) (by assumption) ?_
    rotate_left
    · (intro w hSw; (try dsimp only at hSw); go_simp; (try with_reducible rfl))
    (try simp only [List.set_cons_zero, List.set_cons_succ])
    refine held_take (i := 5) (d := 18) (v := ?_) rfl rfl (by kernel_rfl) (by kernel_rfl) (by kernel_rfl) (fun _ _ _ h => h) (Or.inl ⟨by rfl, ?_⟩) (by assumption) ?_
    rotate_left
    · (intro w hSw; (try dsimp only at hSw); go_simp; (try with_reducible rfl))
    (try simp only [List.set_cons_zero, List.set_cons_succ])
    refine held_take (i := 6) (d := 9) (v := ?_) rfl rfl (by kernel_rfl) (by kernel_rfl) (by kernel_rfl) (fun _ _ _ h => h) (Or.inl ⟨by rfl, ?_⟩) (by assumption) ?_
    rotate_left
    · (intro w hSw; (try dsimp only at hSw); go_simp; (try with_reducible rfl))
    (try simp only [List.set_cons_zero, List.set_cons_succ])
    refine held_take (i := 7) (d := 10) (v := ?_) rfl rfl (by kernel_rfl) (by kernel_rfl) (by kernel_rfl) (fun _ _ _ h => h) (Or.inl ⟨by rfl, ?_⟩) (by assumption) ?_
    rotate_left
    · (intro w hSw; (try dsimp only at hSw); go_simp; (try with_reducible rfl))
    (try simp only [List.set_cons_zero, List.set_cons_succ])
    refine wpAnyH_done (by kernel_rfl) ?_ _
    have hV := (Bl.refl w).drew
    replace c0 := Bl.cells ((Bl.refl _).drew) c0
    replace c1 := Bl.cells ((Bl.refl _).drew) c1
    generalize w.drew = v0 at hV c0 c1 ⊢
    have had1 := Nat.lt_of_lt_of_le had hV.sz
    have hbd1 := Nat.lt_of_lt_of_le hbd hV.sz
    go_wp2_with (first | (go_at_call 92; refine (spec_pgBit _ _).mono ?_; rintro e v5 ⟨rfl, rfl⟩) | (go_at_call 93; refine (spec_l1MostE _ _ _).mono ?_; rintro e v5 ⟨rfl, rfl⟩) | (go_at_call 53; refine (spec_l1LeastE _ _ _).mono ?_; rintro e v5 ⟨rfl, rfl⟩) | (go_at_call 94; refine (spec_l1AbsE _ (by omega) (by omega) _).mono ?_; rintro e v5 ⟨rfl, rfl⟩; rw [show -(x - y) = y - x by omega]))
    go_ret
    refine ⟨_, _, _, rfl, ?_, hV.alloc _⟩
    rw [HE.out]
    exact own_lit v0 [1] rfl hV.sz (by simp)
  · have HE := Lib.hid (show exL 0 wd x y 0 = [0] from if_neg hc)
    skip
    go_enter Tryz.func51, Tryz.ntmps51
    go_wp2_with fail
    refine wp_region_held_drew (S := (fun w' => w'.cell? ad = some (.int .i64 x) ∧ w'.cell? bd = some (.int .i64 y))) (by kernel_rfl) ?_ (fun hHeld => ?_)
    · (try dsimp only); exact ⟨Bl.cells ((Bl.refl _).drew) c0, Bl.cells ((Bl.refl _).drew) c1⟩
    refine held_take (i := 0) (d := 13) (v := ?_) rfl rfl (by kernel_rfl) (by kernel_rfl) (by kernel_rfl) (fun _ _ _ h => h) (Or.inl ⟨by rfl, ?_⟩) (by assumption) ?_
    rotate_left
    · (intro w hSw; (try dsimp only at hSw); go_simp; (try with_reducible rfl))
    (try simp only [List.set_cons_zero, List.set_cons_succ])
    refine held_take (i := 1) (d := 14) (v := ?_) rfl rfl (by kernel_rfl) (by kernel_rfl) (by kernel_rfl) (fun _ _ _ h => h) (Or.inl ⟨by rfl, ?_⟩) (by assumption) ?_
    rotate_left
    · (intro w hSw; (try dsimp only at hSw); go_simp; (try with_reducible rfl))
    (try simp only [List.set_cons_zero, List.set_cons_succ])
    refine held_take (i := 2) (d := 15) (v := ?_) rfl rfl (by kernel_rfl) (by kernel_rfl) (by kernel_rfl) (fun _ _ _ h => h) (Or.inl ⟨by rfl, ?_⟩) (by assumption) ?_
    rotate_left
    · (intro w hSw; (try dsimp only at hSw); go_simp; (try with_reducible rfl))
    (try simp only [List.set_cons_zero, List.set_cons_succ])
    refine held_take (i := 3) (d := 16) (v := ?_) rfl rfl (by kernel_rfl) (by kernel_rfl) (by kernel_rfl) (fun _ _ _ h => h) (Or.inl ⟨by rfl, ?_⟩) (by assumption) ?_
    rotate_left
    · (intro w hSw; (try dsimp only at hSw); go_simp; (try with_reducible rfl))
    (try simp only [List.set_cons_zero, List.set_cons_succ])
    refine held_take (i := 4) (d := 17) (v := ?_) rfl rfl (by kernel_rfl) (by kernel_rfl) (by kernel_rfl) (fun _ _ _ h => h) (Or.inl ⟨by rfl, ?_⟩) (by assumption) ?_
    rotate_left
    · (intro w hSw; (try dsimp only at hSw); go_simp; (try with_reducible rfl))
    (try simp only [List.set_cons_zero, List.set_cons_succ])
    refine held_take (i := 5) (d := 18) (v := ?_) rfl rfl (by kernel_rfl) (by kernel_rfl) (by kernel_rfl) (fun _ _ _ h => h) (Or.inl ⟨by rfl, ?_⟩) (by assumption) ?_
    rotate_left
    · (intro w hSw; (try dsimp only at hSw); go_simp; (try with_reducible rfl))
    (try simp only [List.set_cons_zero, List.set_cons_succ])
    refine held_take (i := 6) (d := 9) (v := ?_) rfl rfl (by kernel_rfl) (by kernel_rfl) (by kernel_rfl) (fun _ _ _ h => h) (Or.inl ⟨by rfl, ?_⟩) (by assumption) ?_
    rotate_left
    · (intro w hSw; (try dsimp only at hSw); go_simp; (try with_reducible rfl))
    (try simp only [List.set_cons_zero, List.set_cons_succ])
    refine held_take (i := 7) (d := 10) (v := ?_) rfl rfl (by kernel_rfl) (by kernel_rfl) (by kernel_rfl) (fun _ _ _ h => h) (Or.inl ⟨by rfl, ?_⟩) (by assumption) ?_
    rotate_left
    · (intro w hSw; (try dsimp only at hSw); go_simp; (try with_reducible rfl))
    (try simp only [List.set_cons_zero, List.set_cons_succ])
    refine wpAnyH_done (by kernel_rfl) ?_ _
    have hV := (Bl.refl w).drew
    replace c0 := Bl.cells ((Bl.refl _).drew) c0
    replace c1 := Bl.cells ((Bl.refl _).drew) c1
    generalize w.drew = v0 at hV c0 c1 ⊢
    have had1 := Nat.lt_of_lt_of_le had hV.sz
    have hbd1 := Nat.lt_of_lt_of_le hbd hV.sz
    go_wp2_with (first | (go_at_call 92; refine (spec_pgBit _ _).mono ?_; rintro e v5 ⟨rfl, rfl⟩) | (go_at_call 93; refine (spec_l1MostE _ _ _).mono ?_; rintro e v5 ⟨rfl, rfl⟩) | (go_at_call 53; refine (spec_l1LeastE _ _ _).mono ?_; rintro e v5 ⟨rfl, rfl⟩) | (go_at_call 94; refine (spec_l1AbsE _ (by omega) (by omega) _).mono ?_; rintro e v5 ⟨rfl, rfl⟩; rw [show -(x - y) = y - x by omega]))
    go_ret
    refine ⟨_, _, _, rfl, ?_, hV.alloc _⟩
    rw [HE.out]
    exact own_lit v0 [0] rfl hV.sz (by simp)
set_option maxRecDepth 20000 in
set_option maxHeartbeats 2000000 in
theorem pgE_1 (wd x y : Int) (ad bd : Addr) (c d : Nat) (w : World) (hx : 0 ≤ x ∧ x ≤ 15) (hy : 0 ≤ y ∧ y ≤ 15) (hwd : 1 ≤ wd ∧ wd ≤ 4) (had : ad.block < w.heap.size) (hbd : bd.block < w.heap.size) (c0 : w.cell? ad = some (.int .i64 x)) (c1 : w.cell? bd = some (.int .i64 y)) :
    Calls Tryz.prog 51 #[.int .i64 1, .int .i64 wd, .slice (some ad) 1 c, .slice (some bd) 1 d] w fun e w' => ∃ A n c', e = .returned (.slice A n c') ∧ OwnI w.heap.size w' A n c' (exL 1 wd x y 0) ∧ Bl w w' := by
  by_cases hc : x = y
  · have HE := Lib.hid (show exL 1 wd x y 0 = [1] from if_pos hc)
    have e1 : (x == y) = true := by simpa using hc
    clear hc
    go_enter Tryz.func51, Tryz.ntmps51
    go_wp2_with fail
    refine wp_region_held_drew (S := (fun w' => w'.cell? ad = some (.int .i64 x) ∧ w'.cell? bd = some (.int .i64 y))) (by kernel_rfl) ?_ (fun hHeld => ?_)
    · (try dsimp only); exact ⟨Bl.cells ((Bl.refl _).drew) c0, Bl.cells ((Bl.refl _).drew) c1⟩
    refine held_take (i := 0) (d := 13) (v := ?_) rfl rfl (by kernel_rfl) (by kernel_rfl) (by kernel_rfl) (fun _ _ _ h => h) (Or.inl ⟨by rfl, ?_⟩) (by assumption) ?_
    rotate_left
    · (intro w hSw; (try dsimp only at hSw); go_simp; (try with_reducible rfl))
    (try simp only [List.set_cons_zero, List.set_cons_succ])
    refine held_take (i := 1) (d := 14) (v := ?_) rfl rfl (by kernel_rfl) (by kernel_rfl) (by kernel_rfl) (fun _ _ _ h => h) (Or.inl ⟨by rfl, ?_⟩) (by assumption) ?_
    rotate_left
    · (intro w hSw; (try dsimp only at hSw); go_simp; (try with_reducible rfl))
    (try simp only [List.set_cons_zero, List.set_cons_succ])
    refine held_take (i := 2) (d := 15) (v := ?_) rfl rfl (by kernel_rfl) (by kernel_rfl) (by kernel_rfl) (fun _ _ _ h => h) (Or.inl ⟨by rfl, ?_⟩) (by assumption) ?_
    rotate_left
    · (intro w hSw; (try dsimp only at hSw); go_simp; (try with_reducible rfl))
    (try simp only [List.set_cons_zero, List.set_cons_succ])
    refine held_take (i := 3) (d := 16) (v := ?_) rfl rfl (by kernel_rfl) (by kernel_rfl) (by kernel_rfl) (fun _ _ _ h => h) (Or.inl ⟨by rfl, ?_⟩) (by assumption) ?_
    rotate_left
    · (intro w hSw; (try dsimp only at hSw); go_simp; (try with_reducible rfl))
    (try simp only [List.set_cons_zero, List.set_cons_succ])
    refine held_take (i := 4) (d := 17) (v := ?_) rfl rfl (by kernel_rfl) (by kernel_rfl) (by kernel_rfl) (fun _ _ _ h => h) (Or.inl ⟨by rfl, ?_⟩) (by assumption) ?_
    rotate_left
    · (intro w hSw; (try dsimp only at hSw); go_simp; (try with_reducible rfl))
    (try simp only [List.set_cons_zero, List.set_cons_succ])
    refine held_take (i := 5) (d := 18) (v := ?_) rfl rfl (by kernel_rfl) (by kernel_rfl) (by kernel_rfl) (fun _ _ _ h => h) (Or.inl ⟨by rfl, ?_⟩) (by assumption) ?_
    rotate_left
    · (intro w hSw; (try dsimp only at hSw); go_simp; (try with_reducible rfl))
    (try simp only [List.set_cons_zero, List.set_cons_succ])
    refine held_take (i := 6) (d := 9) (v := ?_) rfl rfl (by kernel_rfl) (by kernel_rfl) (by kernel_rfl) (fun _ _ _ h => h) (Or.inl ⟨by rfl, ?_⟩) (by assumption) ?_
    rotate_left
    · (intro w hSw; (try dsimp only at hSw); go_simp; (try with_reducible rfl))
    (try simp only [List.set_cons_zero, List.set_cons_succ])
    refine held_take (i := 7) (d := 10) (v := ?_) rfl rfl (by kernel_rfl) (by kernel_rfl) (by kernel_rfl) (fun _ _ _ h => h) (Or.inl ⟨by rfl, ?_⟩) (by assumption) ?_
    rotate_left
    · (intro w hSw; (try dsimp only at hSw); go_simp; (try with_reducible rfl))
    (try simp only [List.set_cons_zero, List.set_cons_succ])
    refine wpAnyH_done (by kernel_rfl) ?_ _
    have hV := (Bl.refl w).drew
    replace c0 := Bl.cells ((Bl.refl _).drew) c0
    replace c1 := Bl.cells ((Bl.refl _).drew) c1
    generalize w.drew = v0 at hV c0 c1 ⊢
    have had1 := Nat.lt_of_lt_of_le had hV.sz
    have hbd1 := Nat.lt_of_lt_of_le hbd hV.sz
    go_wp2_with (first | (go_at_call 92; refine (spec_pgBit _ _).mono ?_; rintro e v5 ⟨rfl, rfl⟩) | (go_at_call 93; refine (spec_l1MostE _ _ _).mono ?_; rintro e v5 ⟨rfl, rfl⟩) | (go_at_call 53; refine (spec_l1LeastE _ _ _).mono ?_; rintro e v5 ⟨rfl, rfl⟩) | (go_at_call 94; refine (spec_l1AbsE _ (by omega) (by omega) _).mono ?_; rintro e v5 ⟨rfl, rfl⟩; rw [show -(x - y) = y - x by omega]))
    go_ret
    refine ⟨_, _, _, rfl, ?_, hV.alloc _⟩
    rw [HE.out]
    exact own_lit v0 [1] rfl hV.sz (by simp)
  · have HE := Lib.hid (show exL 1 wd x y 0 = [0] from if_neg hc)
    have e1 : (x == y) = false := by simpa using hc
    clear hc
    go_enter Tryz.func51, Tryz.ntmps51
    go_wp2_with fail
    refine wp_region_held_drew (S := (fun w' => w'.cell? ad = some (.int .i64 x) ∧ w'.cell? bd = some (.int .i64 y))) (by kernel_rfl) ?_ (fun hHeld => ?_)
    · (try dsimp only); exact ⟨Bl.cells ((Bl.refl _).drew) c0, Bl.cells ((Bl.refl _).drew) c1⟩
    refine held_take (i := 0) (d := 13) (v := ?_) rfl rfl (by kernel_rfl) (by kernel_rfl) (by kernel_rfl) (fun _ _ _ h => h) (Or.inl ⟨by rfl, ?_⟩) (by assumption) ?_
    rotate_left
    · (intro w hSw; (try dsimp only at hSw); go_simp; (try with_reducible rfl))
    (try simp only [List.set_cons_zero, List.set_cons_succ])
    refine held_take (i := 1) (d := 14) (v := ?_) rfl rfl (by kernel_rfl) (by kernel_rfl) (by kernel_rfl) (fun _ _ _ h => h) (Or.inl ⟨by rfl, ?_⟩) (by assumption) ?_
    rotate_left
    · (intro w hSw; (try dsimp only at hSw); go_simp; (try with_reducible rfl))
    (try simp only [List.set_cons_zero, List.set_cons_succ])
    refine held_take (i := 2) (d := 15) (v := ?_) rfl rfl (by kernel_rfl) (by kernel_rfl) (by kernel_rfl) (fun _ _ _ h => h) (Or.inl ⟨by rfl, ?_⟩) (by assumption) ?_
    rotate_left
    · (intro w hSw; (try dsimp only at hSw); go_simp; (try with_reducible rfl))
    (try simp only [List.set_cons_zero, List.set_cons_succ])
    refine held_take (i := 3) (d := 16) (v := ?_) rfl rfl (by kernel_rfl) (by kernel_rfl) (by kernel_rfl) (fun _ _ _ h => h) (Or.inl ⟨by rfl, ?_⟩) (by assumption) ?_
    rotate_left
    · (intro w hSw; (try dsimp only at hSw); go_simp; (try with_reducible rfl))
    (try simp only [List.set_cons_zero, List.set_cons_succ])
    refine held_take (i := 4) (d := 17) (v := ?_) rfl rfl (by kernel_rfl) (by kernel_rfl) (by kernel_rfl) (fun _ _ _ h => h) (Or.inl ⟨by rfl, ?_⟩) (by assumption) ?_
    rotate_left
    · (intro w hSw; (try dsimp only at hSw); go_simp; (try with_reducible rfl))
    (try simp only [List.set_cons_zero, List.set_cons_succ])
    refine held_take (i := 5) (d := 18) (v := ?_) rfl rfl (by kernel_rfl) (by kernel_rfl) (by kernel_rfl) (fun _ _ _ h => h) (Or.inl ⟨by rfl, ?_⟩) (by assumption) ?_
    rotate_left
    · (intro w hSw; (try dsimp only at hSw); go_simp; (try with_reducible rfl))
    (try simp only [List.set_cons_zero, List.set_cons_succ])
    refine held_take (i := 6) (d := 9) (v := ?_) rfl rfl (by kernel_rfl) (by kernel_rfl) (by kernel_rfl) (fun _ _ _ h => h) (Or.inl ⟨by rfl, ?_⟩) (by assumption) ?_
    rotate_left
    · (intro w hSw; (try dsimp only at hSw); go_simp; (try with_reducible rfl))
    (try simp only [List.set_cons_zero, List.set_cons_succ])
    refine held_take (i := 7) (d := 10) (v := ?_) rfl rfl (by kernel_rfl) (by kernel_rfl) (by kernel_rfl) (fun _ _ _ h => h) (Or.inl ⟨by rfl, ?_⟩) (by assumption) ?_
    rotate_left
    · (intro w hSw; (try dsimp only at hSw); go_simp; (try with_reducible rfl))
    (try simp only [List.set_cons_zero, List.set_cons_succ])
    refine wpAnyH_done (by kernel_rfl) ?_ _
    have hV := (Bl.refl w).drew
    replace c0 := Bl.cells ((Bl.refl _).drew) c0
    replace c1 := Bl.cells ((Bl.refl _).drew) c1
    generalize w.drew = v0 at hV c0 c1 ⊢
    have had1 := Nat.lt_of_lt_of_le had hV.sz
    have hbd1 := Nat.lt_of_lt_of_le hbd hV.sz
    go_wp2_with (first | (go_at_call 92; refine (spec_pgBit _ _).mono ?_; rintro e v5 ⟨rfl, rfl⟩) | (go_at_call 93; refine (spec_l1MostE _ _ _).mono ?_; rintro e v5 ⟨rfl, rfl⟩) | (go_at_call 53; refine (spec_l1LeastE _ _ _).mono ?_; rintro e v5 ⟨rfl, rfl⟩) | (go_at_call 94; refine (spec_l1AbsE _ (by omega) (by omega) _).mono ?_; rintro e v5 ⟨rfl, rfl⟩; rw [show -(x - y) = y - x by omega]))
    go_ret
    refine ⟨_, _, _, rfl, ?_, hV.alloc _⟩
    rw [HE.out]
    exact own_lit v0 [0] rfl hV.sz (by simp)
set_option maxRecDepth 20000 in
set_option maxHeartbeats 2000000 in
theorem pgE_2 (wd x y : Int) (ad bd : Addr) (c d : Nat) (w : World) (hx : 0 ≤ x ∧ x ≤ 15) (hy : 0 ≤ y ∧ y ≤ 15) (hwd : 1 ≤ wd ∧ wd ≤ 4) (had : ad.block < w.heap.size) (hbd : bd.block < w.heap.size) (c0 : w.cell? ad = some (.int .i64 x)) (c1 : w.cell? bd = some (.int .i64 y)) :
    Calls Tryz.prog 51 #[.int .i64 2, .int .i64 wd, .slice (some ad) 1 c, .slice (some bd) 1 d] w fun e w' => ∃ A n c', e = .returned (.slice A n c') ∧ OwnI w.heap.size w' A n c' (exL 2 wd x y 0) ∧ Bl w w' := by
  have HE := Lib.hid (show exL 2 wd x y 0 = [max x y] from rfl)
  go_enter Tryz.func51, Tryz.ntmps51
  go_wp2_with fail
  refine wp_region_held_drew (S := (fun w' => w'.cell? ad = some (.int .i64 x) ∧ w'.cell? bd = some (.int .i64 y))) (by kernel_rfl) ?_ (fun hHeld => ?_)
  · (try dsimp only); exact ⟨Bl.cells ((Bl.refl _).drew) c0, Bl.cells ((Bl.refl _).drew) c1⟩
  refine held_take (i := 0) (d := 13) (v := ?_) rfl rfl (by kernel_rfl) (by kernel_rfl) (by kernel_rfl) (fun _ _ _ h => h) (Or.inl ⟨by rfl, ?_⟩) (by assumption) ?_
  rotate_left
  · (intro w hSw; (try dsimp only at hSw); go_simp; (try with_reducible rfl))
  (try simp only [List.set_cons_zero, List.set_cons_succ])
  refine held_take (i := 1) (d := 14) (v := ?_) rfl rfl (by kernel_rfl) (by kernel_rfl) (by kernel_rfl) (fun _ _ _ h => h) (Or.inl ⟨by rfl, ?_⟩) (by assumption) ?_
  rotate_left
  · (intro w hSw; (try dsimp only at hSw); go_simp; (try with_reducible rfl))
  (try simp only [List.set_cons_zero, List.set_cons_succ])
  refine held_take (i := 2) (d := 15) (v := ?_) rfl rfl (by kernel_rfl) (by kernel_rfl) (by kernel_rfl) (fun _ _ _ h => h) (Or.inl ⟨by rfl, ?_⟩) (by assumption) ?_
  rotate_left
  · (intro w hSw; (try dsimp only at hSw); go_simp; (try with_reducible rfl))
  (try simp only [List.set_cons_zero, List.set_cons_succ])
  refine held_take (i := 3) (d := 16) (v := ?_) rfl rfl (by kernel_rfl) (by kernel_rfl) (by kernel_rfl) (fun _ _ _ h => h) (Or.inl ⟨by rfl, ?_⟩) (by assumption) ?_
  rotate_left
  · (intro w hSw; (try dsimp only at hSw); go_simp; (try with_reducible rfl))
  (try simp only [List.set_cons_zero, List.set_cons_succ])
  refine held_take (i := 4) (d := 17) (v := ?_) rfl rfl (by kernel_rfl) (by kernel_rfl) (by kernel_rfl) (fun _ _ _ h => h) (Or.inl ⟨by rfl, ?_⟩) (by assumption) ?_
  rotate_left
  · (intro w hSw; (try dsimp only at hSw); go_simp; (try with_reducible rfl))
  (try simp only [List.set_cons_zero, List.set_cons_succ])
  refine held_take (i := 5) (d := 18) (v := ?_) rfl rfl (by kernel_rfl) (by kernel_rfl) (by kernel_rfl) (fun _ _ _ h => h) (Or.inl ⟨by rfl, ?_⟩) (by assumption) ?_
  rotate_left
  · (intro w hSw; (try dsimp only at hSw); go_simp; (try with_reducible rfl))
  (try simp only [List.set_cons_zero, List.set_cons_succ])
  refine held_take (i := 6) (d := 9) (v := ?_) rfl rfl (by kernel_rfl) (by kernel_rfl) (by kernel_rfl) (fun _ _ _ h => h) (Or.inl ⟨by rfl, ?_⟩) (by assumption) ?_
  rotate_left
  · (intro w hSw; (try dsimp only at hSw); go_simp; (try with_reducible rfl))
  (try simp only [List.set_cons_zero, List.set_cons_succ])
  refine held_take (i := 7) (d := 10) (v := ?_) rfl rfl (by kernel_rfl) (by kernel_rfl) (by kernel_rfl) (fun _ _ _ h => h) (Or.inl ⟨by rfl, ?_⟩) (by assumption) ?_
  rotate_left
  · (intro w hSw; (try dsimp only at hSw); go_simp; (try with_reducible rfl))
  (try simp only [List.set_cons_zero, List.set_cons_succ])
  refine wpAnyH_done (by kernel_rfl) ?_ _
  have hV := (Bl.refl w).drew
  replace c0 := Bl.cells ((Bl.refl _).drew) c0
  replace c1 := Bl.cells ((Bl.refl _).drew) c1
  generalize w.drew = v0 at hV c0 c1 ⊢
  have had1 := Nat.lt_of_lt_of_le had hV.sz
  have hbd1 := Nat.lt_of_lt_of_le hbd hV.sz
  go_wp2_with (first | (go_at_call 92; refine (spec_pgBit _ _).mono ?_; rintro e v5 ⟨rfl, rfl⟩) | (go_at_call 93; refine (spec_l1MostE _ _ _).mono ?_; rintro e v5 ⟨rfl, rfl⟩) | (go_at_call 53; refine (spec_l1LeastE _ _ _).mono ?_; rintro e v5 ⟨rfl, rfl⟩) | (go_at_call 94; refine (spec_l1AbsE _ (by omega) (by omega) _).mono ?_; rintro e v5 ⟨rfl, rfl⟩; rw [show -(x - y) = y - x by omega]))
  go_ret
  refine ⟨_, _, _, rfl, ?_, hV.alloc _⟩
  rw [HE.out]
  exact own_lit v0 [max x y] rfl hV.sz (by simp)
set_option maxRecDepth 20000 in
set_option maxHeartbeats 2000000 in
theorem pgE_3 (wd x y : Int) (ad bd : Addr) (c d : Nat) (w : World) (hx : 0 ≤ x ∧ x ≤ 15) (hy : 0 ≤ y ∧ y ≤ 15) (hwd : 1 ≤ wd ∧ wd ≤ 4) (had : ad.block < w.heap.size) (hbd : bd.block < w.heap.size) (c0 : w.cell? ad = some (.int .i64 x)) (c1 : w.cell? bd = some (.int .i64 y)) :
    Calls Tryz.prog 51 #[.int .i64 3, .int .i64 wd, .slice (some ad) 1 c, .slice (some bd) 1 d] w fun e w' => ∃ A n c', e = .returned (.slice A n c') ∧ OwnI w.heap.size w' A n c' (exL 3 wd x y 0) ∧ Bl w w' := by
  have HE := Lib.hid (show exL 3 wd x y 0 = [min x y] from rfl)
  go_enter Tryz.func51, Tryz.ntmps51
  go_wp2_with fail
  refine wp_region_held_drew (S := (fun w' => w'.cell? ad = some (.int .i64 x) ∧ w'.cell? bd = some (.int .i64 y))) (by kernel_rfl) ?_ (fun hHeld => ?_)
  · (try dsimp only); exact ⟨Bl.cells ((Bl.refl _).drew) c0, Bl.cells ((Bl.refl _).drew) c1⟩
  refine held_take (i := 0) (d := 13) (v := ?_) rfl rfl (by kernel_rfl) (by kernel_rfl) (by kernel_rfl) (fun _ _ _ h => h) (Or.inl ⟨by rfl, ?_⟩) (by assumption) ?_
  rotate_left
  · (intro w hSw; (try dsimp only at hSw); go_simp; (try with_reducible rfl))
  (try simp only [List.set_cons_zero, List.set_cons_succ])
  refine held_take (i := 1) (d := 14) (v := ?_) rfl rfl (by kernel_rfl) (by kernel_rfl) (by kernel_rfl) (fun _ _ _ h => h) (Or.inl ⟨by rfl, ?_⟩) (by assumption) ?_
  rotate_left
  · (intro w hSw; (try dsimp only at hSw); go_simp; (try with_reducible rfl))
  (try simp only [List.set_cons_zero, List.set_cons_succ])
  refine held_take (i := 2) (d := 15) (v := ?_) rfl rfl (by kernel_rfl) (by kernel_rfl) (by kernel_rfl) (fun _ _ _ h => h) (Or.inl ⟨by rfl, ?_⟩) (by assumption) ?_
  rotate_left
  · (intro w hSw; (try dsimp only at hSw); go_simp; (try with_reducible rfl))
  (try simp only [List.set_cons_zero, List.set_cons_succ])
  refine held_take (i := 3) (d := 16) (v := ?_) rfl rfl (by kernel_rfl) (by kernel_rfl) (by kernel_rfl) (fun _ _ _ h => h) (Or.inl ⟨by rfl, ?_⟩) (by assumption) ?_
  rotate_left
  · (intro w hSw; (try dsimp only at hSw); go_simp; (try with_reducible rfl))
  (try simp only [List.set_cons_zero, List.set_cons_succ])
  refine held_take (i := 4) (d := 17) (v := ?_) rfl rfl (by kernel_rfl) (by kernel_rfl) (by kernel_rfl) (fun _ _ _ h => h) (Or.inl ⟨by rfl, ?_⟩) (by assumption) ?_
  rotate_left
  · (intro w hSw; (try dsimp only at hSw); go_simp; (try with_reducible rfl))
  (try simp only [List.set_cons_zero, List.set_cons_succ])
  refine held_take (i := 5) (d := 18) (v := ?_) rfl rfl (by kernel_rfl) (by kernel_rfl) (by kernel_rfl) (fun _ _ _ h => h) (Or.inl ⟨by rfl, ?_⟩) (by assumption) ?_
  rotate_left
  · (intro w hSw; (try dsimp only at hSw); go_simp; (try with_reducible rfl))
  (try simp only [List.set_cons_zero, List.set_cons_succ])
  refine held_take (i := 6) (d := 9) (v := ?_) rfl rfl (by kernel_rfl) (by kernel_rfl) (by kernel_rfl) (fun _ _ _ h => h) (Or.inl ⟨by rfl, ?_⟩) (by assumption) ?_
  rotate_left
  · (intro w hSw; (try dsimp only at hSw); go_simp; (try with_reducible rfl))
  (try simp only [List.set_cons_zero, List.set_cons_succ])
  refine held_take (i := 7) (d := 10) (v := ?_) rfl rfl (by kernel_rfl) (by kernel_rfl) (by kernel_rfl) (fun _ _ _ h => h) (Or.inl ⟨by rfl, ?_⟩) (by assumption) ?_
  rotate_left
  · (intro w hSw; (try dsimp only at hSw); go_simp; (try with_reducible rfl))
  (try simp only [List.set_cons_zero, List.set_cons_succ])
  refine wpAnyH_done (by kernel_rfl) ?_ _
  have hV := (Bl.refl w).drew
  replace c0 := Bl.cells ((Bl.refl _).drew) c0
  replace c1 := Bl.cells ((Bl.refl _).drew) c1
  generalize w.drew = v0 at hV c0 c1 ⊢
  have had1 := Nat.lt_of_lt_of_le had hV.sz
  have hbd1 := Nat.lt_of_lt_of_le hbd hV.sz
  go_wp2_with (first | (go_at_call 92; refine (spec_pgBit _ _).mono ?_; rintro e v5 ⟨rfl, rfl⟩) | (go_at_call 93; refine (spec_l1MostE _ _ _).mono ?_; rintro e v5 ⟨rfl, rfl⟩) | (go_at_call 53; refine (spec_l1LeastE _ _ _).mono ?_; rintro e v5 ⟨rfl, rfl⟩) | (go_at_call 94; refine (spec_l1AbsE _ (by omega) (by omega) _).mono ?_; rintro e v5 ⟨rfl, rfl⟩; rw [show -(x - y) = y - x by omega]))
  go_ret
  refine ⟨_, _, _, rfl, ?_, hV.alloc _⟩
  rw [HE.out]
  exact own_lit v0 [min x y] rfl hV.sz (by simp)
set_option maxRecDepth 20000 in
set_option maxHeartbeats 2000000 in
theorem pgE_4 (wd x y : Int) (ad bd : Addr) (c d : Nat) (w : World) (hx : 0 ≤ x ∧ x ≤ 15) (hy : 0 ≤ y ∧ y ≤ 15) (hwd : 1 ≤ wd ∧ wd ≤ 4) (had : ad.block < w.heap.size) (hbd : bd.block < w.heap.size) (c0 : w.cell? ad = some (.int .i64 x)) (c1 : w.cell? bd = some (.int .i64 y)) :
    Calls Tryz.prog 51 #[.int .i64 4, .int .i64 wd, .slice (some ad) 1 c, .slice (some bd) 1 d] w fun e w' => ∃ A n c', e = .returned (.slice A n c') ∧ OwnI w.heap.size w' A n c' (exL 4 wd x y 0) ∧ Bl w w' := by
  have HE := Lib.hid (show exL 4 wd x y 0 = [max (x - y) (y - x)] from rfl)
  go_enter Tryz.func51, Tryz.ntmps51
  go_wp2_with fail
  refine wp_region_held_drew (S := (fun w' => w'.cell? ad = some (.int .i64 x) ∧ w'.cell? bd = some (.int .i64 y))) (by kernel_rfl) ?_ (fun hHeld => ?_)
  · (try dsimp only); exact ⟨Bl.cells ((Bl.refl _).drew) c0, Bl.cells ((Bl.refl _).drew) c1⟩
  refine held_take (i := 0) (d := 13) (v := ?_) rfl rfl (by kernel_rfl) (by kernel_rfl) (by kernel_rfl) (fun _ _ _ h => h) (Or.inl ⟨by rfl, ?_⟩) (by assumption) ?_
  rotate_left
  · (intro w hSw; (try dsimp only at hSw); go_simp; (try with_reducible rfl))
  (try simp only [List.set_cons_zero, List.set_cons_succ])
  refine held_take (i := 1) (d := 14) (v := ?_) rfl rfl (by kernel_rfl) (by kernel_rfl) (by kernel_rfl) (fun _ _ _ h => h) (Or.inl ⟨by rfl, ?_⟩) (by assumption) ?_
  rotate_left
  · (intro w hSw; (try dsimp only at hSw); go_simp; (try with_reducible rfl))
  (try simp only [List.set_cons_zero, List.set_cons_succ])
  refine held_take (i := 2) (d := 15) (v := ?_) rfl rfl (by kernel_rfl) (by kernel_rfl) (by kernel_rfl) (fun _ _ _ h => h) (Or.inl ⟨by rfl, ?_⟩) (by assumption) ?_
  rotate_left
  · (intro w hSw; (try dsimp only at hSw); go_simp; (try with_reducible rfl))
  (try simp only [List.set_cons_zero, List.set_cons_succ])
  refine held_take (i := 3) (d := 16) (v := ?_) rfl rfl (by kernel_rfl) (by kernel_rfl) (by kernel_rfl) (fun _ _ _ h => h) (Or.inl ⟨by rfl, ?_⟩) (by assumption) ?_
  rotate_left
  · (intro w hSw; (try dsimp only at hSw); go_simp; (try with_reducible rfl))
  (try simp only [List.set_cons_zero, List.set_cons_succ])
  refine held_take (i := 4) (d := 17) (v := ?_) rfl rfl (by kernel_rfl) (by kernel_rfl) (by kernel_rfl) (fun _ _ _ h => h) (Or.inl ⟨by rfl, ?_⟩) (by assumption) ?_
  rotate_left
  · (intro w hSw; (try dsimp only at hSw); go_simp; (try with_reducible rfl))
  (try simp only [List.set_cons_zero, List.set_cons_succ])
  refine held_take (i := 5) (d := 18) (v := ?_) rfl rfl (by kernel_rfl) (by kernel_rfl) (by kernel_rfl) (fun _ _ _ h => h) (Or.inl ⟨by rfl, ?_⟩) (by assumption) ?_
  rotate_left
  · (intro w hSw; (try dsimp only at hSw); go_simp; (try with_reducible rfl))
  (try simp only [List.set_cons_zero, List.set_cons_succ])
  refine held_take (i := 6) (d := 9) (v := ?_) rfl rfl (by kernel_rfl) (by kernel_rfl) (by kernel_rfl) (fun _ _ _ h => h) (Or.inl ⟨by rfl, ?_⟩) (by assumption) ?_
  rotate_left
  · (intro w hSw; (try dsimp only at hSw); go_simp; (try with_reducible rfl))
  (try simp only [List.set_cons_zero, List.set_cons_succ])
  refine held_take (i := 7) (d := 10) (v := ?_) rfl rfl (by kernel_rfl) (by kernel_rfl) (by kernel_rfl) (fun _ _ _ h => h) (Or.inl ⟨by rfl, ?_⟩) (by assumption) ?_
  rotate_left
  · (intro w hSw; (try dsimp only at hSw); go_simp; (try with_reducible rfl))
  (try simp only [List.set_cons_zero, List.set_cons_succ])
  refine wpAnyH_done (by kernel_rfl) ?_ _
  have hV := (Bl.refl w).drew
  replace c0 := Bl.cells ((Bl.refl _).drew) c0
  replace c1 := Bl.cells ((Bl.refl _).drew) c1
  generalize w.drew = v0 at hV c0 c1 ⊢
  have had1 := Nat.lt_of_lt_of_le had hV.sz
  have hbd1 := Nat.lt_of_lt_of_le hbd hV.sz
  go_wp2_with (first | (go_at_call 92; refine (spec_pgBit _ _).mono ?_; rintro e v5 ⟨rfl, rfl⟩) | (go_at_call 93; refine (spec_l1MostE _ _ _).mono ?_; rintro e v5 ⟨rfl, rfl⟩) | (go_at_call 53; refine (spec_l1LeastE _ _ _).mono ?_; rintro e v5 ⟨rfl, rfl⟩) | (go_at_call 94; refine (spec_l1AbsE _ (by omega) (by omega) _).mono ?_; rintro e v5 ⟨rfl, rfl⟩; rw [show -(x - y) = y - x by omega]))
  go_ret
  refine ⟨_, _, _, rfl, ?_, hV.alloc _⟩
  rw [HE.out]
  exact own_lit v0 [max (x - y) (y - x)] rfl hV.sz (by simp)
set_option maxRecDepth 20000 in
set_option maxHeartbeats 2000000 in
theorem pgE_5 (wd x y z : Int) (ad bd : Addr) (c d : Nat) (w : World) (hx : 0 ≤ x ∧ x ≤ 15) (hy : 0 ≤ y ∧ y ≤ 15) (hz : 0 ≤ z ∧ z ≤ 15) (hwd : 1 ≤ wd ∧ wd ≤ 4) (had : ad.block < w.heap.size) (hbd : bd.block < w.heap.size) (c0 : w.cell? ad = some (.int .i64 x)) (c1 : w.cell? bd = some (.int .i64 y)) (hcc : 2 ≤ c) (c2 : w.cell? ⟨ad.block, ad.off + 1, none⟩ = some (.int .i64 z)) :
    Calls Tryz.prog 51 #[.int .i64 5, .int .i64 wd, .slice (some ad) 2 c, .slice (some bd) 1 d] w fun e w' => ∃ A n c', e = .returned (.slice A n c') ∧ OwnI w.heap.size w' A n c' (exL 5 wd x y z) ∧ Bl w w' := by
  have HE := Lib.hid (show exL 5 wd x y z = [max (min x z) (min y (max x z))] from rfl)
  go_enter Tryz.func51, Tryz.ntmps51
  go_wp2_with fail
  refine wp_region_held_drew (S := (fun w' => w'.cell? ad = some (.int .i64 x) ∧ w'.cell? bd = some (.int .i64 y))) (by kernel_rfl) ?_ (fun hHeld => ?_)
  · (try dsimp only); exact ⟨Bl.cells ((Bl.refl _).drew) c0, Bl.cells ((Bl.refl _).drew) c1⟩
  refine held_take (i := 0) (d := 13) (v := ?_) rfl rfl (by kernel_rfl) (by kernel_rfl) (by kernel_rfl) (fun _ _ _ h => h) (Or.inl ⟨by rfl, ?_⟩) (by assumption) ?_
  rotate_left
  · (intro w hSw; (try dsimp only at hSw); go_simp; (try with_reducible rfl))
  (try simp only [List.set_cons_zero, List.set_cons_succ])
  refine held_take (i := 1) (d := 14) (v := ?_) rfl rfl (by kernel_rfl) (by kernel_rfl) (by kernel_rfl) (fun _ _ _ h => h) (Or.inl ⟨by rfl, ?_⟩) (by assumption) ?_
  rotate_left
  · (intro w hSw; (try dsimp only at hSw); go_simp; (try with_reducible rfl))
  (try simp only [List.set_cons_zero, List.set_cons_succ])
  refine held_take (i := 2) (d := 15) (v := ?_) rfl rfl (by kernel_rfl) (by kernel_rfl) (by kernel_rfl) (fun _ _ _ h => h) (Or.inl ⟨by rfl, ?_⟩) (by assumption) ?_
  rotate_left
  · (intro w hSw; (try dsimp only at hSw); go_simp; (try with_reducible rfl))
  (try simp only [List.set_cons_zero, List.set_cons_succ])
  refine held_take (i := 3) (d := 16) (v := ?_) rfl rfl (by kernel_rfl) (by kernel_rfl) (by kernel_rfl) (fun _ _ _ h => h) (Or.inl ⟨by rfl, ?_⟩) (by assumption) ?_
  rotate_left
  · (intro w hSw; (try dsimp only at hSw); go_simp; (try with_reducible rfl))
  (try simp only [List.set_cons_zero, List.set_cons_succ])
  refine held_take (i := 4) (d := 17) (v := ?_) rfl rfl (by kernel_rfl) (by kernel_rfl) (by kernel_rfl) (fun _ _ _ h => h) (Or.inl ⟨by rfl, ?_⟩) (by assumption) ?_
  rotate_left
  · (intro w hSw; (try dsimp only at hSw); go_simp; (try with_reducible rfl))
  (try simp only [List.set_cons_zero, List.set_cons_succ])
  refine held_take (i := 5) (d := 18) (v := ?_) rfl rfl (by kernel_rfl) (by kernel_rfl) (by kernel_rfl) (fun _ _ _ h => h) (Or.inl ⟨by rfl, ?_⟩) (by assumption) ?_
  rotate_left
  · (intro w hSw; (try dsimp only at hSw); go_simp; (try with_reducible rfl))
  (try simp only [List.set_cons_zero, List.set_cons_succ])
  refine held_take (i := 6) (d := 9) (v := ?_) rfl rfl (by kernel_rfl) (by kernel_rfl) (by kernel_rfl) (fun _ _ _ h => h) (Or.inl ⟨by rfl, ?_⟩) (by assumption) ?_
  rotate_left
  · (intro w hSw; (try dsimp only at hSw); go_simp; (try with_reducible rfl))
  (try simp only [List.set_cons_zero, List.set_cons_succ])
  refine held_take (i := 7) (d := 10) (v := ?_) rfl rfl (by kernel_rfl) (by kernel_rfl) (by kernel_rfl) (fun _ _ _ h => h) (Or.inl ⟨by rfl, ?_⟩) (by assumption) ?_
  rotate_left
  · (intro w hSw; (try dsimp only at hSw); go_simp; (try with_reducible rfl))
  (try simp only [List.set_cons_zero, List.set_cons_succ])
  refine wpAnyH_done (by kernel_rfl) ?_ _
  have hV := (Bl.refl w).drew
  replace c0 := Bl.cells ((Bl.refl _).drew) c0
  replace c1 := Bl.cells ((Bl.refl _).drew) c1
  replace c2 := Bl.cells ((Bl.refl _).drew) c2
  generalize w.drew = v0 at hV c0 c1 c2 ⊢
  have had1 := Nat.lt_of_lt_of_le had hV.sz
  have hbd1 := Nat.lt_of_lt_of_le hbd hV.sz
  go_wp2_with fail
  refine wp_region_held_drew (S := (fun w' => w'.cell? ⟨ad.block, ad.off + 1, none⟩ = some (.int .i64 z))) (by kernel_rfl) ?_ (fun hHeld => ?_)
  · (try dsimp only); exact c2
  have hV := hV.drew
  replace c2 := Bl.cells ((Bl.refl _).drew) c2
  generalize v0.drew = v1 at hV c2 hHeld ⊢
  refine held_take (i := 0) (d := 55) (v := ?_) rfl rfl (by kernel_rfl) (by kernel_rfl) (by kernel_rfl) (fun _ _ _ h => h) (Or.inl ⟨by rfl, ?_⟩) (by assumption) ?_
  rotate_left
  · (intro w hSw; (try dsimp only at hSw); go_simp; (try with_reducible rfl))
  (try simp only [List.set_cons_zero, List.set_cons_succ])
  refine held_take (i := 1) (d := 56) (v := ?_) rfl rfl (by kernel_rfl) (by kernel_rfl) (by kernel_rfl) (fun _ _ _ h => h) (Or.inl ⟨by rfl, ?_⟩) (by assumption) ?_
  rotate_left
  · (intro w hSw; (try dsimp only at hSw); go_simp; (try with_reducible rfl))
  (try simp only [List.set_cons_zero, List.set_cons_succ])
  refine held_take (i := 2) (d := 57) (v := ?_) rfl rfl (by kernel_rfl) (by kernel_rfl) (by kernel_rfl) (fun _ _ _ h => h) (Or.inl ⟨by rfl, ?_⟩) (by assumption) ?_
  rotate_left
  · (intro w hSw; (try dsimp only at hSw); go_simp; (try with_reducible rfl))
  (try simp only [List.set_cons_zero, List.set_cons_succ])
  refine held_take (i := 3) (d := 58) (v := ?_) rfl rfl (by kernel_rfl) (by kernel_rfl) (by kernel_rfl) (fun _ _ _ h => h) (Or.inl ⟨by rfl, ?_⟩) (by assumption) ?_
  rotate_left
  · (intro w hSw; (try dsimp only at hSw); go_simp; (try with_reducible rfl))
  (try simp only [List.set_cons_zero, List.set_cons_succ])
  refine held_take (i := 5) (d := 60) (v := ?_) rfl rfl (by kernel_rfl) (by kernel_rfl) (by kernel_rfl) (fun _ _ _ h => h) (Or.inl ⟨by rfl, ?_⟩) (by assumption) ?_
  rotate_left
  · (intro w hSw; (try dsimp only at hSw); go_simp; (try with_reducible rfl))
  (try simp only [List.set_cons_zero, List.set_cons_succ])
  refine held_take (i := 6) (d := 61) (v := ?_) rfl rfl (by kernel_rfl) (by kernel_rfl) (by kernel_rfl) (fun _ _ _ h => h) (Or.inl ⟨by rfl, ?_⟩) (by assumption) ?_
  rotate_left
  · (intro w hSw; (try dsimp only at hSw); go_simp; (try with_reducible rfl))
  (try simp only [List.set_cons_zero, List.set_cons_succ])
  refine held_take (i := 7) (d := 62) (v := ?_) rfl rfl (by kernel_rfl) (by kernel_rfl) (by kernel_rfl) (fun _ _ _ h => h) (Or.inl ⟨by rfl, ?_⟩) (by assumption) ?_
  rotate_left
  · (intro w hSw; (try dsimp only at hSw); go_simp; (try with_reducible rfl))
  (try simp only [List.set_cons_zero, List.set_cons_succ])
  refine held_take (i := 8) (d := 63) (v := ?_) rfl rfl (by kernel_rfl) (by kernel_rfl) (by kernel_rfl) (fun _ _ _ h => h) (Or.inl ⟨by rfl, ?_⟩) (by assumption) ?_
  rotate_left
  · (intro w hSw; (try dsimp only at hSw); go_simp; (try with_reducible rfl))
  (try simp only [List.set_cons_zero, List.set_cons_succ])
  refine wpAnyH_ready (rs := [4]) (by kernel_rfl) (by simp) ?_
  refine AllReadyH.cons rfl (fun K hK => ?_) AllReadyH.nil
  go_simp
  refine (spec_l1LeastE _ _ _).mono ?_; rintro e v4 ⟨rfl, rfl⟩
  go_wp2_with fail
  refine hK.out _ _ ?_ (fun hHeld => ?_)
  · (try dsimp only); exact c2
  clear hK K
  (try simp only [Act.put]); (try simp only [List.setIfInBounds_toArray]); (try simp only [List.set_cons_succ]); (try simp only [List.set_cons_zero])
  refine wpAnyH_ready (rs := [9]) (by kernel_rfl) (by simp) ?_
  refine AllReadyH.cons rfl (fun K hK => ?_) AllReadyH.nil
  go_simp
  refine (spec_l1MostE _ _ _).mono ?_; rintro e v9 ⟨rfl, rfl⟩
  go_wp2_with fail
  refine hK.out _ _ ?_ (fun hHeld => ?_)
  · (try dsimp only); exact c2
  clear hK K
  (try simp only [Act.put]); (try simp only [List.setIfInBounds_toArray]); (try simp only [List.set_cons_succ]); (try simp only [List.set_cons_zero])
  refine held_take (i := 10) (d := 11) (v := ?_) rfl rfl (by kernel_rfl) (by kernel_rfl) (by kernel_rfl) (fun _ _ _ h => h) (Or.inl ⟨by rfl, ?_⟩) (by assumption) ?_
  rotate_left
  · (intro w hSw; (try dsimp only at hSw); go_simp; (try with_reducible rfl))
  (try simp only [List.set_cons_zero, List.set_cons_succ])
  refine held_take (i := 11) (d := 12) (v := ?_) rfl rfl (by kernel_rfl) (by kernel_rfl) (by kernel_rfl) (fun _ _ _ h => h) (Or.inl ⟨by rfl, ?_⟩) (by assumption) ?_
  rotate_left
  · (intro w hSw; (try dsimp only at hSw); go_simp; (try with_reducible rfl))
  (try simp only [List.set_cons_zero, List.set_cons_succ])
  refine wpAnyH_done (by kernel_rfl) ?_ _
  go_wp2_with (first | (go_at_call 92; refine (spec_pgBit _ _).mono ?_; rintro e v5 ⟨rfl, rfl⟩) | (go_at_call 93; refine (spec_l1MostE _ _ _).mono ?_; rintro e v5 ⟨rfl, rfl⟩) | (go_at_call 53; refine (spec_l1LeastE _ _ _).mono ?_; rintro e v5 ⟨rfl, rfl⟩) | (go_at_call 94; refine (spec_l1AbsE _ (by omega) (by omega) _).mono ?_; rintro e v5 ⟨rfl, rfl⟩; rw [show -(x - y) = y - x by omega]))
  go_ret
  refine ⟨_, _, _, rfl, ?_, hV.alloc _⟩
  rw [HE.out]
  exact own_lit v1 [max (min x z) (min y (max x z))] rfl hV.sz (by simp)
set_option maxRecDepth 20000 in
set_option maxHeartbeats 2000000 in
theorem pgE_6 (wd x y : Int) (ad bd : Addr) (c d : Nat) (w : World) (hx : 0 ≤ x ∧ x ≤ 15) (hy : 0 ≤ y ∧ y ≤ 15) (hwd : 1 ≤ wd ∧ wd ≤ 4) (had : ad.block < w.heap.size) (hbd : bd.block < w.heap.size) (c0 : w.cell? ad = some (.int .i64 x)) (c1 : w.cell? bd = some (.int .i64 y)) :
    Calls Tryz.prog 51 #[.int .i64 6, .int .i64 wd, .slice (some ad) 1 c, .slice (some bd) 1 d] w fun e w' => ∃ A n c', e = .returned (.slice A n c') ∧ OwnI w.heap.size w' A n c' (exL 6 wd x y 0) ∧ Bl w w' := by
  have hu := bits_pos hx hy
  by_cases hc : (bits .and .i64 x y) = 0
  · have HE := Lib.hid (show exL 6 wd x y 0 = [(bits .and .i64 x y), 0] from if_pos hc)
    have e1 : ((bits .and .i64 x y) == 0) = true := by simpa using hc
    have e2 : ¬ 0 < (bits .and .i64 x y) := by omega
    go_enter Tryz.func51, Tryz.ntmps51
    go_wp2_with fail
    refine wp_region_held_drew (S := (fun w' => w'.cell? ad = some (.int .i64 x) ∧ w'.cell? bd = some (.int .i64 y))) (by kernel_rfl) ?_ (fun hHeld => ?_)
    · (try dsimp only); exact ⟨Bl.cells ((Bl.refl _).drew) c0, Bl.cells ((Bl.refl _).drew) c1⟩
    refine held_take (i := 0) (d := 13) (v := ?_) rfl rfl (by kernel_rfl) (by kernel_rfl) (by kernel_rfl) (fun _ _ _ h => h) (Or.inl ⟨by rfl, ?_⟩) (by assumption) ?_
    rotate_left
    · (intro w hSw; (try dsimp only at hSw); go_simp; (try with_reducible rfl))
    (try simp only [List.set_cons_zero, List.set_cons_succ])
    refine held_take (i := 1) (d := 14) (v := ?_) rfl rfl (by kernel_rfl) (by kernel_rfl) (by kernel_rfl) (fun _ _ _ h => h) (Or.inl ⟨by rfl, ?_⟩) (by assumption) ?_
    rotate_left
    · (intro w hSw; (try dsimp only at hSw); go_simp; (try with_reducible rfl))
    (try simp only [List.set_cons_zero, List.set_cons_succ])
    refine held_take (i := 2) (d := 15) (v := ?_) rfl rfl (by kernel_rfl) (by kernel_rfl) (by kernel_rfl) (fun _ _ _ h => h) (Or.inl ⟨by rfl, ?_⟩) (by assumption) ?_
    rotate_left
    · (intro w hSw; (try dsimp only at hSw); go_simp; (try with_reducible rfl))
    (try simp only [List.set_cons_zero, List.set_cons_succ])
    refine held_take (i := 3) (d := 16) (v := ?_) rfl rfl (by kernel_rfl) (by kernel_rfl) (by kernel_rfl) (fun _ _ _ h => h) (Or.inl ⟨by rfl, ?_⟩) (by assumption) ?_
    rotate_left
    · (intro w hSw; (try dsimp only at hSw); go_simp; (try with_reducible rfl))
    (try simp only [List.set_cons_zero, List.set_cons_succ])
    refine held_take (i := 4) (d := 17) (v := ?_) rfl rfl (by kernel_rfl) (by kernel_rfl) (by kernel_rfl) (fun _ _ _ h => h) (Or.inl ⟨by rfl, ?_⟩) (by assumption) ?_
    rotate_left
    · (intro w hSw; (try dsimp only at hSw); go_simp; (try with_reducible rfl))
    (try simp only [List.set_cons_zero, List.set_cons_succ])
    refine held_take (i := 5) (d := 18) (v := ?_) rfl rfl (by kernel_rfl) (by kernel_rfl) (by kernel_rfl) (fun _ _ _ h => h) (Or.inl ⟨by rfl, ?_⟩) (by assumption) ?_
    rotate_left
    · (intro w hSw; (try dsimp only at hSw); go_simp; (try with_reducible rfl))
    (try simp only [List.set_cons_zero, List.set_cons_succ])
    refine held_take (i := 6) (d := 9) (v := ?_) rfl rfl (by kernel_rfl) (by kernel_rfl) (by kernel_rfl) (fun _ _ _ h => h) (Or.inl ⟨by rfl, ?_⟩) (by assumption) ?_
    rotate_left
    · (intro w hSw; (try dsimp only at hSw); go_simp; (try with_reducible rfl))
    (try simp only [List.set_cons_zero, List.set_cons_succ])
    refine held_take (i := 7) (d := 10) (v := ?_) rfl rfl (by kernel_rfl) (by kernel_rfl) (by kernel_rfl) (fun _ _ _ h => h) (Or.inl ⟨by rfl, ?_⟩) (by assumption) ?_
    rotate_left
    · (intro w hSw; (try dsimp only at hSw); go_simp; (try with_reducible rfl))
    (try simp only [List.set_cons_zero, List.set_cons_succ])
    refine wpAnyH_done (by kernel_rfl) ?_ _
    have hV := (Bl.refl w).drew
    replace c0 := Bl.cells ((Bl.refl _).drew) c0
    replace c1 := Bl.cells ((Bl.refl _).drew) c1
    generalize w.drew = v0 at hV c0 c1 ⊢
    have had1 := Nat.lt_of_lt_of_le had hV.sz
    have hbd1 := Nat.lt_of_lt_of_le hbd hV.sz
    go_wp2_with (first | (go_at_call 92; refine (spec_pgBit _ _).mono ?_; rintro e v5 ⟨rfl, rfl⟩) | (go_at_call 93; refine (spec_l1MostE _ _ _).mono ?_; rintro e v5 ⟨rfl, rfl⟩) | (go_at_call 53; refine (spec_l1LeastE _ _ _).mono ?_; rintro e v5 ⟨rfl, rfl⟩) | (go_at_call 94; refine (spec_l1AbsE _ (by omega) (by omega) _).mono ?_; rintro e v5 ⟨rfl, rfl⟩; rw [show -(x - y) = y - x by omega]))
    go_ret
    refine ⟨_, _, _, rfl, ?_, hV.alloc _⟩
    rw [HE.out]
    first | exact own_lit v0 [(bits .and .i64 x y), 0] rfl hV.sz (by simp) | (rw [hc]; exact own_lit v0 [0, 0] rfl hV.sz (by simp))
  · have HE := Lib.hid (show exL 6 wd x y 0 = [(bits .and .i64 x y), 1] from if_neg hc)
    have e1 : ((bits .and .i64 x y) == 0) = false := by simpa using hc
    have e2 : 0 < (bits .and .i64 x y) := by omega
    clear hc
    go_enter Tryz.func51, Tryz.ntmps51
    go_wp2_with fail
    refine wp_region_held_drew (S := (fun w' => w'.cell? ad = some (.int .i64 x) ∧ w'.cell? bd = some (.int .i64 y))) (by kernel_rfl) ?_ (fun hHeld => ?_)
    · (try dsimp only); exact ⟨Bl.cells ((Bl.refl _).drew) c0, Bl.cells ((Bl.refl _).drew) c1⟩
    refine held_take (i := 0) (d := 13) (v := ?_) rfl rfl (by kernel_rfl) (by kernel_rfl) (by kernel_rfl) (fun _ _ _ h => h) (Or.inl ⟨by rfl, ?_⟩) (by assumption) ?_
    rotate_left
    · (intro w hSw; (try dsimp only at hSw); go_simp; (try with_reducible rfl))
    (try simp only [List.set_cons_zero, List.set_cons_succ])
    refine held_take (i := 1) (d := 14) (v := ?_) rfl rfl (by kernel_rfl) (by kernel_rfl) (by kernel_rfl) (fun _ _ _ h => h) (Or.inl ⟨by rfl, ?_⟩) (by assumption) ?_
    rotate_left
    · (intro w hSw; (try dsimp only at hSw); go_simp; (try with_reducible rfl))
    (try simp only [List.set_cons_zero, List.set_cons_succ])
    refine held_take (i := 2) (d := 15) (v := ?_) rfl rfl (by kernel_rfl) (by kernel_rfl) (by kernel_rfl) (fun _ _ _ h => h) (Or.inl ⟨by rfl, ?_⟩) (by assumption) ?_
    rotate_left
    · (intro w hSw; (try dsimp only at hSw); go_simp; (try with_reducible rfl))
    (try simp only [List.set_cons_zero, List.set_cons_succ])
    refine held_take (i := 3) (d := 16) (v := ?_) rfl rfl (by kernel_rfl) (by kernel_rfl) (by kernel_rfl) (fun _ _ _ h => h) (Or.inl ⟨by rfl, ?_⟩) (by assumption) ?_
    rotate_left
    · (intro w hSw; (try dsimp only at hSw); go_simp; (try with_reducible rfl))
    (try simp only [List.set_cons_zero, List.set_cons_succ])
    refine held_take (i := 4) (d := 17) (v := ?_) rfl rfl (by kernel_rfl) (by kernel_rfl) (by kernel_rfl) (fun _ _ _ h => h) (Or.inl ⟨by rfl, ?_⟩) (by assumption) ?_
    rotate_left
    · (intro w hSw; (try dsimp only at hSw); go_simp; (try with_reducible rfl))
    (try simp only [List.set_cons_zero, List.set_cons_succ])
    refine held_take (i := 5) (d := 18) (v := ?_) rfl rfl (by kernel_rfl) (by kernel_rfl) (by kernel_rfl) (fun _ _ _ h => h) (Or.inl ⟨by rfl, ?_⟩) (by assumption) ?_
    rotate_left
    · (intro w hSw; (try dsimp only at hSw); go_simp; (try with_reducible rfl))
    (try simp only [List.set_cons_zero, List.set_cons_succ])
    refine held_take (i := 6) (d := 9) (v := ?_) rfl rfl (by kernel_rfl) (by kernel_rfl) (by kernel_rfl) (fun _ _ _ h => h) (Or.inl ⟨by rfl, ?_⟩) (by assumption) ?_
    rotate_left
    · (intro w hSw; (try dsimp only at hSw); go_simp; (try with_reducible rfl))
    (try simp only [List.set_cons_zero, List.set_cons_succ])
    refine held_take (i := 7) (d := 10) (v := ?_) rfl rfl (by kernel_rfl) (by kernel_rfl) (by kernel_rfl) (fun _ _ _ h => h) (Or.inl ⟨by rfl, ?_⟩) (by assumption) ?_
    rotate_left
    · (intro w hSw; (try dsimp only at hSw); go_simp; (try with_reducible rfl))
    (try simp only [List.set_cons_zero, List.set_cons_succ])
    refine wpAnyH_done (by kernel_rfl) ?_ _
    have hV := (Bl.refl w).drew
    replace c0 := Bl.cells ((Bl.refl _).drew) c0
    replace c1 := Bl.cells ((Bl.refl _).drew) c1
    generalize w.drew = v0 at hV c0 c1 ⊢
    have had1 := Nat.lt_of_lt_of_le had hV.sz
    have hbd1 := Nat.lt_of_lt_of_le hbd hV.sz
    go_wp2_with (first | (go_at_call 92; refine (spec_pgBit _ _).mono ?_; rintro e v5 ⟨rfl, rfl⟩) | (go_at_call 93; refine (spec_l1MostE _ _ _).mono ?_; rintro e v5 ⟨rfl, rfl⟩) | (go_at_call 53; refine (spec_l1LeastE _ _ _).mono ?_; rintro e v5 ⟨rfl, rfl⟩) | (go_at_call 94; refine (spec_l1AbsE _ (by omega) (by omega) _).mono ?_; rintro e v5 ⟨rfl, rfl⟩; rw [show -(x - y) = y - x by omega]))
    go_ret
    refine ⟨_, _, _, rfl, ?_, hV.alloc _⟩
    rw [HE.out]
    exact own_lit v0 [(bits .and .i64 x y), 1] rfl hV.sz (by simp)
set_option maxRecDepth 20000 in
set_option maxHeartbeats 2000000 in
theorem pgE_7 (wd x y : Int) (ad bd : Addr) (c d : Nat) (w : World) (hx : 0 ≤ x ∧ x ≤ 15) (hy : 0 ≤ y ∧ y ≤ 15) (hwd : 1 ≤ wd ∧ wd ≤ 4) (had : ad.block < w.heap.size) (hbd : bd.block < w.heap.size) (c0 : w.cell? ad = some (.int .i64 x)) (c1 : w.cell? bd = some (.int .i64 y)) :
    Calls Tryz.prog 51 #[.int .i64 7, .int .i64 wd, .slice (some ad) 1 c, .slice (some bd) 1 d] w fun e w' => ∃ A n c', e = .returned (.slice A n c') ∧ OwnI w.heap.size w' A n c' (exL 7 wd x y 0) ∧ Bl w w' := by
  by_cases hc : x < y
  · have HE := Lib.hid (show exL 7 wd x y 0 = [1, min x y] from if_pos hc)
    skip
    go_enter Tryz.func51, Tryz.ntmps51
    go_wp2_with fail
    refine wp_region_held_drew (S := (fun w' => w'.cell? ad = some (.int .i64 x) ∧ w'.cell? bd = some (.int .i64 y))) (by kernel_rfl) ?_ (fun hHeld => ?_)
    · (try dsimp only); exact ⟨Bl.cells ((Bl.refl _).drew) c0, Bl.cells ((Bl.refl _).drew) c1⟩
    refine held_take (i := 0) (d := 13) (v := ?_) rfl rfl (by kernel_rfl) (by kernel_rfl) (by kernel_rfl) (fun _ _ _ h => h) (Or.inl ⟨by rfl, ?_⟩) (by assumption) ?_
    rotate_left
    · (intro w hSw; (try dsimp only at hSw); go_simp; (try with_reducible rfl))
    (try simp only [List.set_cons_zero, List.set_cons_succ])
    refine held_take (i := 1) (d := 14) (v := ?_) rfl rfl (by kernel_rfl) (by kernel_rfl) (by kernel_rfl) (fun _ _ _ h => h) (Or.inl ⟨by rfl, ?_⟩) (by assumption) ?_
    rotate_left
    · (intro w hSw; (try dsimp only at hSw); go_simp; (try with_reducible rfl))
    (try simp only [List.set_cons_zero, List.set_cons_succ])
    refine held_take (i := 2) (d := 15) (v := ?_) rfl rfl (by kernel_rfl) (by kernel_rfl) (by kernel_rfl) (fun _ _ _ h => h) (Or.inl ⟨by rfl, ?_⟩) (by assumption) ?_
    rotate_left
    · (intro w hSw; (try dsimp only at hSw); go_simp; (try with_reducible rfl))
    (try simp only [List.set_cons_zero, List.set_cons_succ])
    refine held_take (i := 3) (d := 16) (v := ?_) rfl rfl (by kernel_rfl) (by kernel_rfl) (by kernel_rfl) (fun _ _ _ h => h) (Or.inl ⟨by rfl, ?_⟩) (by assumption) ?_
    rotate_left
    · (intro w hSw; (try dsimp only at hSw); go_simp; (try with_reducible rfl))
    (try simp only [List.set_cons_zero, List.set_cons_succ])
    refine held_take (i := 4) (d := 17) (v := ?_) rfl rfl (by kernel_rfl) (by kernel_rfl) (by kernel_rfl) (fun _ _ _ h => h) (Or.inl ⟨by rfl, ?_⟩) (by assumption) ?_
    rotate_left
    · (intro w hSw; (try dsimp only at hSw); go_simp; (try with_reducible rfl))
    (try simp only [List.set_cons_zero, List.set_cons_succ])
    refine held_take (i := 5) (d := 18) (v := ?_) rfl rfl (by kernel_rfl) (by kernel_rfl) (by kernel_rfl) (fun _ _ _ h => h) (Or.inl ⟨by rfl, ?_⟩) (by assumption) ?_
    rotate_left
    · (intro w hSw; (try dsimp only at hSw); go_simp; (try with_reducible rfl))
    (try simp only [List.set_cons_zero, List.set_cons_succ])
    refine held_take (i := 6) (d := 9) (v := ?_) rfl rfl (by kernel_rfl) (by kernel_rfl) (by kernel_rfl) (fun _ _ _ h => h) (Or.inl ⟨by rfl, ?_⟩) (by assumption) ?_
    rotate_left
    · (intro w hSw; (try dsimp only at hSw); go_simp; (try with_reducible rfl))
    (try simp only [List.set_cons_zero, List.set_cons_succ])
    refine held_take (i := 7) (d := 10) (v := ?_) rfl rfl (by kernel_rfl) (by kernel_rfl) (by kernel_rfl) (fun _ _ _ h => h) (Or.inl ⟨by rfl, ?_⟩) (by assumption) ?_
    rotate_left
    · (intro w hSw; (try dsimp only at hSw); go_simp; (try with_reducible rfl))
    (try simp only [List.set_cons_zero, List.set_cons_succ])
    refine wpAnyH_done (by kernel_rfl) ?_ _
    have hV := (Bl.refl w).drew
    replace c0 := Bl.cells ((Bl.refl _).drew) c0
    replace c1 := Bl.cells ((Bl.refl _).drew) c1
    generalize w.drew = v0 at hV c0 c1 ⊢
    have had1 := Nat.lt_of_lt_of_le had hV.sz
    have hbd1 := Nat.lt_of_lt_of_le hbd hV.sz
    go_wp2_with (first | (go_at_call 92; refine (spec_pgBit _ _).mono ?_; rintro e v5 ⟨rfl, rfl⟩) | (go_at_call 93; refine (spec_l1MostE _ _ _).mono ?_; rintro e v5 ⟨rfl, rfl⟩) | (go_at_call 53; refine (spec_l1LeastE _ _ _).mono ?_; rintro e v5 ⟨rfl, rfl⟩) | (go_at_call 94; refine (spec_l1AbsE _ (by omega) (by omega) _).mono ?_; rintro e v5 ⟨rfl, rfl⟩; rw [show -(x - y) = y - x by omega]))
    go_ret
    refine ⟨_, _, _, rfl, ?_, hV.alloc _⟩
    rw [HE.out]
    exact own_lit v0 [1, min x y] rfl hV.sz (by simp)
  · have HE := Lib.hid (show exL 7 wd x y 0 = [0, min x y] from if_neg hc)
    skip
    go_enter Tryz.func51, Tryz.ntmps51
    go_wp2_with fail
    refine wp_region_held_drew (S := (fun w' => w'.cell? ad = some (.int .i64 x) ∧ w'.cell? bd = some (.int .i64 y))) (by kernel_rfl) ?_ (fun hHeld => ?_)
    · (try dsimp only); exact ⟨Bl.cells ((Bl.refl _).drew) c0, Bl.cells ((Bl.refl _).drew) c1⟩
    refine held_take (i := 0) (d := 13) (v := ?_) rfl rfl (by kernel_rfl) (by kernel_rfl) (by kernel_rfl) (fun _ _ _ h => h) (Or.inl ⟨by rfl, ?_⟩) (by assumption) ?_
    rotate_left
    · (intro w hSw; (try dsimp only at hSw); go_simp; (try with_reducible rfl))
    (try simp only [List.set_cons_zero, List.set_cons_succ])
    refine held_take (i := 1) (d := 14) (v := ?_) rfl rfl (by kernel_rfl) (by kernel_rfl) (by kernel_rfl) (fun _ _ _ h => h) (Or.inl ⟨by rfl, ?_⟩) (by assumption) ?_
    rotate_left
    · (intro w hSw; (try dsimp only at hSw); go_simp; (try with_reducible rfl))
    (try simp only [List.set_cons_zero, List.set_cons_succ])
    refine held_take (i := 2) (d := 15) (v := ?_) rfl rfl (by kernel_rfl) (by kernel_rfl) (by kernel_rfl) (fun _ _ _ h => h) (Or.inl ⟨by rfl, ?_⟩) (by assumption) ?_
    rotate_left
    · (intro w hSw; (try dsimp only at hSw); go_simp; (try with_reducible rfl))
    (try simp only [List.set_cons_zero, List.set_cons_succ])
    refine held_take (i := 3) (d := 16) (v := ?_) rfl rfl (by kernel_rfl) (by kernel_rfl) (by kernel_rfl) (fun _ _ _ h => h) (Or.inl ⟨by rfl, ?_⟩) (by assumption) ?_
    rotate_left
    · (intro w hSw; (try dsimp only at hSw); go_simp; (try with_reducible rfl))
    (try simp only [List.set_cons_zero, List.set_cons_succ])
    refine held_take (i := 4) (d := 17) (v := ?_) rfl rfl (by kernel_rfl) (by kernel_rfl) (by kernel_rfl) (fun _ _ _ h => h) (Or.inl ⟨by rfl, ?_⟩) (by assumption) ?_
    rotate_left
    · (intro w hSw; (try dsimp only at hSw); go_simp; (try with_reducible rfl))
    (try simp only [List.set_cons_zero, List.set_cons_succ])
    refine held_take (i := 5) (d := 18) (v := ?_) rfl rfl (by kernel_rfl) (by kernel_rfl) (by kernel_rfl) (fun _ _ _ h => h) (Or.inl ⟨by rfl, ?_⟩) (by assumption) ?_
    rotate_left
    · (intro w hSw; (try dsimp only at hSw); go_simp; (try with_reducible rfl))
    (try simp only [List.set_cons_zero, List.set_cons_succ])
    refine held_take (i := 6) (d := 9) (v := ?_) rfl rfl (by kernel_rfl) (by kernel_rfl) (by kernel_rfl) (fun _ _ _ h => h) (Or.inl ⟨by rfl, ?_⟩) (by assumption) ?_
    rotate_left
    · (intro w hSw; (try dsimp only at hSw); go_simp; (try with_reducible rfl))
    (try simp only [List.set_cons_zero, List.set_cons_succ])
    refine held_take (i := 7) (d := 10) (v := ?_) rfl rfl (by kernel_rfl) (by kernel_rfl) (by kernel_rfl) (fun _ _ _ h => h) (Or.inl ⟨by rfl, ?_⟩) (by assumption) ?_
    rotate_left
    · (intro w hSw; (try dsimp only at hSw); go_simp; (try with_reducible rfl))
    (try simp only [List.set_cons_zero, List.set_cons_succ])
    refine wpAnyH_done (by kernel_rfl) ?_ _
    have hV := (Bl.refl w).drew
    replace c0 := Bl.cells ((Bl.refl _).drew) c0
    replace c1 := Bl.cells ((Bl.refl _).drew) c1
    generalize w.drew = v0 at hV c0 c1 ⊢
    have had1 := Nat.lt_of_lt_of_le had hV.sz
    have hbd1 := Nat.lt_of_lt_of_le hbd hV.sz
    go_wp2_with (first | (go_at_call 92; refine (spec_pgBit _ _).mono ?_; rintro e v5 ⟨rfl, rfl⟩) | (go_at_call 93; refine (spec_l1MostE _ _ _).mono ?_; rintro e v5 ⟨rfl, rfl⟩) | (go_at_call 53; refine (spec_l1LeastE _ _ _).mono ?_; rintro e v5 ⟨rfl, rfl⟩) | (go_at_call 94; refine (spec_l1AbsE _ (by omega) (by omega) _).mono ?_; rintro e v5 ⟨rfl, rfl⟩; rw [show -(x - y) = y - x by omega]))
    go_ret
    refine ⟨_, _, _, rfl, ?_, hV.alloc _⟩
    rw [HE.out]
    exact own_lit v0 [0, min x y] rfl hV.sz (by simp)
set_option maxRecDepth 20000 in
set_option maxHeartbeats 2000000 in
theorem pgE_8 (wd x y z : Int) (ad bd : Addr) (c d : Nat) (w : World) (hx : 0 ≤ x ∧ x ≤ 15) (hy : 0 ≤ y ∧ y ≤ 15) (hz : 0 ≤ z ∧ z ≤ 15) (hwd : 1 ≤ wd ∧ wd ≤ 4) (had : ad.block < w.heap.size) (hbd : bd.block < w.heap.size) (c0 : w.cell? ad = some (.int .i64 x)) (c1 : w.cell? bd = some (.int .i64 y)) (hcc : 2 ≤ c) (c2 : w.cell? ⟨ad.block, ad.off + 1, none⟩ = some (.int .i64 z)) :
    Calls Tryz.prog 51 #[.int .i64 8, .int .i64 wd, .slice (some ad) 2 c, .slice (some bd) 1 d] w fun e w' => ∃ A n c', e = .returned (.slice A n c') ∧ OwnI w.heap.size w' A n c' (exL 8 wd x y z) ∧ Bl w w' := by
  by_cases hc : 1 < x + z + y
  · have HE := Lib.hid (show exL 8 wd x y z = [1] from if_pos hc)
    have e2 : 2 ≤ x + z + y := by omega
    go_enter Tryz.func51, Tryz.ntmps51
    go_wp2_with fail
    refine wp_region_held_drew (S := (fun w' => w'.cell? ad = some (.int .i64 x) ∧ w'.cell? bd = some (.int .i64 y))) (by kernel_rfl) ?_ (fun hHeld => ?_)
    · (try dsimp only); exact ⟨Bl.cells ((Bl.refl _).drew) c0, Bl.cells ((Bl.refl _).drew) c1⟩
    refine held_take (i := 0) (d := 13) (v := ?_) rfl rfl (by kernel_rfl) (by kernel_rfl) (by kernel_rfl) (fun _ _ _ h => h) (Or.inl ⟨by rfl, ?_⟩) (by assumption) ?_
    rotate_left
    · (intro w hSw; (try dsimp only at hSw); go_simp; (try with_reducible rfl))
    (try simp only [List.set_cons_zero, List.set_cons_succ])
    refine held_take (i := 1) (d := 14) (v := ?_) rfl rfl (by kernel_rfl) (by kernel_rfl) (by kernel_rfl) (fun _ _ _ h => h) (Or.inl ⟨by rfl, ?_⟩) (by assumption) ?_
    rotate_left
    · (intro w hSw; (try dsimp only at hSw); go_simp; (try with_reducible rfl))
    (try simp only [List.set_cons_zero, List.set_cons_succ])
    refine held_take (i := 2) (d := 15) (v := ?_) rfl rfl (by kernel_rfl) (by kernel_rfl) (by kernel_rfl) (fun _ _ _ h => h) (Or.inl ⟨by rfl, ?_⟩) (by assumption) ?_
    rotate_left
    · (intro w hSw; (try dsimp only at hSw); go_simp; (try with_reducible rfl))
    (try simp only [List.set_cons_zero, List.set_cons_succ])
    refine held_take (i := 3) (d := 16) (v := ?_) rfl rfl (by kernel_rfl) (by kernel_rfl) (by kernel_rfl) (fun _ _ _ h => h) (Or.inl ⟨by rfl, ?_⟩) (by assumption) ?_
    rotate_left
    · (intro w hSw; (try dsimp only at hSw); go_simp; (try with_reducible rfl))
    (try simp only [List.set_cons_zero, List.set_cons_succ])
    refine held_take (i := 4) (d := 17) (v := ?_) rfl rfl (by kernel_rfl) (by kernel_rfl) (by kernel_rfl) (fun _ _ _ h => h) (Or.inl ⟨by rfl, ?_⟩) (by assumption) ?_
    rotate_left
    · (intro w hSw; (try dsimp only at hSw); go_simp; (try with_reducible rfl))
    (try simp only [List.set_cons_zero, List.set_cons_succ])
    refine held_take (i := 5) (d := 18) (v := ?_) rfl rfl (by kernel_rfl) (by kernel_rfl) (by kernel_rfl) (fun _ _ _ h => h) (Or.inl ⟨by rfl, ?_⟩) (by assumption) ?_
    rotate_left
    · (intro w hSw; (try dsimp only at hSw); go_simp; (try with_reducible rfl))
    (try simp only [List.set_cons_zero, List.set_cons_succ])
    refine held_take (i := 6) (d := 9) (v := ?_) rfl rfl (by kernel_rfl) (by kernel_rfl) (by kernel_rfl) (fun _ _ _ h => h) (Or.inl ⟨by rfl, ?_⟩) (by assumption) ?_
    rotate_left
    · (intro w hSw; (try dsimp only at hSw); go_simp; (try with_reducible rfl))
    (try simp only [List.set_cons_zero, List.set_cons_succ])
    refine held_take (i := 7) (d := 10) (v := ?_) rfl rfl (by kernel_rfl) (by kernel_rfl) (by kernel_rfl) (fun _ _ _ h => h) (Or.inl ⟨by rfl, ?_⟩) (by assumption) ?_
    rotate_left
    · (intro w hSw; (try dsimp only at hSw); go_simp; (try with_reducible rfl))
    (try simp only [List.set_cons_zero, List.set_cons_succ])
    refine wpAnyH_done (by kernel_rfl) ?_ _
    have hV := (Bl.refl w).drew
    replace c0 := Bl.cells ((Bl.refl _).drew) c0
    replace c1 := Bl.cells ((Bl.refl _).drew) c1
    replace c2 := Bl.cells ((Bl.refl _).drew) c2
    generalize w.drew = v0 at hV c0 c1 c2 ⊢
    have had1 := Nat.lt_of_lt_of_le had hV.sz
    have hbd1 := Nat.lt_of_lt_of_le hbd hV.sz
    go_wp2_with (first | (go_at_call 92; refine (spec_pgBit _ _).mono ?_; rintro e v5 ⟨rfl, rfl⟩) | (go_at_call 93; refine (spec_l1MostE _ _ _).mono ?_; rintro e v5 ⟨rfl, rfl⟩) | (go_at_call 53; refine (spec_l1LeastE _ _ _).mono ?_; rintro e v5 ⟨rfl, rfl⟩) | (go_at_call 94; refine (spec_l1AbsE _ (by omega) (by omega) _).mono ?_; rintro e v5 ⟨rfl, rfl⟩; rw [show -(x - y) = y - x by omega]))
    go_ret
    refine ⟨_, _, _, rfl, ?_, hV.alloc _⟩
    rw [HE.out]
    exact own_lit v0 [1] rfl hV.sz (by simp)
  · have HE := Lib.hid (show exL 8 wd x y z = [0] from if_neg hc)
    have e2 : ¬ 2 ≤ x + z + y := by omega
    go_enter Tryz.func51, Tryz.ntmps51
    go_wp2_with fail
    refine wp_region_held_drew (S := (fun w' => w'.cell? ad = some (.int .i64 x) ∧ w'.cell? bd = some (.int .i64 y))) (by kernel_rfl) ?_ (fun hHeld => ?_)
    · (try dsimp only); exact ⟨Bl.cells ((Bl.refl _).drew) c0, Bl.cells ((Bl.refl _).drew) c1⟩
    refine held_take (i := 0) (d := 13) (v := ?_) rfl rfl (by kernel_rfl) (by kernel_rfl) (by kernel_rfl) (fun _ _ _ h => h) (Or.inl ⟨by rfl, ?_⟩) (by assumption) ?_
    rotate_left
    · (intro w hSw; (try dsimp only at hSw); go_simp; (try with_reducible rfl))
    (try simp only [List.set_cons_zero, List.set_cons_succ])
    refine held_take (i := 1) (d := 14) (v := ?_) rfl rfl (by kernel_rfl) (by kernel_rfl) (by kernel_rfl) (fun _ _ _ h => h) (Or.inl ⟨by rfl, ?_⟩) (by assumption) ?_
    rotate_left
    · (intro w hSw; (try dsimp only at hSw); go_simp; (try with_reducible rfl))
    (try simp only [List.set_cons_zero, List.set_cons_succ])
    refine held_take (i := 2) (d := 15) (v := ?_) rfl rfl (by kernel_rfl) (by kernel_rfl) (by kernel_rfl) (fun _ _ _ h => h) (Or.inl ⟨by rfl, ?_⟩) (by assumption) ?_
    rotate_left
    · (intro w hSw; (try dsimp only at hSw); go_simp; (try with_reducible rfl))
    (try simp only [List.set_cons_zero, List.set_cons_succ])
    refine held_take (i := 3) (d := 16) (v := ?_) rfl rfl (by kernel_rfl) (by kernel_rfl) (by kernel_rfl) (fun _ _ _ h => h) (Or.inl ⟨by rfl, ?_⟩) (by assumption) ?_
    rotate_left
    · (intro w hSw; (try dsimp only at hSw); go_simp; (try with_reducible rfl))
    (try simp only [List.set_cons_zero, List.set_cons_succ])
    refine held_take (i := 4) (d := 17) (v := ?_) rfl rfl (by kernel_rfl) (by kernel_rfl) (by kernel_rfl) (fun _ _ _ h => h) (Or.inl ⟨by rfl, ?_⟩) (by assumption) ?_
    rotate_left
    · (intro w hSw; (try dsimp only at hSw); go_simp; (try with_reducible rfl))
    (try simp only [List.set_cons_zero, List.set_cons_succ])
    refine held_take (i := 5) (d := 18) (v := ?_) rfl rfl (by kernel_rfl) (by kernel_rfl) (by kernel_rfl) (fun _ _ _ h => h) (Or.inl ⟨by rfl, ?_⟩) (by assumption) ?_
    rotate_left
    · (intro w hSw; (try dsimp only at hSw); go_simp; (try with_reducible rfl))
    (try simp only [List.set_cons_zero, List.set_cons_succ])
    refine held_take (i := 6) (d := 9) (v := ?_) rfl rfl (by kernel_rfl) (by kernel_rfl) (by kernel_rfl) (fun _ _ _ h => h) (Or.inl ⟨by rfl, ?_⟩) (by assumption) ?_
    rotate_left
    · (intro w hSw; (try dsimp only at hSw); go_simp; (try with_reducible rfl))
    (try simp only [List.set_cons_zero, List.set_cons_succ])
    refine held_take (i := 7) (d := 10) (v := ?_) rfl rfl (by kernel_rfl) (by kernel_rfl) (by kernel_rfl) (fun _ _ _ h => h) (Or.inl ⟨by rfl, ?_⟩) (by assumption) ?_
    rotate_left
    · (intro w hSw; (try dsimp only at hSw); go_simp; (try with_reducible rfl))
    (try simp only [List.set_cons_zero, List.set_cons_succ])
    refine wpAnyH_done (by kernel_rfl) ?_ _
    have hV := (Bl.refl w).drew
    replace c0 := Bl.cells ((Bl.refl _).drew) c0
    replace c1 := Bl.cells ((Bl.refl _).drew) c1
    replace c2 := Bl.cells ((Bl.refl _).drew) c2
    generalize w.drew = v0 at hV c0 c1 c2 ⊢
    have had1 := Nat.lt_of_lt_of_le had hV.sz
    have hbd1 := Nat.lt_of_lt_of_le hbd hV.sz
    go_wp2_with (first | (go_at_call 92; refine (spec_pgBit _ _).mono ?_; rintro e v5 ⟨rfl, rfl⟩) | (go_at_call 93; refine (spec_l1MostE _ _ _).mono ?_; rintro e v5 ⟨rfl, rfl⟩) | (go_at_call 53; refine (spec_l1LeastE _ _ _).mono ?_; rintro e v5 ⟨rfl, rfl⟩) | (go_at_call 94; refine (spec_l1AbsE _ (by omega) (by omega) _).mono ?_; rintro e v5 ⟨rfl, rfl⟩; rw [show -(x - y) = y - x by omega]))
    go_ret
    refine ⟨_, _, _, rfl, ?_, hV.alloc _⟩
    rw [HE.out]
    exact own_lit v0 [0] rfl hV.sz (by simp)
set_option maxRecDepth 20000 in
set_option maxHeartbeats 2000000 in
theorem pgE_9 (wd x y : Int) (ad bd : Addr) (c d : Nat) (w : World) (hx : 0 ≤ x ∧ x ≤ 15) (hy : 0 ≤ y ∧ y ≤ 15) (hwd : 1 ≤ wd ∧ wd ≤ 4) (had : ad.block < w.heap.size) (hbd : bd.block < w.heap.size) (c0 : w.cell? ad = some (.int .i64 x)) (c1 : w.cell? bd = some (.int .i64 y)) :
    Calls Tryz.prog 51 #[.int .i64 9, .int .i64 wd, .slice (some ad) 1 c, .slice (some bd) 1 d] w fun e w' => ∃ A n c', e = .returned (.slice A n c') ∧ OwnI w.heap.size w' A n c' (exL 9 wd x y 0) ∧ Bl w w' := by
  have HE := Lib.hid (show exL 9 wd x y 0 = [x * y] from rfl)
  have m1 : x * y ≤ 15 * 15 := Int.mul_le_mul hx.2 hy.2 hy.1 (by omega)
  have m2 : 0 ≤ x * y := Int.mul_nonneg hx.1 hy.1
  have m3 : wrap64 (x * y) = x * y := by unfold wrap64; omega
  go_enter Tryz.func51, Tryz.ntmps51
  go_wp2_with fail
  refine wp_region_held_drew (S := (fun w' => w'.cell? ad = some (.int .i64 x) ∧ w'.cell? bd = some (.int .i64 y))) (by kernel_rfl) ?_ (fun hHeld => ?_)
  · (try dsimp only); exact ⟨Bl.cells ((Bl.refl _).drew) c0, Bl.cells ((Bl.refl _).drew) c1⟩
  refine held_take (i := 0) (d := 13) (v := ?_) rfl rfl (by kernel_rfl) (by kernel_rfl) (by kernel_rfl) (fun _ _ _ h => h) (Or.inl ⟨by rfl, ?_⟩) (by assumption) ?_
  rotate_left
  · (intro w hSw; (try dsimp only at hSw); go_simp; (try with_reducible rfl))
  (try simp only [List.set_cons_zero, List.set_cons_succ])
  refine held_take (i := 1) (d := 14) (v := ?_) rfl rfl (by kernel_rfl) (by kernel_rfl) (by kernel_rfl) (fun _ _ _ h => h) (Or.inl ⟨by rfl, ?_⟩) (by assumption) ?_
  rotate_left
  · (intro w hSw; (try dsimp only at hSw); go_simp; (try with_reducible rfl))
  (try simp only [List.set_cons_zero, List.set_cons_succ])
  refine held_take (i := 2) (d := 15) (v := ?_) rfl rfl (by kernel_rfl) (by kernel_rfl) (by kernel_rfl) (fun _ _ _ h => h) (Or.inl ⟨by rfl, ?_⟩) (by assumption) ?_
  rotate_left
  · (intro w hSw; (try dsimp only at hSw); go_simp; (try with_reducible rfl))
  (try simp only [List.set_cons_zero, List.set_cons_succ])
  refine held_take (i := 3) (d := 16) (v := ?_) rfl rfl (by kernel_rfl) (by kernel_rfl) (by kernel_rfl) (fun _ _ _ h => h) (Or.inl ⟨by rfl, ?_⟩) (by assumption) ?_
  rotate_left
  · (intro w hSw; (try dsimp only at hSw); go_simp; (try with_reducible rfl))
  (try simp only [List.set_cons_zero, List.set_cons_succ])
  refine held_take (i := 4) (d := 17) (v := ?_) rfl rfl (by kernel_rfl) (by kernel_rfl) (by kernel_rfl) (fun _ _ _ h => h) (Or.inl ⟨by rfl, ?_⟩) (by assumption) ?_
  rotate_left
  · (intro w hSw; (try dsimp only at hSw); go_simp; (try with_reducible rfl))
  (try simp only [List.set_cons_zero, List.set_cons_succ])
  refine held_take (i := 5) (d := 18) (v := ?_) rfl rfl (by kernel_rfl) (by kernel_rfl) (by kernel_rfl) (fun _ _ _ h => h) (Or.inl ⟨by rfl, ?_⟩) (by assumption) ?_
  rotate_left
  · (intro w hSw; (try dsimp only at hSw); go_simp; (try with_reducible rfl))
  (try simp only [List.set_cons_zero, List.set_cons_succ])
  refine held_take (i := 6) (d := 9) (v := ?_) rfl rfl (by kernel_rfl) (by kernel_rfl) (by kernel_rfl) (fun _ _ _ h => h) (Or.inl ⟨by rfl, ?_⟩) (by assumption) ?_
  rotate_left
  · (intro w hSw; (try dsimp only at hSw); go_simp; (try with_reducible rfl))
  (try simp only [List.set_cons_zero, List.set_cons_succ])
  refine held_take (i := 7) (d := 10) (v := ?_) rfl rfl (by kernel_rfl) (by kernel_rfl) (by kernel_rfl) (fun _ _ _ h => h) (Or.inl ⟨by rfl, ?_⟩) (by assumption) ?_
  rotate_left
  · (intro w hSw; (try dsimp only at hSw); go_simp; (try with_reducible rfl))
  (try simp only [List.set_cons_zero, List.set_cons_succ])
  refine wpAnyH_done (by kernel_rfl) ?_ _
  have hV := (Bl.refl w).drew
  replace c0 := Bl.cells ((Bl.refl _).drew) c0
  replace c1 := Bl.cells ((Bl.refl _).drew) c1
  generalize w.drew = v0 at hV c0 c1 ⊢
  have had1 := Nat.lt_of_lt_of_le had hV.sz
  have hbd1 := Nat.lt_of_lt_of_le hbd hV.sz
  go_wp2_with (first | (go_at_call 92; refine (spec_pgBit _ _).mono ?_; rintro e v5 ⟨rfl, rfl⟩) | (go_at_call 93; refine (spec_l1MostE _ _ _).mono ?_; rintro e v5 ⟨rfl, rfl⟩) | (go_at_call 53; refine (spec_l1LeastE _ _ _).mono ?_; rintro e v5 ⟨rfl, rfl⟩) | (go_at_call 94; refine (spec_l1AbsE _ (by omega) (by omega) _).mono ?_; rintro e v5 ⟨rfl, rfl⟩; rw [show -(x - y) = y - x by omega]))
  go_ret
  refine ⟨_, _, _, rfl, ?_, hV.alloc _⟩
  rw [HE.out]
  exact own_lit v0 [x * y] rfl hV.sz (by simp)
set_option maxRecDepth 20000 in
set_option maxHeartbeats 2000000 in
theorem pgE_10 (wd x y z : Int) (ad bd : Addr) (c d : Nat) (w : World) (hx : 0 ≤ x ∧ x ≤ 15) (hy : 0 ≤ y ∧ y ≤ 15) (hz : 0 ≤ z ∧ z ≤ 15) (hwd : 1 ≤ wd ∧ wd ≤ 4) (had : ad.block < w.heap.size) (hbd : bd.block < w.heap.size) (c0 : w.cell? ad = some (.int .i64 x)) (c1 : w.cell? bd = some (.int .i64 y)) (hcc : 2 ≤ c) (c2 : w.cell? ⟨ad.block, ad.off + 1, none⟩ = some (.int .i64 z)) :
    Calls Tryz.prog 51 #[.int .i64 10, .int .i64 wd, .slice (some ad) 2 c, .slice (some bd) 1 d] w fun e w' => ∃ A n c', e = .returned (.slice A n c') ∧ OwnI w.heap.size w' A n c' (exL 10 wd x y z) ∧ Bl w w' := by
  by_cases hc : y = 1
  · have HE := Lib.hid (show exL 10 wd x y z = [z, x] from if_pos hc)
    have e1 : (y == 1) = true := by simpa using hc
    clear hc
    go_enter Tryz.func51, Tryz.ntmps51
    go_wp2_with fail
    refine wp_region_held_drew (S := (fun w' => w'.cell? ad = some (.int .i64 x) ∧ w'.cell? bd = some (.int .i64 y))) (by kernel_rfl) ?_ (fun hHeld => ?_)
    · (try dsimp only); exact ⟨Bl.cells ((Bl.refl _).drew) c0, Bl.cells ((Bl.refl _).drew) c1⟩
    refine held_take (i := 0) (d := 13) (v := ?_) rfl rfl (by kernel_rfl) (by kernel_rfl) (by kernel_rfl) (fun _ _ _ h => h) (Or.inl ⟨by rfl, ?_⟩) (by assumption) ?_
    rotate_left
    · (intro w hSw; (try dsimp only at hSw); go_simp; (try with_reducible rfl))
    (try simp only [List.set_cons_zero, List.set_cons_succ])
    refine held_take (i := 1) (d := 14) (v := ?_) rfl rfl (by kernel_rfl) (by kernel_rfl) (by kernel_rfl) (fun _ _ _ h => h) (Or.inl ⟨by rfl, ?_⟩) (by assumption) ?_
    rotate_left
    · (intro w hSw; (try dsimp only at hSw); go_simp; (try with_reducible rfl))
    (try simp only [List.set_cons_zero, List.set_cons_succ])
    refine held_take (i := 2) (d := 15) (v := ?_) rfl rfl (by kernel_rfl) (by kernel_rfl) (by kernel_rfl) (fun _ _ _ h => h) (Or.inl ⟨by rfl, ?_⟩) (by assumption) ?_
    rotate_left
    · (intro w hSw; (try dsimp only at hSw); go_simp; (try with_reducible rfl))
    (try simp only [List.set_cons_zero, List.set_cons_succ])
    refine held_take (i := 3) (d := 16) (v := ?_) rfl rfl (by kernel_rfl) (by kernel_rfl) (by kernel_rfl) (fun _ _ _ h => h) (Or.inl ⟨by rfl, ?_⟩) (by assumption) ?_
    rotate_left
    · (intro w hSw; (try dsimp only at hSw); go_simp; (try with_reducible rfl))
    (try simp only [List.set_cons_zero, List.set_cons_succ])
    refine held_take (i := 4) (d := 17) (v := ?_) rfl rfl (by kernel_rfl) (by kernel_rfl) (by kernel_rfl) (fun _ _ _ h => h) (Or.inl ⟨by rfl, ?_⟩) (by assumption) ?_
    rotate_left
    · (intro w hSw; (try dsimp only at hSw); go_simp; (try with_reducible rfl))
    (try simp only [List.set_cons_zero, List.set_cons_succ])
    refine held_take (i := 5) (d := 18) (v := ?_) rfl rfl (by kernel_rfl) (by kernel_rfl) (by kernel_rfl) (fun _ _ _ h => h) (Or.inl ⟨by rfl, ?_⟩) (by assumption) ?_
    rotate_left
    · (intro w hSw; (try dsimp only at hSw); go_simp; (try with_reducible rfl))
    (try simp only [List.set_cons_zero, List.set_cons_succ])
    refine held_take (i := 6) (d := 9) (v := ?_) rfl rfl (by kernel_rfl) (by kernel_rfl) (by kernel_rfl) (fun _ _ _ h => h) (Or.inl ⟨by rfl, ?_⟩) (by assumption) ?_
    rotate_left
    · (intro w hSw; (try dsimp only at hSw); go_simp; (try with_reducible rfl))
    (try simp only [List.set_cons_zero, List.set_cons_succ])
    refine held_take (i := 7) (d := 10) (v := ?_) rfl rfl (by kernel_rfl) (by kernel_rfl) (by kernel_rfl) (fun _ _ _ h => h) (Or.inl ⟨by rfl, ?_⟩) (by assumption) ?_
    rotate_left
    · (intro w hSw; (try dsimp only at hSw); go_simp; (try with_reducible rfl))
    (try simp only [List.set_cons_zero, List.set_cons_succ])
    refine wpAnyH_done (by kernel_rfl) ?_ _
    have hV := (Bl.refl w).drew
    replace c0 := Bl.cells ((Bl.refl _).drew) c0
    replace c1 := Bl.cells ((Bl.refl _).drew) c1
    replace c2 := Bl.cells ((Bl.refl _).drew) c2
    generalize w.drew = v0 at hV c0 c1 c2 ⊢
    have had1 := Nat.lt_of_lt_of_le had hV.sz
    have hbd1 := Nat.lt_of_lt_of_le hbd hV.sz
    go_wp2_with (first | (go_at_call 92; refine (spec_pgBit _ _).mono ?_; rintro e v5 ⟨rfl, rfl⟩) | (go_at_call 93; refine (spec_l1MostE _ _ _).mono ?_; rintro e v5 ⟨rfl, rfl⟩) | (go_at_call 53; refine (spec_l1LeastE _ _ _).mono ?_; rintro e v5 ⟨rfl, rfl⟩) | (go_at_call 94; refine (spec_l1AbsE _ (by omega) (by omega) _).mono ?_; rintro e v5 ⟨rfl, rfl⟩; rw [show -(x - y) = y - x by omega]))
    go_ret
    refine ⟨_, _, _, rfl, ?_, hV.alloc _⟩
    rw [HE.out]
    exact own_lit v0 [z, x] rfl hV.sz (by simp)
  · have HE := Lib.hid (show exL 10 wd x y z = [x, z] from if_neg hc)
    have e1 : (y == 1) = false := by simpa using hc
    clear hc
    go_enter Tryz.func51, Tryz.ntmps51
    go_wp2_with fail
    refine wp_region_held_drew (S := (fun w' => w'.cell? ad = some (.int .i64 x) ∧ w'.cell? bd = some (.int .i64 y))) (by kernel_rfl) ?_ (fun hHeld => ?_)
    · (try dsimp only); exact ⟨Bl.cells ((Bl.refl _).drew) c0, Bl.cells ((Bl.refl _).drew) c1⟩
    refine held_take (i := 0) (d := 13) (v := ?_) rfl rfl (by kernel_rfl) (by kernel_rfl) (by kernel_rfl) (fun _ _ _ h => h) (Or.inl ⟨by rfl, ?_⟩) (by assumption) ?_
    rotate_left
    · (intro w hSw; (try dsimp only at hSw); go_simp; (try with_reducible rfl))
    (try simp only [List.set_cons_zero, List.set_cons_succ])
    refine held_take (i := 1) (d := 14) (v := ?_) rfl rfl (by kernel_rfl) (by kernel_rfl) (by kernel_rfl) (fun _ _ _ h => h) (Or.inl ⟨by rfl, ?_⟩) (by assumption) ?_
    rotate_left
    · (intro w hSw; (try dsimp only at hSw); go_simp; (try with_reducible rfl))
    (try simp only [List.set_cons_zero, List.set_cons_succ])
    refine held_take (i := 2) (d := 15) (v := ?_) rfl rfl (by kernel_rfl) (by kernel_rfl) (by kernel_rfl) (fun _ _ _ h => h) (Or.inl ⟨by rfl, ?_⟩) (by assumption) ?_
    rotate_left
    · (intro w hSw; (try dsimp only at hSw); go_simp; (try with_reducible rfl))
    (try simp only [List.set_cons_zero, List.set_cons_succ])
    refine held_take (i := 3) (d := 16) (v := ?_) rfl rfl (by kernel_rfl) (by kernel_rfl) (by kernel_rfl) (fun _ _ _ h => h) (Or.inl ⟨by rfl, ?_⟩) (by assumption) ?_
    rotate_left
    · (intro w hSw; (try dsimp only at hSw); go_simp; (try with_reducible rfl))
    (try simp only [List.set_cons_zero, List.set_cons_succ])
    refine held_take (i := 4) (d := 17) (v := ?_) rfl rfl (by kernel_rfl) (by kernel_rfl) (by kernel_rfl) (fun _ _ _ h => h) (Or.inl ⟨by rfl, ?_⟩) (by assumption) ?_
    rotate_left
    · (intro w hSw; (try dsimp only at hSw); go_simp; (try with_reducible rfl))
    (try simp only [List.set_cons_zero, List.set_cons_succ])
    refine held_take (i := 5) (d := 18) (v := ?_) rfl rfl (by kernel_rfl) (by kernel_rfl) (by kernel_rfl) (fun _ _ _ h => h) (Or.inl ⟨by rfl, ?_⟩) (by assumption) ?_
    rotate_left
    · (intro w hSw; (try dsimp only at hSw); go_simp; (try with_reducible rfl))
    (try simp only [List.set_cons_zero, List.set_cons_succ])
    refine held_take (i := 6) (d := 9) (v := ?_) rfl rfl (by kernel_rfl) (by kernel_rfl) (by kernel_rfl) (fun _ _ _ h => h) (Or.inl ⟨by rfl, ?_⟩) (by assumption) ?_
    rotate_left
    · (intro w hSw; (try dsimp only at hSw); go_simp; (try with_reducible rfl))
    (try simp only [List.set_cons_zero, List.set_cons_succ])
    refine held_take (i := 7) (d := 10) (v := ?_) rfl rfl (by kernel_rfl) (by kernel_rfl) (by kernel_rfl) (fun _ _ _ h => h) (Or.inl ⟨by rfl, ?_⟩) (by assumption) ?_
    rotate_left
    · (intro w hSw; (try dsimp only at hSw); go_simp; (try with_reducible rfl))
    (try simp only [List.set_cons_zero, List.set_cons_succ])
    refine wpAnyH_done (by kernel_rfl) ?_ _
    have hV := (Bl.refl w).drew
    replace c0 := Bl.cells ((Bl.refl _).drew) c0
    replace c1 := Bl.cells ((Bl.refl _).drew) c1
    replace c2 := Bl.cells ((Bl.refl _).drew) c2
    generalize w.drew = v0 at hV c0 c1 c2 ⊢
    have had1 := Nat.lt_of_lt_of_le had hV.sz
    have hbd1 := Nat.lt_of_lt_of_le hbd hV.sz
    go_wp2_with (first | (go_at_call 92; refine (spec_pgBit _ _).mono ?_; rintro e v5 ⟨rfl, rfl⟩) | (go_at_call 93; refine (spec_l1MostE _ _ _).mono ?_; rintro e v5 ⟨rfl, rfl⟩) | (go_at_call 53; refine (spec_l1LeastE _ _ _).mono ?_; rintro e v5 ⟨rfl, rfl⟩) | (go_at_call 94; refine (spec_l1AbsE _ (by omega) (by omega) _).mono ?_; rintro e v5 ⟨rfl, rfl⟩; rw [show -(x - y) = y - x by omega]))
    go_ret
    refine ⟨_, _, _, rfl, ?_, hV.alloc _⟩
    rw [HE.out]
    exact own_lit v0 [x, z] rfl hV.sz (by simp)
set_option maxRecDepth 20000 in
set_option maxHeartbeats 2000000 in
theorem pgE_11 (wd x y : Int) (ad bd : Addr) (c d : Nat) (w : World) (hx : 0 ≤ x ∧ x ≤ 15) (hy : 0 ≤ y ∧ y ≤ 15) (hwd : 1 ≤ wd ∧ wd ≤ 4) (had : ad.block < w.heap.size) (hbd : bd.block < w.heap.size) (c0 : w.cell? ad = some (.int .i64 x)) (c1 : w.cell? bd = some (.int .i64 y)) :
    Calls Tryz.prog 51 #[.int .i64 11, .int .i64 wd, .slice (some ad) 1 c, .slice (some bd) 1 d] w fun e w' => ∃ A n c', e = .returned (.slice A n c') ∧ OwnI w.heap.size w' A n c' (exL 11 wd x y 0) ∧ Bl w w' := by
  rcases (by omega : wd = 1 ∨ wd = 2 ∨ wd = 3 ∨ wd = 4) with rfl | rfl | rfl | rfl
  · have HE := Lib.hid (show exL 11 1 x y 0 = [(x + y) % 2] from rfl)
    have r1 : (x + y).tmod 2 = (x + y) % 2 := Int.tmod_eq_emod_of_nonneg (by omega)
    go_enter Tryz.func51, Tryz.ntmps51
    go_wp2_with fail
    refine wp_region_held_drew (S := (fun w' => w'.cell? ad = some (.int .i64 x) ∧ w'.cell? bd = some (.int .i64 y))) (by kernel_rfl) ?_ (fun hHeld => ?_)
    · (try dsimp only); exact ⟨Bl.cells ((Bl.refl _).drew) c0, Bl.cells ((Bl.refl _).drew) c1⟩
    refine held_take (i := 0) (d := 13) (v := ?_) rfl rfl (by kernel_rfl) (by kernel_rfl) (by kernel_rfl) (fun _ _ _ h => h) (Or.inl ⟨by rfl, ?_⟩) (by assumption) ?_
    rotate_left
    · (intro w hSw; (try dsimp only at hSw); go_simp; (try with_reducible rfl))
    (try simp only [List.set_cons_zero, List.set_cons_succ])
    refine held_take (i := 1) (d := 14) (v := ?_) rfl rfl (by kernel_rfl) (by kernel_rfl) (by kernel_rfl) (fun _ _ _ h => h) (Or.inl ⟨by rfl, ?_⟩) (by assumption) ?_
    rotate_left
    · (intro w hSw; (try dsimp only at hSw); go_simp; (try with_reducible rfl))
    (try simp only [List.set_cons_zero, List.set_cons_succ])
    refine held_take (i := 2) (d := 15) (v := ?_) rfl rfl (by kernel_rfl) (by kernel_rfl) (by kernel_rfl) (fun _ _ _ h => h) (Or.inl ⟨by rfl, ?_⟩) (by assumption) ?_
    rotate_left
    · (intro w hSw; (try dsimp only at hSw); go_simp; (try with_reducible rfl))
    (try simp only [List.set_cons_zero, List.set_cons_succ])
    refine held_take (i := 3) (d := 16) (v := ?_) rfl rfl (by kernel_rfl) (by kernel_rfl) (by kernel_rfl) (fun _ _ _ h => h) (Or.inl ⟨by rfl, ?_⟩) (by assumption) ?_
    rotate_left
    · (intro w hSw; (try dsimp only at hSw); go_simp; (try with_reducible rfl))
    (try simp only [List.set_cons_zero, List.set_cons_succ])
    refine held_take (i := 4) (d := 17) (v := ?_) rfl rfl (by kernel_rfl) (by kernel_rfl) (by kernel_rfl) (fun _ _ _ h => h) (Or.inl ⟨by rfl, ?_⟩) (by assumption) ?_
    rotate_left
    · (intro w hSw; (try dsimp only at hSw); go_simp; (try with_reducible rfl))
    (try simp only [List.set_cons_zero, List.set_cons_succ])
    refine held_take (i := 5) (d := 18) (v := ?_) rfl rfl (by kernel_rfl) (by kernel_rfl) (by kernel_rfl) (fun _ _ _ h => h) (Or.inl ⟨by rfl, ?_⟩) (by assumption) ?_
    rotate_left
    · (intro w hSw; (try dsimp only at hSw); go_simp; (try with_reducible rfl))
    (try simp only [List.set_cons_zero, List.set_cons_succ])
    refine held_take (i := 6) (d := 9) (v := ?_) rfl rfl (by kernel_rfl) (by kernel_rfl) (by kernel_rfl) (fun _ _ _ h => h) (Or.inl ⟨by rfl, ?_⟩) (by assumption) ?_
    rotate_left
    · (intro w hSw; (try dsimp only at hSw); go_simp; (try with_reducible rfl))
    (try simp only [List.set_cons_zero, List.set_cons_succ])
    refine held_take (i := 7) (d := 10) (v := ?_) rfl rfl (by kernel_rfl) (by kernel_rfl) (by kernel_rfl) (fun _ _ _ h => h) (Or.inl ⟨by rfl, ?_⟩) (by assumption) ?_
    rotate_left
    · (intro w hSw; (try dsimp only at hSw); go_simp; (try with_reducible rfl))
    (try simp only [List.set_cons_zero, List.set_cons_succ])
    refine wpAnyH_done (by kernel_rfl) ?_ _
    have hV := (Bl.refl w).drew
    replace c0 := Bl.cells ((Bl.refl _).drew) c0
    replace c1 := Bl.cells ((Bl.refl _).drew) c1
    generalize w.drew = v0 at hV c0 c1 ⊢
    have had1 := Nat.lt_of_lt_of_le had hV.sz
    have hbd1 := Nat.lt_of_lt_of_le hbd hV.sz
    go_wp2_with (first | (go_at_call 92; refine (spec_pgBit _ _).mono ?_; rintro e v5 ⟨rfl, rfl⟩) | (go_at_call 93; refine (spec_l1MostE _ _ _).mono ?_; rintro e v5 ⟨rfl, rfl⟩) | (go_at_call 53; refine (spec_l1LeastE _ _ _).mono ?_; rintro e v5 ⟨rfl, rfl⟩) | (go_at_call 94; refine (spec_l1AbsE _ (by omega) (by omega) _).mono ?_; rintro e v5 ⟨rfl, rfl⟩; rw [show -(x - y) = y - x by omega]))
    go_ret
    refine ⟨_, _, _, rfl, ?_, hV.alloc _⟩
    rw [HE.out]
    exact own_lit v0 [(x + y) % 2] rfl hV.sz (by simp)
  · have HE := Lib.hid (show exL 11 2 x y 0 = [(x + y) % 4] from rfl)
    have r1 : (x + y).tmod 4 = (x + y) % 4 := Int.tmod_eq_emod_of_nonneg (by omega)
    go_enter Tryz.func51, Tryz.ntmps51
    go_wp2_with fail
    refine wp_region_held_drew (S := (fun w' => w'.cell? ad = some (.int .i64 x) ∧ w'.cell? bd = some (.int .i64 y))) (by kernel_rfl) ?_ (fun hHeld => ?_)
    · (try dsimp only); exact ⟨Bl.cells ((Bl.refl _).drew) c0, Bl.cells ((Bl.refl _).drew) c1⟩
    refine held_take (i := 0) (d := 13) (v := ?_) rfl rfl (by kernel_rfl) (by kernel_rfl) (by kernel_rfl) (fun _ _ _ h => h) (Or.inl ⟨by rfl, ?_⟩) (by assumption) ?_
    rotate_left
    · (intro w hSw; (try dsimp only at hSw); go_simp; (try with_reducible rfl))
    (try simp only [List.set_cons_zero, List.set_cons_succ])
    refine held_take (i := 1) (d := 14) (v := ?_) rfl rfl (by kernel_rfl) (by kernel_rfl) (by kernel_rfl) (fun _ _ _ h => h) (Or.inl ⟨by rfl, ?_⟩) (by assumption) ?_
    rotate_left
    · (intro w hSw; (try dsimp only at hSw); go_simp; (try with_reducible rfl))
    (try simp only [List.set_cons_zero, List.set_cons_succ])
    refine held_take (i := 2) (d := 15) (v := ?_) rfl rfl (by kernel_rfl) (by kernel_rfl) (by kernel_rfl) (fun _ _ _ h => h) (Or.inl ⟨by rfl, ?_⟩) (by assumption) ?_
    rotate_left
    · (intro w hSw; (try dsimp only at hSw); go_simp; (try with_reducible rfl))
    (try simp only [List.set_cons_zero, List.set_cons_succ])
    refine held_take (i := 3) (d := 16) (v := ?_) rfl rfl (by kernel_rfl) (by kernel_rfl) (by kernel_rfl) (fun _ _ _ h => h) (Or.inl ⟨by rfl, ?_⟩) (by assumption) ?_
    rotate_left
    · (intro w hSw; (try dsimp only at hSw); go_simp; (try with_reducible rfl))
    (try simp only [List.set_cons_zero, List.set_cons_succ])
    refine held_take (i := 4) (d := 17) (v := ?_) rfl rfl (by kernel_rfl) (by kernel_rfl) (by kernel_rfl) (fun _ _ _ h => h) (Or.inl ⟨by rfl, ?_⟩) (by assumption) ?_
    rotate_left
    · (intro w hSw; (try dsimp only at hSw); go_simp; (try with_reducible rfl))
    (try simp only [List.set_cons_zero, List.set_cons_succ])
    refine held_take (i := 5) (d := 18) (v := ?_) rfl rfl (by kernel_rfl) (by kernel_rfl) (by kernel_rfl) (fun _ _ _ h => h) (Or.inl ⟨by rfl, ?_⟩) (by assumption) ?_
    rotate_left
    · (intro w hSw; (try dsimp only at hSw); go_simp; (try with_reducible rfl))
    (try simp only [List.set_cons_zero, List.set_cons_succ])
    refine held_take (i := 6) (d := 9) (v := ?_) rfl rfl (by kernel_rfl) (by kernel_rfl) (by kernel_rfl) (fun _ _ _ h => h) (Or.inl ⟨by rfl, ?_⟩) (by assumption) ?_
    rotate_left
    · (intro w hSw; (try dsimp only at hSw); go_simp; (try with_reducible rfl))
    (try simp only [List.set_cons_zero, List.set_cons_succ])
    refine held_take (i := 7) (d := 10) (v := ?_) rfl rfl (by kernel_rfl) (by kernel_rfl) (by kernel_rfl) (fun _ _ _ h => h) (Or.inl ⟨by rfl, ?_⟩) (by assumption) ?_
    rotate_left
    · (intro w hSw; (try dsimp only at hSw); go_simp; (try with_reducible rfl))
    (try simp only [List.set_cons_zero, List.set_cons_succ])
    refine wpAnyH_done (by kernel_rfl) ?_ _
    have hV := (Bl.refl w).drew
    replace c0 := Bl.cells ((Bl.refl _).drew) c0
    replace c1 := Bl.cells ((Bl.refl _).drew) c1
    generalize w.drew = v0 at hV c0 c1 ⊢
    have had1 := Nat.lt_of_lt_of_le had hV.sz
    have hbd1 := Nat.lt_of_lt_of_le hbd hV.sz
    go_wp2_with (first | (go_at_call 92; refine (spec_pgBit _ _).mono ?_; rintro e v5 ⟨rfl, rfl⟩) | (go_at_call 93; refine (spec_l1MostE _ _ _).mono ?_; rintro e v5 ⟨rfl, rfl⟩) | (go_at_call 53; refine (spec_l1LeastE _ _ _).mono ?_; rintro e v5 ⟨rfl, rfl⟩) | (go_at_call 94; refine (spec_l1AbsE _ (by omega) (by omega) _).mono ?_; rintro e v5 ⟨rfl, rfl⟩; rw [show -(x - y) = y - x by omega]))
    go_ret
    refine ⟨_, _, _, rfl, ?_, hV.alloc _⟩
    rw [HE.out]
    exact own_lit v0 [(x + y) % 4] rfl hV.sz (by simp)
  · have HE := Lib.hid (show exL 11 3 x y 0 = [(x + y) % 8] from rfl)
    have r1 : (x + y).tmod 8 = (x + y) % 8 := Int.tmod_eq_emod_of_nonneg (by omega)
    go_enter Tryz.func51, Tryz.ntmps51
    go_wp2_with fail
    refine wp_region_held_drew (S := (fun w' => w'.cell? ad = some (.int .i64 x) ∧ w'.cell? bd = some (.int .i64 y))) (by kernel_rfl) ?_ (fun hHeld => ?_)
    · (try dsimp only); exact ⟨Bl.cells ((Bl.refl _).drew) c0, Bl.cells ((Bl.refl _).drew) c1⟩
    refine held_take (i := 0) (d := 13) (v := ?_) rfl rfl (by kernel_rfl) (by kernel_rfl) (by kernel_rfl) (fun _ _ _ h => h) (Or.inl ⟨by rfl, ?_⟩) (by assumption) ?_
    rotate_left
    · (intro w hSw; (try dsimp only at hSw); go_simp; (try with_reducible rfl))
    (try simp only [List.set_cons_zero, List.set_cons_succ])
    refine held_take (i := 1) (d := 14) (v := ?_) rfl rfl (by kernel_rfl) (by kernel_rfl) (by kernel_rfl) (fun _ _ _ h => h) (Or.inl ⟨by rfl, ?_⟩) (by assumption) ?_
    rotate_left
    · (intro w hSw; (try dsimp only at hSw); go_simp; (try with_reducible rfl))
    (try simp only [List.set_cons_zero, List.set_cons_succ])
    refine held_take (i := 2) (d := 15) (v := ?_) rfl rfl (by kernel_rfl) (by kernel_rfl) (by kernel_rfl) (fun _ _ _ h => h) (Or.inl ⟨by rfl, ?_⟩) (by assumption) ?_
    rotate_left
    · (intro w hSw; (try dsimp only at hSw); go_simp; (try with_reducible rfl))
    (try simp only [List.set_cons_zero, List.set_cons_succ])
    refine held_take (i := 3) (d := 16) (v := ?_) rfl rfl (by kernel_rfl) (by kernel_rfl) (by kernel_rfl) (fun _ _ _ h => h) (Or.inl ⟨by rfl, ?_⟩) (by assumption) ?_
    rotate_left
    · (intro w hSw; (try dsimp only at hSw); go_simp; (try with_reducible rfl))
    (try simp only [List.set_cons_zero, List.set_cons_succ])
    refine held_take (i := 4) (d := 17) (v := ?_) rfl rfl (by kernel_rfl) (by kernel_rfl) (by kernel_rfl) (fun _ _ _ h => h) (Or.inl ⟨by rfl, ?_⟩) (by assumption) ?_
    rotate_left
    · (intro w hSw; (try dsimp only at hSw); go_simp; (try with_reducible rfl))
    (try simp only [List.set_cons_zero, List.set_cons_succ])
    refine held_take (i := 5) (d := 18) (v := ?_) rfl rfl (by kernel_rfl) (by kernel_rfl) (by kernel_rfl) (fun _ _ _ h => h) (Or.inl ⟨by rfl, ?_⟩) (by assumption) ?_
    rotate_left
    · (intro w hSw; (try dsimp only at hSw); go_simp; (try with_reducible rfl))
    (try simp only [List.set_cons_zero, List.set_cons_succ])
    refine held_take (i := 6) (d := 9) (v := ?_) rfl rfl (by kernel_rfl) (by kernel_rfl) (by kernel_rfl) (fun _ _ _ h => h) (Or.inl ⟨by rfl, ?_⟩) (by assumption) ?_
    rotate_left
    · (intro w hSw; (try dsimp only at hSw); go_simp; (try with_reducible rfl))
    (try simp only [List.set_cons_zero, List.set_cons_succ])
    refine held_take (i := 7) (d := 10) (v := ?_) rfl rfl (by kernel_rfl) (by kernel_rfl) (by kernel_rfl) (fun _ _ _ h => h) (Or.inl ⟨by rfl, ?_⟩) (by assumption) ?_
    rotate_left
    · (intro w hSw; (try dsimp only at hSw); go_simp; (try with_reducible rfl))
    (try simp only [List.set_cons_zero, List.set_cons_succ])
    refine wpAnyH_done (by kernel_rfl) ?_ _
    have hV := (Bl.refl w).drew
    replace c0 := Bl.cells ((Bl.refl _).drew) c0
    replace c1 := Bl.cells ((Bl.refl _).drew) c1
    generalize w.drew = v0 at hV c0 c1 ⊢
    have had1 := Nat.lt_of_lt_of_le had hV.sz
    have hbd1 := Nat.lt_of_lt_of_le hbd hV.sz
    go_wp2_with (first | (go_at_call 92; refine (spec_pgBit _ _).mono ?_; rintro e v5 ⟨rfl, rfl⟩) | (go_at_call 93; refine (spec_l1MostE _ _ _).mono ?_; rintro e v5 ⟨rfl, rfl⟩) | (go_at_call 53; refine (spec_l1LeastE _ _ _).mono ?_; rintro e v5 ⟨rfl, rfl⟩) | (go_at_call 94; refine (spec_l1AbsE _ (by omega) (by omega) _).mono ?_; rintro e v5 ⟨rfl, rfl⟩; rw [show -(x - y) = y - x by omega]))
    go_ret
    refine ⟨_, _, _, rfl, ?_, hV.alloc _⟩
    rw [HE.out]
    exact own_lit v0 [(x + y) % 8] rfl hV.sz (by simp)
  · have HE := Lib.hid (show exL 11 4 x y 0 = [(x + y) % 16] from rfl)
    have r1 : (x + y).tmod 16 = (x + y) % 16 := Int.tmod_eq_emod_of_nonneg (by omega)
    go_enter Tryz.func51, Tryz.ntmps51
    go_wp2_with fail
    refine wp_region_held_drew (S := (fun w' => w'.cell? ad = some (.int .i64 x) ∧ w'.cell? bd = some (.int .i64 y))) (by kernel_rfl) ?_ (fun hHeld => ?_)
    · (try dsimp only); exact ⟨Bl.cells ((Bl.refl _).drew) c0, Bl.cells ((Bl.refl _).drew) c1⟩
    refine held_take (i := 0) (d := 13) (v := ?_) rfl rfl (by kernel_rfl) (by kernel_rfl) (by kernel_rfl) (fun _ _ _ h => h) (Or.inl ⟨by rfl, ?_⟩) (by assumption) ?_
    rotate_left
    · (intro w hSw; (try dsimp only at hSw); go_simp; (try with_reducible rfl))
    (try simp only [List.set_cons_zero, List.set_cons_succ])
    refine held_take (i := 1) (d := 14) (v := ?_) rfl rfl (by kernel_rfl) (by kernel_rfl) (by kernel_rfl) (fun _ _ _ h => h) (Or.inl ⟨by rfl, ?_⟩) (by assumption) ?_
    rotate_left
    · (intro w hSw; (try dsimp only at hSw); go_simp; (try with_reducible rfl))
    (try simp only [List.set_cons_zero, List.set_cons_succ])
    refine held_take (i := 2) (d := 15) (v := ?_) rfl rfl (by kernel_rfl) (by kernel_rfl) (by kernel_rfl) (fun _ _ _ h => h) (Or.inl ⟨by rfl, ?_⟩) (by assumption) ?_
    rotate_left
    · (intro w hSw; (try dsimp only at hSw); go_simp; (try with_reducible rfl))
    (try simp only [List.set_cons_zero, List.set_cons_succ])
    refine held_take (i := 3) (d := 16) (v := ?_) rfl rfl (by kernel_rfl) (by kernel_rfl) (by kernel_rfl) (fun _ _ _ h => h) (Or.inl ⟨by rfl, ?_⟩) (by assumption) ?_
    rotate_left
    · (intro w hSw; (try dsimp only at hSw); go_simp; (try with_reducible rfl))
    (try simp only [List.set_cons_zero, List.set_cons_succ])
    refine held_take (i := 4) (d := 17) (v := ?_) rfl rfl (by kernel_rfl) (by kernel_rfl) (by kernel_rfl) (fun _ _ _ h => h) (Or.inl ⟨by rfl, ?_⟩) (by assumption) ?_
    rotate_left
    · (intro w hSw; (try dsimp only at hSw); go_simp; (try with_reducible rfl))
    (try simp only [List.set_cons_zero, List.set_cons_succ])
    refine held_take (i := 5) (d := 18) (v := ?_) rfl rfl (by kernel_rfl) (by kernel_rfl) (by kernel_rfl) (fun _ _ _ h => h) (Or.inl ⟨by rfl, ?_⟩) (by assumption) ?_
    rotate_left
    · (intro w hSw; (try dsimp only at hSw); go_simp; (try with_reducible rfl))
    (try simp only [List.set_cons_zero, List.set_cons_succ])
    refine held_take (i := 6) (d := 9) (v := ?_) rfl rfl (by kernel_rfl) (by kernel_rfl) (by kernel_rfl) (fun _ _ _ h => h) (Or.inl ⟨by rfl, ?_⟩) (by assumption) ?_
    rotate_left
    · (intro w hSw; (try dsimp only at hSw); go_simp; (try with_reducible rfl))
    (try simp only [List.set_cons_zero, List.set_cons_succ])
    refine held_take (i := 7) (d := 10) (v := ?_) rfl rfl (by kernel_rfl) (by kernel_rfl) (by kernel_rfl) (fun _ _ _ h => h) (Or.inl ⟨by rfl, ?_⟩) (by assumption) ?_
    rotate_left
    · (intro w hSw; (try dsimp only at hSw); go_simp; (try with_reducible rfl))
    (try simp only [List.set_cons_zero, List.set_cons_succ])
    refine wpAnyH_done (by kernel_rfl) ?_ _
    have hV := (Bl.refl w).drew
    replace c0 := Bl.cells ((Bl.refl _).drew) c0
    replace c1 := Bl.cells ((Bl.refl _).drew) c1
    generalize w.drew = v0 at hV c0 c1 ⊢
    have had1 := Nat.lt_of_lt_of_le had hV.sz
    have hbd1 := Nat.lt_of_lt_of_le hbd hV.sz
    go_wp2_with (first | (go_at_call 92; refine (spec_pgBit _ _).mono ?_; rintro e v5 ⟨rfl, rfl⟩) | (go_at_call 93; refine (spec_l1MostE _ _ _).mono ?_; rintro e v5 ⟨rfl, rfl⟩) | (go_at_call 53; refine (spec_l1LeastE _ _ _).mono ?_; rintro e v5 ⟨rfl, rfl⟩) | (go_at_call 94; refine (spec_l1AbsE _ (by omega) (by omega) _).mono ?_; rintro e v5 ⟨rfl, rfl⟩; rw [show -(x - y) = y - x by omega]))
    go_ret
    refine ⟨_, _, _, rfl, ?_, hV.alloc _⟩
    rw [HE.out]
    exact own_lit v0 [(x + y) % 16] rfl hV.sz (by simp)
set_option maxRecDepth 20000 in
set_option maxHeartbeats 2000000 in
theorem imE_0 (wd x y : Int) (ad bd : Addr) (c d : Nat) (w : World) (hx : 0 ≤ x ∧ x ≤ 15) (hy : 0 ≤ y ∧ y ≤ 15) (hwd : 1 ≤ wd ∧ wd ≤ 4) (had : ad.block < w.heap.size) (hbd : bd.block < w.heap.size) (c0 : w.cell? ad = some (.int .i64 x)) (c1 : w.cell? bd = some (.int .i64 y)) :
    Calls Tryz.prog 60 #[.int .i64 0, .int .i64 wd, .slice (some ad) 1 c, .slice (some bd) 1 d] w fun e w' => ∃ A n c', e = .returned (.slice A n c') ∧ OwnI w.heap.size w' A n c' (exL 0 wd x y 0) ∧ Bl w w' := by
  by_cases hc : y < x
  · have HE := Lib.hid (show exL 0 wd x y 0 = [1] from if_pos hc)
    skip
    go_enter Tryz.func60, Tryz.ntmps60
    go_wp2_with fail
    refine wp_region_held_drew (S := (fun w' => w'.cell? ad = some (.int .i64 x) ∧ w'.cell? bd = some (.int .i64 y))) (by kernel_rfl) ?_ (fun hHeld => ?_)
    · (try dsimp only); exact ⟨Bl.cells ((Bl.refl _).drew) c0, Bl.cells ((Bl.refl _).drew) c1⟩
    refine held_take (i := 0) (d := 11) (v := ?_) rfl rfl (by kernel_rfl) (by kernel_rfl) (by kernel_rfl) (fun _ _ _ h => h) (Or.inl ⟨by rfl, ?_⟩) (by assumption) ?_
    rotate_left
    · (intro w hSw; (try dsimp only at hSw); go_simp; (try with_reducible rfl))
    (try simp only [List.set_cons_zero, List.set_cons_succ])
    refine held_take (i := 1) (d := 12) (v := ?_) rfl rfl (by kernel_rfl) (by kernel_rfl) (by kernel_rfl) (fun _ _ _ h => h) (Or.inl ⟨by rfl, ?_⟩) (by assumption) ?_
    rotate_left
    · (intro w hSw; (try dsimp only at hSw); go_simp; (try with_reducible rfl))
    (try simp only [List.set_cons_zero, List.set_cons_succ])
    refine held_take (i := 2) (d := 13) (v := ?_) rfl rfl (by kernel_rfl) (by kernel_rfl) (by kernel_rfl) (fun _ _ _ h => h) (Or.inl ⟨by rfl, ?_⟩) (by assumption) ?_
    rotate_left
    · (intro w hSw; (try dsimp only at hSw); go_simp; (try with_reducible rfl))
    (try simp only [List.set_cons_zero, List.set_cons_succ])
    refine held_take (i := 3) (d := 14) (v := ?_) rfl rfl (by kernel_rfl) (by kernel_rfl) (by kernel_rfl) (fun _ _ _ h => h) (Or.inl ⟨by rfl, ?_⟩) (by assumption) ?_
    rotate_left
    · (intro w hSw; (try dsimp only at hSw); go_simp; (try with_reducible rfl))
    (try simp only [List.set_cons_zero, List.set_cons_succ])
    refine held_take (i := 4) (d := 15) (v := ?_) rfl rfl (by kernel_rfl) (by kernel_rfl) (by kernel_rfl) (fun _ _ _ h => h) (Or.inl ⟨by rfl, ?_⟩) (by assumption) ?_
    rotate_left
    · (intro w hSw; (try dsimp only at hSw); go_simp; (try with_reducible rfl))
    (try simp only [List.set_cons_zero, List.set_cons_succ])
    refine held_take (i := 5) (d := 16) (v := ?_) rfl rfl (by kernel_rfl) (by kernel_rfl) (by kernel_rfl) (fun _ _ _ h => h) (Or.inl ⟨by rfl, ?_⟩) (by assumption) ?_
    rotate_left
    · (intro w hSw; (try dsimp only at hSw); go_simp; (try with_reducible rfl))
    (try simp only [List.set_cons_zero, List.set_cons_succ])
    refine held_take (i := 6) (d := 9) (v := ?_) rfl rfl (by kernel_rfl) (by kernel_rfl) (by kernel_rfl) (fun _ _ _ h => h) (Or.inl ⟨by rfl, ?_⟩) (by assumption) ?_
    rotate_left
    · (intro w hSw; (try dsimp only at hSw); go_simp; (try with_reducible rfl))
    (try simp only [List.set_cons_zero, List.set_cons_succ])
    refine held_take (i := 7) (d := 10) (v := ?_) rfl rfl (by kernel_rfl) (by kernel_rfl) (by kernel_rfl) (fun _ _ _ h => h) (Or.inl ⟨by rfl, ?_⟩) (by assumption) ?_
    rotate_left
    · (intro w hSw; (try dsimp only at hSw); go_simp; (try with_reducible rfl))
    (try simp only [List.set_cons_zero, List.set_cons_succ])
    refine wpAnyH_done (by kernel_rfl) ?_ _
    have hV := (Bl.refl w).drew
    replace c0 := Bl.cells ((Bl.refl _).drew) c0
    replace c1 := Bl.cells ((Bl.refl _).drew) c1
    generalize w.drew = v0 at hV c0 c1 ⊢
    have had1 := Nat.lt_of_lt_of_le had hV.sz
    have hbd1 := Nat.lt_of_lt_of_le hbd hV.sz
    go_wp2_with (first | (go_at_call 100; refine (impl_bit _ _).mono ?_; rintro e v5 ⟨rfl, rfl⟩))
    go_ret
    refine ⟨_, _, _, rfl, ?_, hV.alloc _⟩
    rw [HE.out]
    exact own_lit v0 [1] rfl hV.sz (by simp)
  · have HE := Lib.hid (show exL 0 wd x y 0 = [0] from if_neg hc)
    skip
    go_enter Tryz.func60, Tryz.ntmps60
    go_wp2_with fail
    refine wp_region_held_drew (S := (fun w' => w'.cell? ad = some (.int .i64 x) ∧ w'.cell? bd = some (.int .i64 y))) (by kernel_rfl) ?_ (fun hHeld => ?_)
    · (try dsimp only); exact ⟨Bl.cells ((Bl.refl _).drew) c0, Bl.cells ((Bl.refl _).drew) c1⟩
    refine held_take (i := 0) (d := 11) (v := ?_) rfl rfl (by kernel_rfl) (by kernel_rfl) (by kernel_rfl) (fun _ _ _ h => h) (Or.inl ⟨by rfl, ?_⟩) (by assumption) ?_
    rotate_left
    · (intro w hSw; (try dsimp only at hSw); go_simp; (try with_reducible rfl))
    (try simp only [List.set_cons_zero, List.set_cons_succ])
    refine held_take (i := 1) (d := 12) (v := ?_) rfl rfl (by kernel_rfl) (by kernel_rfl) (by kernel_rfl) (fun _ _ _ h => h) (Or.inl ⟨by rfl, ?_⟩) (by assumption) ?_
    rotate_left
    · (intro w hSw; (try dsimp only at hSw); go_simp; (try with_reducible rfl))
    (try simp only [List.set_cons_zero, List.set_cons_succ])
    refine held_take (i := 2) (d := 13) (v := ?_) rfl rfl (by kernel_rfl) (by kernel_rfl) (by kernel_rfl) (fun _ _ _ h => h) (Or.inl ⟨by rfl, ?_⟩) (by assumption) ?_
    rotate_left
    · (intro w hSw; (try dsimp only at hSw); go_simp; (try with_reducible rfl))
    (try simp only [List.set_cons_zero, List.set_cons_succ])
    refine held_take (i := 3) (d := 14) (v := ?_) rfl rfl (by kernel_rfl) (by kernel_rfl) (by kernel_rfl) (fun _ _ _ h => h) (Or.inl ⟨by rfl, ?_⟩) (by assumption) ?_
    rotate_left
    · (intro w hSw; (try dsimp only at hSw); go_simp; (try with_reducible rfl))
    (try simp only [List.set_cons_zero, List.set_cons_succ])
    refine held_take (i := 4) (d := 15) (v := ?_) rfl rfl (by kernel_rfl) (by kernel_rfl) (by kernel_rfl) (fun _ _ _ h => h) (Or.inl ⟨by rfl, ?_⟩) (by assumption) ?_
    rotate_left
    · (intro w hSw; (try dsimp only at hSw); go_simp; (try with_reducible rfl))
    (try simp only [List.set_cons_zero, List.set_cons_succ])
    refine held_take (i := 5) (d := 16) (v := ?_) rfl rfl (by kernel_rfl) (by kernel_rfl) (by kernel_rfl) (fun _ _ _ h => h) (Or.inl ⟨by rfl, ?_⟩) (by assumption) ?_
    rotate_left
    · (intro w hSw; (try dsimp only at hSw); go_simp; (try with_reducible rfl))
    (try simp only [List.set_cons_zero, List.set_cons_succ])
    refine held_take (i := 6) (d := 9) (v := ?_) rfl rfl (by kernel_rfl) (by kernel_rfl) (by kernel_rfl) (fun _ _ _ h => h) (Or.inl ⟨by rfl, ?_⟩) (by assumption) ?_
    rotate_left
    · (intro w hSw; (try dsimp only at hSw); go_simp; (try with_reducible rfl))
    (try simp only [List.set_cons_zero, List.set_cons_succ])
    refine held_take (i := 7) (d := 10) (v := ?_) rfl rfl (by kernel_rfl) (by kernel_rfl) (by kernel_rfl) (fun _ _ _ h => h) (Or.inl ⟨by rfl, ?_⟩) (by assumption) ?_
    rotate_left
    · (intro w hSw; (try dsimp only at hSw); go_simp; (try with_reducible rfl))
    (try simp only [List.set_cons_zero, List.set_cons_succ])
    refine wpAnyH_done (by kernel_rfl) ?_ _
    have hV := (Bl.refl w).drew
    replace c0 := Bl.cells ((Bl.refl _).drew) c0
    replace c1 := Bl.cells ((Bl.refl _).drew) c1
    generalize w.drew = v0 at hV c0 c1 ⊢
    have had1 := Nat.lt_of_lt_of_le had hV.sz
    have hbd1 := Nat.lt_of_lt_of_le hbd hV.sz
    go_wp2_with (first | (go_at_call 100; refine (impl_bit _ _).mono ?_; rintro e v5 ⟨rfl, rfl⟩))
    go_ret
    refine ⟨_, _, _, rfl, ?_, hV.alloc _⟩
    rw [HE.out]
    exact own_lit v0 [0] rfl hV.sz (by simp)
set_option maxRecDepth 20000 in
set_option maxHeartbeats 2000000 in
theorem imE_1 (wd x y : Int) (ad bd : Addr) (c d : Nat) (w : World) (hx : 0 ≤ x ∧ x ≤ 15) (hy : 0 ≤ y ∧ y ≤ 15) (hwd : 1 ≤ wd ∧ wd ≤ 4) (had : ad.block < w.heap.size) (hbd : bd.block < w.heap.size) (c0 : w.cell? ad = some (.int .i64 x)) (c1 : w.cell? bd = some (.int .i64 y)) :
    Calls Tryz.prog 60 #[.int .i64 1, .int .i64 wd, .slice (some ad) 1 c, .slice (some bd) 1 d] w fun e w' => ∃ A n c', e = .returned (.slice A n c') ∧ OwnI w.heap.size w' A n c' (exL 1 wd x y 0) ∧ Bl w w' := by
  by_cases hc : x = y
  · have HE := Lib.hid (show exL 1 wd x y 0 = [1] from if_pos hc)
    have e1 : (x == y) = true := by simpa using hc
    clear hc
    go_enter Tryz.func60, Tryz.ntmps60
    go_wp2_with fail
    refine wp_region_held_drew (S := (fun w' => w'.cell? ad = some (.int .i64 x) ∧ w'.cell? bd = some (.int .i64 y))) (by kernel_rfl) ?_ (fun hHeld => ?_)
    · (try dsimp only); exact ⟨Bl.cells ((Bl.refl _).drew) c0, Bl.cells ((Bl.refl _).drew) c1⟩
    refine held_take (i := 0) (d := 11) (v := ?_) rfl rfl (by kernel_rfl) (by kernel_rfl) (by kernel_rfl) (fun _ _ _ h => h) (Or.inl ⟨by rfl, ?_⟩) (by assumption) ?_
    rotate_left
    · (intro w hSw; (try dsimp only at hSw); go_simp; (try with_reducible rfl))
    (try simp only [List.set_cons_zero, List.set_cons_succ])
    refine held_take (i := 1) (d := 12) (v := ?_) rfl rfl (by kernel_rfl) (by kernel_rfl) (by kernel_rfl) (fun _ _ _ h => h) (Or.inl ⟨by rfl, ?_⟩) (by assumption) ?_
    rotate_left
    · (intro w hSw; (try dsimp only at hSw); go_simp; (try with_reducible rfl))
    (try simp only [List.set_cons_zero, List.set_cons_succ])
    refine held_take (i := 2) (d := 13) (v := ?_) rfl rfl (by kernel_rfl) (by kernel_rfl) (by kernel_rfl) (fun _ _ _ h => h) (Or.inl ⟨by rfl, ?_⟩) (by assumption) ?_
    rotate_left
    · (intro w hSw; (try dsimp only at hSw); go_simp; (try with_reducible rfl))
    (try simp only [List.set_cons_zero, List.set_cons_succ])
    refine held_take (i := 3) (d := 14) (v := ?_) rfl rfl (by kernel_rfl) (by kernel_rfl) (by kernel_rfl) (fun _ _ _ h => h) (Or.inl ⟨by rfl, ?_⟩) (by assumption) ?_
    rotate_left
    · (intro w hSw; (try dsimp only at hSw); go_simp; (try with_reducible rfl))
    (try simp only [List.set_cons_zero, List.set_cons_succ])
    refine held_take (i := 4) (d := 15) (v := ?_) rfl rfl (by kernel_rfl) (by kernel_rfl) (by kernel_rfl) (fun _ _ _ h => h) (Or.inl ⟨by rfl, ?_⟩) (by assumption) ?_
    rotate_left
    · (intro w hSw; (try dsimp only at hSw); go_simp; (try with_reducible rfl))
    (try simp only [List.set_cons_zero, List.set_cons_succ])
    refine held_take (i := 5) (d := 16) (v := ?_) rfl rfl (by kernel_rfl) (by kernel_rfl) (by kernel_rfl) (fun _ _ _ h => h) (Or.inl ⟨by rfl, ?_⟩) (by assumption) ?_
    rotate_left
    · (intro w hSw; (try dsimp only at hSw); go_simp; (try with_reducible rfl))
    (try simp only [List.set_cons_zero, List.set_cons_succ])
    refine held_take (i := 6) (d := 9) (v := ?_) rfl rfl (by kernel_rfl) (by kernel_rfl) (by kernel_rfl) (fun _ _ _ h => h) (Or.inl ⟨by rfl, ?_⟩) (by assumption) ?_
    rotate_left
    · (intro w hSw; (try dsimp only at hSw); go_simp; (try with_reducible rfl))
    (try simp only [List.set_cons_zero, List.set_cons_succ])
    refine held_take (i := 7) (d := 10) (v := ?_) rfl rfl (by kernel_rfl) (by kernel_rfl) (by kernel_rfl) (fun _ _ _ h => h) (Or.inl ⟨by rfl, ?_⟩) (by assumption) ?_
    rotate_left
    · (intro w hSw; (try dsimp only at hSw); go_simp; (try with_reducible rfl))
    (try simp only [List.set_cons_zero, List.set_cons_succ])
    refine wpAnyH_done (by kernel_rfl) ?_ _
    have hV := (Bl.refl w).drew
    replace c0 := Bl.cells ((Bl.refl _).drew) c0
    replace c1 := Bl.cells ((Bl.refl _).drew) c1
    generalize w.drew = v0 at hV c0 c1 ⊢
    have had1 := Nat.lt_of_lt_of_le had hV.sz
    have hbd1 := Nat.lt_of_lt_of_le hbd hV.sz
    go_wp2_with (first | (go_at_call 100; refine (impl_bit _ _).mono ?_; rintro e v5 ⟨rfl, rfl⟩))
    go_ret
    refine ⟨_, _, _, rfl, ?_, hV.alloc _⟩
    rw [HE.out]
    exact own_lit v0 [1] rfl hV.sz (by simp)
  · have HE := Lib.hid (show exL 1 wd x y 0 = [0] from if_neg hc)
    have e1 : (x == y) = false := by simpa using hc
    clear hc
    go_enter Tryz.func60, Tryz.ntmps60
    go_wp2_with fail
    refine wp_region_held_drew (S := (fun w' => w'.cell? ad = some (.int .i64 x) ∧ w'.cell? bd = some (.int .i64 y))) (by kernel_rfl) ?_ (fun hHeld => ?_)
    · (try dsimp only); exact ⟨Bl.cells ((Bl.refl _).drew) c0, Bl.cells ((Bl.refl _).drew) c1⟩
    refine held_take (i := 0) (d := 11) (v := ?_) rfl rfl (by kernel_rfl) (by kernel_rfl) (by kernel_rfl) (fun _ _ _ h => h) (Or.inl ⟨by rfl, ?_⟩) (by assumption) ?_
    rotate_left
    · (intro w hSw; (try dsimp only at hSw); go_simp; (try with_reducible rfl))
    (try simp only [List.set_cons_zero, List.set_cons_succ])
    refine held_take (i := 1) (d := 12) (v := ?_) rfl rfl (by kernel_rfl) (by kernel_rfl) (by kernel_rfl) (fun _ _ _ h => h) (Or.inl ⟨by rfl, ?_⟩) (by assumption) ?_
    rotate_left
    · (intro w hSw; (try dsimp only at hSw); go_simp; (try with_reducible rfl))
    (try simp only [List.set_cons_zero, List.set_cons_succ])
    refine held_take (i := 2) (d := 13) (v := ?_) rfl rfl (by kernel_rfl) (by kernel_rfl) (by kernel_rfl) (fun _ _ _ h => h) (Or.inl ⟨by rfl, ?_⟩) (by assumption) ?_
    rotate_left
    · (intro w hSw; (try dsimp only at hSw); go_simp; (try with_reducible rfl))
    (try simp only [List.set_cons_zero, List.set_cons_succ])
    refine held_take (i := 3) (d := 14) (v := ?_) rfl rfl (by kernel_rfl) (by kernel_rfl) (by kernel_rfl) (fun _ _ _ h => h) (Or.inl ⟨by rfl, ?_⟩) (by assumption) ?_
    rotate_left
    · (intro w hSw; (try dsimp only at hSw); go_simp; (try with_reducible rfl))
    (try simp only [List.set_cons_zero, List.set_cons_succ])
    refine held_take (i := 4) (d := 15) (v := ?_) rfl rfl (by kernel_rfl) (by kernel_rfl) (by kernel_rfl) (fun _ _ _ h => h) (Or.inl ⟨by rfl, ?_⟩) (by assumption) ?_
    rotate_left
    · (intro w hSw; (try dsimp only at hSw); go_simp; (try with_reducible rfl))
    (try simp only [List.set_cons_zero, List.set_cons_succ])
    refine held_take (i := 5) (d := 16) (v := ?_) rfl rfl (by kernel_rfl) (by kernel_rfl) (by kernel_rfl) (fun _ _ _ h => h) (Or.inl ⟨by rfl, ?_⟩) (by assumption) ?_
    rotate_left
    · (intro w hSw; (try dsimp only at hSw); go_simp; (try with_reducible rfl))
    (try simp only [List.set_cons_zero, List.set_cons_succ])
    refine held_take (i := 6) (d := 9) (v := ?_) rfl rfl (by kernel_rfl) (by kernel_rfl) (by kernel_rfl) (fun _ _ _ h => h) (Or.inl ⟨by rfl, ?_⟩) (by assumption) ?_
    rotate_left
    · (intro w hSw; (try dsimp only at hSw); go_simp; (try with_reducible rfl))
    (try simp only [List.set_cons_zero, List.set_cons_succ])
    refine held_take (i := 7) (d := 10) (v := ?_) rfl rfl (by kernel_rfl) (by kernel_rfl) (by kernel_rfl) (fun _ _ _ h => h) (Or.inl ⟨by rfl, ?_⟩) (by assumption) ?_
    rotate_left
    · (intro w hSw; (try dsimp only at hSw); go_simp; (try with_reducible rfl))
    (try simp only [List.set_cons_zero, List.set_cons_succ])
    refine wpAnyH_done (by kernel_rfl) ?_ _
    have hV := (Bl.refl w).drew
    replace c0 := Bl.cells ((Bl.refl _).drew) c0
    replace c1 := Bl.cells ((Bl.refl _).drew) c1
    generalize w.drew = v0 at hV c0 c1 ⊢
    have had1 := Nat.lt_of_lt_of_le had hV.sz
    have hbd1 := Nat.lt_of_lt_of_le hbd hV.sz
    go_wp2_with (first | (go_at_call 100; refine (impl_bit _ _).mono ?_; rintro e v5 ⟨rfl, rfl⟩))
    go_ret
    refine ⟨_, _, _, rfl, ?_, hV.alloc _⟩
    rw [HE.out]
    exact own_lit v0 [0] rfl hV.sz (by simp)
set_option maxRecDepth 20000 in
set_option maxHeartbeats 2000000 in
theorem imE_2 (wd x y : Int) (ad bd : Addr) (c d : Nat) (w : World) (hx : 0 ≤ x ∧ x ≤ 15) (hy : 0 ≤ y ∧ y ≤ 15) (hwd : 1 ≤ wd ∧ wd ≤ 4) (had : ad.block < w.heap.size) (hbd : bd.block < w.heap.size) (c0 : w.cell? ad = some (.int .i64 x)) (c1 : w.cell? bd = some (.int .i64 y)) :
    Calls Tryz.prog 60 #[.int .i64 2, .int .i64 wd, .slice (some ad) 1 c, .slice (some bd) 1 d] w fun e w' => ∃ A n c', e = .returned (.slice A n c') ∧ OwnI w.heap.size w' A n c' (exL 2 wd x y 0) ∧ Bl w w' := by
  have HE := Lib.hid (show exL 2 wd x y 0 = [max x y] from rfl)
  go_enter Tryz.func60, Tryz.ntmps60
  go_wp2_with fail
  refine wp_region_held_drew (S := (fun w' => w'.cell? ad = some (.int .i64 x) ∧ w'.cell? bd = some (.int .i64 y))) (by kernel_rfl) ?_ (fun hHeld => ?_)
  · (try dsimp only); exact ⟨Bl.cells ((Bl.refl _).drew) c0, Bl.cells ((Bl.refl _).drew) c1⟩
  refine held_take (i := 0) (d := 11) (v := ?_) rfl rfl (by kernel_rfl) (by kernel_rfl) (by kernel_rfl) (fun _ _ _ h => h) (Or.inl ⟨by rfl, ?_⟩) (by assumption) ?_
  rotate_left
  · (intro w hSw; (try dsimp only at hSw); go_simp; (try with_reducible rfl))
  (try simp only [List.set_cons_zero, List.set_cons_succ])
  refine held_take (i := 1) (d := 12) (v := ?_) rfl rfl (by kernel_rfl) (by kernel_rfl) (by kernel_rfl) (fun _ _ _ h => h) (Or.inl ⟨by rfl, ?_⟩) (by assumption) ?_
  rotate_left
  · (intro w hSw; (try dsimp only at hSw); go_simp; (try with_reducible rfl))
  (try simp only [List.set_cons_zero, List.set_cons_succ])
  refine held_take (i := 2) (d := 13) (v := ?_) rfl rfl (by kernel_rfl) (by kernel_rfl) (by kernel_rfl) (fun _ _ _ h => h) (Or.inl ⟨by rfl, ?_⟩) (by assumption) ?_
  rotate_left
  · (intro w hSw; (try dsimp only at hSw); go_simp; (try with_reducible rfl))
  (try simp only [List.set_cons_zero, List.set_cons_succ])
  refine held_take (i := 3) (d := 14) (v := ?_) rfl rfl (by kernel_rfl) (by kernel_rfl) (by kernel_rfl) (fun _ _ _ h => h) (Or.inl ⟨by rfl, ?_⟩) (by assumption) ?_
  rotate_left
  · (intro w hSw; (try dsimp only at hSw); go_simp; (try with_reducible rfl))
  (try simp only [List.set_cons_zero, List.set_cons_succ])
  refine held_take (i := 4) (d := 15) (v := ?_) rfl rfl (by kernel_rfl) (by kernel_rfl) (by kernel_rfl) (fun _ _ _ h => h) (Or.inl ⟨by rfl, ?_⟩) (by assumption) ?_
  rotate_left
  · (intro w hSw; (try dsimp only at hSw); go_simp; (try with_reducible rfl))
  (try simp only [List.set_cons_zero, List.set_cons_succ])
  refine held_take (i := 5) (d := 16) (v := ?_) rfl rfl (by kernel_rfl) (by kernel_rfl) (by kernel_rfl) (fun _ _ _ h => h) (Or.inl ⟨by rfl, ?_⟩) (by assumption) ?_
  rotate_left
  · (intro w hSw; (try dsimp only at hSw); go_simp; (try with_reducible rfl))
  (try simp only [List.set_cons_zero, List.set_cons_succ])
  refine held_take (i := 6) (d := 9) (v := ?_) rfl rfl (by kernel_rfl) (by kernel_rfl) (by kernel_rfl) (fun _ _ _ h => h) (Or.inl ⟨by rfl, ?_⟩) (by assumption) ?_
  rotate_left
  · (intro w hSw; (try dsimp only at hSw); go_simp; (try with_reducible rfl))
  (try simp only [List.set_cons_zero, List.set_cons_succ])
  refine held_take (i := 7) (d := 10) (v := ?_) rfl rfl (by kernel_rfl) (by kernel_rfl) (by kernel_rfl) (fun _ _ _ h => h) (Or.inl ⟨by rfl, ?_⟩) (by assumption) ?_
  rotate_left
  · (intro w hSw; (try dsimp only at hSw); go_simp; (try with_reducible rfl))
  (try simp only [List.set_cons_zero, List.set_cons_succ])
  refine wpAnyH_done (by kernel_rfl) ?_ _
  have hV := (Bl.refl w).drew
  replace c0 := Bl.cells ((Bl.refl _).drew) c0
  replace c1 := Bl.cells ((Bl.refl _).drew) c1
  generalize w.drew = v0 at hV c0 c1 ⊢
  have had1 := Nat.lt_of_lt_of_le had hV.sz
  have hbd1 := Nat.lt_of_lt_of_le hbd hV.sz
  go_wp2_with (first | (go_at_call 100; refine (impl_bit _ _).mono ?_; rintro e v5 ⟨rfl, rfl⟩))
  go_ret
  refine ⟨_, _, _, rfl, ?_, hV.alloc _⟩
  rw [HE.out]
  exact own_lit v0 [max x y] rfl hV.sz (by simp)
set_option maxRecDepth 20000 in
set_option maxHeartbeats 2000000 in
theorem imE_3 (wd x y : Int) (ad bd : Addr) (c d : Nat) (w : World) (hx : 0 ≤ x ∧ x ≤ 15) (hy : 0 ≤ y ∧ y ≤ 15) (hwd : 1 ≤ wd ∧ wd ≤ 4) (had : ad.block < w.heap.size) (hbd : bd.block < w.heap.size) (c0 : w.cell? ad = some (.int .i64 x)) (c1 : w.cell? bd = some (.int .i64 y)) :
    Calls Tryz.prog 60 #[.int .i64 3, .int .i64 wd, .slice (some ad) 1 c, .slice (some bd) 1 d] w fun e w' => ∃ A n c', e = .returned (.slice A n c') ∧ OwnI w.heap.size w' A n c' (exL 3 wd x y 0) ∧ Bl w w' := by
  have HE := Lib.hid (show exL 3 wd x y 0 = [min x y] from rfl)
  go_enter Tryz.func60, Tryz.ntmps60
  go_wp2_with fail
  refine wp_region_held_drew (S := (fun w' => w'.cell? ad = some (.int .i64 x) ∧ w'.cell? bd = some (.int .i64 y))) (by kernel_rfl) ?_ (fun hHeld => ?_)
  · (try dsimp only); exact ⟨Bl.cells ((Bl.refl _).drew) c0, Bl.cells ((Bl.refl _).drew) c1⟩
  refine held_take (i := 0) (d := 11) (v := ?_) rfl rfl (by kernel_rfl) (by kernel_rfl) (by kernel_rfl) (fun _ _ _ h => h) (Or.inl ⟨by rfl, ?_⟩) (by assumption) ?_
  rotate_left
  · (intro w hSw; (try dsimp only at hSw); go_simp; (try with_reducible rfl))
  (try simp only [List.set_cons_zero, List.set_cons_succ])
  refine held_take (i := 1) (d := 12) (v := ?_) rfl rfl (by kernel_rfl) (by kernel_rfl) (by kernel_rfl) (fun _ _ _ h => h) (Or.inl ⟨by rfl, ?_⟩) (by assumption) ?_
  rotate_left
  · (intro w hSw; (try dsimp only at hSw); go_simp; (try with_reducible rfl))
  (try simp only [List.set_cons_zero, List.set_cons_succ])
  refine held_take (i := 2) (d := 13) (v := ?_) rfl rfl (by kernel_rfl) (by kernel_rfl) (by kernel_rfl) (fun _ _ _ h => h) (Or.inl ⟨by rfl, ?_⟩) (by assumption) ?_
  rotate_left
  · (intro w hSw; (try dsimp only at hSw); go_simp; (try with_reducible rfl))
  (try simp only [List.set_cons_zero, List.set_cons_succ])
  refine held_take (i := 3) (d := 14) (v := ?_) rfl rfl (by kernel_rfl) (by kernel_rfl) (by kernel_rfl) (fun _ _ _ h => h) (Or.inl ⟨by rfl, ?_⟩) (by assumption) ?_
  rotate_left
  · (intro w hSw; (try dsimp only at hSw); go_simp; (try with_reducible rfl))
  (try simp only [List.set_cons_zero, List.set_cons_succ])
  refine held_take (i := 4) (d := 15) (v := ?_) rfl rfl (by kernel_rfl) (by kernel_rfl) (by kernel_rfl) (fun _ _ _ h => h) (Or.inl ⟨by rfl, ?_⟩) (by assumption) ?_
  rotate_left
  · (intro w hSw; (try dsimp only at hSw); go_simp; (try with_reducible rfl))
  (try simp only [List.set_cons_zero, List.set_cons_succ])
  refine held_take (i := 5) (d := 16) (v := ?_) rfl rfl (by kernel_rfl) (by kernel_rfl) (by kernel_rfl) (fun _ _ _ h => h) (Or.inl ⟨by rfl, ?_⟩) (by assumption) ?_
  rotate_left
  · (intro w hSw; (try dsimp only at hSw); go_simp; (try with_reducible rfl))
  (try simp only [List.set_cons_zero, List.set_cons_succ])
  refine held_take (i := 6) (d := 9) (v := ?_) rfl rfl (by kernel_rfl) (by kernel_rfl) (by kernel_rfl) (fun _ _ _ h => h) (Or.inl ⟨by rfl, ?_⟩) (by assumption) ?_
  rotate_left
  · (intro w hSw; (try dsimp only at hSw); go_simp; (try with_reducible rfl))
  (try simp only [List.set_cons_zero, List.set_cons_succ])
  refine held_take (i := 7) (d := 10) (v := ?_) rfl rfl (by kernel_rfl) (by kernel_rfl) (by kernel_rfl) (fun _ _ _ h => h) (Or.inl ⟨by rfl, ?_⟩) (by assumption) ?_
  rotate_left
  · (intro w hSw; (try dsimp only at hSw); go_simp; (try with_reducible rfl))
  (try simp only [List.set_cons_zero, List.set_cons_succ])
  refine wpAnyH_done (by kernel_rfl) ?_ _
  have hV := (Bl.refl w).drew
  replace c0 := Bl.cells ((Bl.refl _).drew) c0
  replace c1 := Bl.cells ((Bl.refl _).drew) c1
  generalize w.drew = v0 at hV c0 c1 ⊢
  have had1 := Nat.lt_of_lt_of_le had hV.sz
  have hbd1 := Nat.lt_of_lt_of_le hbd hV.sz
  go_wp2_with (first | (go_at_call 100; refine (impl_bit _ _).mono ?_; rintro e v5 ⟨rfl, rfl⟩))
  go_ret
  refine ⟨_, _, _, rfl, ?_, hV.alloc _⟩
  rw [HE.out]
  exact own_lit v0 [min x y] rfl hV.sz (by simp)
set_option maxRecDepth 20000 in
set_option maxHeartbeats 2000000 in
theorem imE_4 (wd x y : Int) (ad bd : Addr) (c d : Nat) (w : World) (hx : 0 ≤ x ∧ x ≤ 15) (hy : 0 ≤ y ∧ y ≤ 15) (hwd : 1 ≤ wd ∧ wd ≤ 4) (had : ad.block < w.heap.size) (hbd : bd.block < w.heap.size) (c0 : w.cell? ad = some (.int .i64 x)) (c1 : w.cell? bd = some (.int .i64 y)) :
    Calls Tryz.prog 60 #[.int .i64 4, .int .i64 wd, .slice (some ad) 1 c, .slice (some bd) 1 d] w fun e w' => ∃ A n c', e = .returned (.slice A n c') ∧ OwnI w.heap.size w' A n c' (exL 4 wd x y 0) ∧ Bl w w' := by
  have HE := Lib.hid (show exL 4 wd x y 0 = [max (x - y) (y - x)] from rfl)
  go_enter Tryz.func60, Tryz.ntmps60
  go_wp2_with fail
  refine wp_region_held_drew (S := (fun w' => w'.cell? ad = some (.int .i64 x) ∧ w'.cell? bd = some (.int .i64 y))) (by kernel_rfl) ?_ (fun hHeld => ?_)
  · (try dsimp only); exact ⟨Bl.cells ((Bl.refl _).drew) c0, Bl.cells ((Bl.refl _).drew) c1⟩
  refine held_take (i := 0) (d := 11) (v := ?_) rfl rfl (by kernel_rfl) (by kernel_rfl) (by kernel_rfl) (fun _ _ _ h => h) (Or.inl ⟨by rfl, ?_⟩) (by assumption) ?_
  rotate_left
  · (intro w hSw; (try dsimp only at hSw); go_simp; (try with_reducible rfl))
  (try simp only [List.set_cons_zero, List.set_cons_succ])
  refine held_take (i := 1) (d := 12) (v := ?_) rfl rfl (by kernel_rfl) (by kernel_rfl) (by kernel_rfl) (fun _ _ _ h => h) (Or.inl ⟨by rfl, ?_⟩) (by assumption) ?_
  rotate_left
  · (intro w hSw; (try dsimp only at hSw); go_simp; (try with_reducible rfl))
  (try simp only [List.set_cons_zero, List.set_cons_succ])
  refine held_take (i := 2) (d := 13) (v := ?_) rfl rfl (by kernel_rfl) (by kernel_rfl) (by kernel_rfl) (fun _ _ _ h => h) (Or.inl ⟨by rfl, ?_⟩) (by assumption) ?_
  rotate_left
  · (intro w hSw; (try dsimp only at hSw); go_simp; (try with_reducible rfl))
  (try simp only [List.set_cons_zero, List.set_cons_succ])
  refine held_take (i := 3) (d := 14) (v := ?_) rfl rfl (by kernel_rfl) (by kernel_rfl) (by kernel_rfl) (fun _ _ _ h => h) (Or.inl ⟨by rfl, ?_⟩) (by assumption) ?_
  rotate_left
  · (intro w hSw; (try dsimp only at hSw); go_simp; (try with_reducible rfl))
  (try simp only [List.set_cons_zero, List.set_cons_succ])
  refine held_take (i := 4) (d := 15) (v := ?_) rfl rfl (by kernel_rfl) (by kernel_rfl) (by kernel_rfl) (fun _ _ _ h => h) (Or.inl ⟨by rfl, ?_⟩) (by assumption) ?_
  rotate_left
  · (intro w hSw; (try dsimp only at hSw); go_simp; (try with_reducible rfl))
  (try simp only [List.set_cons_zero, List.set_cons_succ])
  refine held_take (i := 5) (d := 16) (v := ?_) rfl rfl (by kernel_rfl) (by kernel_rfl) (by kernel_rfl) (fun _ _ _ h => h) (Or.inl ⟨by rfl, ?_⟩) (by assumption) ?_
  rotate_left
  · (intro w hSw; (try dsimp only at hSw); go_simp; (try with_reducible rfl))
  (try simp only [List.set_cons_zero, List.set_cons_succ])
  refine held_take (i := 6) (d := 9) (v := ?_) rfl rfl (by kernel_rfl) (by kernel_rfl) (by kernel_rfl) (fun _ _ _ h => h) (Or.inl ⟨by rfl, ?_⟩) (by assumption) ?_
  rotate_left
  · (intro w hSw; (try dsimp only at hSw); go_simp; (try with_reducible rfl))
  (try simp only [List.set_cons_zero, List.set_cons_succ])
  refine held_take (i := 7) (d := 10) (v := ?_) rfl rfl (by kernel_rfl) (by kernel_rfl) (by kernel_rfl) (fun _ _ _ h => h) (Or.inl ⟨by rfl, ?_⟩) (by assumption) ?_
  rotate_left
  · (intro w hSw; (try dsimp only at hSw); go_simp; (try with_reducible rfl))
  (try simp only [List.set_cons_zero, List.set_cons_succ])
  refine wpAnyH_done (by kernel_rfl) ?_ _
  have hV := (Bl.refl w).drew
  replace c0 := Bl.cells ((Bl.refl _).drew) c0
  replace c1 := Bl.cells ((Bl.refl _).drew) c1
  generalize w.drew = v0 at hV c0 c1 ⊢
  have had1 := Nat.lt_of_lt_of_le had hV.sz
  have hbd1 := Nat.lt_of_lt_of_le hbd hV.sz
  go_wp2_with (first | (go_at_call 100; refine (impl_bit _ _).mono ?_; rintro e v5 ⟨rfl, rfl⟩))
  go_ret
  refine ⟨_, _, _, rfl, ?_, hV.alloc _⟩
  rw [HE.out]
  exact own_lit v0 [max (x - y) (y - x)] rfl hV.sz (by simp)
set_option maxRecDepth 20000 in
set_option maxHeartbeats 2000000 in
theorem imE_5 (wd x y z : Int) (ad bd : Addr) (c d : Nat) (w : World) (hx : 0 ≤ x ∧ x ≤ 15) (hy : 0 ≤ y ∧ y ≤ 15) (hz : 0 ≤ z ∧ z ≤ 15) (hwd : 1 ≤ wd ∧ wd ≤ 4) (had : ad.block < w.heap.size) (hbd : bd.block < w.heap.size) (c0 : w.cell? ad = some (.int .i64 x)) (c1 : w.cell? bd = some (.int .i64 y)) (hcc : 2 ≤ c) (c2 : w.cell? ⟨ad.block, ad.off + 1, none⟩ = some (.int .i64 z)) :
    Calls Tryz.prog 60 #[.int .i64 5, .int .i64 wd, .slice (some ad) 2 c, .slice (some bd) 1 d] w fun e w' => ∃ A n c', e = .returned (.slice A n c') ∧ OwnI w.heap.size w' A n c' (exL 5 wd x y z) ∧ Bl w w' := by
  have HE := Lib.hid (show exL 5 wd x y z = [max (min x z) (min y (max x z))] from rfl)
  go_enter Tryz.func60, Tryz.ntmps60
  go_wp2_with fail
  refine wp_region_held_drew (S := (fun w' => w'.cell? ad = some (.int .i64 x) ∧ w'.cell? bd = some (.int .i64 y))) (by kernel_rfl) ?_ (fun hHeld => ?_)
  · (try dsimp only); exact ⟨Bl.cells ((Bl.refl _).drew) c0, Bl.cells ((Bl.refl _).drew) c1⟩
  refine held_take (i := 0) (d := 11) (v := ?_) rfl rfl (by kernel_rfl) (by kernel_rfl) (by kernel_rfl) (fun _ _ _ h => h) (Or.inl ⟨by rfl, ?_⟩) (by assumption) ?_
  rotate_left
  · (intro w hSw; (try dsimp only at hSw); go_simp; (try with_reducible rfl))
  (try simp only [List.set_cons_zero, List.set_cons_succ])
  refine held_take (i := 1) (d := 12) (v := ?_) rfl rfl (by kernel_rfl) (by kernel_rfl) (by kernel_rfl) (fun _ _ _ h => h) (Or.inl ⟨by rfl, ?_⟩) (by assumption) ?_
  rotate_left
  · (intro w hSw; (try dsimp only at hSw); go_simp; (try with_reducible rfl))
  (try simp only [List.set_cons_zero, List.set_cons_succ])
  refine held_take (i := 2) (d := 13) (v := ?_) rfl rfl (by kernel_rfl) (by kernel_rfl) (by kernel_rfl) (fun _ _ _ h => h) (Or.inl ⟨by rfl, ?_⟩) (by assumption) ?_
  rotate_left
  · (intro w hSw; (try dsimp only at hSw); go_simp; (try with_reducible rfl))
  (try simp only [List.set_cons_zero, List.set_cons_succ])
  refine held_take (i := 3) (d := 14) (v := ?_) rfl rfl (by kernel_rfl) (by kernel_rfl) (by kernel_rfl) (fun _ _ _ h => h) (Or.inl ⟨by rfl, ?_⟩) (by assumption) ?_
  rotate_left
  · (intro w hSw; (try dsimp only at hSw); go_simp; (try with_reducible rfl))
  (try simp only [List.set_cons_zero, List.set_cons_succ])
  refine held_take (i := 4) (d := 15) (v := ?_) rfl rfl (by kernel_rfl) (by kernel_rfl) (by kernel_rfl) (fun _ _ _ h => h) (Or.inl ⟨by rfl, ?_⟩) (by assumption) ?_
  rotate_left
  · (intro w hSw; (try dsimp only at hSw); go_simp; (try with_reducible rfl))
  (try simp only [List.set_cons_zero, List.set_cons_succ])
  refine held_take (i := 5) (d := 16) (v := ?_) rfl rfl (by kernel_rfl) (by kernel_rfl) (by kernel_rfl) (fun _ _ _ h => h) (Or.inl ⟨by rfl, ?_⟩) (by assumption) ?_
  rotate_left
  · (intro w hSw; (try dsimp only at hSw); go_simp; (try with_reducible rfl))
  (try simp only [List.set_cons_zero, List.set_cons_succ])
  refine held_take (i := 6) (d := 9) (v := ?_) rfl rfl (by kernel_rfl) (by kernel_rfl) (by kernel_rfl) (fun _ _ _ h => h) (Or.inl ⟨by rfl, ?_⟩) (by assumption) ?_
  rotate_left
  · (intro w hSw; (try dsimp only at hSw); go_simp; (try with_reducible rfl))
  (try simp only [List.set_cons_zero, List.set_cons_succ])
  refine held_take (i := 7) (d := 10) (v := ?_) rfl rfl (by kernel_rfl) (by kernel_rfl) (by kernel_rfl) (fun _ _ _ h => h) (Or.inl ⟨by rfl, ?_⟩) (by assumption) ?_
  rotate_left
  · (intro w hSw; (try dsimp only at hSw); go_simp; (try with_reducible rfl))
  (try simp only [List.set_cons_zero, List.set_cons_succ])
  refine wpAnyH_done (by kernel_rfl) ?_ _
  have hV := (Bl.refl w).drew
  replace c0 := Bl.cells ((Bl.refl _).drew) c0
  replace c1 := Bl.cells ((Bl.refl _).drew) c1
  replace c2 := Bl.cells ((Bl.refl _).drew) c2
  generalize w.drew = v0 at hV c0 c1 c2 ⊢
  have had1 := Nat.lt_of_lt_of_le had hV.sz
  have hbd1 := Nat.lt_of_lt_of_le hbd hV.sz
  go_wp2_with fail
  refine wp_region_held_drew (S := (fun w' => w'.cell? ⟨ad.block, ad.off + 1, none⟩ = some (.int .i64 z))) (by kernel_rfl) ?_ (fun hHeld => ?_)
  · (try dsimp only); exact c2
  have hV := hV.drew
  replace c2 := Bl.cells ((Bl.refl _).drew) c2
  generalize v0.drew = v1 at hV c2 hHeld ⊢
  refine held_take (i := 0) (d := 56) (v := ?_) rfl rfl (by kernel_rfl) (by kernel_rfl) (by kernel_rfl) (fun _ _ _ h => h) (Or.inl ⟨by rfl, ?_⟩) (by assumption) ?_
  rotate_left
  · (intro w hSw; (try dsimp only at hSw); go_simp; (try with_reducible rfl))
  (try simp only [List.set_cons_zero, List.set_cons_succ])
  refine held_take (i := 1) (d := 57) (v := ?_) rfl rfl (by kernel_rfl) (by kernel_rfl) (by kernel_rfl) (fun _ _ _ h => h) (Or.inl ⟨by rfl, ?_⟩) (by assumption) ?_
  rotate_left
  · (intro w hSw; (try dsimp only at hSw); go_simp; (try with_reducible rfl))
  (try simp only [List.set_cons_zero, List.set_cons_succ])
  refine held_take (i := 2) (d := 58) (v := ?_) rfl rfl (by kernel_rfl) (by kernel_rfl) (by kernel_rfl) (fun _ _ _ h => h) (Or.inl ⟨by rfl, ?_⟩) (by assumption) ?_
  rotate_left
  · (intro w hSw; (try dsimp only at hSw); go_simp; (try with_reducible rfl))
  (try simp only [List.set_cons_zero, List.set_cons_succ])
  refine held_take (i := 3) (d := 59) (v := ?_) rfl rfl (by kernel_rfl) (by kernel_rfl) (by kernel_rfl) (fun _ _ _ h => h) (Or.inl ⟨by rfl, ?_⟩) (by assumption) ?_
  rotate_left
  · (intro w hSw; (try dsimp only at hSw); go_simp; (try with_reducible rfl))
  (try simp only [List.set_cons_zero, List.set_cons_succ])
  refine held_take (i := 4) (d := 60) (v := ?_) rfl rfl (by kernel_rfl) (by kernel_rfl) (by kernel_rfl) (fun _ _ _ h => h) (Or.inl ⟨by rfl, ?_⟩) (by assumption) ?_
  rotate_left
  · (intro w hSw; (try dsimp only at hSw); go_simp; (try with_reducible rfl))
  (try simp only [List.set_cons_zero, List.set_cons_succ])
  refine held_take (i := 5) (d := 61) (v := ?_) rfl rfl (by kernel_rfl) (by kernel_rfl) (by kernel_rfl) (fun _ _ _ h => h) (Or.inl ⟨by rfl, ?_⟩) (by assumption) ?_
  rotate_left
  · (intro w hSw; (try dsimp only at hSw); go_simp; (try with_reducible rfl))
  (try simp only [List.set_cons_zero, List.set_cons_succ])
  refine held_take (i := 6) (d := 62) (v := ?_) rfl rfl (by kernel_rfl) (by kernel_rfl) (by kernel_rfl) (fun _ _ _ h => h) (Or.inl ⟨by rfl, ?_⟩) (by assumption) ?_
  rotate_left
  · (intro w hSw; (try dsimp only at hSw); go_simp; (try with_reducible rfl))
  (try simp only [List.set_cons_zero, List.set_cons_succ])
  refine held_take (i := 7) (d := 63) (v := ?_) rfl rfl (by kernel_rfl) (by kernel_rfl) (by kernel_rfl) (fun _ _ _ h => h) (Or.inl ⟨by rfl, ?_⟩) (by assumption) ?_
  rotate_left
  · (intro w hSw; (try dsimp only at hSw); go_simp; (try with_reducible rfl))
  (try simp only [List.set_cons_zero, List.set_cons_succ])
  refine held_take (i := 8) (d := 64) (v := ?_) rfl rfl (by kernel_rfl) (by kernel_rfl) (by kernel_rfl) (fun _ _ _ h => h) (Or.inl ⟨by rfl, ?_⟩) (by assumption) ?_
  rotate_left
  · (intro w hSw; (try dsimp only at hSw); go_simp; (try with_reducible rfl))
  (try simp only [List.set_cons_zero, List.set_cons_succ])
  refine held_take (i := 9) (d := 65) (v := ?_) rfl rfl (by kernel_rfl) (by kernel_rfl) (by kernel_rfl) (fun _ _ _ h => h) (Or.inl ⟨by rfl, ?_⟩) (by assumption) ?_
  rotate_left
  · (intro w hSw; (try dsimp only at hSw); go_simp; (try with_reducible rfl))
  (try simp only [List.set_cons_zero, List.set_cons_succ])
  refine held_take (i := 10) (d := 66) (v := ?_) rfl rfl (by kernel_rfl) (by kernel_rfl) (by kernel_rfl) (fun _ _ _ h => h) (Or.inl ⟨by rfl, ?_⟩) (by assumption) ?_
  rotate_left
  · (intro w hSw; (try dsimp only at hSw); go_simp; (try with_reducible rfl))
  (try simp only [List.set_cons_zero, List.set_cons_succ])
  refine held_take (i := 11) (d := 67) (v := ?_) rfl rfl (by kernel_rfl) (by kernel_rfl) (by kernel_rfl) (fun _ _ _ h => h) (Or.inl ⟨by rfl, ?_⟩) (by assumption) ?_
  rotate_left
  · (intro w hSw; (try dsimp only at hSw); go_simp; (try with_reducible rfl))
  (try simp only [List.set_cons_zero, List.set_cons_succ])
  refine held_take (i := 12) (d := 68) (v := ?_) rfl rfl (by kernel_rfl) (by kernel_rfl) (by kernel_rfl) (fun _ _ _ h => h) (Or.inl ⟨by rfl, ?_⟩) (by assumption) ?_
  rotate_left
  · (intro w hSw; (try dsimp only at hSw); go_simp; (try with_reducible rfl))
  (try simp only [List.set_cons_zero, List.set_cons_succ])
  refine wpAnyH_ready (rs := [13]) (by kernel_rfl) (by simp) ?_
  refine AllReadyH.cons rfl (fun K hK => ?_) AllReadyH.nil
  go_simp
  refine hK.out _ _ ?_ (fun hHeld => ?_)
  · (try dsimp only); exact Bl.cells ((Bl.refl _).alloc _) c2
  clear hK K
  (try simp only [Act.put]); (try simp only [List.setIfInBounds_toArray]); (try simp only [List.set_cons_succ]); (try simp only [List.set_cons_zero])
  refine held_take (i := 14) (d := 8) (v := ?_) rfl rfl (by kernel_rfl) (by kernel_rfl) (by kernel_rfl) (fun _ _ _ h => h) (Or.inl ⟨by rfl, ?_⟩) (by assumption) ?_
  rotate_left
  · (intro w hSw; (try dsimp only at hSw); go_simp; (try with_reducible rfl))
  (try simp only [List.set_cons_zero, List.set_cons_succ])
  refine wpAnyH_done (by kernel_rfl) ?_ _
  go_wp2_with (first | (go_at_call 100; refine (impl_bit _ _).mono ?_; rintro e v5 ⟨rfl, rfl⟩))
  go_ret
  refine ⟨_, _, _, rfl, ?_, hV.alloc _⟩
  rw [HE.out]
  rw [show min y (max x z) = min (max x z) y by omega]; exact own_lit v1 [max (min x z) (min (max x z) y)] rfl hV.sz (by simp)
set_option maxRecDepth 20000 in
set_option maxHeartbeats 2000000 in
theorem imE_6 (wd x y : Int) (ad bd : Addr) (c d : Nat) (w : World) (hx : 0 ≤ x ∧ x ≤ 15) (hy : 0 ≤ y ∧ y ≤ 15) (hwd : 1 ≤ wd ∧ wd ≤ 4) (had : ad.block < w.heap.size) (hbd : bd.block < w.heap.size) (c0 : w.cell? ad = some (.int .i64 x)) (c1 : w.cell? bd = some (.int .i64 y)) :
    Calls Tryz.prog 60 #[.int .i64 6, .int .i64 wd, .slice (some ad) 1 c, .slice (some bd) 1 d] w fun e w' => ∃ A n c', e = .returned (.slice A n c') ∧ OwnI w.heap.size w' A n c' (exL 6 wd x y 0) ∧ Bl w w' := by
  have hu := bits_pos hx hy
  by_cases hc : (bits .and .i64 x y) = 0
  · have HE := Lib.hid (show exL 6 wd x y 0 = [(bits .and .i64 x y), 0] from if_pos hc)
    have e1 : ((bits .and .i64 x y) == 0) = true := by simpa using hc
    have e2 : ¬ 0 < (bits .and .i64 x y) := by omega
    go_enter Tryz.func60, Tryz.ntmps60
    go_wp2_with fail
    refine wp_region_held_drew (S := (fun w' => w'.cell? ad = some (.int .i64 x) ∧ w'.cell? bd = some (.int .i64 y))) (by kernel_rfl) ?_ (fun hHeld => ?_)
    · (try dsimp only); exact ⟨Bl.cells ((Bl.refl _).drew) c0, Bl.cells ((Bl.refl _).drew) c1⟩
    refine held_take (i := 0) (d := 11) (v := ?_) rfl rfl (by kernel_rfl) (by kernel_rfl) (by kernel_rfl) (fun _ _ _ h => h) (Or.inl ⟨by rfl, ?_⟩) (by assumption) ?_
    rotate_left
    · (intro w hSw; (try dsimp only at hSw); go_simp; (try with_reducible rfl))
    (try simp only [List.set_cons_zero, List.set_cons_succ])
    refine held_take (i := 1) (d := 12) (v := ?_) rfl rfl (by kernel_rfl) (by kernel_rfl) (by kernel_rfl) (fun _ _ _ h => h) (Or.inl ⟨by rfl, ?_⟩) (by assumption) ?_
    rotate_left
    · (intro w hSw; (try dsimp only at hSw); go_simp; (try with_reducible rfl))
    (try simp only [List.set_cons_zero, List.set_cons_succ])
    refine held_take (i := 2) (d := 13) (v := ?_) rfl rfl (by kernel_rfl) (by kernel_rfl) (by kernel_rfl) (fun _ _ _ h => h) (Or.inl ⟨by rfl, ?_⟩) (by assumption) ?_
    rotate_left
    · (intro w hSw; (try dsimp only at hSw); go_simp; (try with_reducible rfl))
    (try simp only [List.set_cons_zero, List.set_cons_succ])
    refine held_take (i := 3) (d := 14) (v := ?_) rfl rfl (by kernel_rfl) (by kernel_rfl) (by kernel_rfl) (fun _ _ _ h => h) (Or.inl ⟨by rfl, ?_⟩) (by assumption) ?_
    rotate_left
    · (intro w hSw; (try dsimp only at hSw); go_simp; (try with_reducible rfl))
    (try simp only [List.set_cons_zero, List.set_cons_succ])
    refine held_take (i := 4) (d := 15) (v := ?_) rfl rfl (by kernel_rfl) (by kernel_rfl) (by kernel_rfl) (fun _ _ _ h => h) (Or.inl ⟨by rfl, ?_⟩) (by assumption) ?_
    rotate_left
    · (intro w hSw; (try dsimp only at hSw); go_simp; (try with_reducible rfl))
    (try simp only [List.set_cons_zero, List.set_cons_succ])
    refine held_take (i := 5) (d := 16) (v := ?_) rfl rfl (by kernel_rfl) (by kernel_rfl) (by kernel_rfl) (fun _ _ _ h => h) (Or.inl ⟨by rfl, ?_⟩) (by assumption) ?_
    rotate_left
    · (intro w hSw; (try dsimp only at hSw); go_simp; (try with_reducible rfl))
    (try simp only [List.set_cons_zero, List.set_cons_succ])
    refine held_take (i := 6) (d := 9) (v := ?_) rfl rfl (by kernel_rfl) (by kernel_rfl) (by kernel_rfl) (fun _ _ _ h => h) (Or.inl ⟨by rfl, ?_⟩) (by assumption) ?_
    rotate_left
    · (intro w hSw; (try dsimp only at hSw); go_simp; (try with_reducible rfl))
    (try simp only [List.set_cons_zero, List.set_cons_succ])
    refine held_take (i := 7) (d := 10) (v := ?_) rfl rfl (by kernel_rfl) (by kernel_rfl) (by kernel_rfl) (fun _ _ _ h => h) (Or.inl ⟨by rfl, ?_⟩) (by assumption) ?_
    rotate_left
    · (intro w hSw; (try dsimp only at hSw); go_simp; (try with_reducible rfl))
    (try simp only [List.set_cons_zero, List.set_cons_succ])
    refine wpAnyH_done (by kernel_rfl) ?_ _
    have hV := (Bl.refl w).drew
    replace c0 := Bl.cells ((Bl.refl _).drew) c0
    replace c1 := Bl.cells ((Bl.refl _).drew) c1
    generalize w.drew = v0 at hV c0 c1 ⊢
    have had1 := Nat.lt_of_lt_of_le had hV.sz
    have hbd1 := Nat.lt_of_lt_of_le hbd hV.sz
    go_wp2_with (first | (go_at_call 100; refine (impl_bit _ _).mono ?_; rintro e v5 ⟨rfl, rfl⟩))
    go_ret
    refine ⟨_, _, _, rfl, ?_, hV.alloc _⟩
    rw [HE.out]
    first | exact own_lit v0 [(bits .and .i64 x y), 0] rfl hV.sz (by simp) | (rw [hc]; exact own_lit v0 [0, 0] rfl hV.sz (by simp))
  · have HE := Lib.hid (show exL 6 wd x y 0 = [(bits .and .i64 x y), 1] from if_neg hc)
    have e1 : ((bits .and .i64 x y) == 0) = false := by simpa using hc
    have e2 : 0 < (bits .and .i64 x y) := by omega
    clear hc
    go_enter Tryz.func60, Tryz.ntmps60
    go_wp2_with fail
    refine wp_region_held_drew (S := (fun w' => w'.cell? ad = some (.int .i64 x) ∧ w'.cell? bd = some (.int .i64 y))) (by kernel_rfl) ?_ (fun hHeld => ?_)
    · (try dsimp only); exact ⟨Bl.cells ((Bl.refl _).drew) c0, Bl.cells ((Bl.refl _).drew) c1⟩
    refine held_take (i := 0) (d := 11) (v := ?_) rfl rfl (by kernel_rfl) (by kernel_rfl) (by kernel_rfl) (fun _ _ _ h => h) (Or.inl ⟨by rfl, ?_⟩) (by assumption) ?_
    rotate_left
    · (intro w hSw; (try dsimp only at hSw); go_simp; (try with_reducible rfl))
    (try simp only [List.set_cons_zero, List.set_cons_succ])
    refine held_take (i := 1) (d := 12) (v := ?_) rfl rfl (by kernel_rfl) (by kernel_rfl) (by kernel_rfl) (fun _ _ _ h => h) (Or.inl ⟨by rfl, ?_⟩) (by assumption) ?_
    rotate_left
    · (intro w hSw; (try dsimp only at hSw); go_simp; (try with_reducible rfl))
    (try simp only [List.set_cons_zero, List.set_cons_succ])
    refine held_take (i := 2) (d := 13) (v := ?_) rfl rfl (by kernel_rfl) (by kernel_rfl) (by kernel_rfl) (fun _ _ _ h => h) (Or.inl ⟨by rfl, ?_⟩) (by assumption) ?_
    rotate_left
    · (intro w hSw; (try dsimp only at hSw); go_simp; (try with_reducible rfl))
    (try simp only [List.set_cons_zero, List.set_cons_succ])
    refine held_take (i := 3) (d := 14) (v := ?_) rfl rfl (by kernel_rfl) (by kernel_rfl) (by kernel_rfl) (fun _ _ _ h => h) (Or.inl ⟨by rfl, ?_⟩) (by assumption) ?_
    rotate_left
    · (intro w hSw; (try dsimp only at hSw); go_simp; (try with_reducible rfl))
    (try simp only [List.set_cons_zero, List.set_cons_succ])
    refine held_take (i := 4) (d := 15) (v := ?_) rfl rfl (by kernel_rfl) (by kernel_rfl) (by kernel_rfl) (fun _ _ _ h => h) (Or.inl ⟨by rfl, ?_⟩) (by assumption) ?_
    rotate_left
    · (intro w hSw; (try dsimp only at hSw); go_simp; (try with_reducible rfl))
    (try simp only [List.set_cons_zero, List.set_cons_succ])
    refine held_take (i := 5) (d := 16) (v := ?_) rfl rfl (by kernel_rfl) (by kernel_rfl) (by kernel_rfl) (fun _ _ _ h => h) (Or.inl ⟨by rfl, ?_⟩) (by assumption) ?_
    rotate_left
    · (intro w hSw; (try dsimp only at hSw); go_simp; (try with_reducible rfl))
    (try simp only [List.set_cons_zero, List.set_cons_succ])
    refine held_take (i := 6) (d := 9) (v := ?_) rfl rfl (by kernel_rfl) (by kernel_rfl) (by kernel_rfl) (fun _ _ _ h => h) (Or.inl ⟨by rfl, ?_⟩) (by assumption) ?_
    rotate_left
    · (intro w hSw; (try dsimp only at hSw); go_simp; (try with_reducible rfl))
    (try simp only [List.set_cons_zero, List.set_cons_succ])
    refine held_take (i := 7) (d := 10) (v := ?_) rfl rfl (by kernel_rfl) (by kernel_rfl) (by kernel_rfl) (fun _ _ _ h => h) (Or.inl ⟨by rfl, ?_⟩) (by assumption) ?_
    rotate_left
    · (intro w hSw; (try dsimp only at hSw); go_simp; (try with_reducible rfl))
    (try simp only [List.set_cons_zero, List.set_cons_succ])
    refine wpAnyH_done (by kernel_rfl) ?_ _
    have hV := (Bl.refl w).drew
    replace c0 := Bl.cells ((Bl.refl _).drew) c0
    replace c1 := Bl.cells ((Bl.refl _).drew) c1
    generalize w.drew = v0 at hV c0 c1 ⊢
    have had1 := Nat.lt_of_lt_of_le had hV.sz
    have hbd1 := Nat.lt_of_lt_of_le hbd hV.sz
    go_wp2_with (first | (go_at_call 100; refine (impl_bit _ _).mono ?_; rintro e v5 ⟨rfl, rfl⟩))
    go_ret
    refine ⟨_, _, _, rfl, ?_, hV.alloc _⟩
    rw [HE.out]
    exact own_lit v0 [(bits .and .i64 x y), 1] rfl hV.sz (by simp)
set_option maxRecDepth 20000 in
set_option maxHeartbeats 2000000 in
theorem imE_7 (wd x y : Int) (ad bd : Addr) (c d : Nat) (w : World) (hx : 0 ≤ x ∧ x ≤ 15) (hy : 0 ≤ y ∧ y ≤ 15) (hwd : 1 ≤ wd ∧ wd ≤ 4) (had : ad.block < w.heap.size) (hbd : bd.block < w.heap.size) (c0 : w.cell? ad = some (.int .i64 x)) (c1 : w.cell? bd = some (.int .i64 y)) :
    Calls Tryz.prog 60 #[.int .i64 7, .int .i64 wd, .slice (some ad) 1 c, .slice (some bd) 1 d] w fun e w' => ∃ A n c', e = .returned (.slice A n c') ∧ OwnI w.heap.size w' A n c' (exL 7 wd x y 0) ∧ Bl w w' := by
  by_cases hc : x < y
  · have HE := Lib.hid (show exL 7 wd x y 0 = [1, min x y] from if_pos hc)
    skip
    go_enter Tryz.func60, Tryz.ntmps60
    go_wp2_with fail
    refine wp_region_held_drew (S := (fun w' => w'.cell? ad = some (.int .i64 x) ∧ w'.cell? bd = some (.int .i64 y))) (by kernel_rfl) ?_ (fun hHeld => ?_)
    · (try dsimp only); exact ⟨Bl.cells ((Bl.refl _).drew) c0, Bl.cells ((Bl.refl _).drew) c1⟩
    refine held_take (i := 0) (d := 11) (v := ?_) rfl rfl (by kernel_rfl) (by kernel_rfl) (by kernel_rfl) (fun _ _ _ h => h) (Or.inl ⟨by rfl, ?_⟩) (by assumption) ?_
    rotate_left
    · (intro w hSw; (try dsimp only at hSw); go_simp; (try with_reducible rfl))
    (try simp only [List.set_cons_zero, List.set_cons_succ])
    refine held_take (i := 1) (d := 12) (v := ?_) rfl rfl (by kernel_rfl) (by kernel_rfl) (by kernel_rfl) (fun _ _ _ h => h) (Or.inl ⟨by rfl, ?_⟩) (by assumption) ?_
    rotate_left
    · (intro w hSw; (try dsimp only at hSw); go_simp; (try with_reducible rfl))
    (try simp only [List.set_cons_zero, List.set_cons_succ])
    refine held_take (i := 2) (d := 13) (v := ?_) rfl rfl (by kernel_rfl) (by kernel_rfl) (by kernel_rfl) (fun _ _ _ h => h) (Or.inl ⟨by rfl, ?_⟩) (by assumption) ?_
    rotate_left
    · (intro w hSw; (try dsimp only at hSw); go_simp; (try with_reducible rfl))
    (try simp only [List.set_cons_zero, List.set_cons_succ])
    refine held_take (i := 3) (d := 14) (v := ?_) rfl rfl (by kernel_rfl) (by kernel_rfl) (by kernel_rfl) (fun _ _ _ h => h) (Or.inl ⟨by rfl, ?_⟩) (by assumption) ?_
    rotate_left
    · (intro w hSw; (try dsimp only at hSw); go_simp; (try with_reducible rfl))
    (try simp only [List.set_cons_zero, List.set_cons_succ])
    refine held_take (i := 4) (d := 15) (v := ?_) rfl rfl (by kernel_rfl) (by kernel_rfl) (by kernel_rfl) (fun _ _ _ h => h) (Or.inl ⟨by rfl, ?_⟩) (by assumption) ?_
    rotate_left
    · (intro w hSw; (try dsimp only at hSw); go_simp; (try with_reducible rfl))
    (try simp only [List.set_cons_zero, List.set_cons_succ])
    refine held_take (i := 5) (d := 16) (v := ?_) rfl rfl (by kernel_rfl) (by kernel_rfl) (by kernel_rfl) (fun _ _ _ h => h) (Or.inl ⟨by rfl, ?_⟩) (by assumption) ?_
    rotate_left
    · (intro w hSw; (try dsimp only at hSw); go_simp; (try with_reducible rfl))
    (try simp only [List.set_cons_zero, List.set_cons_succ])
    refine held_take (i := 6) (d := 9) (v := ?_) rfl rfl (by kernel_rfl) (by kernel_rfl) (by kernel_rfl) (fun _ _ _ h => h) (Or.inl ⟨by rfl, ?_⟩) (by assumption) ?_
    rotate_left
    · (intro w hSw; (try dsimp only at hSw); go_simp; (try with_reducible rfl))
    (try simp only [List.set_cons_zero, List.set_cons_succ])
    refine held_take (i := 7) (d := 10) (v := ?_) rfl rfl (by kernel_rfl) (by kernel_rfl) (by kernel_rfl) (fun _ _ _ h => h) (Or.inl ⟨by rfl, ?_⟩) (by assumption) ?_
    rotate_left
    · (intro w hSw; (try dsimp only at hSw); go_simp; (try with_reducible rfl))
    (try simp only [List.set_cons_zero, List.set_cons_succ])
    refine wpAnyH_done (by kernel_rfl) ?_ _
    have hV := (Bl.refl w).drew
    replace c0 := Bl.cells ((Bl.refl _).drew) c0
    replace c1 := Bl.cells ((Bl.refl _).drew) c1
    generalize w.drew = v0 at hV c0 c1 ⊢
    have had1 := Nat.lt_of_lt_of_le had hV.sz
    have hbd1 := Nat.lt_of_lt_of_le hbd hV.sz
    go_wp2_with (first | (go_at_call 100; refine (impl_bit _ _).mono ?_; rintro e v5 ⟨rfl, rfl⟩))
    go_ret
    refine ⟨_, _, _, rfl, ?_, hV.alloc _⟩
    rw [HE.out]
    exact own_lit v0 [1, min x y] rfl hV.sz (by simp)
  · have HE := Lib.hid (show exL 7 wd x y 0 = [0, min x y] from if_neg hc)
    skip
    go_enter Tryz.func60, Tryz.ntmps60
    go_wp2_with fail
    refine wp_region_held_drew (S := (fun w' => w'.cell? ad = some (.int .i64 x) ∧ w'.cell? bd = some (.int .i64 y))) (by kernel_rfl) ?_ (fun hHeld => ?_)
    · (try dsimp only); exact ⟨Bl.cells ((Bl.refl _).drew) c0, Bl.cells ((Bl.refl _).drew) c1⟩
    refine held_take (i := 0) (d := 11) (v := ?_) rfl rfl (by kernel_rfl) (by kernel_rfl) (by kernel_rfl) (fun _ _ _ h => h) (Or.inl ⟨by rfl, ?_⟩) (by assumption) ?_
    rotate_left
    · (intro w hSw; (try dsimp only at hSw); go_simp; (try with_reducible rfl))
    (try simp only [List.set_cons_zero, List.set_cons_succ])
    refine held_take (i := 1) (d := 12) (v := ?_) rfl rfl (by kernel_rfl) (by kernel_rfl) (by kernel_rfl) (fun _ _ _ h => h) (Or.inl ⟨by rfl, ?_⟩) (by assumption) ?_
    rotate_left
    · (intro w hSw; (try dsimp only at hSw); go_simp; (try with_reducible rfl))
    (try simp only [List.set_cons_zero, List.set_cons_succ])
    refine held_take (i := 2) (d := 13) (v := ?_) rfl rfl (by kernel_rfl) (by kernel_rfl) (by kernel_rfl) (fun _ _ _ h => h) (Or.inl ⟨by rfl, ?_⟩) (by assumption) ?_
    rotate_left
    · (intro w hSw; (try dsimp only at hSw); go_simp; (try with_reducible rfl))
    (try simp only [List.set_cons_zero, List.set_cons_succ])
    refine held_take (i := 3) (d := 14) (v := ?_) rfl rfl (by kernel_rfl) (by kernel_rfl) (by kernel_rfl) (fun _ _ _ h => h) (Or.inl ⟨by rfl, ?_⟩) (by assumption) ?_
    rotate_left
    · (intro w hSw; (try dsimp only at hSw); go_simp; (try with_reducible rfl))
    (try simp only [List.set_cons_zero, List.set_cons_succ])
    refine held_take (i := 4) (d := 15) (v := ?_) rfl rfl (by kernel_rfl) (by kernel_rfl) (by kernel_rfl) (fun _ _ _ h => h) (Or.inl ⟨by rfl, ?_⟩) (by assumption) ?_
    rotate_left
    · (intro w hSw; (try dsimp only at hSw); go_simp; (try with_reducible rfl))
    (try simp only [List.set_cons_zero, List.set_cons_succ])
    refine held_take (i := 5) (d := 16) (v := ?_) rfl rfl (by kernel_rfl) (by kernel_rfl) (by kernel_rfl) (fun _ _ _ h => h) (Or.inl ⟨by rfl, ?_⟩) (by assumption) ?_
    rotate_left
    · (intro w hSw; (try dsimp only at hSw); go_simp; (try with_reducible rfl))
    (try simp only [List.set_cons_zero, List.set_cons_succ])
    refine held_take (i := 6) (d := 9) (v := ?_) rfl rfl (by kernel_rfl) (by kernel_rfl) (by kernel_rfl) (fun _ _ _ h => h) (Or.inl ⟨by rfl, ?_⟩) (by assumption) ?_
    rotate_left
    · (intro w hSw; (try dsimp only at hSw); go_simp; (try with_reducible rfl))
    (try simp only [List.set_cons_zero, List.set_cons_succ])
    refine held_take (i := 7) (d := 10) (v := ?_) rfl rfl (by kernel_rfl) (by kernel_rfl) (by kernel_rfl) (fun _ _ _ h => h) (Or.inl ⟨by rfl, ?_⟩) (by assumption) ?_
    rotate_left
    · (intro w hSw; (try dsimp only at hSw); go_simp; (try with_reducible rfl))
    (try simp only [List.set_cons_zero, List.set_cons_succ])
    refine wpAnyH_done (by kernel_rfl) ?_ _
    have hV := (Bl.refl w).drew
    replace c0 := Bl.cells ((Bl.refl _).drew) c0
    replace c1 := Bl.cells ((Bl.refl _).drew) c1
    generalize w.drew = v0 at hV c0 c1 ⊢
    have had1 := Nat.lt_of_lt_of_le had hV.sz
    have hbd1 := Nat.lt_of_lt_of_le hbd hV.sz
    go_wp2_with (first | (go_at_call 100; refine (impl_bit _ _).mono ?_; rintro e v5 ⟨rfl, rfl⟩))
    go_ret
    refine ⟨_, _, _, rfl, ?_, hV.alloc _⟩
    rw [HE.out]
    exact own_lit v0 [0, min x y] rfl hV.sz (by simp)
set_option maxRecDepth 20000 in
set_option maxHeartbeats 2000000 in
theorem imE_8 (wd x y z : Int) (ad bd : Addr) (c d : Nat) (w : World) (hx : 0 ≤ x ∧ x ≤ 15) (hy : 0 ≤ y ∧ y ≤ 15) (hz : 0 ≤ z ∧ z ≤ 15) (hwd : 1 ≤ wd ∧ wd ≤ 4) (had : ad.block < w.heap.size) (hbd : bd.block < w.heap.size) (c0 : w.cell? ad = some (.int .i64 x)) (c1 : w.cell? bd = some (.int .i64 y)) (hcc : 2 ≤ c) (c2 : w.cell? ⟨ad.block, ad.off + 1, none⟩ = some (.int .i64 z)) :
    Calls Tryz.prog 60 #[.int .i64 8, .int .i64 wd, .slice (some ad) 2 c, .slice (some bd) 1 d] w fun e w' => ∃ A n c', e = .returned (.slice A n c') ∧ OwnI w.heap.size w' A n c' (exL 8 wd x y z) ∧ Bl w w' := by
  by_cases hc : 1 < x + z + y
  · have HE := Lib.hid (show exL 8 wd x y z = [1] from if_pos hc)
    have e2 : 2 ≤ x + z + y := by omega
    go_enter Tryz.func60, Tryz.ntmps60
    go_wp2_with fail
    refine wp_region_held_drew (S := (fun w' => w'.cell? ad = some (.int .i64 x) ∧ w'.cell? bd = some (.int .i64 y))) (by kernel_rfl) ?_ (fun hHeld => ?_)
    · (try dsimp only); exact ⟨Bl.cells ((Bl.refl _).drew) c0, Bl.cells ((Bl.refl _).drew) c1⟩
    refine held_take (i := 0) (d := 11) (v := ?_) rfl rfl (by kernel_rfl) (by kernel_rfl) (by kernel_rfl) (fun _ _ _ h => h) (Or.inl ⟨by rfl, ?_⟩) (by assumption) ?_
    rotate_left
    · (intro w hSw; (try dsimp only at hSw); go_simp; (try with_reducible rfl))
    (try simp only [List.set_cons_zero, List.set_cons_succ])
    refine held_take (i := 1) (d := 12) (v := ?_) rfl rfl (by kernel_rfl) (by kernel_rfl) (by kernel_rfl) (fun _ _ _ h => h) (Or.inl ⟨by rfl, ?_⟩) (by assumption) ?_
    rotate_left
    · (intro w hSw; (try dsimp only at hSw); go_simp; (try with_reducible rfl))
    (try simp only [List.set_cons_zero, List.set_cons_succ])
    refine held_take (i := 2) (d := 13) (v := ?_) rfl rfl (by kernel_rfl) (by kernel_rfl) (by kernel_rfl) (fun _ _ _ h => h) (Or.inl ⟨by rfl, ?_⟩) (by assumption) ?_
    rotate_left
    · (intro w hSw; (try dsimp only at hSw); go_simp; (try with_reducible rfl))
    (try simp only [List.set_cons_zero, List.set_cons_succ])
    refine held_take (i := 3) (d := 14) (v := ?_) rfl rfl (by kernel_rfl) (by kernel_rfl) (by kernel_rfl) (fun _ _ _ h => h) (Or.inl ⟨by rfl, ?_⟩) (by assumption) ?_
    rotate_left
    · (intro w hSw; (try dsimp only at hSw); go_simp; (try with_reducible rfl))
    (try simp only [List.set_cons_zero, List.set_cons_succ])
    refine held_take (i := 4) (d := 15) (v := ?_) rfl rfl (by kernel_rfl) (by kernel_rfl) (by kernel_rfl) (fun _ _ _ h => h) (Or.inl ⟨by rfl, ?_⟩) (by assumption) ?_
    rotate_left
    · (intro w hSw; (try dsimp only at hSw); go_simp; (try with_reducible rfl))
    (try simp only [List.set_cons_zero, List.set_cons_succ])
    refine held_take (i := 5) (d := 16) (v := ?_) rfl rfl (by kernel_rfl) (by kernel_rfl) (by kernel_rfl) (fun _ _ _ h => h) (Or.inl ⟨by rfl, ?_⟩) (by assumption) ?_
    rotate_left
    · (intro w hSw; (try dsimp only at hSw); go_simp; (try with_reducible rfl))
    (try simp only [List.set_cons_zero, List.set_cons_succ])
    refine held_take (i := 6) (d := 9) (v := ?_) rfl rfl (by kernel_rfl) (by kernel_rfl) (by kernel_rfl) (fun _ _ _ h => h) (Or.inl ⟨by rfl, ?_⟩) (by assumption) ?_
    rotate_left
    · (intro w hSw; (try dsimp only at hSw); go_simp; (try with_reducible rfl))
    (try simp only [List.set_cons_zero, List.set_cons_succ])
    refine held_take (i := 7) (d := 10) (v := ?_) rfl rfl (by kernel_rfl) (by kernel_rfl) (by kernel_rfl) (fun _ _ _ h => h) (Or.inl ⟨by rfl, ?_⟩) (by assumption) ?_
    rotate_left
    · (intro w hSw; (try dsimp only at hSw); go_simp; (try with_reducible rfl))
    (try simp only [List.set_cons_zero, List.set_cons_succ])
    refine wpAnyH_done (by kernel_rfl) ?_ _
    have hV := (Bl.refl w).drew
    replace c0 := Bl.cells ((Bl.refl _).drew) c0
    replace c1 := Bl.cells ((Bl.refl _).drew) c1
    replace c2 := Bl.cells ((Bl.refl _).drew) c2
    generalize w.drew = v0 at hV c0 c1 c2 ⊢
    have had1 := Nat.lt_of_lt_of_le had hV.sz
    have hbd1 := Nat.lt_of_lt_of_le hbd hV.sz
    go_wp2_with (first | (go_at_call 100; refine (impl_bit _ _).mono ?_; rintro e v5 ⟨rfl, rfl⟩))
    go_ret
    refine ⟨_, _, _, rfl, ?_, hV.alloc _⟩
    rw [HE.out]
    exact own_lit v0 [1] rfl hV.sz (by simp)
  · have HE := Lib.hid (show exL 8 wd x y z = [0] from if_neg hc)
    have e2 : ¬ 2 ≤ x + z + y := by omega
    go_enter Tryz.func60, Tryz.ntmps60
    go_wp2_with fail
    refine wp_region_held_drew (S := (fun w' => w'.cell? ad = some (.int .i64 x) ∧ w'.cell? bd = some (.int .i64 y))) (by kernel_rfl) ?_ (fun hHeld => ?_)
    · (try dsimp only); exact ⟨Bl.cells ((Bl.refl _).drew) c0, Bl.cells ((Bl.refl _).drew) c1⟩
    refine held_take (i := 0) (d := 11) (v := ?_) rfl rfl (by kernel_rfl) (by kernel_rfl) (by kernel_rfl) (fun _ _ _ h => h) (Or.inl ⟨by rfl, ?_⟩) (by assumption) ?_
    rotate_left
    · (intro w hSw; (try dsimp only at hSw); go_simp; (try with_reducible rfl))
    (try simp only [List.set_cons_zero, List.set_cons_succ])
    refine held_take (i := 1) (d := 12) (v := ?_) rfl rfl (by kernel_rfl) (by kernel_rfl) (by kernel_rfl) (fun _ _ _ h => h) (Or.inl ⟨by rfl, ?_⟩) (by assumption) ?_
    rotate_left
    · (intro w hSw; (try dsimp only at hSw); go_simp; (try with_reducible rfl))
    (try simp only [List.set_cons_zero, List.set_cons_succ])
    refine held_take (i := 2) (d := 13) (v := ?_) rfl rfl (by kernel_rfl) (by kernel_rfl) (by kernel_rfl) (fun _ _ _ h => h) (Or.inl ⟨by rfl, ?_⟩) (by assumption) ?_
    rotate_left
    · (intro w hSw; (try dsimp only at hSw); go_simp; (try with_reducible rfl))
    (try simp only [List.set_cons_zero, List.set_cons_succ])
    refine held_take (i := 3) (d := 14) (v := ?_) rfl rfl (by kernel_rfl) (by kernel_rfl) (by kernel_rfl) (fun _ _ _ h => h) (Or.inl ⟨by rfl, ?_⟩) (by assumption) ?_
    rotate_left
    · (intro w hSw; (try dsimp only at hSw); go_simp; (try with_reducible rfl))
    (try simp only [List.set_cons_zero, List.set_cons_succ])
    refine held_take (i := 4) (d := 15) (v := ?_) rfl rfl (by kernel_rfl) (by kernel_rfl) (by kernel_rfl) (fun _ _ _ h => h) (Or.inl ⟨by rfl, ?_⟩) (by assumption) ?_
    rotate_left
    · (intro w hSw; (try dsimp only at hSw); go_simp; (try with_reducible rfl))
    (try simp only [List.set_cons_zero, List.set_cons_succ])
    refine held_take (i := 5) (d := 16) (v := ?_) rfl rfl (by kernel_rfl) (by kernel_rfl) (by kernel_rfl) (fun _ _ _ h => h) (Or.inl ⟨by rfl, ?_⟩) (by assumption) ?_
    rotate_left
    · (intro w hSw; (try dsimp only at hSw); go_simp; (try with_reducible rfl))
    (try simp only [List.set_cons_zero, List.set_cons_succ])
    refine held_take (i := 6) (d := 9) (v := ?_) rfl rfl (by kernel_rfl) (by kernel_rfl) (by kernel_rfl) (fun _ _ _ h => h) (Or.inl ⟨by rfl, ?_⟩) (by assumption) ?_
    rotate_left
    · (intro w hSw; (try dsimp only at hSw); go_simp; (try with_reducible rfl))
    (try simp only [List.set_cons_zero, List.set_cons_succ])
    refine held_take (i := 7) (d := 10) (v := ?_) rfl rfl (by kernel_rfl) (by kernel_rfl) (by kernel_rfl) (fun _ _ _ h => h) (Or.inl ⟨by rfl, ?_⟩) (by assumption) ?_
    rotate_left
    · (intro w hSw; (try dsimp only at hSw); go_simp; (try with_reducible rfl))
    (try simp only [List.set_cons_zero, List.set_cons_succ])
    refine wpAnyH_done (by kernel_rfl) ?_ _
    have hV := (Bl.refl w).drew
    replace c0 := Bl.cells ((Bl.refl _).drew) c0
    replace c1 := Bl.cells ((Bl.refl _).drew) c1
    replace c2 := Bl.cells ((Bl.refl _).drew) c2
    generalize w.drew = v0 at hV c0 c1 c2 ⊢
    have had1 := Nat.lt_of_lt_of_le had hV.sz
    have hbd1 := Nat.lt_of_lt_of_le hbd hV.sz
    go_wp2_with (first | (go_at_call 100; refine (impl_bit _ _).mono ?_; rintro e v5 ⟨rfl, rfl⟩))
    go_ret
    refine ⟨_, _, _, rfl, ?_, hV.alloc _⟩
    rw [HE.out]
    exact own_lit v0 [0] rfl hV.sz (by simp)
set_option maxRecDepth 20000 in
set_option maxHeartbeats 2000000 in
theorem imE_9 (wd x y : Int) (ad bd : Addr) (c d : Nat) (w : World) (hx : 0 ≤ x ∧ x ≤ 15) (hy : 0 ≤ y ∧ y ≤ 15) (hwd : 1 ≤ wd ∧ wd ≤ 4) (had : ad.block < w.heap.size) (hbd : bd.block < w.heap.size) (c0 : w.cell? ad = some (.int .i64 x)) (c1 : w.cell? bd = some (.int .i64 y)) :
    Calls Tryz.prog 60 #[.int .i64 9, .int .i64 wd, .slice (some ad) 1 c, .slice (some bd) 1 d] w fun e w' => ∃ A n c', e = .returned (.slice A n c') ∧ OwnI w.heap.size w' A n c' (exL 9 wd x y 0) ∧ Bl w w' := by
  have HE := Lib.hid (show exL 9 wd x y 0 = [x * y] from rfl)
  have m1 : x * y ≤ 15 * 15 := Int.mul_le_mul hx.2 hy.2 hy.1 (by omega)
  have m2 : 0 ≤ x * y := Int.mul_nonneg hx.1 hy.1
  have m3 : wrap64 (x * y) = x * y := by unfold wrap64; omega
  go_enter Tryz.func60, Tryz.ntmps60
  go_wp2_with fail
  refine wp_region_held_drew (S := (fun w' => w'.cell? ad = some (.int .i64 x) ∧ w'.cell? bd = some (.int .i64 y))) (by kernel_rfl) ?_ (fun hHeld => ?_)
  · (try dsimp only); exact ⟨Bl.cells ((Bl.refl _).drew) c0, Bl.cells ((Bl.refl _).drew) c1⟩
  refine held_take (i := 0) (d := 11) (v := ?_) rfl rfl (by kernel_rfl) (by kernel_rfl) (by kernel_rfl) (fun _ _ _ h => h) (Or.inl ⟨by rfl, ?_⟩) (by assumption) ?_
  rotate_left
  · (intro w hSw; (try dsimp only at hSw); go_simp; (try with_reducible rfl))
  (try simp only [List.set_cons_zero, List.set_cons_succ])
  refine held_take (i := 1) (d := 12) (v := ?_) rfl rfl (by kernel_rfl) (by kernel_rfl) (by kernel_rfl) (fun _ _ _ h => h) (Or.inl ⟨by rfl, ?_⟩) (by assumption) ?_
  rotate_left
  · (intro w hSw; (try dsimp only at hSw); go_simp; (try with_reducible rfl))
  (try simp only [List.set_cons_zero, List.set_cons_succ])
  refine held_take (i := 2) (d := 13) (v := ?_) rfl rfl (by kernel_rfl) (by kernel_rfl) (by kernel_rfl) (fun _ _ _ h => h) (Or.inl ⟨by rfl, ?_⟩) (by assumption) ?_
  rotate_left
  · (intro w hSw; (try dsimp only at hSw); go_simp; (try with_reducible rfl))
  (try simp only [List.set_cons_zero, List.set_cons_succ])
  refine held_take (i := 3) (d := 14) (v := ?_) rfl rfl (by kernel_rfl) (by kernel_rfl) (by kernel_rfl) (fun _ _ _ h => h) (Or.inl ⟨by rfl, ?_⟩) (by assumption) ?_
  rotate_left
  · (intro w hSw; (try dsimp only at hSw); go_simp; (try with_reducible rfl))
  (try simp only [List.set_cons_zero, List.set_cons_succ])
  refine held_take (i := 4) (d := 15) (v := ?_) rfl rfl (by kernel_rfl) (by kernel_rfl) (by kernel_rfl) (fun _ _ _ h => h) (Or.inl ⟨by rfl, ?_⟩) (by assumption) ?_
  rotate_left
  · (intro w hSw; (try dsimp only at hSw); go_simp; (try with_reducible rfl))
  (try simp only [List.set_cons_zero, List.set_cons_succ])
  refine held_take (i := 5) (d := 16) (v := ?_) rfl rfl (by kernel_rfl) (by kernel_rfl) (by kernel_rfl) (fun _ _ _ h => h) (Or.inl ⟨by rfl, ?_⟩) (by assumption) ?_
  rotate_left
  · (intro w hSw; (try dsimp only at hSw); go_simp; (try with_reducible rfl))
  (try simp only [List.set_cons_zero, List.set_cons_succ])
  refine held_take (i := 6) (d := 9) (v := ?_) rfl rfl (by kernel_rfl) (by kernel_rfl) (by kernel_rfl) (fun _ _ _ h => h) (Or.inl ⟨by rfl, ?_⟩) (by assumption) ?_
  rotate_left
  · (intro w hSw; (try dsimp only at hSw); go_simp; (try with_reducible rfl))
  (try simp only [List.set_cons_zero, List.set_cons_succ])
  refine held_take (i := 7) (d := 10) (v := ?_) rfl rfl (by kernel_rfl) (by kernel_rfl) (by kernel_rfl) (fun _ _ _ h => h) (Or.inl ⟨by rfl, ?_⟩) (by assumption) ?_
  rotate_left
  · (intro w hSw; (try dsimp only at hSw); go_simp; (try with_reducible rfl))
  (try simp only [List.set_cons_zero, List.set_cons_succ])
  refine wpAnyH_done (by kernel_rfl) ?_ _
  have hV := (Bl.refl w).drew
  replace c0 := Bl.cells ((Bl.refl _).drew) c0
  replace c1 := Bl.cells ((Bl.refl _).drew) c1
  generalize w.drew = v0 at hV c0 c1 ⊢
  have had1 := Nat.lt_of_lt_of_le had hV.sz
  have hbd1 := Nat.lt_of_lt_of_le hbd hV.sz
  go_wp2_with (first | (go_at_call 100; refine (impl_bit _ _).mono ?_; rintro e v5 ⟨rfl, rfl⟩))
  go_ret
  refine ⟨_, _, _, rfl, ?_, hV.alloc _⟩
  rw [HE.out]
  exact own_lit v0 [x * y] rfl hV.sz (by simp)
set_option maxRecDepth 20000 in
set_option maxHeartbeats 2000000 in
theorem imE_10 (wd x y z : Int) (ad bd : Addr) (c d : Nat) (w : World) (hx : 0 ≤ x ∧ x ≤ 15) (hy : 0 ≤ y ∧ y ≤ 15) (hz : 0 ≤ z ∧ z ≤ 15) (hwd : 1 ≤ wd ∧ wd ≤ 4) (had : ad.block < w.heap.size) (hbd : bd.block < w.heap.size) (c0 : w.cell? ad = some (.int .i64 x)) (c1 : w.cell? bd = some (.int .i64 y)) (hcc : 2 ≤ c) (c2 : w.cell? ⟨ad.block, ad.off + 1, none⟩ = some (.int .i64 z)) :
    Calls Tryz.prog 60 #[.int .i64 10, .int .i64 wd, .slice (some ad) 2 c, .slice (some bd) 1 d] w fun e w' => ∃ A n c', e = .returned (.slice A n c') ∧ OwnI w.heap.size w' A n c' (exL 10 wd x y z) ∧ Bl w w' := by
  by_cases hc : y = 1
  · have HE := Lib.hid (show exL 10 wd x y z = [z, x] from if_pos hc)
    have e1 : (y == 1) = true := by simpa using hc
    clear hc
    go_enter Tryz.func60, Tryz.ntmps60
    go_wp2_with fail
    refine wp_region_held_drew (S := (fun w' => w'.cell? ad = some (.int .i64 x) ∧ w'.cell? bd = some (.int .i64 y))) (by kernel_rfl) ?_ (fun hHeld => ?_)
    · (try dsimp only); exact ⟨Bl.cells ((Bl.refl _).drew) c0, Bl.cells ((Bl.refl _).drew) c1⟩
    refine held_take (i := 0) (d := 11) (v := ?_) rfl rfl (by kernel_rfl) (by kernel_rfl) (by kernel_rfl) (fun _ _ _ h => h) (Or.inl ⟨by rfl, ?_⟩) (by assumption) ?_
    rotate_left
    · (intro w hSw; (try dsimp only at hSw); go_simp; (try with_reducible rfl))
    (try simp only [List.set_cons_zero, List.set_cons_succ])
    refine held_take (i := 1) (d := 12) (v := ?_) rfl rfl (by kernel_rfl) (by kernel_rfl) (by kernel_rfl) (fun _ _ _ h => h) (Or.inl ⟨by rfl, ?_⟩) (by assumption) ?_
    rotate_left
    · (intro w hSw; (try dsimp only at hSw); go_simp; (try with_reducible rfl))
    (try simp only [List.set_cons_zero, List.set_cons_succ])
    refine held_take (i := 2) (d := 13) (v := ?_) rfl rfl (by kernel_rfl) (by kernel_rfl) (by kernel_rfl) (fun _ _ _ h => h) (Or.inl ⟨by rfl, ?_⟩) (by assumption) ?_
    rotate_left
    · (intro w hSw; (try dsimp only at hSw); go_simp; (try with_reducible rfl))
    (try simp only [List.set_cons_zero, List.set_cons_succ])
    refine held_take (i := 3) (d := 14) (v := ?_) rfl rfl (by kernel_rfl) (by kernel_rfl) (by kernel_rfl) (fun _ _ _ h => h) (Or.inl ⟨by rfl, ?_⟩) (by assumption) ?_
    rotate_left
    · (intro w hSw; (try dsimp only at hSw); go_simp; (try with_reducible rfl))
    (try simp only [List.set_cons_zero, List.set_cons_succ])
    refine held_take (i := 4) (d := 15) (v := ?_) rfl rfl (by kernel_rfl) (by kernel_rfl) (by kernel_rfl) (fun _ _ _ h => h) (Or.inl ⟨by rfl, ?_⟩) (by assumption) ?_
    rotate_left
    · (intro w hSw; (try dsimp only at hSw); go_simp; (try with_reducible rfl))
    (try simp only [List.set_cons_zero, List.set_cons_succ])
    refine held_take (i := 5) (d := 16) (v := ?_) rfl rfl (by kernel_rfl) (by kernel_rfl) (by kernel_rfl) (fun _ _ _ h => h) (Or.inl ⟨by rfl, ?_⟩) (by assumption) ?_
    rotate_left
    · (intro w hSw; (try dsimp only at hSw); go_simp; (try with_reducible rfl))
    (try simp only [List.set_cons_zero, List.set_cons_succ])
    refine held_take (i := 6) (d := 9) (v := ?_) rfl rfl (by kernel_rfl) (by kernel_rfl) (by kernel_rfl) (fun _ _ _ h => h) (Or.inl ⟨by rfl, ?_⟩) (by assumption) ?_
    rotate_left
    · (intro w hSw; (try dsimp only at hSw); go_simp; (try with_reducible rfl))
    (try simp only [List.set_cons_zero, List.set_cons_succ])
    refine held_take (i := 7) (d := 10) (v := ?_) rfl rfl (by kernel_rfl) (by kernel_rfl) (by kernel_rfl) (fun _ _ _ h => h) (Or.inl ⟨by rfl, ?_⟩) (by assumption) ?_
    rotate_left
    · (intro w hSw; (try dsimp only at hSw); go_simp; (try with_reducible rfl))
    (try simp only [List.set_cons_zero, List.set_cons_succ])
    refine wpAnyH_done (by kernel_rfl) ?_ _
    have hV := (Bl.refl w).drew
    replace c0 := Bl.cells ((Bl.refl _).drew) c0
    replace c1 := Bl.cells ((Bl.refl _).drew) c1
    replace c2 := Bl.cells ((Bl.refl _).drew) c2
    generalize w.drew = v0 at hV c0 c1 c2 ⊢
    have had1 := Nat.lt_of_lt_of_le had hV.sz
    have hbd1 := Nat.lt_of_lt_of_le hbd hV.sz
    go_wp2_with (first | (go_at_call 100; refine (impl_bit _ _).mono ?_; rintro e v5 ⟨rfl, rfl⟩))
    go_ret
    refine ⟨_, _, _, rfl, ?_, hV.alloc _⟩
    rw [HE.out]
    exact own_lit v0 [z, x] rfl hV.sz (by simp)
  · have HE := Lib.hid (show exL 10 wd x y z = [x, z] from if_neg hc)
    have e1 : (y == 1) = false := by simpa using hc
    clear hc
    go_enter Tryz.func60, Tryz.ntmps60
    go_wp2_with fail
    refine wp_region_held_drew (S := (fun w' => w'.cell? ad = some (.int .i64 x) ∧ w'.cell? bd = some (.int .i64 y))) (by kernel_rfl) ?_ (fun hHeld => ?_)
    · (try dsimp only); exact ⟨Bl.cells ((Bl.refl _).drew) c0, Bl.cells ((Bl.refl _).drew) c1⟩
    refine held_take (i := 0) (d := 11) (v := ?_) rfl rfl (by kernel_rfl) (by kernel_rfl) (by kernel_rfl) (fun _ _ _ h => h) (Or.inl ⟨by rfl, ?_⟩) (by assumption) ?_
    rotate_left
    · (intro w hSw; (try dsimp only at hSw); go_simp; (try with_reducible rfl))
    (try simp only [List.set_cons_zero, List.set_cons_succ])
    refine held_take (i := 1) (d := 12) (v := ?_) rfl rfl (by kernel_rfl) (by kernel_rfl) (by kernel_rfl) (fun _ _ _ h => h) (Or.inl ⟨by rfl, ?_⟩) (by assumption) ?_
    rotate_left
    · (intro w hSw; (try dsimp only at hSw); go_simp; (try with_reducible rfl))
    (try simp only [List.set_cons_zero, List.set_cons_succ])
    refine held_take (i := 2) (d := 13) (v := ?_) rfl rfl (by kernel_rfl) (by kernel_rfl) (by kernel_rfl) (fun _ _ _ h => h) (Or.inl ⟨by rfl, ?_⟩) (by assumption) ?_
    rotate_left
    · (intro w hSw; (try dsimp only at hSw); go_simp; (try with_reducible rfl))
    (try simp only [List.set_cons_zero, List.set_cons_succ])
    refine held_take (i := 3) (d := 14) (v := ?_) rfl rfl (by kernel_rfl) (by kernel_rfl) (by kernel_rfl) (fun _ _ _ h => h) (Or.inl ⟨by rfl, ?_⟩) (by assumption) ?_
    rotate_left
    · (intro w hSw; (try dsimp only at hSw); go_simp; (try with_reducible rfl))
    (try simp only [List.set_cons_zero, List.set_cons_succ])
    refine held_take (i := 4) (d := 15) (v := ?_) rfl rfl (by kernel_rfl) (by kernel_rfl) (by kernel_rfl) (fun _ _ _ h => h) (Or.inl ⟨by rfl, ?_⟩) (by assumption) ?_
    rotate_left
    · (intro w hSw; (try dsimp only at hSw); go_simp; (try with_reducible rfl))
    (try simp only [List.set_cons_zero, List.set_cons_succ])
    refine held_take (i := 5) (d := 16) (v := ?_) rfl rfl (by kernel_rfl) (by kernel_rfl) (by kernel_rfl) (fun _ _ _ h => h) (Or.inl ⟨by rfl, ?_⟩) (by assumption) ?_
    rotate_left
    · (intro w hSw; (try dsimp only at hSw); go_simp; (try with_reducible rfl))
    (try simp only [List.set_cons_zero, List.set_cons_succ])
    refine held_take (i := 6) (d := 9) (v := ?_) rfl rfl (by kernel_rfl) (by kernel_rfl) (by kernel_rfl) (fun _ _ _ h => h) (Or.inl ⟨by rfl, ?_⟩) (by assumption) ?_
    rotate_left
    · (intro w hSw; (try dsimp only at hSw); go_simp; (try with_reducible rfl))
    (try simp only [List.set_cons_zero, List.set_cons_succ])
    refine held_take (i := 7) (d := 10) (v := ?_) rfl rfl (by kernel_rfl) (by kernel_rfl) (by kernel_rfl) (fun _ _ _ h => h) (Or.inl ⟨by rfl, ?_⟩) (by assumption) ?_
    rotate_left
    · (intro w hSw; (try dsimp only at hSw); go_simp; (try with_reducible rfl))
    (try simp only [List.set_cons_zero, List.set_cons_succ])
    refine wpAnyH_done (by kernel_rfl) ?_ _
    have hV := (Bl.refl w).drew
    replace c0 := Bl.cells ((Bl.refl _).drew) c0
    replace c1 := Bl.cells ((Bl.refl _).drew) c1
    replace c2 := Bl.cells ((Bl.refl _).drew) c2
    generalize w.drew = v0 at hV c0 c1 c2 ⊢
    have had1 := Nat.lt_of_lt_of_le had hV.sz
    have hbd1 := Nat.lt_of_lt_of_le hbd hV.sz
    go_wp2_with (first | (go_at_call 100; refine (impl_bit _ _).mono ?_; rintro e v5 ⟨rfl, rfl⟩))
    go_ret
    refine ⟨_, _, _, rfl, ?_, hV.alloc _⟩
    rw [HE.out]
    exact own_lit v0 [x, z] rfl hV.sz (by simp)
set_option maxRecDepth 20000 in
set_option maxHeartbeats 2000000 in
theorem imE_11 (wd x y : Int) (ad bd : Addr) (c d : Nat) (w : World) (hx : 0 ≤ x ∧ x ≤ 15) (hy : 0 ≤ y ∧ y ≤ 15) (hwd : 1 ≤ wd ∧ wd ≤ 4) (had : ad.block < w.heap.size) (hbd : bd.block < w.heap.size) (c0 : w.cell? ad = some (.int .i64 x)) (c1 : w.cell? bd = some (.int .i64 y)) :
    Calls Tryz.prog 60 #[.int .i64 11, .int .i64 wd, .slice (some ad) 1 c, .slice (some bd) 1 d] w fun e w' => ∃ A n c', e = .returned (.slice A n c') ∧ OwnI w.heap.size w' A n c' (exL 11 wd x y 0) ∧ Bl w w' := by
  rcases (by omega : wd = 1 ∨ wd = 2 ∨ wd = 3 ∨ wd = 4) with rfl | rfl | rfl | rfl
  · have HE := Lib.hid (show exL 11 1 x y 0 = [(x + y) % 2] from rfl)
    have r1 : (x + y).tmod 2 = (x + y) % 2 := Int.tmod_eq_emod_of_nonneg (by omega)
    go_enter Tryz.func60, Tryz.ntmps60
    go_wp2_with fail
    refine wp_region_held_drew (S := (fun w' => w'.cell? ad = some (.int .i64 x) ∧ w'.cell? bd = some (.int .i64 y))) (by kernel_rfl) ?_ (fun hHeld => ?_)
    · (try dsimp only); exact ⟨Bl.cells ((Bl.refl _).drew) c0, Bl.cells ((Bl.refl _).drew) c1⟩
    refine held_take (i := 0) (d := 11) (v := ?_) rfl rfl (by kernel_rfl) (by kernel_rfl) (by kernel_rfl) (fun _ _ _ h => h) (Or.inl ⟨by rfl, ?_⟩) (by assumption) ?_
    rotate_left
    · (intro w hSw; (try dsimp only at hSw); go_simp; (try with_reducible rfl))
    (try simp only [List.set_cons_zero, List.set_cons_succ])
    refine held_take (i := 1) (d := 12) (v := ?_) rfl rfl (by kernel_rfl) (by kernel_rfl) (by kernel_rfl) (fun _ _ _ h => h) (Or.inl ⟨by rfl, ?_⟩) (by assumption) ?_
    rotate_left
    · (intro w hSw; (try dsimp only at hSw); go_simp; (try with_reducible rfl))
    (try simp only [List.set_cons_zero, List.set_cons_succ])
    refine held_take (i := 2) (d := 13) (v := ?_) rfl rfl (by kernel_rfl) (by kernel_rfl) (by kernel_rfl) (fun _ _ _ h => h) (Or.inl ⟨by rfl, ?_⟩) (by assumption) ?_
    rotate_left
    · (intro w hSw; (try dsimp only at hSw); go_simp; (try with_reducible rfl))
    (try simp only [List.set_cons_zero, List.set_cons_succ])
    refine held_take (i := 3) (d := 14) (v := ?_) rfl rfl (by kernel_rfl) (by kernel_rfl) (by kernel_rfl) (fun _ _ _ h => h) (Or.inl ⟨by rfl, ?_⟩) (by assumption) ?_
    rotate_left
    · (intro w hSw; (try dsimp only at hSw); go_simp; (try with_reducible rfl))
    (try simp only [List.set_cons_zero, List.set_cons_succ])
    refine held_take (i := 4) (d := 15) (v := ?_) rfl rfl (by kernel_rfl) (by kernel_rfl) (by kernel_rfl) (fun _ _ _ h => h) (Or.inl ⟨by rfl, ?_⟩) (by assumption) ?_
    rotate_left
    · (intro w hSw; (try dsimp only at hSw); go_simp; (try with_reducible rfl))
    (try simp only [List.set_cons_zero, List.set_cons_succ])
    refine held_take (i := 5) (d := 16) (v := ?_) rfl rfl (by kernel_rfl) (by kernel_rfl) (by kernel_rfl) (fun _ _ _ h => h) (Or.inl ⟨by rfl, ?_⟩) (by assumption) ?_
    rotate_left
    · (intro w hSw; (try dsimp only at hSw); go_simp; (try with_reducible rfl))
    (try simp only [List.set_cons_zero, List.set_cons_succ])
    refine held_take (i := 6) (d := 9) (v := ?_) rfl rfl (by kernel_rfl) (by kernel_rfl) (by kernel_rfl) (fun _ _ _ h => h) (Or.inl ⟨by rfl, ?_⟩) (by assumption) ?_
    rotate_left
    · (intro w hSw; (try dsimp only at hSw); go_simp; (try with_reducible rfl))
    (try simp only [List.set_cons_zero, List.set_cons_succ])
    refine held_take (i := 7) (d := 10) (v := ?_) rfl rfl (by kernel_rfl) (by kernel_rfl) (by kernel_rfl) (fun _ _ _ h => h) (Or.inl ⟨by rfl, ?_⟩) (by assumption) ?_
    rotate_left
    · (intro w hSw; (try dsimp only at hSw); go_simp; (try with_reducible rfl))
    (try simp only [List.set_cons_zero, List.set_cons_succ])
    refine wpAnyH_done (by kernel_rfl) ?_ _
    have hV := (Bl.refl w).drew
    replace c0 := Bl.cells ((Bl.refl _).drew) c0
    replace c1 := Bl.cells ((Bl.refl _).drew) c1
    generalize w.drew = v0 at hV c0 c1 ⊢
    have had1 := Nat.lt_of_lt_of_le had hV.sz
    have hbd1 := Nat.lt_of_lt_of_le hbd hV.sz
    go_wp2_with (first | (go_at_call 100; refine (impl_bit _ _).mono ?_; rintro e v5 ⟨rfl, rfl⟩))
    go_ret
    refine ⟨_, _, _, rfl, ?_, hV.alloc _⟩
    rw [HE.out]
    exact own_lit v0 [(x + y) % 2] rfl hV.sz (by simp)
  · have HE := Lib.hid (show exL 11 2 x y 0 = [(x + y) % 4] from rfl)
    have r1 : (x + y).tmod 4 = (x + y) % 4 := Int.tmod_eq_emod_of_nonneg (by omega)
    go_enter Tryz.func60, Tryz.ntmps60
    go_wp2_with fail
    refine wp_region_held_drew (S := (fun w' => w'.cell? ad = some (.int .i64 x) ∧ w'.cell? bd = some (.int .i64 y))) (by kernel_rfl) ?_ (fun hHeld => ?_)
    · (try dsimp only); exact ⟨Bl.cells ((Bl.refl _).drew) c0, Bl.cells ((Bl.refl _).drew) c1⟩
    refine held_take (i := 0) (d := 11) (v := ?_) rfl rfl (by kernel_rfl) (by kernel_rfl) (by kernel_rfl) (fun _ _ _ h => h) (Or.inl ⟨by rfl, ?_⟩) (by assumption) ?_
    rotate_left
    · (intro w hSw; (try dsimp only at hSw); go_simp; (try with_reducible rfl))
    (try simp only [List.set_cons_zero, List.set_cons_succ])
    refine held_take (i := 1) (d := 12) (v := ?_) rfl rfl (by kernel_rfl) (by kernel_rfl) (by kernel_rfl) (fun _ _ _ h => h) (Or.inl ⟨by rfl, ?_⟩) (by assumption) ?_
    rotate_left
    · (intro w hSw; (try dsimp only at hSw); go_simp; (try with_reducible rfl))
    (try simp only [List.set_cons_zero, List.set_cons_succ])
    refine held_take (i := 2) (d := 13) (v := ?_) rfl rfl (by kernel_rfl) (by kernel_rfl) (by kernel_rfl) (fun _ _ _ h => h) (Or.inl ⟨by rfl, ?_⟩) (by assumption) ?_
    rotate_left
    · (intro w hSw; (try dsimp only at hSw); go_simp; (try with_reducible rfl))
    (try simp only [List.set_cons_zero, List.set_cons_succ])
    refine held_take (i := 3) (d := 14) (v := ?_) rfl rfl (by kernel_rfl) (by kernel_rfl) (by kernel_rfl) (fun _ _ _ h => h) (Or.inl ⟨by rfl, ?_⟩) (by assumption) ?_
    rotate_left
    · (intro w hSw; (try dsimp only at hSw); go_simp; (try with_reducible rfl))
    (try simp only [List.set_cons_zero, List.set_cons_succ])
    refine held_take (i := 4) (d := 15) (v := ?_) rfl rfl (by kernel_rfl) (by kernel_rfl) (by kernel_rfl) (fun _ _ _ h => h) (Or.inl ⟨by rfl, ?_⟩) (by assumption) ?_
    rotate_left
    · (intro w hSw; (try dsimp only at hSw); go_simp; (try with_reducible rfl))
    (try simp only [List.set_cons_zero, List.set_cons_succ])
    refine held_take (i := 5) (d := 16) (v := ?_) rfl rfl (by kernel_rfl) (by kernel_rfl) (by kernel_rfl) (fun _ _ _ h => h) (Or.inl ⟨by rfl, ?_⟩) (by assumption) ?_
    rotate_left
    · (intro w hSw; (try dsimp only at hSw); go_simp; (try with_reducible rfl))
    (try simp only [List.set_cons_zero, List.set_cons_succ])
    refine held_take (i := 6) (d := 9) (v := ?_) rfl rfl (by kernel_rfl) (by kernel_rfl) (by kernel_rfl) (fun _ _ _ h => h) (Or.inl ⟨by rfl, ?_⟩) (by assumption) ?_
    rotate_left
    · (intro w hSw; (try dsimp only at hSw); go_simp; (try with_reducible rfl))
    (try simp only [List.set_cons_zero, List.set_cons_succ])
    refine held_take (i := 7) (d := 10) (v := ?_) rfl rfl (by kernel_rfl) (by kernel_rfl) (by kernel_rfl) (fun _ _ _ h => h) (Or.inl ⟨by rfl, ?_⟩) (by assumption) ?_
    rotate_left
    · (intro w hSw; (try dsimp only at hSw); go_simp; (try with_reducible rfl))
    (try simp only [List.set_cons_zero, List.set_cons_succ])
    refine wpAnyH_done (by kernel_rfl) ?_ _
    have hV := (Bl.refl w).drew
    replace c0 := Bl.cells ((Bl.refl _).drew) c0
    replace c1 := Bl.cells ((Bl.refl _).drew) c1
    generalize w.drew = v0 at hV c0 c1 ⊢
    have had1 := Nat.lt_of_lt_of_le had hV.sz
    have hbd1 := Nat.lt_of_lt_of_le hbd hV.sz
    go_wp2_with (first | (go_at_call 100; refine (impl_bit _ _).mono ?_; rintro e v5 ⟨rfl, rfl⟩))
    go_ret
    refine ⟨_, _, _, rfl, ?_, hV.alloc _⟩
    rw [HE.out]
    exact own_lit v0 [(x + y) % 4] rfl hV.sz (by simp)
  · have HE := Lib.hid (show exL 11 3 x y 0 = [(x + y) % 8] from rfl)
    have r1 : (x + y).tmod 8 = (x + y) % 8 := Int.tmod_eq_emod_of_nonneg (by omega)
    go_enter Tryz.func60, Tryz.ntmps60
    go_wp2_with fail
    refine wp_region_held_drew (S := (fun w' => w'.cell? ad = some (.int .i64 x) ∧ w'.cell? bd = some (.int .i64 y))) (by kernel_rfl) ?_ (fun hHeld => ?_)
    · (try dsimp only); exact ⟨Bl.cells ((Bl.refl _).drew) c0, Bl.cells ((Bl.refl _).drew) c1⟩
    refine held_take (i := 0) (d := 11) (v := ?_) rfl rfl (by kernel_rfl) (by kernel_rfl) (by kernel_rfl) (fun _ _ _ h => h) (Or.inl ⟨by rfl, ?_⟩) (by assumption) ?_
    rotate_left
    · (intro w hSw; (try dsimp only at hSw); go_simp; (try with_reducible rfl))
    (try simp only [List.set_cons_zero, List.set_cons_succ])
    refine held_take (i := 1) (d := 12) (v := ?_) rfl rfl (by kernel_rfl) (by kernel_rfl) (by kernel_rfl) (fun _ _ _ h => h) (Or.inl ⟨by rfl, ?_⟩) (by assumption) ?_
    rotate_left
    · (intro w hSw; (try dsimp only at hSw); go_simp; (try with_reducible rfl))
    (try simp only [List.set_cons_zero, List.set_cons_succ])
    refine held_take (i := 2) (d := 13) (v := ?_) rfl rfl (by kernel_rfl) (by kernel_rfl) (by kernel_rfl) (fun _ _ _ h => h) (Or.inl ⟨by rfl, ?_⟩) (by assumption) ?_
    rotate_left
    · (intro w hSw; (try dsimp only at hSw); go_simp; (try with_reducible rfl))
    (try simp only [List.set_cons_zero, List.set_cons_succ])
    refine held_take (i := 3) (d := 14) (v := ?_) rfl rfl (by kernel_rfl) (by kernel_rfl) (by kernel_rfl) (fun _ _ _ h => h) (Or.inl ⟨by rfl, ?_⟩) (by assumption) ?_
    rotate_left
    · (intro w hSw; (try dsimp only at hSw); go_simp; (try with_reducible rfl))
    (try simp only [List.set_cons_zero, List.set_cons_succ])
    refine held_take (i := 4) (d := 15) (v := ?_) rfl rfl (by kernel_rfl) (by kernel_rfl) (by kernel_rfl) (fun _ _ _ h => h) (Or.inl ⟨by rfl, ?_⟩) (by assumption) ?_
    rotate_left
    · (intro w hSw; (try dsimp only at hSw); go_simp; (try with_reducible rfl))
    (try simp only [List.set_cons_zero, List.set_cons_succ])
    refine held_take (i := 5) (d := 16) (v := ?_) rfl rfl (by kernel_rfl) (by kernel_rfl) (by kernel_rfl) (fun _ _ _ h => h) (Or.inl ⟨by rfl, ?_⟩) (by assumption) ?_
    rotate_left
    · (intro w hSw; (try dsimp only at hSw); go_simp; (try with_reducible rfl))
    (try simp only [List.set_cons_zero, List.set_cons_succ])
    refine held_take (i := 6) (d := 9) (v := ?_) rfl rfl (by kernel_rfl) (by kernel_rfl) (by kernel_rfl) (fun _ _ _ h => h) (Or.inl ⟨by rfl, ?_⟩) (by assumption) ?_
    rotate_left
    · (intro w hSw; (try dsimp only at hSw); go_simp; (try with_reducible rfl))
    (try simp only [List.set_cons_zero, List.set_cons_succ])
    refine held_take (i := 7) (d := 10) (v := ?_) rfl rfl (by kernel_rfl) (by kernel_rfl) (by kernel_rfl) (fun _ _ _ h => h) (Or.inl ⟨by rfl, ?_⟩) (by assumption) ?_
    rotate_left
    · (intro w hSw; (try dsimp only at hSw); go_simp; (try with_reducible rfl))
    (try simp only [List.set_cons_zero, List.set_cons_succ])
    refine wpAnyH_done (by kernel_rfl) ?_ _
    have hV := (Bl.refl w).drew
    replace c0 := Bl.cells ((Bl.refl _).drew) c0
    replace c1 := Bl.cells ((Bl.refl _).drew) c1
    generalize w.drew = v0 at hV c0 c1 ⊢
    have had1 := Nat.lt_of_lt_of_le had hV.sz
    have hbd1 := Nat.lt_of_lt_of_le hbd hV.sz
    go_wp2_with (first | (go_at_call 100; refine (impl_bit _ _).mono ?_; rintro e v5 ⟨rfl, rfl⟩))
    go_ret
    refine ⟨_, _, _, rfl, ?_, hV.alloc _⟩
    rw [HE.out]
    exact own_lit v0 [(x + y) % 8] rfl hV.sz (by simp)
  · have HE := Lib.hid (show exL 11 4 x y 0 = [(x + y) % 16] from rfl)
    have r1 : (x + y).tmod 16 = (x + y) % 16 := Int.tmod_eq_emod_of_nonneg (by omega)
    go_enter Tryz.func60, Tryz.ntmps60
    go_wp2_with fail
    refine wp_region_held_drew (S := (fun w' => w'.cell? ad = some (.int .i64 x) ∧ w'.cell? bd = some (.int .i64 y))) (by kernel_rfl) ?_ (fun hHeld => ?_)
    · (try dsimp only); exact ⟨Bl.cells ((Bl.refl _).drew) c0, Bl.cells ((Bl.refl _).drew) c1⟩
    refine held_take (i := 0) (d := 11) (v := ?_) rfl rfl (by kernel_rfl) (by kernel_rfl) (by kernel_rfl) (fun _ _ _ h => h) (Or.inl ⟨by rfl, ?_⟩) (by assumption) ?_
    rotate_left
    · (intro w hSw; (try dsimp only at hSw); go_simp; (try with_reducible rfl))
    (try simp only [List.set_cons_zero, List.set_cons_succ])
    refine held_take (i := 1) (d := 12) (v := ?_) rfl rfl (by kernel_rfl) (by kernel_rfl) (by kernel_rfl) (fun _ _ _ h => h) (Or.inl ⟨by rfl, ?_⟩) (by assumption) ?_
    rotate_left
    · (intro w hSw; (try dsimp only at hSw); go_simp; (try with_reducible rfl))
    (try simp only [List.set_cons_zero, List.set_cons_succ])
    refine held_take (i := 2) (d := 13) (v := ?_) rfl rfl (by kernel_rfl) (by kernel_rfl) (by kernel_rfl) (fun _ _ _ h => h) (Or.inl ⟨by rfl, ?_⟩) (by assumption) ?_
    rotate_left
    · (intro w hSw; (try dsimp only at hSw); go_simp; (try with_reducible rfl))
    (try simp only [List.set_cons_zero, List.set_cons_succ])
    refine held_take (i := 3) (d := 14) (v := ?_) rfl rfl (by kernel_rfl) (by kernel_rfl) (by kernel_rfl) (fun _ _ _ h => h) (Or.inl ⟨by rfl, ?_⟩) (by assumption) ?_
    rotate_left
    · (intro w hSw; (try dsimp only at hSw); go_simp; (try with_reducible rfl))
    (try simp only [List.set_cons_zero, List.set_cons_succ])
    refine held_take (i := 4) (d := 15) (v := ?_) rfl rfl (by kernel_rfl) (by kernel_rfl) (by kernel_rfl) (fun _ _ _ h => h) (Or.inl ⟨by rfl, ?_⟩) (by assumption) ?_
    rotate_left
    · (intro w hSw; (try dsimp only at hSw); go_simp; (try with_reducible rfl))
    (try simp only [List.set_cons_zero, List.set_cons_succ])
    refine held_take (i := 5) (d := 16) (v := ?_) rfl rfl (by kernel_rfl) (by kernel_rfl) (by kernel_rfl) (fun _ _ _ h => h) (Or.inl ⟨by rfl, ?_⟩) (by assumption) ?_
    rotate_left
    · (intro w hSw; (try dsimp only at hSw); go_simp; (try with_reducible rfl))
    (try simp only [List.set_cons_zero, List.set_cons_succ])
    refine held_take (i := 6) (d := 9) (v := ?_) rfl rfl (by kernel_rfl) (by kernel_rfl) (by kernel_rfl) (fun _ _ _ h => h) (Or.inl ⟨by rfl, ?_⟩) (by assumption) ?_
    rotate_left
    · (intro w hSw; (try dsimp only at hSw); go_simp; (try with_reducible rfl))
    (try simp only [List.set_cons_zero, List.set_cons_succ])
    refine held_take (i := 7) (d := 10) (v := ?_) rfl rfl (by kernel_rfl) (by kernel_rfl) (by kernel_rfl) (fun _ _ _ h => h) (Or.inl ⟨by rfl, ?_⟩) (by assumption) ?_
    rotate_left
    · (intro w hSw; (try dsimp only at hSw); go_simp; (try with_reducible rfl))
    (try simp only [List.set_cons_zero, List.set_cons_succ])
    refine wpAnyH_done (by kernel_rfl) ?_ _
    have hV := (Bl.refl w).drew
    replace c0 := Bl.cells ((Bl.refl _).drew) c0
    replace c1 := Bl.cells ((Bl.refl _).drew) c1
    generalize w.drew = v0 at hV c0 c1 ⊢
    have had1 := Nat.lt_of_lt_of_le had hV.sz
    have hbd1 := Nat.lt_of_lt_of_le hbd hV.sz
    go_wp2_with (first | (go_at_call 100; refine (impl_bit _ _).mono ?_; rintro e v5 ⟨rfl, rfl⟩))
    go_ret
    refine ⟨_, _, _, rfl, ?_, hV.alloc _⟩
    rw [HE.out]
    exact own_lit v0 [(x + y) % 16] rfl hV.sz (by simp)
end Go.Proofs.YtjggecbaladiiaaGreatDoor
