/- Contracts of the program's small words on lines: names, widths, the width of a line.
   Conditions: valid lines. -/
import Derived.Test.YtjggecbaladiiaaGreatDoorPrg
namespace Go.Proofs.YtjggecbaladiiaaGreatDoor
open Go.RowKit
set_option linter.unusedVariables false
theorem impl_isWidth (a : Int) (w : World) : Calls Tryz.prog 167 #[.int .i64 a] w fun e w' => e = .returned (.bool (inR a 1 10)) ∧ w = w' := by
  go_enter Tryz.func167, Tryz.ntmps167
  go_wp2_with (go_at_call 45; refine (impl_within _ _ _ _).mono ?_; rintro e w1 ⟨rfl, rfl⟩)
  go_ret
  exact ⟨rfl, rfl⟩
set_option maxHeartbeats 1000000 in
theorem impl_isName (s : ByteArray) (hs : nmB s = true) (w : World) :
    Calls Tryz.prog 169 #[.string s] w fun e w' => e = .returned (.bool true) ∧ w = w' := by
  unfold nmB at hs
  rw [Bool.and_eq_true] at hs
  obtain ⟨hs1, hs2⟩ := hs
  have hs3 := inR_iff.1 hs1
  have HB := Lib.hid (fun (i : Nat) (h3 : i < s.size) => nmR_at hs2 (Nat.zero_le i) (by omega) h3)
  clear hs2
  go_enter Tryz.func169, Tryz.ntmps169
  go_wp2
  go_loop [6] (fun i => ∃ k : Nat, k ≤ s.size ∧ i = .int .i64 k) (fun i => s.size - (intOf i).toNat)
  case atStart => exact ⟨0, by omega, rfl⟩
  case round =>
    obtain ⟨k, hk, rfl⟩ := hrel
    by_cases hlt : k < s.size
    · have i1 : (k : Int) < s.size := by omega
      obtain ⟨b1, b2⟩ := HB.out k hlt
      have b3 : ¬ (((s[k]'hlt).toNat : Nat) : Int) < 97 := by omega
      have b4 : ¬ (122 : Int) < (((s[k]'hlt).toNat : Nat) : Int) := by omega
      clear b1 b2
      go_wp2_with fail
      go_round
      case rel => exact ⟨k + 1, by omega, by go_num⟩
      case measure => simp [intOf]; omega
    · obtain rfl : k = s.size := by omega
      go_wp2_with fail
      refine (impl_within _ _ _ _).mono ?_
      rintro e w1 ⟨rfl, rfl⟩
      rw [hs1]
      go_wp2_with fail
      go_ret
      exact ⟨rfl, rfl⟩
/-- The library's table of the width of its search. -/
def Tm (w : World) : Prop := ∃ m, w.cell? ⟨3, 0, none⟩ = some (.int .i64 m)
theorem Tm.keep {w w' : World} (h : Tm w) (hb : Bl w w') : Tm w' := by
  obtain ⟨m, hm⟩ := h
  exact ⟨m, hb.cells hm⟩
theorem ops_in : ∀ op ∈ opsL, Lib.contains (⟨#[43, 45, 42, 60, 61, 38, 124, 94]⟩ : ByteArray).data.toList op.data.toList = true := by decide +kernel
theorem lib_ops (op : ByteArray) (ho : op ∈ opsL) (w : World) (ht : Tm w) :
    Calls Tryz.prog 209 #[.string ⟨#[43, 45, 42, 60, 61, 38, 124, 94]⟩, .string op] w fun e w' => e = .returned (.bool true) ∧ w = w' := by
  obtain ⟨m, hm⟩ := ht
  refine (Tryz.strings_Contains _ op m w (by decide) hm).mono ?_
  rintro e w1 ⟨rfl, rfl⟩
  exact ⟨by rw [ops_in op ho], rfl⟩
set_option maxRecDepth 20000 in
set_option maxHeartbeats 4000000 in
theorem impl_resultWidth (op : ByteArray) (v : Int) (h1 : 1 ≤ v) (h2 : v ≤ 10) (ho : op ∈ opsL) (hm : op = ⟨#[42]⟩ → v ≤ 5) (w : World) (ht : Tm w) :
    Calls Tryz.prog 168 #[.string op, .int .i64 v] w fun e w' => e = .returned (.int .i64 (twoW op v)) ∧ Bl w w' := by
  have HO := Lib.hid (fun w ht => lib_ops op ho w ht)
  simp only [opsL, List.mem_cons, List.not_mem_nil, or_false] at ho
  have H5 : 2 * v ≤ 10 ∨ ¬ op = ⟨#[42]⟩ := by by_cases h : op = ⟨#[42]⟩; exact .inl (by have := hm h; omega); exact .inr h
  clear hm
  rcases ho with rfl | rfl | rfl | rfl | rfl | rfl | rfl | rfl
  all_goals
    first | (have h5 : 2 * v ≤ 10 := (by rcases H5 with h | h; exact h; exact absurd rfl h)) | skip
    clear H5
    go_enter Tryz.func168, Tryz.ntmps168
    go_wp2_with (go_at_call 209; refine (HO.out _ ht).mono ?_; rintro e w1 ⟨rfl, rfl⟩)
    go_ret
    exact ⟨rfl, Bl.refl _⟩
theorem nil_list : ([] : List UInt8) = (⟨#[]⟩ : ByteArray).toList := by decide +kernel
theorem sb_nil (s : ByteArray) : (s.toList == []) = decide (s = ⟨#[]⟩) := by have := sb_eq s ⟨#[]⟩; rwa [← nil_list] at this
theorem nm_ne {nm : ByteArray} (h : nmB nm = true) : ¬ nm = ⟨#[]⟩ := by
  rintro rfl
  exact absurd h (by decide)
theorem nm_nil {nm : ByteArray} (h : nmB nm = true) : (nm.toList == []) = false := by
  rw [sb_nil]; exact decide_eq_false (nm_ne h)
set_option maxRecDepth 20000 in
set_option maxHeartbeats 4000000 in
theorem impl_lineWidth_1 (B C : Option Addr) (d m cc : Nat) (nm : ByteArray) (pt wd : Int) (w : World) (hw : RdI w B 0 d []) (ht : Tm w) (hnm : nmB nm = true) (hpt : inR pt 0 1 = true) (hwd : inR wd 1 10 = true) :
    Calls Tryz.prog 122 #[.agg #[.int .i64 1, .string nm, .string ⟨#[]⟩, .slice C m cc, .int .i64 pt, .int .i64 wd, .int .i64 0], .slice B 0 d] w fun e w' => e = .returned (.int .i64 wd) ∧ Bl w w' := by
  have hX := (Blk.new w 92 #[.int .i64 1, .string nm, .string ⟨#[]⟩, .slice C m cc, .int .i64 pt, .int .i64 wd, .int .i64 0] (g := w.heap.size)).alloc (.cells #[.int .i64 1, .string nm, .string ⟨#[]⟩, .slice C m cc, .int .i64 0, .int .i64 0, .int .i64 0] 92)
  have hD := Blk.new (w.alloc (.cells #[.int .i64 1, .string nm, .string ⟨#[]⟩, .slice C m cc, .int .i64 pt, .int .i64 wd, .int .i64 0] 92)) 92 #[.int .i64 1, .string nm, .string ⟨#[]⟩, .slice C m cc, .int .i64 0, .int .i64 0, .int .i64 0] (g := w.heap.size + 1)
  have hV := ((Bl.refl w).alloc (.cells #[.int .i64 1, .string nm, .string ⟨#[]⟩, .slice C m cc, .int .i64 pt, .int .i64 wd, .int .i64 0] 92)).alloc (.cells #[.int .i64 1, .string nm, .string ⟨#[]⟩, .slice C m cc, .int .i64 0, .int .i64 0, .int .i64 0] 92)
  go_enter Tryz.func122, Tryz.ntmps122
  have hn1 := nm_nil hnm
  have hn2 : (nm.toList == (⟨#[]⟩ : ByteArray).toList) = false := by rw [← nil_list]; exact hn1
  go_wp2_with fail
  generalize (w.alloc (.cells #[.int .i64 1, .string nm, .string ⟨#[]⟩, .slice C m cc, .int .i64 pt, .int .i64 wd, .int .i64 0] 92)).alloc (.cells #[.int .i64 1, .string nm, .string ⟨#[]⟩, .slice C m cc, .int .i64 0, .int .i64 0, .int .i64 0] 92) = u0 at hX hD hV ⊢
  have hne : w.heap.size ≠ w.heap.size + 1 := by omega
  have hb5 : w.heap.size ≤ w.heap.size := Nat.le_refl _
  have hb6 : w.heap.size ≤ w.heap.size + 1 := by omega
  skip
  have hX := hX.drew
  have hD := hD.drew
  have hV := hV.drew
  refine wp_region_held_drew (S := (fun w' => w'.cell? ⟨w.heap.size, 4, none⟩ = some (.int .i64 pt) ∧ w'.cell? ⟨w.heap.size, 5, none⟩ = some (.int .i64 wd))) (by kernel_rfl) ?_ (fun hHeld => ?_)
  · (try dsimp only); exact ⟨hX.cell 4 _ rfl, hX.cell 5 _ rfl⟩
  generalize u0.drew = v0 at hX hD hV hHeld ⊢
  have hD_l := hD.lt; have hD_f := hD.frozen
  have hD_4 := hD.cell 4 _ rfl
  refine held_take (i := 0) (d := 19) (v := ?_) rfl rfl (by kernel_rfl) (by kernel_rfl) (by kernel_rfl) (fun _ _ _ h => h) (Or.inl ⟨by rfl, ?_⟩) (by assumption) ?_
  rotate_left
  · (intro w hSw; (try dsimp only at hSw); go_simp; (try with_reducible rfl))
  (try simp only [List.set_cons_zero, List.set_cons_succ])
  refine held_take (i := 1) (d := 20) (v := ?_) rfl rfl (by kernel_rfl) (by kernel_rfl) (by kernel_rfl) (fun _ _ _ h => h) (Or.inl ⟨by rfl, ?_⟩) (by assumption) ?_
  rotate_left
  · (intro w hSw; (try dsimp only at hSw); go_simp; (try with_reducible rfl))
  (try simp only [List.set_cons_zero, List.set_cons_succ])
  refine held_take (i := 2) (d := 21) (v := ?_) rfl rfl (by kernel_rfl) (by kernel_rfl) (by kernel_rfl) (fun _ _ _ h => h) (Or.inl ⟨by rfl, ?_⟩) (by assumption) ?_
  rotate_left
  · (intro w hSw; (try dsimp only at hSw); go_simp; (try with_reducible rfl))
  (try simp only [List.set_cons_zero, List.set_cons_succ])
  refine held_take (i := 3) (d := 22) (v := ?_) rfl rfl (by kernel_rfl) (by kernel_rfl) (by kernel_rfl) (fun _ _ _ h => h) (Or.inl ⟨by rfl, ?_⟩) (by assumption) ?_
  rotate_left
  · (intro w hSw; (try dsimp only at hSw); go_simp; (try with_reducible rfl))
  (try simp only [List.set_cons_zero, List.set_cons_succ])
  refine held_take (i := 4) (d := 23) (v := ?_) rfl rfl (by kernel_rfl) (by kernel_rfl) (by kernel_rfl) (fun _ _ _ h => h) (Or.inl ⟨by rfl, ?_⟩) (by assumption) ?_
  rotate_left
  · (intro w hSw; (try dsimp only at hSw); go_simp; (try with_reducible rfl))
  (try simp only [List.set_cons_zero, List.set_cons_succ])
  refine held_take (i := 5) (d := 24) (v := ?_) rfl rfl (by kernel_rfl) (by kernel_rfl) (by kernel_rfl) (fun _ _ _ h => h) (Or.inl ⟨by rfl, ?_⟩) (by assumption) ?_
  rotate_left
  · (intro w hSw; (try dsimp only at hSw); go_simp; (try with_reducible rfl))
  (try simp only [List.set_cons_zero, List.set_cons_succ])
  refine held_take (i := 6) (d := 25) (v := ?_) rfl rfl (by kernel_rfl) (by kernel_rfl) (by kernel_rfl) (fun _ _ _ h => h) (Or.inl ⟨by rfl, ?_⟩) (by assumption) ?_
  rotate_left
  · (intro w hSw; (try dsimp only at hSw); go_simp; (try with_reducible rfl))
  (try simp only [List.set_cons_zero, List.set_cons_succ])
  refine wpAnyH_ready (rs := [7]) (by kernel_rfl) (by simp) ?_
  refine AllReadyH.cons rfl (fun K hK => ?_) AllReadyH.nil
  go_simp
  have hX := hX.far (p := ⟨w.heap.size + 1, 4, none⟩) hne (.int .i64 pt)
  have hD := hD.set_ 4 (.int .i64 pt)
  have hV := hV.setCell (p := ⟨w.heap.size + 1, 4, none⟩) hb6 (.int .i64 pt)
  generalize v0.setCell ⟨w.heap.size + 1, 4, none⟩ (.int .i64 pt) = v7 at hX hD hV ⊢
  have hD_l := hD.lt; have hD_f := hD.frozen
  have hD_5 := hD.cell 5 _ rfl
  refine hK.out _ _ ?_ (fun hHeld => ?_)
  · (try dsimp only); exact ⟨hX.cell 4 _ rfl, hX.cell 5 _ rfl⟩
  clear hK K
  (try simp only [Act.put]); (try simp only [List.setIfInBounds_toArray]); (try simp only [List.set_cons_succ]); (try simp only [List.set_cons_zero])
  refine held_take (i := 8) (d := 26) (v := ?_) rfl rfl (by kernel_rfl) (by kernel_rfl) (by kernel_rfl) (fun _ _ _ h => h) (Or.inl ⟨by rfl, ?_⟩) (by assumption) ?_
  rotate_left
  · (intro w hSw; (try dsimp only at hSw); go_simp; (try with_reducible rfl))
  (try simp only [List.set_cons_zero, List.set_cons_succ])
  refine wpAnyH_ready (rs := [9]) (by kernel_rfl) (by simp) ?_
  refine AllReadyH.cons rfl (fun K hK => ?_) AllReadyH.nil
  go_simp
  have hX := hX.far (p := ⟨w.heap.size + 1, 5, none⟩) hne (.int .i64 wd)
  have hD := hD.set_ 5 (.int .i64 wd)
  have hV := hV.setCell (p := ⟨w.heap.size + 1, 5, none⟩) hb6 (.int .i64 wd)
  generalize v7.setCell ⟨w.heap.size + 1, 5, none⟩ (.int .i64 wd) = v9 at hX hD hV ⊢
  have hD_l := hD.lt; have hD_f := hD.frozen
  have hD_5 := hD.cell 5 _ rfl
  refine hK.out _ _ ?_ (fun hHeld => ?_)
  · (try dsimp only); exact ⟨hX.cell 4 _ rfl, hX.cell 5 _ rfl⟩
  clear hK K
  (try simp only [Act.put]); (try simp only [List.setIfInBounds_toArray]); (try simp only [List.set_cons_succ]); (try simp only [List.set_cons_zero])
  refine held_take (i := 10) (d := 6) (v := ?_) rfl rfl (by kernel_rfl) (by kernel_rfl) (by kernel_rfl) (fun _ _ _ h => h) (Or.inl ⟨by rfl, ?_⟩) (by assumption) ?_
  rotate_left
  · (intro w hSw; (try dsimp only at hSw); go_simp; (try with_reducible rfl))
  (try simp only [List.set_cons_zero, List.set_cons_succ])
  refine wpAnyH_done (by kernel_rfl) ?_ _
  have hX_l := hX.lt
  have hX_0 := hX.cell 0 _ rfl
  have hX_1 := hX.cell 1 _ rfl
  have hX_2 := hX.cell 2 _ rfl
  have hX_3 := hX.cell 3 _ rfl
  have hX_4 := hX.cell 4 _ rfl
  have hX_5 := hX.cell 5 _ rfl
  have hX_6 := hX.cell 6 _ rfl
  have hD_2 := hD.cell 2 _ rfl
  have hD_4 := hD.cell 4 _ rfl
  have hD_5 := hD.cell 5 _ rfl
  have hD_6 := hD.cell 6 _ rfl
  go_wp2_with (first | (go_at_call 95; refine (impl_isBit _ _).mono ?_; rintro e v5 ⟨rfl, rfl⟩) | (go_at_call 167; refine (impl_isWidth _ _).mono ?_; rintro e v5 ⟨rfl, rfl⟩) | (go_at_call 45; refine (impl_within _ _ _ _).mono ?_; rintro e v5 ⟨rfl, rfl⟩) | (go_at_call 169; refine (impl_isName _ hnm _).mono ?_; rintro e v5 ⟨rfl, rfl⟩))
  go_ret
  exact ⟨rfl, hV⟩
set_option maxRecDepth 20000 in
set_option maxHeartbeats 4000000 in
theorem impl_lineWidth_2 (B C : Option Addr) (d m cc : Nat) (nm : ByteArray) (wd vl : Int) (w : World) (hw : RdI w B 0 d []) (ht : Tm w) (hnm : nmB nm = true) (hwd : inR wd 1 10 = true) (hvl : inR vl 0 (2 ^ wd.toNat - 1) = true) :
    Calls Tryz.prog 122 #[.agg #[.int .i64 2, .string nm, .string ⟨#[]⟩, .slice C m cc, .int .i64 0, .int .i64 wd, .int .i64 vl], .slice B 0 d] w fun e w' => e = .returned (.int .i64 wd) ∧ Bl w w' := by
  have hX := (Blk.new w 92 #[.int .i64 2, .string nm, .string ⟨#[]⟩, .slice C m cc, .int .i64 0, .int .i64 wd, .int .i64 vl] (g := w.heap.size)).alloc (.cells #[.int .i64 2, .string nm, .string ⟨#[]⟩, .slice C m cc, .int .i64 0, .int .i64 0, .int .i64 0] 92)
  have hD := Blk.new (w.alloc (.cells #[.int .i64 2, .string nm, .string ⟨#[]⟩, .slice C m cc, .int .i64 0, .int .i64 wd, .int .i64 vl] 92)) 92 #[.int .i64 2, .string nm, .string ⟨#[]⟩, .slice C m cc, .int .i64 0, .int .i64 0, .int .i64 0] (g := w.heap.size + 1)
  have hV := ((Bl.refl w).alloc (.cells #[.int .i64 2, .string nm, .string ⟨#[]⟩, .slice C m cc, .int .i64 0, .int .i64 wd, .int .i64 vl] 92)).alloc (.cells #[.int .i64 2, .string nm, .string ⟨#[]⟩, .slice C m cc, .int .i64 0, .int .i64 0, .int .i64 0] 92)
  go_enter Tryz.func122, Tryz.ntmps122
  have hsh := shl_ok hwd hvl
  have hn1 := nm_nil hnm
  have hn2 : (nm.toList == (⟨#[]⟩ : ByteArray).toList) = false := by rw [← nil_list]; exact hn1
  go_wp2_with fail
  generalize (w.alloc (.cells #[.int .i64 2, .string nm, .string ⟨#[]⟩, .slice C m cc, .int .i64 0, .int .i64 wd, .int .i64 vl] 92)).alloc (.cells #[.int .i64 2, .string nm, .string ⟨#[]⟩, .slice C m cc, .int .i64 0, .int .i64 0, .int .i64 0] 92) = u0 at hX hD hV ⊢
  have hne : w.heap.size ≠ w.heap.size + 1 := by omega
  have hb5 : w.heap.size ≤ w.heap.size := Nat.le_refl _
  have hb6 : w.heap.size ≤ w.heap.size + 1 := by omega
  skip
  have hX := hX.drew
  have hD := hD.drew
  have hV := hV.drew
  refine wp_region_held_drew (S := (fun w' => w'.cell? ⟨w.heap.size, 5, none⟩ = some (.int .i64 wd) ∧ w'.cell? ⟨w.heap.size, 6, none⟩ = some (.int .i64 vl))) (by kernel_rfl) ?_ (fun hHeld => ?_)
  · (try dsimp only); exact ⟨hX.cell 5 _ rfl, hX.cell 6 _ rfl⟩
  generalize u0.drew = v0 at hX hD hV hHeld ⊢
  have hD_l := hD.lt; have hD_f := hD.frozen
  have hD_5 := hD.cell 5 _ rfl
  refine held_take (i := 0) (d := 39) (v := ?_) rfl rfl (by kernel_rfl) (by kernel_rfl) (by kernel_rfl) (fun _ _ _ h => h) (Or.inl ⟨by rfl, ?_⟩) (by assumption) ?_
  rotate_left
  · (intro w hSw; (try dsimp only at hSw); go_simp; (try with_reducible rfl))
  (try simp only [List.set_cons_zero, List.set_cons_succ])
  refine held_take (i := 1) (d := 40) (v := ?_) rfl rfl (by kernel_rfl) (by kernel_rfl) (by kernel_rfl) (fun _ _ _ h => h) (Or.inl ⟨by rfl, ?_⟩) (by assumption) ?_
  rotate_left
  · (intro w hSw; (try dsimp only at hSw); go_simp; (try with_reducible rfl))
  (try simp only [List.set_cons_zero, List.set_cons_succ])
  refine held_take (i := 2) (d := 41) (v := ?_) rfl rfl (by kernel_rfl) (by kernel_rfl) (by kernel_rfl) (fun _ _ _ h => h) (Or.inl ⟨by rfl, ?_⟩) (by assumption) ?_
  rotate_left
  · (intro w hSw; (try dsimp only at hSw); go_simp; (try with_reducible rfl))
  (try simp only [List.set_cons_zero, List.set_cons_succ])
  refine held_take (i := 3) (d := 42) (v := ?_) rfl rfl (by kernel_rfl) (by kernel_rfl) (by kernel_rfl) (fun _ _ _ h => h) (Or.inl ⟨by rfl, ?_⟩) (by assumption) ?_
  rotate_left
  · (intro w hSw; (try dsimp only at hSw); go_simp; (try with_reducible rfl))
  (try simp only [List.set_cons_zero, List.set_cons_succ])
  refine held_take (i := 4) (d := 43) (v := ?_) rfl rfl (by kernel_rfl) (by kernel_rfl) (by kernel_rfl) (fun _ _ _ h => h) (Or.inl ⟨by rfl, ?_⟩) (by assumption) ?_
  rotate_left
  · (intro w hSw; (try dsimp only at hSw); go_simp; (try with_reducible rfl))
  (try simp only [List.set_cons_zero, List.set_cons_succ])
  refine held_take (i := 5) (d := 44) (v := ?_) rfl rfl (by kernel_rfl) (by kernel_rfl) (by kernel_rfl) (fun _ _ _ h => h) (Or.inl ⟨by rfl, ?_⟩) (by assumption) ?_
  rotate_left
  · (intro w hSw; (try dsimp only at hSw); go_simp; (try with_reducible rfl))
  (try simp only [List.set_cons_zero, List.set_cons_succ])
  refine held_take (i := 6) (d := 45) (v := ?_) rfl rfl (by kernel_rfl) (by kernel_rfl) (by kernel_rfl) (fun _ _ _ h => h) (Or.inl ⟨by rfl, ?_⟩) (by assumption) ?_
  rotate_left
  · (intro w hSw; (try dsimp only at hSw); go_simp; (try with_reducible rfl))
  (try simp only [List.set_cons_zero, List.set_cons_succ])
  refine wpAnyH_ready (rs := [7]) (by kernel_rfl) (by simp) ?_
  refine AllReadyH.cons rfl (fun K hK => ?_) AllReadyH.nil
  go_simp
  have hX := hX.far (p := ⟨w.heap.size + 1, 5, none⟩) hne (.int .i64 wd)
  have hD := hD.set_ 5 (.int .i64 wd)
  have hV := hV.setCell (p := ⟨w.heap.size + 1, 5, none⟩) hb6 (.int .i64 wd)
  generalize v0.setCell ⟨w.heap.size + 1, 5, none⟩ (.int .i64 wd) = v7 at hX hD hV ⊢
  have hD_l := hD.lt; have hD_f := hD.frozen
  have hD_6 := hD.cell 6 _ rfl
  refine hK.out _ _ ?_ (fun hHeld => ?_)
  · (try dsimp only); exact ⟨hX.cell 5 _ rfl, hX.cell 6 _ rfl⟩
  clear hK K
  (try simp only [Act.put]); (try simp only [List.setIfInBounds_toArray]); (try simp only [List.set_cons_succ]); (try simp only [List.set_cons_zero])
  refine held_take (i := 8) (d := 46) (v := ?_) rfl rfl (by kernel_rfl) (by kernel_rfl) (by kernel_rfl) (fun _ _ _ h => h) (Or.inl ⟨by rfl, ?_⟩) (by assumption) ?_
  rotate_left
  · (intro w hSw; (try dsimp only at hSw); go_simp; (try with_reducible rfl))
  (try simp only [List.set_cons_zero, List.set_cons_succ])
  refine wpAnyH_ready (rs := [9]) (by kernel_rfl) (by simp) ?_
  refine AllReadyH.cons rfl (fun K hK => ?_) AllReadyH.nil
  go_simp
  have hX := hX.far (p := ⟨w.heap.size + 1, 6, none⟩) hne (.int .i64 vl)
  have hD := hD.set_ 6 (.int .i64 vl)
  have hV := hV.setCell (p := ⟨w.heap.size + 1, 6, none⟩) hb6 (.int .i64 vl)
  generalize v7.setCell ⟨w.heap.size + 1, 6, none⟩ (.int .i64 vl) = v9 at hX hD hV ⊢
  have hD_l := hD.lt; have hD_f := hD.frozen
  have hD_6 := hD.cell 6 _ rfl
  refine hK.out _ _ ?_ (fun hHeld => ?_)
  · (try dsimp only); exact ⟨hX.cell 5 _ rfl, hX.cell 6 _ rfl⟩
  clear hK K
  (try simp only [Act.put]); (try simp only [List.setIfInBounds_toArray]); (try simp only [List.set_cons_succ]); (try simp only [List.set_cons_zero])
  refine held_take (i := 10) (d := 6) (v := ?_) rfl rfl (by kernel_rfl) (by kernel_rfl) (by kernel_rfl) (fun _ _ _ h => h) (Or.inl ⟨by rfl, ?_⟩) (by assumption) ?_
  rotate_left
  · (intro w hSw; (try dsimp only at hSw); go_simp; (try with_reducible rfl))
  (try simp only [List.set_cons_zero, List.set_cons_succ])
  refine wpAnyH_done (by kernel_rfl) ?_ _
  have hX_l := hX.lt
  have hX_0 := hX.cell 0 _ rfl
  have hX_1 := hX.cell 1 _ rfl
  have hX_2 := hX.cell 2 _ rfl
  have hX_3 := hX.cell 3 _ rfl
  have hX_4 := hX.cell 4 _ rfl
  have hX_5 := hX.cell 5 _ rfl
  have hX_6 := hX.cell 6 _ rfl
  have hD_2 := hD.cell 2 _ rfl
  have hD_4 := hD.cell 4 _ rfl
  have hD_5 := hD.cell 5 _ rfl
  have hD_6 := hD.cell 6 _ rfl
  go_wp2_with (first | (go_at_call 95; refine (impl_isBit _ _).mono ?_; rintro e v5 ⟨rfl, rfl⟩) | (go_at_call 167; refine (impl_isWidth _ _).mono ?_; rintro e v5 ⟨rfl, rfl⟩) | (go_at_call 45; refine (impl_within _ _ _ _).mono ?_; rintro e v5 ⟨rfl, rfl⟩) | (go_at_call 169; refine (impl_isName _ hnm _).mono ?_; rintro e v5 ⟨rfl, rfl⟩))
  go_ret
  exact ⟨rfl, hV⟩
set_option maxRecDepth 20000 in
set_option maxHeartbeats 4000000 in
theorem impl_lineWidth_3 (B C : Option Addr) (d m cc : Nat) (nm op : ByteArray) (v : Int) (w : World) (hw : RdI w B 2 d [v, v]) (ht : Tm w) (hnm : nmB nm = true) (hv1 : 1 ≤ v) (hv2 : v ≤ 10) (ho : op ∈ opsL) (hm : op = ⟨#[42]⟩ → v ≤ 5) :
    Calls Tryz.prog 122 #[.agg #[.int .i64 3, .string nm, .string op, .slice C m cc, .int .i64 0, .int .i64 0, .int .i64 0], .slice B 2 d] w fun e w' => e = .returned (.int .i64 (twoW op v)) ∧ Bl w w' := by
  have hX := (Blk.new w 92 #[.int .i64 3, .string nm, .string op, .slice C m cc, .int .i64 0, .int .i64 0, .int .i64 0] (g := w.heap.size)).alloc (.cells #[.int .i64 3, .string nm, .string op, .slice C m cc, .int .i64 0, .int .i64 0, .int .i64 0] 92)
  have hD := Blk.new (w.alloc (.cells #[.int .i64 3, .string nm, .string op, .slice C m cc, .int .i64 0, .int .i64 0, .int .i64 0] 92)) 92 #[.int .i64 3, .string nm, .string op, .slice C m cc, .int .i64 0, .int .i64 0, .int .i64 0] (g := w.heap.size + 1)
  have hV := ((Bl.refl w).alloc (.cells #[.int .i64 3, .string nm, .string op, .slice C m cc, .int .i64 0, .int .i64 0, .int .i64 0] 92)).alloc (.cells #[.int .i64 3, .string nm, .string op, .slice C m cc, .int .i64 0, .int .i64 0, .int .i64 0] 92)
  have hle := hw.le.1
  obtain ⟨ad0, x0, rfl, hb0_, hx0, hc0⟩ := hw.at_ (k := 0) (by omega)
  obtain rfl := Option.some.inj hx0
  obtain ⟨ad1, x1, e1, hb1_, hx1, hc1⟩ := hw.at_ (k := 1) (by omega)
  injection e1 with e1; subst e1
  obtain rfl := Option.some.inj hx1
  have hc0 : w.cell? ad0 = some (.int .i64 v) := hc0
  have hc1 : w.cell? ⟨ad0.block, ad0.off + 1, none⟩ = some (.int .i64 v) := hc1
  replace hc0 := Bl.cells hV hc0
  replace hc1 := Bl.cells hV hc1
  have had := Nat.lt_of_lt_of_le hb0_ hV.sz
  go_enter Tryz.func122, Tryz.ntmps122
  have hn1 := nm_nil hnm
  have hn2 : (nm.toList == (⟨#[]⟩ : ByteArray).toList) = false := by rw [← nil_list]; exact hn1
  go_wp2_with fail
  generalize (w.alloc (.cells #[.int .i64 3, .string nm, .string op, .slice C m cc, .int .i64 0, .int .i64 0, .int .i64 0] 92)).alloc (.cells #[.int .i64 3, .string nm, .string op, .slice C m cc, .int .i64 0, .int .i64 0, .int .i64 0] 92) = u0 at hX hD hV hc0 hc1 had ⊢
  have hne : w.heap.size ≠ w.heap.size + 1 := by omega
  have hb5 : w.heap.size ≤ w.heap.size := Nat.le_refl _
  have hb6 : w.heap.size ≤ w.heap.size + 1 := by omega
  skip
  refine wp_region_held_drew (S := (fun w' => w'.cell? ad0 = some (.int .i64 v) ∧ w'.cell? ⟨ad0.block, ad0.off + 1, none⟩ = some (.int .i64 v))) (by kernel_rfl) ?_ (fun hHeld => ?_)
  · (try dsimp only); exact ⟨Bl.cells ((Bl.refl _).drew) hc0, Bl.cells ((Bl.refl _).drew) hc1⟩
  refine held_take (i := 0) (d := 67) (v := ?_) rfl rfl (by kernel_rfl) (by kernel_rfl) (by kernel_rfl) (fun _ _ _ h => h) (Or.inl ⟨by rfl, ?_⟩) (by assumption) ?_
  rotate_left
  · (intro w hSw; (try dsimp only at hSw); go_simp; (try with_reducible rfl))
  (try simp only [List.set_cons_zero, List.set_cons_succ])
  refine held_take (i := 1) (d := 68) (v := ?_) rfl rfl (by kernel_rfl) (by kernel_rfl) (by kernel_rfl) (fun _ _ _ h => h) (Or.inl ⟨by rfl, ?_⟩) (by assumption) ?_
  rotate_left
  · (intro w hSw; (try dsimp only at hSw); go_simp; (try with_reducible rfl))
  (try simp only [List.set_cons_zero, List.set_cons_succ])
  refine held_take (i := 2) (d := 69) (v := ?_) rfl rfl (by kernel_rfl) (by kernel_rfl) (by kernel_rfl) (fun _ _ _ h => h) (Or.inl ⟨by rfl, ?_⟩) (by assumption) ?_
  rotate_left
  · (intro w hSw; (try dsimp only at hSw); go_simp; (try with_reducible rfl))
  (try simp only [List.set_cons_zero, List.set_cons_succ])
  refine held_take (i := 3) (d := 70) (v := ?_) rfl rfl (by kernel_rfl) (by kernel_rfl) (by kernel_rfl) (fun _ _ _ h => h) (Or.inl ⟨by rfl, ?_⟩) (by assumption) ?_
  rotate_left
  · (intro w hSw; (try dsimp only at hSw); go_simp; (try with_reducible rfl))
  (try simp only [List.set_cons_zero, List.set_cons_succ])
  refine held_take (i := 4) (d := 71) (v := ?_) rfl rfl (by kernel_rfl) (by kernel_rfl) (by kernel_rfl) (fun _ _ _ h => h) (Or.inl ⟨by rfl, ?_⟩) (by assumption) ?_
  rotate_left
  · (intro w hSw; (try dsimp only at hSw); go_simp; (try with_reducible rfl))
  (try simp only [List.set_cons_zero, List.set_cons_succ])
  refine held_take (i := 5) (d := 72) (v := ?_) rfl rfl (by kernel_rfl) (by kernel_rfl) (by kernel_rfl) (fun _ _ _ h => h) (Or.inl ⟨by rfl, ?_⟩) (by assumption) ?_
  rotate_left
  · (intro w hSw; (try dsimp only at hSw); go_simp; (try with_reducible rfl))
  (try simp only [List.set_cons_zero, List.set_cons_succ])
  refine held_take (i := 6) (d := 73) (v := ?_) rfl rfl (by kernel_rfl) (by kernel_rfl) (by kernel_rfl) (fun _ _ _ h => h) (Or.inl ⟨by rfl, ?_⟩) (by assumption) ?_
  rotate_left
  · (intro w hSw; (try dsimp only at hSw); go_simp; (try with_reducible rfl))
  (try simp only [List.set_cons_zero, List.set_cons_succ])
  refine held_take (i := 7) (d := 74) (v := ?_) rfl rfl (by kernel_rfl) (by kernel_rfl) (by kernel_rfl) (fun _ _ _ h => h) (Or.inl ⟨by rfl, ?_⟩) (by assumption) ?_
  rotate_left
  · (intro w hSw; (try dsimp only at hSw); go_simp; (try with_reducible rfl))
  (try simp only [List.set_cons_zero, List.set_cons_succ])
  refine held_take (i := 8) (d := 75) (v := ?_) rfl rfl (by kernel_rfl) (by kernel_rfl) (by kernel_rfl) (fun _ _ _ h => h) (Or.inl ⟨by rfl, ?_⟩) (by assumption) ?_
  rotate_left
  · (intro w hSw; (try dsimp only at hSw); go_simp; (try with_reducible rfl))
  (try simp only [List.set_cons_zero, List.set_cons_succ])
  refine held_take (i := 9) (d := 76) (v := ?_) rfl rfl (by kernel_rfl) (by kernel_rfl) (by kernel_rfl) (fun _ _ _ h => h) (Or.inl ⟨by rfl, ?_⟩) (by assumption) ?_
  rotate_left
  · (intro w hSw; (try dsimp only at hSw); go_simp; (try with_reducible rfl))
  (try simp only [List.set_cons_zero, List.set_cons_succ])
  refine held_take (i := 10) (d := 77) (v := ?_) rfl rfl (by kernel_rfl) (by kernel_rfl) (by kernel_rfl) (fun _ _ _ h => h) (Or.inl ⟨by rfl, ?_⟩) (by assumption) ?_
  rotate_left
  · (intro w hSw; (try dsimp only at hSw); go_simp; (try with_reducible rfl))
  (try simp only [List.set_cons_zero, List.set_cons_succ])
  refine held_take (i := 11) (d := 78) (v := ?_) rfl rfl (by kernel_rfl) (by kernel_rfl) (by kernel_rfl) (fun _ _ _ h => h) (Or.inl ⟨by rfl, ?_⟩) (by assumption) ?_
  rotate_left
  · (intro w hSw; (try dsimp only at hSw); go_simp; (try with_reducible rfl))
  (try simp only [List.set_cons_zero, List.set_cons_succ])
  refine wpAnyH_done (by kernel_rfl) ?_ _
  have hV := hV.drew
  have hX := hX.drew
  have hD := hD.drew
  replace hc0 := Bl.cells ((Bl.refl _).drew) hc0
  replace hc1 := Bl.cells ((Bl.refl _).drew) hc1
  generalize u0.drew = v0 at hX hD hV hc0 hc1 ⊢
  have hadv : ad0.block < v0.heap.size := Nat.lt_of_lt_of_le hb0_ hV.sz
  have hX_l := hX.lt
  have hX_2 := hX.cell 2 _ rfl
  go_wp2_with fail
  clear hX_l hX_2
  refine wp_region_held_drew (S := (fun w' => w'.cell? ⟨w.heap.size, 2, none⟩ = some (.string op) ∧ w'.cell? ad0 = some (.int .i64 v))) (by kernel_rfl) ?_ (fun hHeld => ?_)
  · (try dsimp only); exact ⟨hX.drew.cell 2 _ rfl, Bl.cells ((Bl.refl _).drew) hc0⟩
  have hV := hV.drew
  have hX := hX.drew
  have hD := hD.drew
  replace hc0 := Bl.cells ((Bl.refl _).drew) hc0
  replace hc1 := Bl.cells ((Bl.refl _).drew) hc1
  generalize v0.drew = v1 at hX hD hV hc0 hc1 hHeld ⊢
  refine held_take (i := 0) (d := 79) (v := ?_) rfl rfl (by kernel_rfl) (by kernel_rfl) (by kernel_rfl) (fun _ _ _ h => h) (Or.inl ⟨by rfl, ?_⟩) (by assumption) ?_
  rotate_left
  · (intro w hSw; (try dsimp only at hSw); go_simp; (try with_reducible rfl))
  (try simp only [List.set_cons_zero, List.set_cons_succ])
  refine held_take (i := 1) (d := 80) (v := ?_) rfl rfl (by kernel_rfl) (by kernel_rfl) (by kernel_rfl) (fun _ _ _ h => h) (Or.inl ⟨by rfl, ?_⟩) (by assumption) ?_
  rotate_left
  · (intro w hSw; (try dsimp only at hSw); go_simp; (try with_reducible rfl))
  (try simp only [List.set_cons_zero, List.set_cons_succ])
  refine held_take (i := 2) (d := 81) (v := ?_) rfl rfl (by kernel_rfl) (by kernel_rfl) (by kernel_rfl) (fun _ _ _ h => h) (Or.inl ⟨by rfl, ?_⟩) (by assumption) ?_
  rotate_left
  · (intro w hSw; (try dsimp only at hSw); go_simp; (try with_reducible rfl))
  (try simp only [List.set_cons_zero, List.set_cons_succ])
  refine held_take (i := 3) (d := 82) (v := ?_) rfl rfl (by kernel_rfl) (by kernel_rfl) (by kernel_rfl) (fun _ _ _ h => h) (Or.inl ⟨by rfl, ?_⟩) (by assumption) ?_
  rotate_left
  · (intro w hSw; (try dsimp only at hSw); go_simp; (try with_reducible rfl))
  (try simp only [List.set_cons_zero, List.set_cons_succ])
  refine held_take (i := 4) (d := 83) (v := ?_) rfl rfl (by kernel_rfl) (by kernel_rfl) (by kernel_rfl) (fun _ _ _ h => h) (Or.inl ⟨by rfl, ?_⟩) (by assumption) ?_
  rotate_left
  · (intro w hSw; (try dsimp only at hSw); go_simp; (try with_reducible rfl))
  (try simp only [List.set_cons_zero, List.set_cons_succ])
  refine wpAnyH_ready (rs := [5]) (by kernel_rfl) (by simp) ?_
  refine AllReadyH.cons rfl (fun K hK => ?_) AllReadyH.nil
  go_simp
  refine (impl_resultWidth op v hv1 hv2 ho hm _ (ht.keep hV)).mono ?_; rintro e v5 ⟨rfl, hb5⟩; replace hX := hX.keep hb5; replace hD := hD.keep hb5; replace hV := hV.call hb5; replace hc0 := Bl.cells hb5 hc0; replace hc1 := Bl.cells hb5 hc1
  go_wp2_with fail
  refine hK.out _ _ ?_ (fun hHeld => ?_)
  · (try dsimp only); exact ⟨hX.cell 2 _ rfl, hc0⟩
  clear hK K
  (try simp only [Act.put]); (try simp only [List.setIfInBounds_toArray]); (try simp only [List.set_cons_succ]); (try simp only [List.set_cons_zero])
  refine held_take (i := 6) (d := 6) (v := ?_) rfl rfl (by kernel_rfl) (by kernel_rfl) (by kernel_rfl) (fun _ _ _ h => h) (Or.inl ⟨by rfl, ?_⟩) (by assumption) ?_
  rotate_left
  · (intro w hSw; (try dsimp only at hSw); go_simp; (try with_reducible rfl))
  (try simp only [List.set_cons_zero, List.set_cons_succ])
  refine wpAnyH_done (by kernel_rfl) ?_ _
  have hX_l := hX.lt
  have hD_l := hD.lt
  have hX_0 := hX.cell 0 _ rfl
  have hX_1 := hX.cell 1 _ rfl
  have hX_2 := hX.cell 2 _ rfl
  have hX_3 := hX.cell 3 _ rfl
  have hX_4 := hX.cell 4 _ rfl
  have hX_5 := hX.cell 5 _ rfl
  have hX_6 := hX.cell 6 _ rfl
  have hD_2 := hD.cell 2 _ rfl
  have hD_4 := hD.cell 4 _ rfl
  have hD_5 := hD.cell 5 _ rfl
  have hD_6 := hD.cell 6 _ rfl
  go_wp2_with (first | (go_at_call 95; refine (impl_isBit _ _).mono ?_; rintro e v5 ⟨rfl, rfl⟩) | (go_at_call 167; refine (impl_isWidth _ _).mono ?_; rintro e v5 ⟨rfl, rfl⟩) | (go_at_call 45; refine (impl_within _ _ _ _).mono ?_; rintro e v5 ⟨rfl, rfl⟩) | (go_at_call 169; refine (impl_isName _ hnm _).mono ?_; rintro e v5 ⟨rfl, rfl⟩))
  go_ret
  exact ⟨rfl, hV⟩
set_option maxRecDepth 20000 in
set_option maxHeartbeats 4000000 in
theorem impl_lineWidth_4 (B C : Option Addr) (d m cc : Nat) (nm : ByteArray) (v : Int) (w : World) (hw : RdI w B 1 d [v]) (ht : Tm w) (hnm : nmB nm = true) :
    Calls Tryz.prog 122 #[.agg #[.int .i64 4, .string nm, .string ⟨#[]⟩, .slice C m cc, .int .i64 0, .int .i64 0, .int .i64 0], .slice B 1 d] w fun e w' => e = .returned (.int .i64 v) ∧ Bl w w' := by
  have hX := (Blk.new w 92 #[.int .i64 4, .string nm, .string ⟨#[]⟩, .slice C m cc, .int .i64 0, .int .i64 0, .int .i64 0] (g := w.heap.size)).alloc (.cells #[.int .i64 4, .string nm, .string ⟨#[]⟩, .slice C m cc, .int .i64 0, .int .i64 0, .int .i64 0] 92)
  have hD := Blk.new (w.alloc (.cells #[.int .i64 4, .string nm, .string ⟨#[]⟩, .slice C m cc, .int .i64 0, .int .i64 0, .int .i64 0] 92)) 92 #[.int .i64 4, .string nm, .string ⟨#[]⟩, .slice C m cc, .int .i64 0, .int .i64 0, .int .i64 0] (g := w.heap.size + 1)
  have hV := ((Bl.refl w).alloc (.cells #[.int .i64 4, .string nm, .string ⟨#[]⟩, .slice C m cc, .int .i64 0, .int .i64 0, .int .i64 0] 92)).alloc (.cells #[.int .i64 4, .string nm, .string ⟨#[]⟩, .slice C m cc, .int .i64 0, .int .i64 0, .int .i64 0] 92)
  have hle := hw.le.1
  obtain ⟨ad0, x0, rfl, hb0_, hx0, hc0⟩ := hw.at_ (k := 0) (by omega)
  obtain rfl := Option.some.inj hx0
  have hc0 : w.cell? ad0 = some (.int .i64 v) := hc0
  replace hc0 := Bl.cells hV hc0
  have had := Nat.lt_of_lt_of_le hb0_ hV.sz
  go_enter Tryz.func122, Tryz.ntmps122
  have hn1 := nm_nil hnm
  have hn2 : (nm.toList == (⟨#[]⟩ : ByteArray).toList) = false := by rw [← nil_list]; exact hn1
  go_wp2_with (first | (go_at_call 95; refine (impl_isBit _ _).mono ?_; rintro e v5 ⟨rfl, rfl⟩) | (go_at_call 167; refine (impl_isWidth _ _).mono ?_; rintro e v5 ⟨rfl, rfl⟩) | (go_at_call 45; refine (impl_within _ _ _ _).mono ?_; rintro e v5 ⟨rfl, rfl⟩) | (go_at_call 169; refine (impl_isName _ hnm _).mono ?_; rintro e v5 ⟨rfl, rfl⟩))
  go_ret
  exact ⟨rfl, hV⟩
set_option maxRecDepth 20000 in
set_option maxHeartbeats 4000000 in
theorem impl_lineWidth_5 (B C : Option Addr) (d m cc : Nat) (nm : ByteArray) (v : Int) (w : World) (hw : RdI w B 3 d [1, v, v]) (ht : Tm w) (hnm : nmB nm = true) :
    Calls Tryz.prog 122 #[.agg #[.int .i64 5, .string nm, .string ⟨#[]⟩, .slice C m cc, .int .i64 0, .int .i64 0, .int .i64 0], .slice B 3 d] w fun e w' => e = .returned (.int .i64 v) ∧ Bl w w' := by
  have hX := (Blk.new w 92 #[.int .i64 5, .string nm, .string ⟨#[]⟩, .slice C m cc, .int .i64 0, .int .i64 0, .int .i64 0] (g := w.heap.size)).alloc (.cells #[.int .i64 5, .string nm, .string ⟨#[]⟩, .slice C m cc, .int .i64 0, .int .i64 0, .int .i64 0] 92)
  have hD := Blk.new (w.alloc (.cells #[.int .i64 5, .string nm, .string ⟨#[]⟩, .slice C m cc, .int .i64 0, .int .i64 0, .int .i64 0] 92)) 92 #[.int .i64 5, .string nm, .string ⟨#[]⟩, .slice C m cc, .int .i64 0, .int .i64 0, .int .i64 0] (g := w.heap.size + 1)
  have hV := ((Bl.refl w).alloc (.cells #[.int .i64 5, .string nm, .string ⟨#[]⟩, .slice C m cc, .int .i64 0, .int .i64 0, .int .i64 0] 92)).alloc (.cells #[.int .i64 5, .string nm, .string ⟨#[]⟩, .slice C m cc, .int .i64 0, .int .i64 0, .int .i64 0] 92)
  have hle := hw.le.1
  obtain ⟨ad0, x0, rfl, hb0_, hx0, hc0⟩ := hw.at_ (k := 0) (by omega)
  obtain rfl := Option.some.inj hx0
  obtain ⟨ad1, x1, e1, hb1_, hx1, hc1⟩ := hw.at_ (k := 1) (by omega)
  injection e1 with e1; subst e1
  obtain rfl := Option.some.inj hx1
  obtain ⟨ad2, x2, e2, hb2_, hx2, hc2⟩ := hw.at_ (k := 2) (by omega)
  injection e2 with e2; subst e2
  obtain rfl := Option.some.inj hx2
  have hc0 : w.cell? ad0 = some (.int .i64 1) := hc0
  have hc1 : w.cell? ⟨ad0.block, ad0.off + 1, none⟩ = some (.int .i64 v) := hc1
  have hc2 : w.cell? ⟨ad0.block, ad0.off + 2, none⟩ = some (.int .i64 v) := hc2
  replace hc0 := Bl.cells hV hc0
  replace hc1 := Bl.cells hV hc1
  replace hc2 := Bl.cells hV hc2
  have had := Nat.lt_of_lt_of_le hb0_ hV.sz
  go_enter Tryz.func122, Tryz.ntmps122
  have hn1 := nm_nil hnm
  have hn2 : (nm.toList == (⟨#[]⟩ : ByteArray).toList) = false := by rw [← nil_list]; exact hn1
  go_wp2_with fail
  generalize (w.alloc (.cells #[.int .i64 5, .string nm, .string ⟨#[]⟩, .slice C m cc, .int .i64 0, .int .i64 0, .int .i64 0] 92)).alloc (.cells #[.int .i64 5, .string nm, .string ⟨#[]⟩, .slice C m cc, .int .i64 0, .int .i64 0, .int .i64 0] 92) = u0 at hX hD hV hc0 hc1 hc2 had ⊢
  have hne : w.heap.size ≠ w.heap.size + 1 := by omega
  have hb5 : w.heap.size ≤ w.heap.size := Nat.le_refl _
  have hb6 : w.heap.size ≤ w.heap.size + 1 := by omega
  skip
  refine wp_region_held_drew (S := (fun w' => w'.cell? ad0 = some (.int .i64 1) ∧ w'.cell? ⟨ad0.block, ad0.off + 1, none⟩ = some (.int .i64 v) ∧ w'.cell? ⟨ad0.block, ad0.off + 2, none⟩ = some (.int .i64 v))) (by kernel_rfl) ?_ (fun hHeld => ?_)
  · (try dsimp only); exact ⟨Bl.cells ((Bl.refl _).drew) hc0, Bl.cells ((Bl.refl _).drew) hc1, Bl.cells ((Bl.refl _).drew) hc2⟩
  refine held_take (i := 0) (d := 96) (v := ?_) rfl rfl (by kernel_rfl) (by kernel_rfl) (by kernel_rfl) (fun _ _ _ h => h) (Or.inl ⟨by rfl, ?_⟩) (by assumption) ?_
  rotate_left
  · (intro w hSw; (try dsimp only at hSw); go_simp; (try with_reducible rfl))
  (try simp only [List.set_cons_zero, List.set_cons_succ])
  refine held_take (i := 1) (d := 97) (v := ?_) rfl rfl (by kernel_rfl) (by kernel_rfl) (by kernel_rfl) (fun _ _ _ h => h) (Or.inl ⟨by rfl, ?_⟩) (by assumption) ?_
  rotate_left
  · (intro w hSw; (try dsimp only at hSw); go_simp; (try with_reducible rfl))
  (try simp only [List.set_cons_zero, List.set_cons_succ])
  refine held_take (i := 2) (d := 98) (v := ?_) rfl rfl (by kernel_rfl) (by kernel_rfl) (by kernel_rfl) (fun _ _ _ h => h) (Or.inl ⟨by rfl, ?_⟩) (by assumption) ?_
  rotate_left
  · (intro w hSw; (try dsimp only at hSw); go_simp; (try with_reducible rfl))
  (try simp only [List.set_cons_zero, List.set_cons_succ])
  refine held_take (i := 3) (d := 99) (v := ?_) rfl rfl (by kernel_rfl) (by kernel_rfl) (by kernel_rfl) (fun _ _ _ h => h) (Or.inl ⟨by rfl, ?_⟩) (by assumption) ?_
  rotate_left
  · (intro w hSw; (try dsimp only at hSw); go_simp; (try with_reducible rfl))
  (try simp only [List.set_cons_zero, List.set_cons_succ])
  refine held_take (i := 4) (d := 100) (v := ?_) rfl rfl (by kernel_rfl) (by kernel_rfl) (by kernel_rfl) (fun _ _ _ h => h) (Or.inl ⟨by rfl, ?_⟩) (by assumption) ?_
  rotate_left
  · (intro w hSw; (try dsimp only at hSw); go_simp; (try with_reducible rfl))
  (try simp only [List.set_cons_zero, List.set_cons_succ])
  refine held_take (i := 5) (d := 101) (v := ?_) rfl rfl (by kernel_rfl) (by kernel_rfl) (by kernel_rfl) (fun _ _ _ h => h) (Or.inl ⟨by rfl, ?_⟩) (by assumption) ?_
  rotate_left
  · (intro w hSw; (try dsimp only at hSw); go_simp; (try with_reducible rfl))
  (try simp only [List.set_cons_zero, List.set_cons_succ])
  refine held_take (i := 6) (d := 102) (v := ?_) rfl rfl (by kernel_rfl) (by kernel_rfl) (by kernel_rfl) (fun _ _ _ h => h) (Or.inl ⟨by rfl, ?_⟩) (by assumption) ?_
  rotate_left
  · (intro w hSw; (try dsimp only at hSw); go_simp; (try with_reducible rfl))
  (try simp only [List.set_cons_zero, List.set_cons_succ])
  refine held_take (i := 7) (d := 103) (v := ?_) rfl rfl (by kernel_rfl) (by kernel_rfl) (by kernel_rfl) (fun _ _ _ h => h) (Or.inl ⟨by rfl, ?_⟩) (by assumption) ?_
  rotate_left
  · (intro w hSw; (try dsimp only at hSw); go_simp; (try with_reducible rfl))
  (try simp only [List.set_cons_zero, List.set_cons_succ])
  refine held_take (i := 8) (d := 104) (v := ?_) rfl rfl (by kernel_rfl) (by kernel_rfl) (by kernel_rfl) (fun _ _ _ h => h) (Or.inl ⟨by rfl, ?_⟩) (by assumption) ?_
  rotate_left
  · (intro w hSw; (try dsimp only at hSw); go_simp; (try with_reducible rfl))
  (try simp only [List.set_cons_zero, List.set_cons_succ])
  refine held_take (i := 9) (d := 105) (v := ?_) rfl rfl (by kernel_rfl) (by kernel_rfl) (by kernel_rfl) (fun _ _ _ h => h) (Or.inl ⟨by rfl, ?_⟩) (by assumption) ?_
  rotate_left
  · (intro w hSw; (try dsimp only at hSw); go_simp; (try with_reducible rfl))
  (try simp only [List.set_cons_zero, List.set_cons_succ])
  refine held_take (i := 10) (d := 106) (v := ?_) rfl rfl (by kernel_rfl) (by kernel_rfl) (by kernel_rfl) (fun _ _ _ h => h) (Or.inl ⟨by rfl, ?_⟩) (by assumption) ?_
  rotate_left
  · (intro w hSw; (try dsimp only at hSw); go_simp; (try with_reducible rfl))
  (try simp only [List.set_cons_zero, List.set_cons_succ])
  refine held_take (i := 11) (d := 107) (v := ?_) rfl rfl (by kernel_rfl) (by kernel_rfl) (by kernel_rfl) (fun _ _ _ h => h) (Or.inl ⟨by rfl, ?_⟩) (by assumption) ?_
  rotate_left
  · (intro w hSw; (try dsimp only at hSw); go_simp; (try with_reducible rfl))
  (try simp only [List.set_cons_zero, List.set_cons_succ])
  refine held_take (i := 12) (d := 108) (v := ?_) rfl rfl (by kernel_rfl) (by kernel_rfl) (by kernel_rfl) (fun _ _ _ h => h) (Or.inl ⟨by rfl, ?_⟩) (by assumption) ?_
  rotate_left
  · (intro w hSw; (try dsimp only at hSw); go_simp; (try with_reducible rfl))
  (try simp only [List.set_cons_zero, List.set_cons_succ])
  refine held_take (i := 13) (d := 109) (v := ?_) rfl rfl (by kernel_rfl) (by kernel_rfl) (by kernel_rfl) (fun _ _ _ h => h) (Or.inl ⟨by rfl, ?_⟩) (by assumption) ?_
  rotate_left
  · (intro w hSw; (try dsimp only at hSw); go_simp; (try with_reducible rfl))
  (try simp only [List.set_cons_zero, List.set_cons_succ])
  refine held_take (i := 14) (d := 110) (v := ?_) rfl rfl (by kernel_rfl) (by kernel_rfl) (by kernel_rfl) (fun _ _ _ h => h) (Or.inl ⟨by rfl, ?_⟩) (by assumption) ?_
  rotate_left
  · (intro w hSw; (try dsimp only at hSw); go_simp; (try with_reducible rfl))
  (try simp only [List.set_cons_zero, List.set_cons_succ])
  refine held_take (i := 15) (d := 111) (v := ?_) rfl rfl (by kernel_rfl) (by kernel_rfl) (by kernel_rfl) (fun _ _ _ h => h) (Or.inl ⟨by rfl, ?_⟩) (by assumption) ?_
  rotate_left
  · (intro w hSw; (try dsimp only at hSw); go_simp; (try with_reducible rfl))
  (try simp only [List.set_cons_zero, List.set_cons_succ])
  refine held_take (i := 16) (d := 112) (v := ?_) rfl rfl (by kernel_rfl) (by kernel_rfl) (by kernel_rfl) (fun _ _ _ h => h) (Or.inl ⟨by rfl, ?_⟩) (by assumption) ?_
  rotate_left
  · (intro w hSw; (try dsimp only at hSw); go_simp; (try with_reducible rfl))
  (try simp only [List.set_cons_zero, List.set_cons_succ])
  refine held_take (i := 17) (d := 113) (v := ?_) rfl rfl (by kernel_rfl) (by kernel_rfl) (by kernel_rfl) (fun _ _ _ h => h) (Or.inl ⟨by rfl, ?_⟩) (by assumption) ?_
  rotate_left
  · (intro w hSw; (try dsimp only at hSw); go_simp; (try with_reducible rfl))
  (try simp only [List.set_cons_zero, List.set_cons_succ])
  refine wpAnyH_done (by kernel_rfl) ?_ _
  have hV := hV.drew
  have hX := hX.drew
  have hD := hD.drew
  have hX_l := hX.lt
  have hD_l := hD.lt
  have hX_0 := hX.cell 0 _ rfl
  have hX_1 := hX.cell 1 _ rfl
  have hX_2 := hX.cell 2 _ rfl
  have hX_3 := hX.cell 3 _ rfl
  have hX_4 := hX.cell 4 _ rfl
  have hX_5 := hX.cell 5 _ rfl
  have hX_6 := hX.cell 6 _ rfl
  have hD_2 := hD.cell 2 _ rfl
  have hD_4 := hD.cell 4 _ rfl
  have hD_5 := hD.cell 5 _ rfl
  have hD_6 := hD.cell 6 _ rfl
  replace hc0 := Bl.cells ((Bl.refl _).drew) hc0
  replace hc1 := Bl.cells ((Bl.refl _).drew) hc1
  replace hc2 := Bl.cells ((Bl.refl _).drew) hc2
  generalize u0.drew = v0 at hX hD hV hX_l hD_l hX_0 hX_1 hX_2 hX_3 hX_4 hX_5 hX_6 hD_2 hD_4 hD_5 hD_6 hc0 hc1 hc2 ⊢
  have hadv : ad0.block < v0.heap.size := Nat.lt_of_lt_of_le hb0_ hV.sz
  go_wp2_with (first | (go_at_call 95; refine (impl_isBit _ _).mono ?_; rintro e v5 ⟨rfl, rfl⟩) | (go_at_call 167; refine (impl_isWidth _ _).mono ?_; rintro e v5 ⟨rfl, rfl⟩) | (go_at_call 45; refine (impl_within _ _ _ _).mono ?_; rintro e v5 ⟨rfl, rfl⟩) | (go_at_call 169; refine (impl_isName _ hnm _).mono ?_; rintro e v5 ⟨rfl, rfl⟩))
  go_ret
  exact ⟨rfl, hV⟩
set_option maxRecDepth 20000 in
set_option maxHeartbeats 4000000 in
theorem impl_lineWidth_6 (B C : Option Addr) (d m cc : Nat) (v : Int) (w : World) (hw : RdI w B 1 d [v]) (ht : Tm w)  :
    Calls Tryz.prog 122 #[.agg #[.int .i64 6, .string ⟨#[]⟩, .string ⟨#[]⟩, .slice C m cc, .int .i64 0, .int .i64 0, .int .i64 0], .slice B 1 d] w fun e w' => e = .returned (.int .i64 v) ∧ Bl w w' := by
  have hX := (Blk.new w 92 #[.int .i64 6, .string ⟨#[]⟩, .string ⟨#[]⟩, .slice C m cc, .int .i64 0, .int .i64 0, .int .i64 0] (g := w.heap.size)).alloc (.cells #[.int .i64 6, .string ⟨#[]⟩, .string ⟨#[]⟩, .slice C m cc, .int .i64 0, .int .i64 0, .int .i64 0] 92)
  have hD := Blk.new (w.alloc (.cells #[.int .i64 6, .string ⟨#[]⟩, .string ⟨#[]⟩, .slice C m cc, .int .i64 0, .int .i64 0, .int .i64 0] 92)) 92 #[.int .i64 6, .string ⟨#[]⟩, .string ⟨#[]⟩, .slice C m cc, .int .i64 0, .int .i64 0, .int .i64 0] (g := w.heap.size + 1)
  have hV := ((Bl.refl w).alloc (.cells #[.int .i64 6, .string ⟨#[]⟩, .string ⟨#[]⟩, .slice C m cc, .int .i64 0, .int .i64 0, .int .i64 0] 92)).alloc (.cells #[.int .i64 6, .string ⟨#[]⟩, .string ⟨#[]⟩, .slice C m cc, .int .i64 0, .int .i64 0, .int .i64 0] 92)
  have hle := hw.le.1
  obtain ⟨ad0, x0, rfl, hb0_, hx0, hc0⟩ := hw.at_ (k := 0) (by omega)
  obtain rfl := Option.some.inj hx0
  have hc0 : w.cell? ad0 = some (.int .i64 v) := hc0
  replace hc0 := Bl.cells hV hc0
  have had := Nat.lt_of_lt_of_le hb0_ hV.sz
  go_enter Tryz.func122, Tryz.ntmps122
  go_wp2_with (first | (go_at_call 95; refine (impl_isBit _ _).mono ?_; rintro e v5 ⟨rfl, rfl⟩) | (go_at_call 167; refine (impl_isWidth _ _).mono ?_; rintro e v5 ⟨rfl, rfl⟩) | (go_at_call 45; refine (impl_within _ _ _ _).mono ?_; rintro e v5 ⟨rfl, rfl⟩) | (go_at_call 169; refine (impl_isName _ (by assumption) _).mono ?_; rintro e v5 ⟨rfl, rfl⟩))
  go_ret
  exact ⟨rfl, hV⟩
theorem impl_lineWidth (B : Option Addr) (d : Nat) (l : List Ln) (ws : List Int) (hd : Hd) (x : Ln) (v : Int) (w : World) (hw : RdI w B hd.n d (pws l ws x.ps)) (hn : hd.n = x.ps.length) (ht : Tm w) (hv : wdO l ws x = some v) :
    Calls Tryz.prog 122 #[.agg #[.int .i64 x.k, .string x.nm, .string x.op, .slice hd.A hd.n hd.c, .int .i64 x.pt, .int .i64 x.wd, .int .i64 x.vl], .slice B hd.n d] w fun e w' => e = .returned (.int .i64 v) ∧ Bl w w' := by
  obtain ⟨C, m, cc⟩ := hd
  obtain ⟨k, nm, op, ps, pt, wd, vl⟩ := x
  dsimp only at hn hw
  subst hn
  unfold wdO at hv
  dsimp only at hv ⊢
  split at hv
  · split at hv
    · rename_i h1; obtain ⟨rfl, rfl, rfl, a1, a2, a3, a4⟩ := h1; injection hv with hv; subst hv
      exact impl_lineWidth_1 B C d _ cc nm pt wd w hw ht a1 a3 a4
    · split at hv
      · rename_i h1; obtain ⟨rfl, rfl, rfl, a1, a2, a3, a4⟩ := h1; injection hv with hv; subst hv
        exact impl_lineWidth_2 B C d _ cc nm wd vl w hw ht a1 a3 a4
      · cases hv
  · split at hv
    · rename_i h1; obtain ⟨⟨rfl, rfl, rfl, rfl, rfl⟩, a1, a2, a3⟩ := h1; injection hv with hv; subst hv
      exact impl_lineWidth_4 B C d _ cc nm _ w hw ht a1
    · split at hv
      · rename_i h1; obtain ⟨⟨rfl, rfl, rfl, rfl, rfl⟩, rfl, a3⟩ := h1; injection hv with hv; subst hv
        exact impl_lineWidth_6 B C d _ cc _ w hw ht
      · cases hv
  · split at hv
    · rename_i h1; obtain ⟨⟨rfl, rfl, rfl, rfl⟩, a1, a2, ⟨a3, a4⟩, a5, a6, a7, a8, a9⟩ := h1; injection hv with hv; subst hv
      rw [a5] at hw
      exact impl_lineWidth_3 B C d _ cc nm op _ w hw ht a1 a6 a7 (opB_mem a8) (fun e => a9.resolve_left (fun h => h e))
    · cases hv
  · split at hv
    · rename_i h1; obtain ⟨⟨rfl, rfl, rfl, rfl, rfl⟩, a1, a2, ⟨a3, a4, a5⟩, a6⟩ := h1; injection hv with hv; subst hv
      rw [a6] at hw
      exact impl_lineWidth_5 B C d _ cc nm _ w hw ht a1
    · cases hv
  · cases hv
end Go.Proofs.YtjggecbaladiiaaGreatDoor
