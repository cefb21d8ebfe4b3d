/- Contracts of the draws of primes, elements of a field, parties, and what the views are given.
   Conditions: the cursor lies in a block of its own; the bytes are bytes. -/
import Derived.Test.YtglgaicbcackbaaCur
import Derived.Laws.CopyOwn
namespace Go.Proofs.Ytglgaicbcackbaa
open Go.RowKit
set_option linter.unusedVariables false
def isIv (u : Value) : Bool := match u with
  | .int .i64 _ => true
  | _ => false
theorem ints_of_isIv (cs : List Value) (h : cs.all isIv = true) : ∃ l, cs = ints l := by
  induction cs with
  | nil => exact ⟨[], rfl⟩
  | cons u cs ih =>
    rw [List.all_cons, Bool.and_eq_true] at h
    obtain ⟨l, rfl⟩ := ih h.2
    have h1 := h.1
    unfold isIv at h1
    split at h1
    · rename_i z
      exact ⟨z :: l, rfl⟩
    · cases h1
theorem mem_ints {l : List Int} {x : Int} (h : x ∈ l) : Value.int .i64 x ∈ ints l := by
  unfold ints
  exact List.mem_map.2 ⟨x, h, rfl⟩
theorem cur_among_v (w : World) (g k : Nat) (h : Cur w g k) (hk : k < 900000000) (cs : Array Value) (t : TypeId) (hcs : cs.toList.all isIv = true) (n : Nat) (hn : n = cs.size) (h1 : 1 ≤ cs.size ∧ cs.size ≤ 60000) {b : Nat} (hb : w.heap.size = b) :
    Calls Try.prog 71 #[.pointer (some ⟨g, 0, none⟩), .slice (some ⟨b, 0, none⟩) n n] (w.alloc (.cells cs t)) fun e w' => ∃ x, e = .returned (.int .i64 x) ∧ Value.int .i64 x ∈ cs.toList ∧ Cur w' g (k + 2) ∧ w.grownBy w' (some g) := by
  subst hn
  obtain ⟨l, hl⟩ := ints_of_isIv _ hcs
  have hr : RdI (w.alloc (.cells cs t)) (some ⟨b, 0, none⟩) cs.size cs.size l := by
    have := rd_new w cs t (by simp [maxLen]; omega) hb
    rw [hl] at this
    exact this
  have hlt := h.lt
  refine (cur_among _ g k (h.keep ((Bl.refl w).alloc _)) hk _ _ _ l hr (by omega) (fun _ a ha => by injection ha with ha; subst ha; dsimp only; omega)).mono ?_
  rintro e w' ⟨x, rfl, hx, hC, hG⟩
  exact ⟨x, rfl, by rw [hl]; exact mem_ints hx, hC, Lib.grownBy_trans (World.grownBy_alloc w _ _) hG⟩
theorem Rd.keptV {w w' : World} {size n c : Nat} {A : Option Addr} {xs : List Value} {row : Option Nat} (h : Rd w size A n c xs) (hg : w.grownBy w' row) (hne : 0 < n → ∀ a, A = some a → some a.block ≠ row) : Rd w' size A n c xs :=
  ⟨h.len, h.cap, h.max, fun hn => by
    obtain ⟨ad, e, hl, hc⟩ := h.at0 hn
    refine ⟨ad, e, Nat.lt_of_lt_of_le hl hg.size, fun j u hu => ?_⟩
    have hb := hg.block _ hl (hne hn ad e)
    rw [World.cell?_of_block (w := w) (w' := w') (a := ad.add j) (by rw [block_of_add]; exact hb)]
    exact hc j u hu⟩
theorem Cur.grownV {w w' : World} {g k : Nat} {row : Option Nat} (h : Cur w g k) (hg : w.grownBy w' row) (hr : ∀ b, row = some b → g < b) : Cur w' g k := by
  obtain ⟨A, n, c, l, i, s, h1, h2, h3⟩ := h
  refine ⟨A, n, c, l, i, s, ⟨h1.blk.grown hg (by intro e; have := hr g e.symm; omega), ⟨h1.rd.1.keptV hg (fun hn a ha e => ?_), h1.rd.2⟩, h1.far⟩, h2, h3⟩
  have h4 := h1.far hn a ha
  have h5 := hr _ e.symm
  omega
theorem grown_overV {w w' w2 : World} {row row2 : Option Nat} (h : w.grownBy w' row) (hg : w'.grownBy w2 row2) (hr : ∀ b, row2 = some b → w.heap.size ≤ b) : w.grownBy w2 row := by
  refine ⟨hg.os.trans h.os, hg.tape.trans h.tape, hg.output.trans h.output, Nat.le_trans h.size hg.size, fun k hk hr2 => ?_⟩
  rw [hg.block k (Nat.lt_of_lt_of_le hk h.size) (by intro e; have := hr k e.symm; omega)]
  exact h.block k hk hr2
theorem OwnI.grownC {base n c g : Nat} {w w' : World} {A : Option Addr} {l : List Int} (h : OwnI base w A n c l) (hg : w.grownBy w' (some g)) (hb : g < base) : OwnI base w' A n c l :=
  World.ownsRow.kept (row := some g) h hg (by
    rw [ownBlock_slice]
    rcases hA : A.map (·.block) with _ | k
    · exact .inl hA
    · have := (h.blk k hA).1
      exact .inr (by intro e; rw [hA] at e; injection e with e; omega))
theorem results_tmpV4 {fn : Func} {t u v x : Tmp} (h : fn.results = #[.tmp t, .tmp u, .tmp v, .tmp x]) (tmps : Array Value) (P : Program) (w : World) :
    (results fn tmps).run P w = .ok (.tuple #[tmps.getD t undef, tmps.getD u undef, tmps.getD v undef, tmps.getD x undef]) w := by
  simp [results, h]
theorem results_tmpV5 {fn : Func} {t u v x y : Tmp} (h : fn.results = #[.tmp t, .tmp u, .tmp v, .tmp x, .tmp y]) (tmps : Array Value) (P : Program) (w : World) :
    (results fn tmps).run P w = .ok (.tuple #[tmps.getD t undef, tmps.getD u undef, tmps.getD v undef, tmps.getD x undef, tmps.getD y undef]) w := by
  simp [results, h]
set_option maxRecDepth 20000 in
set_option maxHeartbeats 2000000 in
theorem cur_prime (w : World) (g k : Nat) (h : Cur w g k) (hk : k < 800000000) :
    Calls Try.prog 150 #[.pointer (some ⟨g, 0, none⟩)] w fun e w' => ∃ x, e = .returned (.int .i64 x) ∧ x ≤ 300 ∧ Cur w' g (k + 10) ∧ w.grownBy w' (some g) := by
  have hC := h
  have hG := World.grownBy.refl w (some g)
  clear h
  go_enter Try.func150, Try.ntmps150
  go_wp2_with (first | (go_at_call 71; refine (cur_among_v _ _ _ hC (by omega) _ _ (by rfl) _ (by rfl) (by simp) (by first | with_reducible rfl | simp)).mono ?_; rintro e w1 ⟨x, rfl, hmx, hC1, hG1⟩; have hxb : x ≤ 300 := (by simp at hmx; omega); replace hG := Lib.grownBy_trans hG hG1; replace hC := hC1; clear hC1 hG1))
  go_ret; exact ⟨_, rfl, hxb, hC.mono (by omega), hG⟩
set_option maxRecDepth 20000 in
set_option maxHeartbeats 2000000 in
theorem cur_anyPrime (w : World) (g k : Nat) (h : Cur w g k) (hk : k < 700000000) :
    Calls Try.prog 119 #[.pointer (some ⟨g, 0, none⟩)] w fun e w' => ∃ x, e = .returned (.int .i64 x) ∧ x ≤ 300 ∧ Cur w' g (k + 20) ∧ w.grownBy w' (some g) := by
  have hC := h
  have hG := World.grownBy.refl w (some g)
  clear h
  go_enter Try.func119, Try.ntmps119
  go_wp2_with (first | (go_at_call 69; refine (cur_one _ _ _ hC (by omega) _ (by omega)).mono ?_; rintro e w1 ⟨b, rfl, hC1, hG1⟩; replace hG := Lib.grownBy_trans hG hG1; replace hC := hC1; clear hC1 hG1; cases b) | (go_at_call 71; refine (cur_among_v _ _ _ hC (by omega) _ _ (by rfl) _ (by rfl) (by simp) (by first | with_reducible rfl | simp)).mono ?_; rintro e w1 ⟨x, rfl, hmx, hC1, hG1⟩; have hxb : x ≤ 300 := (by simp at hmx; omega); replace hG := Lib.grownBy_trans hG hG1; replace hC := hC1; clear hC1 hG1) | (go_at_call 150; refine (cur_prime _ _ _ hC (by omega)).mono ?_; rintro e w1 ⟨x, rfl, hxb, hC1, hG1⟩; replace hG := Lib.grownBy_trans hG hG1; replace hC := hC1; clear hC1 hG1))
  all_goals (go_ret; exact ⟨_, rfl, hxb, hC.mono (by omega), hG⟩)
theorem spec_l1MostV (a b : Int) (w : World) : Calls Try.prog 109 #[.int .i64 a, .int .i64 b] w fun e w' => e = .returned (.int .i64 (max a b)) ∧ w = w' := by
  by_cases h : b < a
  · have hm := Lib.hid (show max a b = a by omega)
    go_enter Try.func109, Try.ntmps109
    go_wp2
    go_ret
    exact ⟨by rw [hm.out]; rfl, rfl⟩
  · have hm := Lib.hid (show max a b = b by omega)
    go_enter Try.func109, Try.ntmps109
    go_wp2
    go_ret
    exact ⟨by rw [hm.out]; rfl, rfl⟩
set_option maxRecDepth 20000 in
set_option maxHeartbeats 2000000 in
theorem cur_element (w : World) (g k : Nat) (h : Cur w g k) (hk : k < 700000000) (p : Int) (hp : p ≤ 65536) :
    Calls Try.prog 120 #[.pointer (some ⟨g, 0, none⟩), .int .i64 p] w fun e w' => ∃ x, e = .returned (.int .i64 x) ∧ Cur w' g (k + 10) ∧ w.grownBy w' (some g) := by
  have hC := h
  have hG := World.grownBy.refl w (some g)
  clear h
  go_enter Try.func120, Try.ntmps120
  go_wp2_with (first | (go_at_call 69; refine (cur_one _ _ _ hC (by omega) _ (by omega)).mono ?_; rintro e w1 ⟨b, rfl, hC1, hG1⟩; replace hG := Lib.grownBy_trans hG hG1; replace hC := hC1; clear hC1 hG1; cases b) | (go_at_call 71; refine (cur_among_v _ _ _ hC (by omega) _ _ (by rfl) _ (by rfl) (by simp) (by first | with_reducible rfl | simp)).mono ?_; rintro e w1 ⟨x, rfl, hmx, hC1, hG1⟩; skip; replace hG := Lib.grownBy_trans hG hG1; replace hC := hC1; clear hC1 hG1) | (go_at_call 109; refine (spec_l1MostV _ _ _).mono ?_; rintro e w1 ⟨rfl, rfl⟩; (obtain ⟨M, hM⟩ : ∃ M, max p 1 = M := ⟨_, rfl⟩); (have hM1 : 1 ≤ M ∧ M ≤ 65536 := by omega); rw [hM]; clear hM) | (go_at_call 67; refine (cur_pick _ _ _ hC (by omega) _ (by omega)).mono ?_; rintro e w1 ⟨x, rfl, hx0, hx1, hC1, hG1⟩; replace hG := Lib.grownBy_trans hG hG1; replace hC := hC1; clear hC1 hG1))
  all_goals (go_ret; exact ⟨_, rfl, hC.mono (by omega), hG⟩)
set_option maxRecDepth 20000 in
set_option maxHeartbeats 2000000 in
theorem cur_party (w : World) (g k : Nat) (h : Cur w g k) (hk : k < 700000000) :
    Calls Try.prog 98 #[.pointer (some ⟨g, 0, none⟩)] w fun e w' => ∃ x, e = .returned (.int .i64 x) ∧ Cur w' g (k + 10) ∧ w.grownBy w' (some g) := by
  have hC := h
  have hG := World.grownBy.refl w (some g)
  clear h
  have t1 := True.intro
  have t2 := True.intro
  have t3 := True.intro
  go_enter Try.func98, Try.ntmps98
  go_wp2_with (first | (have tk := t1; clear tk t1; go_at_call 67; refine (cur_pick _ _ _ hC (by omega) _ (by omega)).mono ?_; rintro e w1 ⟨x1, rfl, hx10, hx11, hC1, hG1⟩; replace hG := Lib.grownBy_trans hG hG1; replace hC := hC1; clear hC1 hG1) | (have tk := t2; clear tk t2; go_at_call 67; refine (cur_pick _ _ _ hC (by omega) _ (by omega)).mono ?_; rintro e w1 ⟨x2, rfl, hx20, hx21, hC1, hG1⟩; replace hG := Lib.grownBy_trans hG hG1; replace hC := hC1; clear hC1 hG1) | (have tk := t3; clear tk t3; go_at_call 67; refine (cur_pick _ _ _ hC (by omega) _ (by omega)).mono ?_; rintro e w1 ⟨x3, rfl, hx30, hx31, hC1, hG1⟩; replace hG := Lib.grownBy_trans hG hG1; replace hC := hC1; clear hC1 hG1))
  all_goals (go_ret; exact ⟨_, rfl, hC.mono (by omega), hG⟩)
set_option maxRecDepth 20000 in
set_option maxHeartbeats 2000000 in
theorem cur_elements (w : World) (g k : Nat) (h : Cur w g k) (hk : k < 600000000) (p : Int) (hp : p ≤ 65536) (N0 : Int) (hN : 0 ≤ N0 ∧ N0 ≤ 1000) :
    Calls Try.prog 116 #[.pointer (some ⟨g, 0, none⟩), .int .i64 p, .int .i64 N0] w fun e w' => ∃ A n c l, e = .returned (.slice A n c) ∧ OwnI w.heap.size w' A n c l ∧ Cur w' g (k + 10000) ∧ w.grownBy w' (some g) := by
  obtain ⟨N, rfl⟩ : ∃ N : Nat, N0 = (N : Int) := ⟨N0.toNat, by omega⟩
  have hlt := h.lt
  have hown0 := OwnI.nil w.heap.size w
  have hG0 := World.grownBy.refl w (some g)
  go_enter Try.func116, Try.ntmps116
  go_wp2
  go_loopw [2, 7] (fun i s wr => ∃ j n A c l, j ≤ N ∧ n + j = N ∧ i = .int .i64 (j : Nat) ∧ s = .slice A n c ∧ OwnI w.heap.size wr A n c l ∧ Cur wr g (k + 10 * n) ∧ w.grownBy wr (some g)) (fun i _ _ => (intOf i).toNat)
  case atStart => exact ⟨N, 0, none, 0, [], by omega, by omega, rfl, rfl, hown0, h, hG0⟩
  case round =>
    clear h hG0 hown0
    obtain ⟨j, n, A, c, l, hj, hnj, rfl, rfl, hown, hC, hG⟩ := hrel
    have hsz := hG.size
    by_cases hz : 0 < j
    · have i1 : (0 : Int) < j := by omega
      go_wp2_with (first | (go_at_call 120; refine (cur_element _ _ _ hC (by omega) _ hp).mono ?_; rintro e w1 ⟨x, rfl, hC1, hG1⟩; replace hown := hown.grownC hG1 hlt; replace hG := Lib.grownBy_trans hG hG1; replace hC := hC1; clear hC1 hG1) | (at_builtin; refine ap_int rfl rfl rfl (hown.alloc _) rfl (rd_new1 _ _ _) (by omega) (by have := hG.size; simp; omega) ?_; intro A2 c2 w2 hown2 hg2 hat2))
      go_roundw
      case rel => exact ⟨j - 1, n + 1, A2, c2, _, by omega, by omega, by go_num, rfl, hown2, ((hC.keep ((Bl.refl _).alloc _)).grownV hg2 (fun q hq => by have := (hown.blk q hq).1; omega)).mono (by omega), grown_overV (Lib.grownBy_allocR hG _) hg2 (fun q hq => (hown.blk q hq).1)⟩
      case measure => simp [intOf]; omega
    · have i1 : ¬ (0 : Int) < j := by omega
      go_wp2
      go_ret
      exact ⟨_, _, _, rfl, ⟨_, hown⟩, hC.mono (by omega), hG⟩
end Go.Proofs.Ytglgaicbcackbaa
