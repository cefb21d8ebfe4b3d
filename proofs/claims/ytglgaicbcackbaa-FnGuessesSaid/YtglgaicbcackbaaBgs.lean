/- Contracts of BestGuesses, and the walk of its law.
   Conditions: none beyond the calls' own tests. -/
import Derived.Test.YtglgaicbcackbaaGub
import Derived.Test.YtglgaicbcackbaaVsm
namespace Go.Proofs.Ytglgaicbcackbaa
open Go.RowKit
set_option linter.unusedVariables false
/-- The extra element of the other party. -/
def exF (q e : Int) : List Int → Int
  | [r0, r1, r2, r3, r4, r5, r6, r7, r8] => if e = 0 then 0 else if e = 1 then (if q = 0 then (r2 - r6) % 2 else r6) else if e = 2 then (if q = 0 then (r2 * r3 - r8) % 2 else r8) else (if q = 0 then r1 else r0)
  | _ => 0
theorem exF_bd (q e : Int) (l : List Int) (h : ∀ z ∈ l, 0 ≤ z ∧ z < 2) : 0 ≤ exF q e l ∧ exF q e l < 2 := by
  unfold exF
  split
  · rename_i r0 r1 r2 r3 r4 r5 r6 r7 r8
    have h0 := h r0 (by simp)
    have h1 := h r1 (by simp)
    have h6 := h r6 (by simp)
    have h8 := h r8 (by simp)
    have hm : ∀ a : Int, 0 ≤ a % 2 ∧ a % 2 < 2 := fun a => by omega
    split
    · omega
    split
    · split
      · exact hm _
      · exact h6
    split
    · split
      · exact hm _
      · exact h8
    split
    · exact h1
    · exact h0
  · omega
theorem vcF_snoc (p x : Int) : ∀ l : List Int, vcF p (l ++ [x]) = vcF p l + pw p l.length * x
  | [] => by simp [vcF, pw]
  | y :: l => by
    show p * vcF p (l ++ [x]) + y = p * vcF p l + y + pw p l.length * p * x
    rw [vcF_snoc p x l, Int.mul_add, Int.mul_comm (pw p l.length) p, Int.mul_assoc]
    omega
def bgV (q i : Int) (o c : Nat) : List Int := rvL 2 (if q = 0 then i else o) (if q = 0 then o else i) q (digs 2 c 9).1
def bgC (q i : Int) (o c : Nat) : Nat := (vcF 2 (bgV q i o c)).toNat
def bgE (q e : Int) (c : Nat) : Nat := (exF q e (digs 2 c 9).1).toNat
theorem bgC_bd (q i : Int) (hi : 0 ≤ i ∧ i < 2) (o c : Nat) (ho : o ≤ 1) : vcF 2 (bgV q i o c) = bgC q i o c ∧ bgC q i o c < 2048 := by
  have h := rvL_mem 2 (if q = 0 then i else o) (if q = 0 then (o : Int) else i) q (digs 2 c 9).1 (by omega) (by split <;> omega) (by split <;> omega) (digs_len 2 c 9) (digs_mem 2 c (by omega) 9)
  have hb := vcF_bd 2 (by omega) (by omega) _ h.2
  rw [h.1] at hb
  have hp : pw 2 11 = 2048 := by decide
  rw [hp] at hb
  unfold bgC bgV
  omega
theorem bgE_bd (q e : Int) (c : Nat) : exF q e (digs 2 c 9).1 = bgE q e c ∧ bgE q e c < 2 := by
  have h := exF_bd q e (digs 2 c 9).1 (digs_mem 2 c (by omega) 9)
  unfold bgE
  omega
/-- The program's number of a view and of the extra element; the reference's. -/
def bgI (q i e : Int) (o c : Nat) : Nat := 2 * bgC q i o c + bgE q e c
def bgS (q i e : Int) (o c : Nat) : Nat := bgC q i o c + 2048 * bgE q e c
def rho (n : Nat) : Nat := 2 * (n % 2048) + n / 2048
def rhoI (n : Nat) : Nat := n / 2 + 2048 * (n % 2)
theorem rho_lt (n : Nat) (h : n < 4096) : rho n < 4096 := by unfold rho; omega
theorem rhoI_lt (n : Nat) (h : n < 4096) : rhoI n < 4096 := by unfold rhoI; omega
theorem rho_inv (n : Nat) (h : n < 4096) : rhoI (rho n) = n := by unfold rho rhoI; omega
theorem rhoI_inv (n : Nat) (h : n < 4096) : rho (rhoI n) = n := by unfold rho rhoI; omega
theorem bgI_rho (q i e : Int) (hi : 0 ≤ i ∧ i < 2) (o c : Nat) (ho : o ≤ 1) : bgI q i e o c = rho (bgS q i e o c) ∧ bgS q i e o c < 4096 := by
  have h1 := (bgC_bd q i hi o c ho).2
  have h2 := (bgE_bd q e c).2
  unfold bgI bgS rho
  omega
theorem tally_idx (N : Nat) (r : Nat → Nat) (hinj : ∀ a b, a < N → b < N → r a = r b → a = b) (hr : ∀ a, a < N → r a < N) (g : Nat → Nat) (hg : ∀ k, g k < N) (c : Nat) (hc : c < N) :
    ∀ M, (tally N (fun k => r (g k)) M)[r c]?.getD 0 = (tally N g M)[c]?.getD 0
  | 0 => by simp [tally, hc, hr c hc]
  | M + 1 => by
    have ih := tally_idx N r hinj hr g hg c hc M
    simp only [tally, bump, List.getElem?_set, tally_length]
    by_cases h : g M = c
    · subst h
      simp only [if_true, hr _ hc, hc, Option.getD_some]
      rw [ih]
    · have h' : ¬ r (g M) = r c := fun he => h (hinj _ _ (hg M) hc he)
      simp only [h, h', if_false]
      exact ih
theorem sumMax_fold (a b : List Int) (N : Nat) : sumMax a b N = ((List.range N).map fun i => max (a[i]?.getD 0) (b[i]?.getD 0)).foldl (· + ·) 0 := by
  induction N with
  | zero => rfl
  | succ N ih => rw [sumMax, ih, List.range_succ, List.map_append, List.foldl_append]; rfl
theorem sumMax_perm (N : Nat) (r t : Nat → Nat) (hr : ∀ k, k < N → r k < N) (ht : ∀ k, k < N → t k < N) (h1 : ∀ k, k < N → t (r k) = k) (h2 : ∀ k, k < N → r (t k) = k) (M : Nat) (g0 g1 : Nat → Nat) (hg0 : ∀ k, g0 k < N) (hg1 : ∀ k, g1 k < N) :
    sumMax (tally N (fun k => r (g0 k)) M) (tally N (fun k => r (g1 k)) M) N = sumMax (tally N g0 M) (tally N g1 M) N := by
  have hinj : ∀ a b, a < N → b < N → r a = r b → a = b := fun a b ha hb he => by rw [← h1 a ha, ← h1 b hb, he]
  rw [sumMax_fold, sumMax_fold]
  have e : (List.range N).map (fun i => max ((tally N g0 M)[i]?.getD 0) ((tally N g1 M)[i]?.getD 0)) = ((List.range N).map r).map (fun i => max ((tally N (fun k => r (g0 k)) M)[i]?.getD 0) ((tally N (fun k => r (g1 k)) M)[i]?.getD 0)) := by
    rw [List.map_map]
    refine List.map_congr_left fun i hi => ?_
    have hi := List.mem_range.1 hi
    show max _ _ = max _ _
    rw [tally_idx N r hinj hr g0 hg0 i hi M, tally_idx N r hinj hr g1 hg1 i hi M]
  rw [e]
  refine (List.Perm.foldl_eq' (List.Perm.map _ ?_) (fun x _ y _ z => by omega) 0).symm
  refine (List.perm_ext_iff_of_nodup ?_ List.nodup_range).2 fun a => ?_
  · unfold List.Nodup
    rw [List.pairwise_map]
    refine List.Pairwise.imp_of_mem ?_ (List.nodup_range (n := N))
    intro x y hx hy hxy he
    exact hxy (hinj x y (List.mem_range.1 hx) (List.mem_range.1 hy) he)
  · rw [List.mem_map, List.mem_range]
    constructor
    · rintro ⟨k, hk, rfl⟩
      exact hr k (List.mem_range.1 hk)
    · intro ha
      exact ⟨t a, List.mem_range.2 (ht a ha), h2 a ha⟩
def bgB (q i e : Int) : Bool := inR q 0 1 && inR i 0 1 && inR e 0 3
def bgR (q i e : Int) : Int := if bgB q i e then sumMax (tally 4096 (bgS q i e 0) 512) (tally 4096 (bgS q i e 1) 512) 4096 else 0
theorem bg_same (q i e : Int) (hi : 0 ≤ i ∧ i < 2) : sumMax (tally 4096 (bgI q i e 0) 512) (tally 4096 (bgI q i e 1) 512) 4096 = sumMax (tally 4096 (bgS q i e 0) 512) (tally 4096 (bgS q i e 1) 512) 4096 := by
  have e0 : bgI q i e 0 = fun k => rho (bgS q i e 0 k) := funext fun k => (bgI_rho q i e hi 0 k (by omega)).1
  have e1 : bgI q i e 1 = fun k => rho (bgS q i e 1 k) := funext fun k => (bgI_rho q i e hi 1 k (by omega)).1
  rw [e0, e1]
  exact sumMax_perm 4096 rho rhoI rho_lt rhoI_lt rho_inv rhoI_inv 512 _ _ (fun k => (bgI_rho q i e hi 0 k (by omega)).2) (fun k => (bgI_rho q i e hi 1 k (by omega)).2)
theorem sh1_two (r0 r1 r2 r3 r4 r5 r6 r7 r8 : Int) : sh1 2 r0 r1 r2 r3 r4 r5 r6 r7 r8 = [(r0 - r4) % 2, (r1 - r5) % 2, (r2 - r6) % 2, (r3 - r7) % 2, (r2 * r3 - r8) % 2] := rfl
theorem enters_BestGuesses_1 : Enters 100 := fun _ _ => by kernel_rfl
set_option maxHeartbeats 2000000 in
theorem BestGuesses_1_00 (i o : Int) (l : List Int) (gi gq ge : Nat) (A : Option Addr) (c : Nat) (w : World) (hl : RdI w A 9 c l) (hi : 0 ≤ i ∧ i < 2) (ho : 0 ≤ o ∧ o < 2) (hall0 : ∀ z ∈ l, 0 ≤ z ∧ z < 2)
    (ki : w.cell? ⟨gi, 0, none⟩ = some (.int .i64 i)) (kq : w.cell? ⟨gq, 0, none⟩ = some (.int .i64 0)) (ke : w.cell? ⟨ge, 0, none⟩ = some (.int .i64 0)) :
    Calls Try.prog 100 #[.int .i64 o, .slice A 9 c, .pointer (some ⟨gi, 0, none⟩), .pointer (some ⟨gq, 0, none⟩), .pointer (some ⟨ge, 0, none⟩)] w fun r w' => r = .returned (.int .i64 (2 * vcF 2 (rvL 2 i o 0 l) + exF 0 0 l)) ∧ Bl w w' := by
  have hvm := rvL_mem 2 i o 0 l (by omega) hi ho hl.length hall0
  have hvb := vcF_bd 2 (by omega) (by omega) _ hvm.2
  rw [hvm.1, show pw 2 11 = 2048 by decide] at hvb
  have hxb := exF_bd 0 0 l hall0
  obtain ⟨r0, r1, r2, r3, r4, r5, r6, r7, r8, rfl⟩ := nine hl.length
  have hb_i := ki
  have hall := Lib.hid hall0
  have hmem := Lib.hid (sh1_mem 2 r0 r1 r2 r3 r4 r5 r6 r7 r8 (by omega))
  have hall49 := Lib.hid (show ∀ z ∈ [r4, r5, r6, r7, r8], 0 ≤ z ∧ z < 2 from fun z hz => hall.out z (by simp at hz ⊢; rcases hz with h | h | h | h | h <;> simp [h]))
  have hrv : rvL 2 i o 0 [r0, r1, r2, r3, r4, r5, r6, r7, r8] = vw0 2 i o r0 r1 r4 r5 r6 r7 r8 ((r0 - r4) % 2) ((r1 - r5) % 2) ((r2 - r6) % 2) ((r3 - r7) % 2) ((r2 * r3 - r8) % 2) := by first | rfl | simp [rvL]
  have hv2 := hvm.2
  rw [hrv] at hv2
  have hV := Lib.hid hv2
  clear hv2
  obtain ⟨V, hVe⟩ : ∃ V, vcF 2 (rvL 2 i o 0 [r0, r1, r2, r3, r4, r5, r6, r7, r8]) = V := ⟨_, rfl⟩
  have hVe2 := hVe
  rw [hrv] at hVe2
  have hVC := Lib.hid hVe2
  clear hVe2
  have hE : exF 0 0 [r0, r1, r2, r3, r4, r5, r6, r7, r8] = 0 := by simp [exF]
  rw [hVe] at hvb ⊢
  rw [hE] at hxb ⊢
  clear hall0 hvm hVe hE hrv
  go_enter Try.func100, Try.ntmps100
  go_wp2_with (first | (go_at_call 101; refine (impl_realSides 2 i o r0 r1 r2 r3 r4 r5 r6 r7 r8 A c _ (hl.keep (by (repeat (first | assumption | with_reducible exact Bl.refl _ | with_reducible refine Bl.drewN ?_ _ | with_reducible refine Bl.drew ?_ | with_reducible refine Bl.alloc ?_ _ | (with_reducible refine Bl.call ?_ (by assumption)))))) (by omega) hall.out).mono ?_; rintro r w2 ⟨A2, c2, A3, c3, rfl, h2, h3, hb2⟩; have kq2 := Bl.cells (W := w) (w := w2) (by (repeat (first | assumption | with_reducible exact Bl.refl _ | with_reducible refine Bl.drewN ?_ _ | with_reducible refine Bl.drew ?_ | with_reducible refine Bl.alloc ?_ _ | (with_reducible refine Bl.call ?_ (by assumption))))) kq; have ke2 := Bl.cells (W := w) (w := w2) (by (repeat (first | assumption | with_reducible exact Bl.refl _ | with_reducible refine Bl.drewN ?_ _ | with_reducible refine Bl.drew ?_ | with_reducible refine Bl.alloc ?_ _ | (with_reducible refine Bl.call ?_ (by assumption))))) ke; have lq := World.block_lt_of_cell? w2 _ kq2; have le := World.block_lt_of_cell? w2 _ ke2) | (go_at_call 103; refine (view0 _ _ _ _ _ _ _ _ _ _ _ _ _ _ _ _ _ _ _ _ (h2.keep (by (repeat (first | assumption | with_reducible exact Bl.refl _ | with_reducible refine Bl.drewN ?_ _ | with_reducible refine Bl.drew ?_ | with_reducible refine Bl.alloc ?_ _ | (with_reducible refine Bl.call ?_ (by assumption)))))) (h3.keep (by (repeat (first | assumption | with_reducible exact Bl.refl _ | with_reducible refine Bl.drewN ?_ _ | with_reducible refine Bl.drew ?_ | with_reducible refine Bl.alloc ?_ _ | (with_reducible refine Bl.call ?_ (by assumption)))))) (by omega) hi ho (hall.out r0 (by simp)) (hall.out r1 (by simp)) hall49.out hmem.out).mono ?_; rintro r w8 ⟨A8, c8, rfl, ho8, hb8⟩) | (go_at_call 102; refine (impl_viewCode A8 11 c8 _ 2 _ ho8.rd (by omega) (by omega) (by omega) hV.out).mono ?_; rintro r w9 ⟨rfl, rfl⟩; rw [hVC.out]))
  go_ret
  exact ⟨ret_int (by omega), (by (repeat (first | assumption | with_reducible exact Bl.refl _ | with_reducible refine Bl.drewN ?_ _ | with_reducible refine Bl.drew ?_ | with_reducible refine Bl.alloc ?_ _ | (with_reducible refine Bl.call ?_ (by assumption)))))⟩
set_option maxHeartbeats 2000000 in
theorem BestGuesses_1_01 (i o : Int) (l : List Int) (gi gq ge : Nat) (A : Option Addr) (c : Nat) (w : World) (hl : RdI w A 9 c l) (hi : 0 ≤ i ∧ i < 2) (ho : 0 ≤ o ∧ o < 2) (hall0 : ∀ z ∈ l, 0 ≤ z ∧ z < 2)
    (ki : w.cell? ⟨gi, 0, none⟩ = some (.int .i64 i)) (kq : w.cell? ⟨gq, 0, none⟩ = some (.int .i64 0)) (ke : w.cell? ⟨ge, 0, none⟩ = some (.int .i64 1)) :
    Calls Try.prog 100 #[.int .i64 o, .slice A 9 c, .pointer (some ⟨gi, 0, none⟩), .pointer (some ⟨gq, 0, none⟩), .pointer (some ⟨ge, 0, none⟩)] w fun r w' => r = .returned (.int .i64 (2 * vcF 2 (rvL 2 i o 0 l) + exF 0 1 l)) ∧ Bl w w' := by
  have hvm := rvL_mem 2 i o 0 l (by omega) hi ho hl.length hall0
  have hvb := vcF_bd 2 (by omega) (by omega) _ hvm.2
  rw [hvm.1, show pw 2 11 = 2048 by decide] at hvb
  have hxb := exF_bd 0 1 l hall0
  obtain ⟨r0, r1, r2, r3, r4, r5, r6, r7, r8, rfl⟩ := nine hl.length
  have hb_i := ki
  have hall := Lib.hid hall0
  have hmem := Lib.hid (sh1_mem 2 r0 r1 r2 r3 r4 r5 r6 r7 r8 (by omega))
  have hall49 := Lib.hid (show ∀ z ∈ [r4, r5, r6, r7, r8], 0 ≤ z ∧ z < 2 from fun z hz => hall.out z (by simp at hz ⊢; rcases hz with h | h | h | h | h <;> simp [h]))
  have hrv : rvL 2 i o 0 [r0, r1, r2, r3, r4, r5, r6, r7, r8] = vw0 2 i o r0 r1 r4 r5 r6 r7 r8 ((r0 - r4) % 2) ((r1 - r5) % 2) ((r2 - r6) % 2) ((r3 - r7) % 2) ((r2 * r3 - r8) % 2) := by first | rfl | simp [rvL]
  have hv2 := hvm.2
  rw [hrv] at hv2
  have hV := Lib.hid hv2
  clear hv2
  obtain ⟨V, hVe⟩ : ∃ V, vcF 2 (rvL 2 i o 0 [r0, r1, r2, r3, r4, r5, r6, r7, r8]) = V := ⟨_, rfl⟩
  have hVe2 := hVe
  rw [hrv] at hVe2
  have hVC := Lib.hid hVe2
  clear hVe2
  have hE : exF 0 1 [r0, r1, r2, r3, r4, r5, r6, r7, r8] = (r2 - r6) % 2 := by simp [exF]
  rw [hVe] at hvb ⊢
  rw [hE] at hxb ⊢
  clear hall0 hvm hVe hE hrv
  go_enter Try.func100, Try.ntmps100
  go_wp2_with (first | (go_at_call 101; refine (impl_realSides 2 i o r0 r1 r2 r3 r4 r5 r6 r7 r8 A c _ (hl.keep (by (repeat (first | assumption | with_reducible exact Bl.refl _ | with_reducible refine Bl.drewN ?_ _ | with_reducible refine Bl.drew ?_ | with_reducible refine Bl.alloc ?_ _ | (with_reducible refine Bl.call ?_ (by assumption)))))) (by omega) hall.out).mono ?_; rintro r w2 ⟨A2, c2, A3, c3, rfl, h2, h3, hb2⟩; have kq2 := Bl.cells (W := w) (w := w2) (by (repeat (first | assumption | with_reducible exact Bl.refl _ | with_reducible refine Bl.drewN ?_ _ | with_reducible refine Bl.drew ?_ | with_reducible refine Bl.alloc ?_ _ | (with_reducible refine Bl.call ?_ (by assumption))))) kq; have ke2 := Bl.cells (W := w) (w := w2) (by (repeat (first | assumption | with_reducible exact Bl.refl _ | with_reducible refine Bl.drewN ?_ _ | with_reducible refine Bl.drew ?_ | with_reducible refine Bl.alloc ?_ _ | (with_reducible refine Bl.call ?_ (by assumption))))) ke; have lq := World.block_lt_of_cell? w2 _ kq2; have le := World.block_lt_of_cell? w2 _ ke2; obtain ⟨ad, rfl, hadb, q0, qs⟩ := h3.lit (by omega); have hcell : w2.cell? ⟨ad.block, ad.off + 2, none⟩ = some (.int .i64 ((r2 - r6) % 2)) := qs 2 _ (by omega) rfl; clear q0 qs) | (go_at_call 103; refine (view0 _ _ _ _ _ _ _ _ _ _ _ _ _ _ _ _ _ _ _ _ (h2.keep (by (repeat (first | assumption | with_reducible exact Bl.refl _ | with_reducible refine Bl.drewN ?_ _ | with_reducible refine Bl.drew ?_ | with_reducible refine Bl.alloc ?_ _ | (with_reducible refine Bl.call ?_ (by assumption)))))) (h3.keep (by (repeat (first | assumption | with_reducible exact Bl.refl _ | with_reducible refine Bl.drewN ?_ _ | with_reducible refine Bl.drew ?_ | with_reducible refine Bl.alloc ?_ _ | (with_reducible refine Bl.call ?_ (by assumption)))))) (by omega) hi ho (hall.out r0 (by simp)) (hall.out r1 (by simp)) hall49.out hmem.out).mono ?_; rintro r w8 ⟨A8, c8, rfl, ho8, hb8⟩) | (go_at_call 102; refine (impl_viewCode A8 11 c8 _ 2 _ ho8.rd (by omega) (by omega) (by omega) hV.out).mono ?_; rintro r w9 ⟨rfl, rfl⟩; rw [hVC.out]))
  go_ret
  exact ⟨ret_int (by omega), (by (repeat (first | assumption | with_reducible exact Bl.refl _ | with_reducible refine Bl.drewN ?_ _ | with_reducible refine Bl.drew ?_ | with_reducible refine Bl.alloc ?_ _ | (with_reducible refine Bl.call ?_ (by assumption)))))⟩
set_option maxHeartbeats 2000000 in
theorem BestGuesses_1_02 (i o : Int) (l : List Int) (gi gq ge : Nat) (A : Option Addr) (c : Nat) (w : World) (hl : RdI w A 9 c l) (hi : 0 ≤ i ∧ i < 2) (ho : 0 ≤ o ∧ o < 2) (hall0 : ∀ z ∈ l, 0 ≤ z ∧ z < 2)
    (ki : w.cell? ⟨gi, 0, none⟩ = some (.int .i64 i)) (kq : w.cell? ⟨gq, 0, none⟩ = some (.int .i64 0)) (ke : w.cell? ⟨ge, 0, none⟩ = some (.int .i64 2)) :
    Calls Try.prog 100 #[.int .i64 o, .slice A 9 c, .pointer (some ⟨gi, 0, none⟩), .pointer (some ⟨gq, 0, none⟩), .pointer (some ⟨ge, 0, none⟩)] w fun r w' => r = .returned (.int .i64 (2 * vcF 2 (rvL 2 i o 0 l) + exF 0 2 l)) ∧ Bl w w' := by
  have hvm := rvL_mem 2 i o 0 l (by omega) hi ho hl.length hall0
  have hvb := vcF_bd 2 (by omega) (by omega) _ hvm.2
  rw [hvm.1, show pw 2 11 = 2048 by decide] at hvb
  have hxb := exF_bd 0 2 l hall0
  obtain ⟨r0, r1, r2, r3, r4, r5, r6, r7, r8, rfl⟩ := nine hl.length
  have hb_i := ki
  have hall := Lib.hid hall0
  have hmem := Lib.hid (sh1_mem 2 r0 r1 r2 r3 r4 r5 r6 r7 r8 (by omega))
  have hall49 := Lib.hid (show ∀ z ∈ [r4, r5, r6, r7, r8], 0 ≤ z ∧ z < 2 from fun z hz => hall.out z (by simp at hz ⊢; rcases hz with h | h | h | h | h <;> simp [h]))
  have hrv : rvL 2 i o 0 [r0, r1, r2, r3, r4, r5, r6, r7, r8] = vw0 2 i o r0 r1 r4 r5 r6 r7 r8 ((r0 - r4) % 2) ((r1 - r5) % 2) ((r2 - r6) % 2) ((r3 - r7) % 2) ((r2 * r3 - r8) % 2) := by first | rfl | simp [rvL]
  have hv2 := hvm.2
  rw [hrv] at hv2
  have hV := Lib.hid hv2
  clear hv2
  obtain ⟨V, hVe⟩ : ∃ V, vcF 2 (rvL 2 i o 0 [r0, r1, r2, r3, r4, r5, r6, r7, r8]) = V := ⟨_, rfl⟩
  have hVe2 := hVe
  rw [hrv] at hVe2
  have hVC := Lib.hid hVe2
  clear hVe2
  have hE : exF 0 2 [r0, r1, r2, r3, r4, r5, r6, r7, r8] = (r2 * r3 - r8) % 2 := by simp [exF]
  rw [hVe] at hvb ⊢
  rw [hE] at hxb ⊢
  clear hall0 hvm hVe hE hrv
  go_enter Try.func100, Try.ntmps100
  go_wp2_with (first | (go_at_call 101; refine (impl_realSides 2 i o r0 r1 r2 r3 r4 r5 r6 r7 r8 A c _ (hl.keep (by (repeat (first | assumption | with_reducible exact Bl.refl _ | with_reducible refine Bl.drewN ?_ _ | with_reducible refine Bl.drew ?_ | with_reducible refine Bl.alloc ?_ _ | (with_reducible refine Bl.call ?_ (by assumption)))))) (by omega) hall.out).mono ?_; rintro r w2 ⟨A2, c2, A3, c3, rfl, h2, h3, hb2⟩; have kq2 := Bl.cells (W := w) (w := w2) (by (repeat (first | assumption | with_reducible exact Bl.refl _ | with_reducible refine Bl.drewN ?_ _ | with_reducible refine Bl.drew ?_ | with_reducible refine Bl.alloc ?_ _ | (with_reducible refine Bl.call ?_ (by assumption))))) kq; have ke2 := Bl.cells (W := w) (w := w2) (by (repeat (first | assumption | with_reducible exact Bl.refl _ | with_reducible refine Bl.drewN ?_ _ | with_reducible refine Bl.drew ?_ | with_reducible refine Bl.alloc ?_ _ | (with_reducible refine Bl.call ?_ (by assumption))))) ke; have lq := World.block_lt_of_cell? w2 _ kq2; have le := World.block_lt_of_cell? w2 _ ke2; obtain ⟨ad, rfl, hadb, q0, qs⟩ := h3.lit (by omega); have hcell : w2.cell? ⟨ad.block, ad.off + 4, none⟩ = some (.int .i64 ((r2 * r3 - r8) % 2)) := qs 4 _ (by omega) rfl; clear q0 qs) | (go_at_call 103; refine (view0 _ _ _ _ _ _ _ _ _ _ _ _ _ _ _ _ _ _ _ _ (h2.keep (by (repeat (first | assumption | with_reducible exact Bl.refl _ | with_reducible refine Bl.drewN ?_ _ | with_reducible refine Bl.drew ?_ | with_reducible refine Bl.alloc ?_ _ | (with_reducible refine Bl.call ?_ (by assumption)))))) (h3.keep (by (repeat (first | assumption | with_reducible exact Bl.refl _ | with_reducible refine Bl.drewN ?_ _ | with_reducible refine Bl.drew ?_ | with_reducible refine Bl.alloc ?_ _ | (with_reducible refine Bl.call ?_ (by assumption)))))) (by omega) hi ho (hall.out r0 (by simp)) (hall.out r1 (by simp)) hall49.out hmem.out).mono ?_; rintro r w8 ⟨A8, c8, rfl, ho8, hb8⟩) | (go_at_call 102; refine (impl_viewCode A8 11 c8 _ 2 _ ho8.rd (by omega) (by omega) (by omega) hV.out).mono ?_; rintro r w9 ⟨rfl, rfl⟩; rw [hVC.out]))
  go_ret
  exact ⟨ret_int (by omega), (by (repeat (first | assumption | with_reducible exact Bl.refl _ | with_reducible refine Bl.drewN ?_ _ | with_reducible refine Bl.drew ?_ | with_reducible refine Bl.alloc ?_ _ | (with_reducible refine Bl.call ?_ (by assumption)))))⟩
set_option maxHeartbeats 2000000 in
theorem BestGuesses_1_03 (i o : Int) (l : List Int) (gi gq ge : Nat) (A : Option Addr) (c : Nat) (w : World) (hl : RdI w A 9 c l) (hi : 0 ≤ i ∧ i < 2) (ho : 0 ≤ o ∧ o < 2) (hall0 : ∀ z ∈ l, 0 ≤ z ∧ z < 2)
    (ki : w.cell? ⟨gi, 0, none⟩ = some (.int .i64 i)) (kq : w.cell? ⟨gq, 0, none⟩ = some (.int .i64 0)) (ke : w.cell? ⟨ge, 0, none⟩ = some (.int .i64 3)) :
    Calls Try.prog 100 #[.int .i64 o, .slice A 9 c, .pointer (some ⟨gi, 0, none⟩), .pointer (some ⟨gq, 0, none⟩), .pointer (some ⟨ge, 0, none⟩)] w fun r w' => r = .returned (.int .i64 (2 * vcF 2 (rvL 2 i o 0 l) + exF 0 3 l)) ∧ Bl w w' := by
  have hvm := rvL_mem 2 i o 0 l (by omega) hi ho hl.length hall0
  have hvb := vcF_bd 2 (by omega) (by omega) _ hvm.2
  rw [hvm.1, show pw 2 11 = 2048 by decide] at hvb
  have hxb := exF_bd 0 3 l hall0
  obtain ⟨r0, r1, r2, r3, r4, r5, r6, r7, r8, rfl⟩ := nine hl.length
  have hb_i := ki
  have hall := Lib.hid hall0
  have hmem := Lib.hid (sh1_mem 2 r0 r1 r2 r3 r4 r5 r6 r7 r8 (by omega))
  have hall49 := Lib.hid (show ∀ z ∈ [r4, r5, r6, r7, r8], 0 ≤ z ∧ z < 2 from fun z hz => hall.out z (by simp at hz ⊢; rcases hz with h | h | h | h | h <;> simp [h]))
  have hrv : rvL 2 i o 0 [r0, r1, r2, r3, r4, r5, r6, r7, r8] = vw0 2 i o r0 r1 r4 r5 r6 r7 r8 ((r0 - r4) % 2) ((r1 - r5) % 2) ((r2 - r6) % 2) ((r3 - r7) % 2) ((r2 * r3 - r8) % 2) := by first | rfl | simp [rvL]
  have hv2 := hvm.2
  rw [hrv] at hv2
  have hV := Lib.hid hv2
  clear hv2
  obtain ⟨V, hVe⟩ : ∃ V, vcF 2 (rvL 2 i o 0 [r0, r1, r2, r3, r4, r5, r6, r7, r8]) = V := ⟨_, rfl⟩
  have hVe2 := hVe
  rw [hrv] at hVe2
  have hVC := Lib.hid hVe2
  clear hVe2
  have hE : exF 0 3 [r0, r1, r2, r3, r4, r5, r6, r7, r8] = r1 := by simp [exF]
  rw [hVe] at hvb ⊢
  rw [hE] at hxb ⊢
  clear hall0 hvm hVe hE hrv
  go_enter Try.func100, Try.ntmps100
  go_wp2_with (first | (go_at_call 101; refine (impl_realSides 2 i o r0 r1 r2 r3 r4 r5 r6 r7 r8 A c _ (hl.keep (by (repeat (first | assumption | with_reducible exact Bl.refl _ | with_reducible refine Bl.drewN ?_ _ | with_reducible refine Bl.drew ?_ | with_reducible refine Bl.alloc ?_ _ | (with_reducible refine Bl.call ?_ (by assumption)))))) (by omega) hall.out).mono ?_; rintro r w2 ⟨A2, c2, A3, c3, rfl, h2, h3, hb2⟩; have kq2 := Bl.cells (W := w) (w := w2) (by (repeat (first | assumption | with_reducible exact Bl.refl _ | with_reducible refine Bl.drewN ?_ _ | with_reducible refine Bl.drew ?_ | with_reducible refine Bl.alloc ?_ _ | (with_reducible refine Bl.call ?_ (by assumption))))) kq; have ke2 := Bl.cells (W := w) (w := w2) (by (repeat (first | assumption | with_reducible exact Bl.refl _ | with_reducible refine Bl.drewN ?_ _ | with_reducible refine Bl.drew ?_ | with_reducible refine Bl.alloc ?_ _ | (with_reducible refine Bl.call ?_ (by assumption))))) ke; have lq := World.block_lt_of_cell? w2 _ kq2; have le := World.block_lt_of_cell? w2 _ ke2) | (go_at_call 103; refine (view0 _ _ _ _ _ _ _ _ _ _ _ _ _ _ _ _ _ _ _ _ (h2.keep (by (repeat (first | assumption | with_reducible exact Bl.refl _ | with_reducible refine Bl.drewN ?_ _ | with_reducible refine Bl.drew ?_ | with_reducible refine Bl.alloc ?_ _ | (with_reducible refine Bl.call ?_ (by assumption)))))) (h3.keep (by (repeat (first | assumption | with_reducible exact Bl.refl _ | with_reducible refine Bl.drewN ?_ _ | with_reducible refine Bl.drew ?_ | with_reducible refine Bl.alloc ?_ _ | (with_reducible refine Bl.call ?_ (by assumption)))))) (by omega) hi ho (hall.out r0 (by simp)) (hall.out r1 (by simp)) hall49.out hmem.out).mono ?_; rintro r w8 ⟨A8, c8, rfl, ho8, hb8⟩) | (go_at_call 102; refine (impl_viewCode A8 11 c8 _ 2 _ ho8.rd (by omega) (by omega) (by omega) hV.out).mono ?_; rintro r w9 ⟨rfl, rfl⟩; rw [hVC.out]))
  go_ret
  exact ⟨ret_int (by omega), (by (repeat (first | assumption | with_reducible exact Bl.refl _ | with_reducible refine Bl.drewN ?_ _ | with_reducible refine Bl.drew ?_ | with_reducible refine Bl.alloc ?_ _ | (with_reducible refine Bl.call ?_ (by assumption)))))⟩
set_option maxHeartbeats 2000000 in
theorem BestGuesses_1_10 (i o : Int) (l : List Int) (gi gq ge : Nat) (A : Option Addr) (c : Nat) (w : World) (hl : RdI w A 9 c l) (hi : 0 ≤ i ∧ i < 2) (ho : 0 ≤ o ∧ o < 2) (hall0 : ∀ z ∈ l, 0 ≤ z ∧ z < 2)
    (ki : w.cell? ⟨gi, 0, none⟩ = some (.int .i64 i)) (kq : w.cell? ⟨gq, 0, none⟩ = some (.int .i64 1)) (ke : w.cell? ⟨ge, 0, none⟩ = some (.int .i64 0)) :
    Calls Try.prog 100 #[.int .i64 o, .slice A 9 c, .pointer (some ⟨gi, 0, none⟩), .pointer (some ⟨gq, 0, none⟩), .pointer (some ⟨ge, 0, none⟩)] w fun r w' => r = .returned (.int .i64 (2 * vcF 2 (rvL 2 o i 1 l) + exF 1 0 l)) ∧ Bl w w' := by
  have hvm := rvL_mem 2 o i 1 l (by omega) ho hi hl.length hall0
  have hvb := vcF_bd 2 (by omega) (by omega) _ hvm.2
  rw [hvm.1, show pw 2 11 = 2048 by decide] at hvb
  have hxb := exF_bd 1 0 l hall0
  obtain ⟨r0, r1, r2, r3, r4, r5, r6, r7, r8, rfl⟩ := nine hl.length
  have hb_i := ki
  have hall := Lib.hid hall0
  have hmem := Lib.hid (sh1_mem 2 r0 r1 r2 r3 r4 r5 r6 r7 r8 (by omega))
  have hall49 := Lib.hid (show ∀ z ∈ [r4, r5, r6, r7, r8], 0 ≤ z ∧ z < 2 from fun z hz => hall.out z (by simp at hz ⊢; rcases hz with h | h | h | h | h <;> simp [h]))
  have hrv : rvL 2 o i 1 [r0, r1, r2, r3, r4, r5, r6, r7, r8] = vw1 2 o i r0 r1 r4 r5 r6 r7 r8 ((r0 - r4) % 2) ((r1 - r5) % 2) ((r2 - r6) % 2) ((r3 - r7) % 2) ((r2 * r3 - r8) % 2) := by first | rfl | simp [rvL]
  have hv2 := hvm.2
  rw [hrv] at hv2
  have hV := Lib.hid hv2
  clear hv2
  obtain ⟨V, hVe⟩ : ∃ V, vcF 2 (rvL 2 o i 1 [r0, r1, r2, r3, r4, r5, r6, r7, r8]) = V := ⟨_, rfl⟩
  have hVe2 := hVe
  rw [hrv] at hVe2
  have hVC := Lib.hid hVe2
  clear hVe2
  have hE : exF 1 0 [r0, r1, r2, r3, r4, r5, r6, r7, r8] = 0 := by simp [exF]
  rw [hVe] at hvb ⊢
  rw [hE] at hxb ⊢
  clear hall0 hvm hVe hE hrv
  go_enter Try.func100, Try.ntmps100
  go_wp2_with fail
  go_quiet (fail)
  go_wp2_with (first | (go_at_call 101; refine (impl_realSides 2 o i r0 r1 r2 r3 r4 r5 r6 r7 r8 A c _ (hl.keep (by (repeat (first | assumption | with_reducible exact Bl.refl _ | with_reducible refine Bl.drewN ?_ _ | with_reducible refine Bl.drew ?_ | with_reducible refine Bl.alloc ?_ _ | (with_reducible refine Bl.call ?_ (by assumption)))))) (by omega) hall.out).mono ?_; rintro r w2 ⟨A2, c2, A3, c3, rfl, h2, h3, hb2⟩; have kq2 := Bl.cells (W := w) (w := w2) (by (repeat (first | assumption | with_reducible exact Bl.refl _ | with_reducible refine Bl.drewN ?_ _ | with_reducible refine Bl.drew ?_ | with_reducible refine Bl.alloc ?_ _ | (with_reducible refine Bl.call ?_ (by assumption))))) kq; have ke2 := Bl.cells (W := w) (w := w2) (by (repeat (first | assumption | with_reducible exact Bl.refl _ | with_reducible refine Bl.drewN ?_ _ | with_reducible refine Bl.drew ?_ | with_reducible refine Bl.alloc ?_ _ | (with_reducible refine Bl.call ?_ (by assumption))))) ke; have lq := World.block_lt_of_cell? w2 _ kq2; have le := World.block_lt_of_cell? w2 _ ke2) | (go_at_call 103; refine (view1 _ _ _ _ _ _ _ _ _ _ _ _ _ _ _ _ _ _ _ _ (h2.keep (by (repeat (first | assumption | with_reducible exact Bl.refl _ | with_reducible refine Bl.drewN ?_ _ | with_reducible refine Bl.drew ?_ | with_reducible refine Bl.alloc ?_ _ | (with_reducible refine Bl.call ?_ (by assumption)))))) (h3.keep (by (repeat (first | assumption | with_reducible exact Bl.refl _ | with_reducible refine Bl.drewN ?_ _ | with_reducible refine Bl.drew ?_ | with_reducible refine Bl.alloc ?_ _ | (with_reducible refine Bl.call ?_ (by assumption)))))) (by omega) ho hi (hall.out r0 (by simp)) (hall.out r1 (by simp)) hall49.out hmem.out).mono ?_; rintro r w8 ⟨A8, c8, rfl, ho8, hb8⟩) | (go_at_call 102; refine (impl_viewCode A8 11 c8 _ 2 _ ho8.rd (by omega) (by omega) (by omega) hV.out).mono ?_; rintro r w9 ⟨rfl, rfl⟩; rw [hVC.out]))
  go_ret
  exact ⟨ret_int (by omega), (by (repeat (first | assumption | with_reducible exact Bl.refl _ | with_reducible refine Bl.drewN ?_ _ | with_reducible refine Bl.drew ?_ | with_reducible refine Bl.alloc ?_ _ | (with_reducible refine Bl.call ?_ (by assumption)))))⟩
set_option maxHeartbeats 2000000 in
theorem BestGuesses_1_11 (i o : Int) (l : List Int) (gi gq ge : Nat) (A : Option Addr) (c : Nat) (w : World) (hl : RdI w A 9 c l) (hi : 0 ≤ i ∧ i < 2) (ho : 0 ≤ o ∧ o < 2) (hall0 : ∀ z ∈ l, 0 ≤ z ∧ z < 2)
    (ki : w.cell? ⟨gi, 0, none⟩ = some (.int .i64 i)) (kq : w.cell? ⟨gq, 0, none⟩ = some (.int .i64 1)) (ke : w.cell? ⟨ge, 0, none⟩ = some (.int .i64 1)) :
    Calls Try.prog 100 #[.int .i64 o, .slice A 9 c, .pointer (some ⟨gi, 0, none⟩), .pointer (some ⟨gq, 0, none⟩), .pointer (some ⟨ge, 0, none⟩)] w fun r w' => r = .returned (.int .i64 (2 * vcF 2 (rvL 2 o i 1 l) + exF 1 1 l)) ∧ Bl w w' := by
  have hvm := rvL_mem 2 o i 1 l (by omega) ho hi hl.length hall0
  have hvb := vcF_bd 2 (by omega) (by omega) _ hvm.2
  rw [hvm.1, show pw 2 11 = 2048 by decide] at hvb
  have hxb := exF_bd 1 1 l hall0
  obtain ⟨r0, r1, r2, r3, r4, r5, r6, r7, r8, rfl⟩ := nine hl.length
  have hb_i := ki
  have hall := Lib.hid hall0
  have hmem := Lib.hid (sh1_mem 2 r0 r1 r2 r3 r4 r5 r6 r7 r8 (by omega))
  have hall49 := Lib.hid (show ∀ z ∈ [r4, r5, r6, r7, r8], 0 ≤ z ∧ z < 2 from fun z hz => hall.out z (by simp at hz ⊢; rcases hz with h | h | h | h | h <;> simp [h]))
  have hrv : rvL 2 o i 1 [r0, r1, r2, r3, r4, r5, r6, r7, r8] = vw1 2 o i r0 r1 r4 r5 r6 r7 r8 ((r0 - r4) % 2) ((r1 - r5) % 2) ((r2 - r6) % 2) ((r3 - r7) % 2) ((r2 * r3 - r8) % 2) := by first | rfl | simp [rvL]
  have hv2 := hvm.2
  rw [hrv] at hv2
  have hV := Lib.hid hv2
  clear hv2
  obtain ⟨V, hVe⟩ : ∃ V, vcF 2 (rvL 2 o i 1 [r0, r1, r2, r3, r4, r5, r6, r7, r8]) = V := ⟨_, rfl⟩
  have hVe2 := hVe
  rw [hrv] at hVe2
  have hVC := Lib.hid hVe2
  clear hVe2
  have hE : exF 1 1 [r0, r1, r2, r3, r4, r5, r6, r7, r8] = r6 := by simp [exF]
  rw [hVe] at hvb ⊢
  rw [hE] at hxb ⊢
  clear hall0 hvm hVe hE hrv
  go_enter Try.func100, Try.ntmps100
  go_wp2_with fail
  go_quiet (fail)
  go_wp2_with (first | (go_at_call 101; refine (impl_realSides 2 o i r0 r1 r2 r3 r4 r5 r6 r7 r8 A c _ (hl.keep (by (repeat (first | assumption | with_reducible exact Bl.refl _ | with_reducible refine Bl.drewN ?_ _ | with_reducible refine Bl.drew ?_ | with_reducible refine Bl.alloc ?_ _ | (with_reducible refine Bl.call ?_ (by assumption)))))) (by omega) hall.out).mono ?_; rintro r w2 ⟨A2, c2, A3, c3, rfl, h2, h3, hb2⟩; have kq2 := Bl.cells (W := w) (w := w2) (by (repeat (first | assumption | with_reducible exact Bl.refl _ | with_reducible refine Bl.drewN ?_ _ | with_reducible refine Bl.drew ?_ | with_reducible refine Bl.alloc ?_ _ | (with_reducible refine Bl.call ?_ (by assumption))))) kq; have ke2 := Bl.cells (W := w) (w := w2) (by (repeat (first | assumption | with_reducible exact Bl.refl _ | with_reducible refine Bl.drewN ?_ _ | with_reducible refine Bl.drew ?_ | with_reducible refine Bl.alloc ?_ _ | (with_reducible refine Bl.call ?_ (by assumption))))) ke; have lq := World.block_lt_of_cell? w2 _ kq2; have le := World.block_lt_of_cell? w2 _ ke2; obtain ⟨ad, rfl, hadb, q0, qs⟩ := h2.lit (by omega); have hcell : w2.cell? ⟨ad.block, ad.off + 2, none⟩ = some (.int .i64 (r6)) := qs 2 _ (by omega) rfl; clear q0 qs) | (go_at_call 103; refine (view1 _ _ _ _ _ _ _ _ _ _ _ _ _ _ _ _ _ _ _ _ (h2.keep (by (repeat (first | assumption | with_reducible exact Bl.refl _ | with_reducible refine Bl.drewN ?_ _ | with_reducible refine Bl.drew ?_ | with_reducible refine Bl.alloc ?_ _ | (with_reducible refine Bl.call ?_ (by assumption)))))) (h3.keep (by (repeat (first | assumption | with_reducible exact Bl.refl _ | with_reducible refine Bl.drewN ?_ _ | with_reducible refine Bl.drew ?_ | with_reducible refine Bl.alloc ?_ _ | (with_reducible refine Bl.call ?_ (by assumption)))))) (by omega) ho hi (hall.out r0 (by simp)) (hall.out r1 (by simp)) hall49.out hmem.out).mono ?_; rintro r w8 ⟨A8, c8, rfl, ho8, hb8⟩) | (go_at_call 102; refine (impl_viewCode A8 11 c8 _ 2 _ ho8.rd (by omega) (by omega) (by omega) hV.out).mono ?_; rintro r w9 ⟨rfl, rfl⟩; rw [hVC.out]))
  go_ret
  exact ⟨ret_int (by omega), (by (repeat (first | assumption | with_reducible exact Bl.refl _ | with_reducible refine Bl.drewN ?_ _ | with_reducible refine Bl.drew ?_ | with_reducible refine Bl.alloc ?_ _ | (with_reducible refine Bl.call ?_ (by assumption)))))⟩
set_option maxHeartbeats 2000000 in
theorem BestGuesses_1_12 (i o : Int) (l : List Int) (gi gq ge : Nat) (A : Option Addr) (c : Nat) (w : World) (hl : RdI w A 9 c l) (hi : 0 ≤ i ∧ i < 2) (ho : 0 ≤ o ∧ o < 2) (hall0 : ∀ z ∈ l, 0 ≤ z ∧ z < 2)
    (ki : w.cell? ⟨gi, 0, none⟩ = some (.int .i64 i)) (kq : w.cell? ⟨gq, 0, none⟩ = some (.int .i64 1)) (ke : w.cell? ⟨ge, 0, none⟩ = some (.int .i64 2)) :
    Calls Try.prog 100 #[.int .i64 o, .slice A 9 c, .pointer (some ⟨gi, 0, none⟩), .pointer (some ⟨gq, 0, none⟩), .pointer (some ⟨ge, 0, none⟩)] w fun r w' => r = .returned (.int .i64 (2 * vcF 2 (rvL 2 o i 1 l) + exF 1 2 l)) ∧ Bl w w' := by
  have hvm := rvL_mem 2 o i 1 l (by omega) ho hi hl.length hall0
  have hvb := vcF_bd 2 (by omega) (by omega) _ hvm.2
  rw [hvm.1, show pw 2 11 = 2048 by decide] at hvb
  have hxb := exF_bd 1 2 l hall0
  obtain ⟨r0, r1, r2, r3, r4, r5, r6, r7, r8, rfl⟩ := nine hl.length
  have hb_i := ki
  have hall := Lib.hid hall0
  have hmem := Lib.hid (sh1_mem 2 r0 r1 r2 r3 r4 r5 r6 r7 r8 (by omega))
  have hall49 := Lib.hid (show ∀ z ∈ [r4, r5, r6, r7, r8], 0 ≤ z ∧ z < 2 from fun z hz => hall.out z (by simp at hz ⊢; rcases hz with h | h | h | h | h <;> simp [h]))
  have hrv : rvL 2 o i 1 [r0, r1, r2, r3, r4, r5, r6, r7, r8] = vw1 2 o i r0 r1 r4 r5 r6 r7 r8 ((r0 - r4) % 2) ((r1 - r5) % 2) ((r2 - r6) % 2) ((r3 - r7) % 2) ((r2 * r3 - r8) % 2) := by first | rfl | simp [rvL]
  have hv2 := hvm.2
  rw [hrv] at hv2
  have hV := Lib.hid hv2
  clear hv2
  obtain ⟨V, hVe⟩ : ∃ V, vcF 2 (rvL 2 o i 1 [r0, r1, r2, r3, r4, r5, r6, r7, r8]) = V := ⟨_, rfl⟩
  have hVe2 := hVe
  rw [hrv] at hVe2
  have hVC := Lib.hid hVe2
  clear hVe2
  have hE : exF 1 2 [r0, r1, r2, r3, r4, r5, r6, r7, r8] = r8 := by simp [exF]
  rw [hVe] at hvb ⊢
  rw [hE] at hxb ⊢
  clear hall0 hvm hVe hE hrv
  go_enter Try.func100, Try.ntmps100
  go_wp2_with fail
  go_quiet (fail)
  go_wp2_with (first | (go_at_call 101; refine (impl_realSides 2 o i r0 r1 r2 r3 r4 r5 r6 r7 r8 A c _ (hl.keep (by (repeat (first | assumption | with_reducible exact Bl.refl _ | with_reducible refine Bl.drewN ?_ _ | with_reducible refine Bl.drew ?_ | with_reducible refine Bl.alloc ?_ _ | (with_reducible refine Bl.call ?_ (by assumption)))))) (by omega) hall.out).mono ?_; rintro r w2 ⟨A2, c2, A3, c3, rfl, h2, h3, hb2⟩; have kq2 := Bl.cells (W := w) (w := w2) (by (repeat (first | assumption | with_reducible exact Bl.refl _ | with_reducible refine Bl.drewN ?_ _ | with_reducible refine Bl.drew ?_ | with_reducible refine Bl.alloc ?_ _ | (with_reducible refine Bl.call ?_ (by assumption))))) kq; have ke2 := Bl.cells (W := w) (w := w2) (by (repeat (first | assumption | with_reducible exact Bl.refl _ | with_reducible refine Bl.drewN ?_ _ | with_reducible refine Bl.drew ?_ | with_reducible refine Bl.alloc ?_ _ | (with_reducible refine Bl.call ?_ (by assumption))))) ke; have lq := World.block_lt_of_cell? w2 _ kq2; have le := World.block_lt_of_cell? w2 _ ke2; obtain ⟨ad, rfl, hadb, q0, qs⟩ := h2.lit (by omega); have hcell : w2.cell? ⟨ad.block, ad.off + 4, none⟩ = some (.int .i64 (r8)) := qs 4 _ (by omega) rfl; clear q0 qs) | (go_at_call 103; refine (view1 _ _ _ _ _ _ _ _ _ _ _ _ _ _ _ _ _ _ _ _ (h2.keep (by (repeat (first | assumption | with_reducible exact Bl.refl _ | with_reducible refine Bl.drewN ?_ _ | with_reducible refine Bl.drew ?_ | with_reducible refine Bl.alloc ?_ _ | (with_reducible refine Bl.call ?_ (by assumption)))))) (h3.keep (by (repeat (first | assumption | with_reducible exact Bl.refl _ | with_reducible refine Bl.drewN ?_ _ | with_reducible refine Bl.drew ?_ | with_reducible refine Bl.alloc ?_ _ | (with_reducible refine Bl.call ?_ (by assumption)))))) (by omega) ho hi (hall.out r0 (by simp)) (hall.out r1 (by simp)) hall49.out hmem.out).mono ?_; rintro r w8 ⟨A8, c8, rfl, ho8, hb8⟩) | (go_at_call 102; refine (impl_viewCode A8 11 c8 _ 2 _ ho8.rd (by omega) (by omega) (by omega) hV.out).mono ?_; rintro r w9 ⟨rfl, rfl⟩; rw [hVC.out]))
  go_ret
  exact ⟨ret_int (by omega), (by (repeat (first | assumption | with_reducible exact Bl.refl _ | with_reducible refine Bl.drewN ?_ _ | with_reducible refine Bl.drew ?_ | with_reducible refine Bl.alloc ?_ _ | (with_reducible refine Bl.call ?_ (by assumption)))))⟩
set_option maxHeartbeats 2000000 in
theorem BestGuesses_1_13 (i o : Int) (l : List Int) (gi gq ge : Nat) (A : Option Addr) (c : Nat) (w : World) (hl : RdI w A 9 c l) (hi : 0 ≤ i ∧ i < 2) (ho : 0 ≤ o ∧ o < 2) (hall0 : ∀ z ∈ l, 0 ≤ z ∧ z < 2)
    (ki : w.cell? ⟨gi, 0, none⟩ = some (.int .i64 i)) (kq : w.cell? ⟨gq, 0, none⟩ = some (.int .i64 1)) (ke : w.cell? ⟨ge, 0, none⟩ = some (.int .i64 3)) :
    Calls Try.prog 100 #[.int .i64 o, .slice A 9 c, .pointer (some ⟨gi, 0, none⟩), .pointer (some ⟨gq, 0, none⟩), .pointer (some ⟨ge, 0, none⟩)] w fun r w' => r = .returned (.int .i64 (2 * vcF 2 (rvL 2 o i 1 l) + exF 1 3 l)) ∧ Bl w w' := by
  have hvm := rvL_mem 2 o i 1 l (by omega) ho hi hl.length hall0
  have hvb := vcF_bd 2 (by omega) (by omega) _ hvm.2
  rw [hvm.1, show pw 2 11 = 2048 by decide] at hvb
  have hxb := exF_bd 1 3 l hall0
  obtain ⟨r0, r1, r2, r3, r4, r5, r6, r7, r8, rfl⟩ := nine hl.length
  have hb_i := ki
  have hall := Lib.hid hall0
  have hmem := Lib.hid (sh1_mem 2 r0 r1 r2 r3 r4 r5 r6 r7 r8 (by omega))
  have hall49 := Lib.hid (show ∀ z ∈ [r4, r5, r6, r7, r8], 0 ≤ z ∧ z < 2 from fun z hz => hall.out z (by simp at hz ⊢; rcases hz with h | h | h | h | h <;> simp [h]))
  have hrv : rvL 2 o i 1 [r0, r1, r2, r3, r4, r5, r6, r7, r8] = vw1 2 o i r0 r1 r4 r5 r6 r7 r8 ((r0 - r4) % 2) ((r1 - r5) % 2) ((r2 - r6) % 2) ((r3 - r7) % 2) ((r2 * r3 - r8) % 2) := by first | rfl | simp [rvL]
  have hv2 := hvm.2
  rw [hrv] at hv2
  have hV := Lib.hid hv2
  clear hv2
  obtain ⟨V, hVe⟩ : ∃ V, vcF 2 (rvL 2 o i 1 [r0, r1, r2, r3, r4, r5, r6, r7, r8]) = V := ⟨_, rfl⟩
  have hVe2 := hVe
  rw [hrv] at hVe2
  have hVC := Lib.hid hVe2
  clear hVe2
  have hE : exF 1 3 [r0, r1, r2, r3, r4, r5, r6, r7, r8] = r0 := by simp [exF]
  rw [hVe] at hvb ⊢
  rw [hE] at hxb ⊢
  clear hall0 hvm hVe hE hrv
  go_enter Try.func100, Try.ntmps100
  go_wp2_with fail
  go_quiet (fail)
  go_wp2_with (first | (go_at_call 101; refine (impl_realSides 2 o i r0 r1 r2 r3 r4 r5 r6 r7 r8 A c _ (hl.keep (by (repeat (first | assumption | with_reducible exact Bl.refl _ | with_reducible refine Bl.drewN ?_ _ | with_reducible refine Bl.drew ?_ | with_reducible refine Bl.alloc ?_ _ | (with_reducible refine Bl.call ?_ (by assumption)))))) (by omega) hall.out).mono ?_; rintro r w2 ⟨A2, c2, A3, c3, rfl, h2, h3, hb2⟩; have kq2 := Bl.cells (W := w) (w := w2) (by (repeat (first | assumption | with_reducible exact Bl.refl _ | with_reducible refine Bl.drewN ?_ _ | with_reducible refine Bl.drew ?_ | with_reducible refine Bl.alloc ?_ _ | (with_reducible refine Bl.call ?_ (by assumption))))) kq; have ke2 := Bl.cells (W := w) (w := w2) (by (repeat (first | assumption | with_reducible exact Bl.refl _ | with_reducible refine Bl.drewN ?_ _ | with_reducible refine Bl.drew ?_ | with_reducible refine Bl.alloc ?_ _ | (with_reducible refine Bl.call ?_ (by assumption))))) ke; have lq := World.block_lt_of_cell? w2 _ kq2; have le := World.block_lt_of_cell? w2 _ ke2) | (go_at_call 103; refine (view1 _ _ _ _ _ _ _ _ _ _ _ _ _ _ _ _ _ _ _ _ (h2.keep (by (repeat (first | assumption | with_reducible exact Bl.refl _ | with_reducible refine Bl.drewN ?_ _ | with_reducible refine Bl.drew ?_ | with_reducible refine Bl.alloc ?_ _ | (with_reducible refine Bl.call ?_ (by assumption)))))) (h3.keep (by (repeat (first | assumption | with_reducible exact Bl.refl _ | with_reducible refine Bl.drewN ?_ _ | with_reducible refine Bl.drew ?_ | with_reducible refine Bl.alloc ?_ _ | (with_reducible refine Bl.call ?_ (by assumption)))))) (by omega) ho hi (hall.out r0 (by simp)) (hall.out r1 (by simp)) hall49.out hmem.out).mono ?_; rintro r w8 ⟨A8, c8, rfl, ho8, hb8⟩) | (go_at_call 102; refine (impl_viewCode A8 11 c8 _ 2 _ ho8.rd (by omega) (by omega) (by omega) hV.out).mono ?_; rintro r w9 ⟨rfl, rfl⟩; rw [hVC.out]))
  go_ret
  exact ⟨ret_int (by omega), (by (repeat (first | assumption | with_reducible exact Bl.refl _ | with_reducible refine Bl.drewN ?_ _ | with_reducible refine Bl.drew ?_ | with_reducible refine Bl.alloc ?_ _ | (with_reducible refine Bl.call ?_ (by assumption)))))⟩
set_option maxHeartbeats 2000000 in
theorem vwExtra_00 (r0 r1 r2 r3 r4 r5 r6 r7 r8 : Int) (A : Option Addr) (c : Nat) (w : World) (hl : RdI w A 9 c [r0, r1, r2, r3, r4, r5, r6, r7, r8]) (hall : ∀ z ∈ [r0, r1, r2, r3, r4, r5, r6, r7, r8], 0 ≤ z ∧ z < 2) :
    Calls Try.prog 107 #[.int .i64 0, .int .i64 0, .slice A 9 c] w fun r w' => r = .returned (.int .i64 (exF 0 0 [r0, r1, r2, r3, r4, r5, r6, r7, r8])) ∧ Bl w w' := by
  have hE : exF 0 0 [r0, r1, r2, r3, r4, r5, r6, r7, r8] = 0 := by simp [exF]
  rw [hE]
  clear hE
  obtain ⟨hle1, hle2⟩ := hl.le
  have hl9 := hl
  obtain ⟨ad, rfl, had, q0, qs⟩ := hl.lit (by omega)
  have kr0 : w.cell? ⟨ad.block, ad.off + 1, none⟩ = some (.int .i64 r1) := qs 1 _ (by omega) rfl
  clear qs q0
  have hall' := Lib.hid hall
  clear hall
  go_enter Try.func107, Try.ntmps107
  go_wp2_with (go_at_call 144; refine (vwShares1 2 r0 r1 r2 r3 r4 r5 r6 r7 r8 (some ad) c _ hl9 (by omega) hall'.out).mono ?_; rintro r w2 ⟨A2, c2, rfl, h2, hb2⟩)
  obtain ⟨hle3, hle4⟩ := h2.le
  obtain ⟨ax, rfl, hax, q0, qs⟩ := h2.lit (by omega)
  have kx2 : w2.cell? ⟨ax.block, ax.off + 2, none⟩ = some (.int .i64 ((r2 - r6) % 2)) := qs 2 _ (by omega) rfl
  have kx4 : w2.cell? ⟨ax.block, ax.off + 4, none⟩ = some (.int .i64 ((r2 * r3 - r8) % 2)) := qs 4 _ (by omega) rfl
  clear qs q0
  have kr := hb2.cells kr0
  have hwr1 : IntKind.i64.wrap 1 = 1 := rfl
  have hwr0 : IntKind.i64.wrap 0 = 0 := rfl
  go_wp2_with fail
  refine wp_region_held_drew (S := (fun w' => w'.cell? ⟨ax.block, ax.off + 2, none⟩ = some (.int .i64 ((r2 - r6) % 2)) ∧ w'.cell? ⟨ax.block, ax.off + 4, none⟩ = some (.int .i64 ((r2 * r3 - r8) % 2)) ∧ w'.cell? ⟨ad.block, ad.off + 1, none⟩ = some (.int .i64 r1))) (by kernel_rfl) ?_ (fun hHeld => ?_)
  · (try dsimp only); exact ⟨Bl.cells (by (repeat (first | assumption | with_reducible exact Bl.refl _ | with_reducible refine Bl.drewN ?_ _ | with_reducible refine Bl.drew ?_ | with_reducible refine Bl.alloc ?_ _ | (with_reducible refine Bl.call ?_ (by assumption))))) kx2, Bl.cells (by (repeat (first | assumption | with_reducible exact Bl.refl _ | with_reducible refine Bl.drewN ?_ _ | with_reducible refine Bl.drew ?_ | with_reducible refine Bl.alloc ?_ _ | (with_reducible refine Bl.call ?_ (by assumption))))) kx4, Bl.cells (by (repeat (first | assumption | with_reducible exact Bl.refl _ | with_reducible refine Bl.drewN ?_ _ | with_reducible refine Bl.drew ?_ | with_reducible refine Bl.alloc ?_ _ | (with_reducible refine Bl.call ?_ (by assumption))))) kr⟩
  refine held_take (i := 0) (d := 12) (v := ?_) rfl rfl (by kernel_rfl) (by kernel_rfl) (by kernel_rfl) (fun _ _ _ h => h) (Or.inl ⟨by rfl, ?_⟩) (by assumption) ?_
  rotate_left
  · (intro w hSw; (try dsimp only at hSw); go_simp; (try with_reducible rfl))
  (try simp only [List.set_cons_zero, List.set_cons_succ])
  refine held_take (i := 1) (d := 13) (v := ?_) rfl rfl (by kernel_rfl) (by kernel_rfl) (by kernel_rfl) (fun _ _ _ h => h) (Or.inl ⟨by rfl, ?_⟩) (by assumption) ?_
  rotate_left
  · (intro w hSw; (try dsimp only at hSw); go_simp; (try with_reducible rfl))
  (try simp only [List.set_cons_zero, List.set_cons_succ])
  refine held_take (i := 2) (d := 14) (v := ?_) rfl rfl (by kernel_rfl) (by kernel_rfl) (by kernel_rfl) (fun _ _ _ h => h) (Or.inl ⟨by rfl, ?_⟩) (by assumption) ?_
  rotate_left
  · (intro w hSw; (try dsimp only at hSw); go_simp; (try with_reducible rfl))
  (try simp only [List.set_cons_zero, List.set_cons_succ])
  refine held_take (i := 3) (d := 15) (v := ?_) rfl rfl (by kernel_rfl) (by kernel_rfl) (by kernel_rfl) (fun _ _ _ h => h) (Or.inl ⟨by rfl, ?_⟩) (by assumption) ?_
  rotate_left
  · (intro w hSw; (try dsimp only at hSw); go_simp; (try with_reducible rfl))
  (try simp only [List.set_cons_zero, List.set_cons_succ])
  refine held_take (i := 4) (d := 16) (v := ?_) rfl rfl (by kernel_rfl) (by kernel_rfl) (by kernel_rfl) (fun _ _ _ h => h) (Or.inl ⟨by rfl, ?_⟩) (by assumption) ?_
  rotate_left
  · (intro w hSw; (try dsimp only at hSw); go_simp; (try with_reducible rfl))
  (try simp only [List.set_cons_zero, List.set_cons_succ])
  refine held_take (i := 5) (d := 17) (v := ?_) rfl rfl (by kernel_rfl) (by kernel_rfl) (by kernel_rfl) (fun _ _ _ h => h) (Or.inl ⟨by rfl, ?_⟩) (by assumption) ?_
  rotate_left
  · (intro w hSw; (try dsimp only at hSw); go_simp; (try with_reducible rfl))
  (try simp only [List.set_cons_zero, List.set_cons_succ])
  refine held_take (i := 6) (d := 18) (v := ?_) rfl rfl (by kernel_rfl) (by kernel_rfl) (by kernel_rfl) (fun _ _ _ h => h) (Or.inl ⟨by rfl, ?_⟩) (by assumption) ?_
  rotate_left
  · (intro w hSw; (try dsimp only at hSw); go_simp; (try with_reducible rfl))
  (try simp only [List.set_cons_zero, List.set_cons_succ])
  refine held_take (i := 7) (d := 19) (v := ?_) rfl rfl (by kernel_rfl) (by kernel_rfl) (by kernel_rfl) (fun _ _ _ h => h) (Or.inl ⟨by rfl, ?_⟩) (by assumption) ?_
  rotate_left
  · (intro w hSw; (try dsimp only at hSw); go_simp; (try with_reducible rfl))
  (try simp only [List.set_cons_zero, List.set_cons_succ])
  refine held_take (i := 8) (d := 20) (v := ?_) rfl rfl (by kernel_rfl) (by kernel_rfl) (by kernel_rfl) (fun _ _ _ h => h) (Or.inl ⟨by rfl, ?_⟩) (by assumption) ?_
  rotate_left
  · (intro w hSw; (try dsimp only at hSw); go_simp; (try with_reducible rfl))
  (try simp only [List.set_cons_zero, List.set_cons_succ])
  refine held_take (i := 9) (d := 21) (v := ?_) rfl rfl (by kernel_rfl) (by kernel_rfl) (by kernel_rfl) (fun _ _ _ h => h) (Or.inl ⟨by rfl, ?_⟩) (by assumption) ?_
  rotate_left
  · (intro w hSw; (try dsimp only at hSw); go_simp; (try with_reducible rfl))
  (try simp only [List.set_cons_zero, List.set_cons_succ])
  refine held_take (i := 10) (d := 22) (v := ?_) rfl rfl (by kernel_rfl) (by kernel_rfl) (by kernel_rfl) (fun _ _ _ h => h) (Or.inl ⟨by rfl, ?_⟩) (by assumption) ?_
  rotate_left
  · (intro w hSw; (try dsimp only at hSw); go_simp; (try with_reducible rfl))
  (try simp only [List.set_cons_zero, List.set_cons_succ])
  refine held_take (i := 12) (d := 24) (v := ?_) rfl rfl (by kernel_rfl) (by kernel_rfl) (by kernel_rfl) (fun _ _ _ h => h) (Or.inl ⟨by rfl, ?_⟩) (by assumption) ?_
  rotate_left
  · (intro w hSw; (try dsimp only at hSw); go_simp; (try with_reducible rfl))
  (try simp only [List.set_cons_zero, List.set_cons_succ])
  refine wpAnyH_ready (rs := [11]) (by kernel_rfl) (by simp) ?_
  refine AllReadyH.cons rfl (fun K hK => ?_) AllReadyH.nil
  go_simp
  refine hK.out _ _ ?_ (fun hHeld => ?_)
  · (try dsimp only); exact ⟨Bl.cells (by (repeat (first | assumption | with_reducible exact Bl.refl _ | with_reducible refine Bl.drewN ?_ _ | with_reducible refine Bl.drew ?_ | with_reducible refine Bl.alloc ?_ _ | (with_reducible refine Bl.call ?_ (by assumption))))) kx2, Bl.cells (by (repeat (first | assumption | with_reducible exact Bl.refl _ | with_reducible refine Bl.drewN ?_ _ | with_reducible refine Bl.drew ?_ | with_reducible refine Bl.alloc ?_ _ | (with_reducible refine Bl.call ?_ (by assumption))))) kx4, Bl.cells (by (repeat (first | assumption | with_reducible exact Bl.refl _ | with_reducible refine Bl.drewN ?_ _ | with_reducible refine Bl.drew ?_ | with_reducible refine Bl.alloc ?_ _ | (with_reducible refine Bl.call ?_ (by assumption))))) kr⟩
  clear hK K
  (try simp only [Act.put]); (try simp only [List.setIfInBounds_toArray]); (try simp only [List.set_cons_succ]); (try simp only [List.set_cons_zero])
  refine held_take (i := 13) (d := 25) (v := ?_) rfl rfl (by kernel_rfl) (by kernel_rfl) (by kernel_rfl) (fun _ _ _ h => h) (Or.inl ⟨by rfl, ?_⟩) (by assumption) ?_
  rotate_left
  · (intro w hSw; (try dsimp only at hSw); go_simp; (try with_reducible rfl))
  (try simp only [List.set_cons_zero, List.set_cons_succ])
  refine wpAnyH_ready (rs := [14]) (by kernel_rfl) (by simp) ?_
  refine AllReadyH.cons rfl (fun K hK => ?_) AllReadyH.nil
  go_simp
  refine hK.out _ _ ?_ (fun hHeld => ?_)
  · (try dsimp only); exact ⟨Bl.cells (by (repeat (first | assumption | with_reducible exact Bl.refl _ | with_reducible refine Bl.drewN ?_ _ | with_reducible refine Bl.drew ?_ | with_reducible refine Bl.alloc ?_ _ | (with_reducible refine Bl.call ?_ (by assumption))))) kx2, Bl.cells (by (repeat (first | assumption | with_reducible exact Bl.refl _ | with_reducible refine Bl.drewN ?_ _ | with_reducible refine Bl.drew ?_ | with_reducible refine Bl.alloc ?_ _ | (with_reducible refine Bl.call ?_ (by assumption))))) kx4, Bl.cells (by (repeat (first | assumption | with_reducible exact Bl.refl _ | with_reducible refine Bl.drewN ?_ _ | with_reducible refine Bl.drew ?_ | with_reducible refine Bl.alloc ?_ _ | (with_reducible refine Bl.call ?_ (by assumption))))) kr⟩
  clear hK K
  (try simp only [Act.put]); (try simp only [List.setIfInBounds_toArray]); (try simp only [List.set_cons_succ]); (try simp only [List.set_cons_zero])
  refine held_take (i := 15) (d := 6) (v := ?_) rfl rfl (by kernel_rfl) (by kernel_rfl) (by kernel_rfl) (fun _ _ _ h => h) (Or.inl ⟨by rfl, ?_⟩) (by assumption) ?_
  rotate_left
  · (intro w hSw; (try dsimp only at hSw); go_simp; (try with_reducible rfl))
  (try simp only [List.set_cons_zero, List.set_cons_succ])
  refine wpAnyH_done (by kernel_rfl) ?_ _
  go_wp2
  go_ret
  exact ⟨rfl, (by (repeat (first | assumption | with_reducible exact Bl.refl _ | with_reducible refine Bl.drewN ?_ _ | with_reducible refine Bl.drew ?_ | with_reducible refine Bl.alloc ?_ _ | (with_reducible refine Bl.call ?_ (by assumption)))))⟩
set_option maxHeartbeats 2000000 in
theorem vwExtra_01 (r0 r1 r2 r3 r4 r5 r6 r7 r8 : Int) (A : Option Addr) (c : Nat) (w : World) (hl : RdI w A 9 c [r0, r1, r2, r3, r4, r5, r6, r7, r8]) (hall : ∀ z ∈ [r0, r1, r2, r3, r4, r5, r6, r7, r8], 0 ≤ z ∧ z < 2) :
    Calls Try.prog 107 #[.int .i64 0, .int .i64 1, .slice A 9 c] w fun r w' => r = .returned (.int .i64 (exF 0 1 [r0, r1, r2, r3, r4, r5, r6, r7, r8])) ∧ Bl w w' := by
  have hE : exF 0 1 [r0, r1, r2, r3, r4, r5, r6, r7, r8] = (r2 - r6) % 2 := by simp [exF]
  rw [hE]
  clear hE
  obtain ⟨hle1, hle2⟩ := hl.le
  have hl9 := hl
  obtain ⟨ad, rfl, had, q0, qs⟩ := hl.lit (by omega)
  have kr0 : w.cell? ⟨ad.block, ad.off + 1, none⟩ = some (.int .i64 r1) := qs 1 _ (by omega) rfl
  clear qs q0
  have hall' := Lib.hid hall
  clear hall
  go_enter Try.func107, Try.ntmps107
  go_wp2_with (go_at_call 144; refine (vwShares1 2 r0 r1 r2 r3 r4 r5 r6 r7 r8 (some ad) c _ hl9 (by omega) hall'.out).mono ?_; rintro r w2 ⟨A2, c2, rfl, h2, hb2⟩)
  obtain ⟨hle3, hle4⟩ := h2.le
  obtain ⟨ax, rfl, hax, q0, qs⟩ := h2.lit (by omega)
  have kx2 : w2.cell? ⟨ax.block, ax.off + 2, none⟩ = some (.int .i64 ((r2 - r6) % 2)) := qs 2 _ (by omega) rfl
  have kx4 : w2.cell? ⟨ax.block, ax.off + 4, none⟩ = some (.int .i64 ((r2 * r3 - r8) % 2)) := qs 4 _ (by omega) rfl
  clear qs q0
  have kr := hb2.cells kr0
  have hwr1 : IntKind.i64.wrap 1 = 1 := rfl
  have hwr0 : IntKind.i64.wrap 0 = 0 := rfl
  go_wp2_with fail
  refine wp_region_held_drew (S := (fun w' => w'.cell? ⟨ax.block, ax.off + 2, none⟩ = some (.int .i64 ((r2 - r6) % 2)) ∧ w'.cell? ⟨ax.block, ax.off + 4, none⟩ = some (.int .i64 ((r2 * r3 - r8) % 2)) ∧ w'.cell? ⟨ad.block, ad.off + 1, none⟩ = some (.int .i64 r1))) (by kernel_rfl) ?_ (fun hHeld => ?_)
  · (try dsimp only); exact ⟨Bl.cells (by (repeat (first | assumption | with_reducible exact Bl.refl _ | with_reducible refine Bl.drewN ?_ _ | with_reducible refine Bl.drew ?_ | with_reducible refine Bl.alloc ?_ _ | (with_reducible refine Bl.call ?_ (by assumption))))) kx2, Bl.cells (by (repeat (first | assumption | with_reducible exact Bl.refl _ | with_reducible refine Bl.drewN ?_ _ | with_reducible refine Bl.drew ?_ | with_reducible refine Bl.alloc ?_ _ | (with_reducible refine Bl.call ?_ (by assumption))))) kx4, Bl.cells (by (repeat (first | assumption | with_reducible exact Bl.refl _ | with_reducible refine Bl.drewN ?_ _ | with_reducible refine Bl.drew ?_ | with_reducible refine Bl.alloc ?_ _ | (with_reducible refine Bl.call ?_ (by assumption))))) kr⟩
  refine held_take (i := 0) (d := 12) (v := ?_) rfl rfl (by kernel_rfl) (by kernel_rfl) (by kernel_rfl) (fun _ _ _ h => h) (Or.inl ⟨by rfl, ?_⟩) (by assumption) ?_
  rotate_left
  · (intro w hSw; (try dsimp only at hSw); go_simp; (try with_reducible rfl))
  (try simp only [List.set_cons_zero, List.set_cons_succ])
  refine held_take (i := 1) (d := 13) (v := ?_) rfl rfl (by kernel_rfl) (by kernel_rfl) (by kernel_rfl) (fun _ _ _ h => h) (Or.inl ⟨by rfl, ?_⟩) (by assumption) ?_
  rotate_left
  · (intro w hSw; (try dsimp only at hSw); go_simp; (try with_reducible rfl))
  (try simp only [List.set_cons_zero, List.set_cons_succ])
  refine held_take (i := 2) (d := 14) (v := ?_) rfl rfl (by kernel_rfl) (by kernel_rfl) (by kernel_rfl) (fun _ _ _ h => h) (Or.inl ⟨by rfl, ?_⟩) (by assumption) ?_
  rotate_left
  · (intro w hSw; (try dsimp only at hSw); go_simp; (try with_reducible rfl))
  (try simp only [List.set_cons_zero, List.set_cons_succ])
  refine held_take (i := 3) (d := 15) (v := ?_) rfl rfl (by kernel_rfl) (by kernel_rfl) (by kernel_rfl) (fun _ _ _ h => h) (Or.inl ⟨by rfl, ?_⟩) (by assumption) ?_
  rotate_left
  · (intro w hSw; (try dsimp only at hSw); go_simp; (try with_reducible rfl))
  (try simp only [List.set_cons_zero, List.set_cons_succ])
  refine held_take (i := 4) (d := 16) (v := ?_) rfl rfl (by kernel_rfl) (by kernel_rfl) (by kernel_rfl) (fun _ _ _ h => h) (Or.inl ⟨by rfl, ?_⟩) (by assumption) ?_
  rotate_left
  · (intro w hSw; (try dsimp only at hSw); go_simp; (try with_reducible rfl))
  (try simp only [List.set_cons_zero, List.set_cons_succ])
  refine held_take (i := 5) (d := 17) (v := ?_) rfl rfl (by kernel_rfl) (by kernel_rfl) (by kernel_rfl) (fun _ _ _ h => h) (Or.inl ⟨by rfl, ?_⟩) (by assumption) ?_
  rotate_left
  · (intro w hSw; (try dsimp only at hSw); go_simp; (try with_reducible rfl))
  (try simp only [List.set_cons_zero, List.set_cons_succ])
  refine held_take (i := 6) (d := 18) (v := ?_) rfl rfl (by kernel_rfl) (by kernel_rfl) (by kernel_rfl) (fun _ _ _ h => h) (Or.inl ⟨by rfl, ?_⟩) (by assumption) ?_
  rotate_left
  · (intro w hSw; (try dsimp only at hSw); go_simp; (try with_reducible rfl))
  (try simp only [List.set_cons_zero, List.set_cons_succ])
  refine held_take (i := 7) (d := 19) (v := ?_) rfl rfl (by kernel_rfl) (by kernel_rfl) (by kernel_rfl) (fun _ _ _ h => h) (Or.inl ⟨by rfl, ?_⟩) (by assumption) ?_
  rotate_left
  · (intro w hSw; (try dsimp only at hSw); go_simp; (try with_reducible rfl))
  (try simp only [List.set_cons_zero, List.set_cons_succ])
  refine held_take (i := 8) (d := 20) (v := ?_) rfl rfl (by kernel_rfl) (by kernel_rfl) (by kernel_rfl) (fun _ _ _ h => h) (Or.inl ⟨by rfl, ?_⟩) (by assumption) ?_
  rotate_left
  · (intro w hSw; (try dsimp only at hSw); go_simp; (try with_reducible rfl))
  (try simp only [List.set_cons_zero, List.set_cons_succ])
  refine held_take (i := 9) (d := 21) (v := ?_) rfl rfl (by kernel_rfl) (by kernel_rfl) (by kernel_rfl) (fun _ _ _ h => h) (Or.inl ⟨by rfl, ?_⟩) (by assumption) ?_
  rotate_left
  · (intro w hSw; (try dsimp only at hSw); go_simp; (try with_reducible rfl))
  (try simp only [List.set_cons_zero, List.set_cons_succ])
  refine held_take (i := 10) (d := 22) (v := ?_) rfl rfl (by kernel_rfl) (by kernel_rfl) (by kernel_rfl) (fun _ _ _ h => h) (Or.inl ⟨by rfl, ?_⟩) (by assumption) ?_
  rotate_left
  · (intro w hSw; (try dsimp only at hSw); go_simp; (try with_reducible rfl))
  (try simp only [List.set_cons_zero, List.set_cons_succ])
  refine held_take (i := 12) (d := 24) (v := ?_) rfl rfl (by kernel_rfl) (by kernel_rfl) (by kernel_rfl) (fun _ _ _ h => h) (Or.inl ⟨by rfl, ?_⟩) (by assumption) ?_
  rotate_left
  · (intro w hSw; (try dsimp only at hSw); go_simp; (try with_reducible rfl))
  (try simp only [List.set_cons_zero, List.set_cons_succ])
  refine wpAnyH_ready (rs := [11]) (by kernel_rfl) (by simp) ?_
  refine AllReadyH.cons rfl (fun K hK => ?_) AllReadyH.nil
  go_simp
  refine hK.out _ _ ?_ (fun hHeld => ?_)
  · (try dsimp only); exact ⟨Bl.cells (by (repeat (first | assumption | with_reducible exact Bl.refl _ | with_reducible refine Bl.drewN ?_ _ | with_reducible refine Bl.drew ?_ | with_reducible refine Bl.alloc ?_ _ | (with_reducible refine Bl.call ?_ (by assumption))))) kx2, Bl.cells (by (repeat (first | assumption | with_reducible exact Bl.refl _ | with_reducible refine Bl.drewN ?_ _ | with_reducible refine Bl.drew ?_ | with_reducible refine Bl.alloc ?_ _ | (with_reducible refine Bl.call ?_ (by assumption))))) kx4, Bl.cells (by (repeat (first | assumption | with_reducible exact Bl.refl _ | with_reducible refine Bl.drewN ?_ _ | with_reducible refine Bl.drew ?_ | with_reducible refine Bl.alloc ?_ _ | (with_reducible refine Bl.call ?_ (by assumption))))) kr⟩
  clear hK K
  (try simp only [Act.put]); (try simp only [List.setIfInBounds_toArray]); (try simp only [List.set_cons_succ]); (try simp only [List.set_cons_zero])
  refine held_take (i := 13) (d := 25) (v := ?_) rfl rfl (by kernel_rfl) (by kernel_rfl) (by kernel_rfl) (fun _ _ _ h => h) (Or.inl ⟨by rfl, ?_⟩) (by assumption) ?_
  rotate_left
  · (intro w hSw; (try dsimp only at hSw); go_simp; (try with_reducible rfl))
  (try simp only [List.set_cons_zero, List.set_cons_succ])
  refine wpAnyH_ready (rs := [14]) (by kernel_rfl) (by simp) ?_
  refine AllReadyH.cons rfl (fun K hK => ?_) AllReadyH.nil
  go_simp
  refine hK.out _ _ ?_ (fun hHeld => ?_)
  · (try dsimp only); exact ⟨Bl.cells (by (repeat (first | assumption | with_reducible exact Bl.refl _ | with_reducible refine Bl.drewN ?_ _ | with_reducible refine Bl.drew ?_ | with_reducible refine Bl.alloc ?_ _ | (with_reducible refine Bl.call ?_ (by assumption))))) kx2, Bl.cells (by (repeat (first | assumption | with_reducible exact Bl.refl _ | with_reducible refine Bl.drewN ?_ _ | with_reducible refine Bl.drew ?_ | with_reducible refine Bl.alloc ?_ _ | (with_reducible refine Bl.call ?_ (by assumption))))) kx4, Bl.cells (by (repeat (first | assumption | with_reducible exact Bl.refl _ | with_reducible refine Bl.drewN ?_ _ | with_reducible refine Bl.drew ?_ | with_reducible refine Bl.alloc ?_ _ | (with_reducible refine Bl.call ?_ (by assumption))))) kr⟩
  clear hK K
  (try simp only [Act.put]); (try simp only [List.setIfInBounds_toArray]); (try simp only [List.set_cons_succ]); (try simp only [List.set_cons_zero])
  refine held_take (i := 15) (d := 6) (v := ?_) rfl rfl (by kernel_rfl) (by kernel_rfl) (by kernel_rfl) (fun _ _ _ h => h) (Or.inl ⟨by rfl, ?_⟩) (by assumption) ?_
  rotate_left
  · (intro w hSw; (try dsimp only at hSw); go_simp; (try with_reducible rfl))
  (try simp only [List.set_cons_zero, List.set_cons_succ])
  refine wpAnyH_done (by kernel_rfl) ?_ _
  go_wp2
  go_ret
  exact ⟨rfl, (by (repeat (first | assumption | with_reducible exact Bl.refl _ | with_reducible refine Bl.drewN ?_ _ | with_reducible refine Bl.drew ?_ | with_reducible refine Bl.alloc ?_ _ | (with_reducible refine Bl.call ?_ (by assumption)))))⟩
set_option maxHeartbeats 2000000 in
theorem vwExtra_02 (r0 r1 r2 r3 r4 r5 r6 r7 r8 : Int) (A : Option Addr) (c : Nat) (w : World) (hl : RdI w A 9 c [r0, r1, r2, r3, r4, r5, r6, r7, r8]) (hall : ∀ z ∈ [r0, r1, r2, r3, r4, r5, r6, r7, r8], 0 ≤ z ∧ z < 2) :
    Calls Try.prog 107 #[.int .i64 0, .int .i64 2, .slice A 9 c] w fun r w' => r = .returned (.int .i64 (exF 0 2 [r0, r1, r2, r3, r4, r5, r6, r7, r8])) ∧ Bl w w' := by
  have hE : exF 0 2 [r0, r1, r2, r3, r4, r5, r6, r7, r8] = (r2 * r3 - r8) % 2 := by simp [exF]
  rw [hE]
  clear hE
  obtain ⟨hle1, hle2⟩ := hl.le
  have hl9 := hl
  obtain ⟨ad, rfl, had, q0, qs⟩ := hl.lit (by omega)
  have kr0 : w.cell? ⟨ad.block, ad.off + 1, none⟩ = some (.int .i64 r1) := qs 1 _ (by omega) rfl
  clear qs q0
  have hall' := Lib.hid hall
  clear hall
  go_enter Try.func107, Try.ntmps107
  go_wp2_with (go_at_call 144; refine (vwShares1 2 r0 r1 r2 r3 r4 r5 r6 r7 r8 (some ad) c _ hl9 (by omega) hall'.out).mono ?_; rintro r w2 ⟨A2, c2, rfl, h2, hb2⟩)
  obtain ⟨hle3, hle4⟩ := h2.le
  obtain ⟨ax, rfl, hax, q0, qs⟩ := h2.lit (by omega)
  have kx2 : w2.cell? ⟨ax.block, ax.off + 2, none⟩ = some (.int .i64 ((r2 - r6) % 2)) := qs 2 _ (by omega) rfl
  have kx4 : w2.cell? ⟨ax.block, ax.off + 4, none⟩ = some (.int .i64 ((r2 * r3 - r8) % 2)) := qs 4 _ (by omega) rfl
  clear qs q0
  have kr := hb2.cells kr0
  have hwr1 : IntKind.i64.wrap 1 = 1 := rfl
  have hwr0 : IntKind.i64.wrap 0 = 0 := rfl
  go_wp2_with fail
  refine wp_region_held_drew (S := (fun w' => w'.cell? ⟨ax.block, ax.off + 2, none⟩ = some (.int .i64 ((r2 - r6) % 2)) ∧ w'.cell? ⟨ax.block, ax.off + 4, none⟩ = some (.int .i64 ((r2 * r3 - r8) % 2)) ∧ w'.cell? ⟨ad.block, ad.off + 1, none⟩ = some (.int .i64 r1))) (by kernel_rfl) ?_ (fun hHeld => ?_)
  · (try dsimp only); exact ⟨Bl.cells (by (repeat (first | assumption | with_reducible exact Bl.refl _ | with_reducible refine Bl.drewN ?_ _ | with_reducible refine Bl.drew ?_ | with_reducible refine Bl.alloc ?_ _ | (with_reducible refine Bl.call ?_ (by assumption))))) kx2, Bl.cells (by (repeat (first | assumption | with_reducible exact Bl.refl _ | with_reducible refine Bl.drewN ?_ _ | with_reducible refine Bl.drew ?_ | with_reducible refine Bl.alloc ?_ _ | (with_reducible refine Bl.call ?_ (by assumption))))) kx4, Bl.cells (by (repeat (first | assumption | with_reducible exact Bl.refl _ | with_reducible refine Bl.drewN ?_ _ | with_reducible refine Bl.drew ?_ | with_reducible refine Bl.alloc ?_ _ | (with_reducible refine Bl.call ?_ (by assumption))))) kr⟩
  refine held_take (i := 0) (d := 12) (v := ?_) rfl rfl (by kernel_rfl) (by kernel_rfl) (by kernel_rfl) (fun _ _ _ h => h) (Or.inl ⟨by rfl, ?_⟩) (by assumption) ?_
  rotate_left
  · (intro w hSw; (try dsimp only at hSw); go_simp; (try with_reducible rfl))
  (try simp only [List.set_cons_zero, List.set_cons_succ])
  refine held_take (i := 1) (d := 13) (v := ?_) rfl rfl (by kernel_rfl) (by kernel_rfl) (by kernel_rfl) (fun _ _ _ h => h) (Or.inl ⟨by rfl, ?_⟩) (by assumption) ?_
  rotate_left
  · (intro w hSw; (try dsimp only at hSw); go_simp; (try with_reducible rfl))
  (try simp only [List.set_cons_zero, List.set_cons_succ])
  refine held_take (i := 2) (d := 14) (v := ?_) rfl rfl (by kernel_rfl) (by kernel_rfl) (by kernel_rfl) (fun _ _ _ h => h) (Or.inl ⟨by rfl, ?_⟩) (by assumption) ?_
  rotate_left
  · (intro w hSw; (try dsimp only at hSw); go_simp; (try with_reducible rfl))
  (try simp only [List.set_cons_zero, List.set_cons_succ])
  refine held_take (i := 3) (d := 15) (v := ?_) rfl rfl (by kernel_rfl) (by kernel_rfl) (by kernel_rfl) (fun _ _ _ h => h) (Or.inl ⟨by rfl, ?_⟩) (by assumption) ?_
  rotate_left
  · (intro w hSw; (try dsimp only at hSw); go_simp; (try with_reducible rfl))
  (try simp only [List.set_cons_zero, List.set_cons_succ])
  refine held_take (i := 4) (d := 16) (v := ?_) rfl rfl (by kernel_rfl) (by kernel_rfl) (by kernel_rfl) (fun _ _ _ h => h) (Or.inl ⟨by rfl, ?_⟩) (by assumption) ?_
  rotate_left
  · (intro w hSw; (try dsimp only at hSw); go_simp; (try with_reducible rfl))
  (try simp only [List.set_cons_zero, List.set_cons_succ])
  refine held_take (i := 5) (d := 17) (v := ?_) rfl rfl (by kernel_rfl) (by kernel_rfl) (by kernel_rfl) (fun _ _ _ h => h) (Or.inl ⟨by rfl, ?_⟩) (by assumption) ?_
  rotate_left
  · (intro w hSw; (try dsimp only at hSw); go_simp; (try with_reducible rfl))
  (try simp only [List.set_cons_zero, List.set_cons_succ])
  refine held_take (i := 6) (d := 18) (v := ?_) rfl rfl (by kernel_rfl) (by kernel_rfl) (by kernel_rfl) (fun _ _ _ h => h) (Or.inl ⟨by rfl, ?_⟩) (by assumption) ?_
  rotate_left
  · (intro w hSw; (try dsimp only at hSw); go_simp; (try with_reducible rfl))
  (try simp only [List.set_cons_zero, List.set_cons_succ])
  refine held_take (i := 7) (d := 19) (v := ?_) rfl rfl (by kernel_rfl) (by kernel_rfl) (by kernel_rfl) (fun _ _ _ h => h) (Or.inl ⟨by rfl, ?_⟩) (by assumption) ?_
  rotate_left
  · (intro w hSw; (try dsimp only at hSw); go_simp; (try with_reducible rfl))
  (try simp only [List.set_cons_zero, List.set_cons_succ])
  refine held_take (i := 8) (d := 20) (v := ?_) rfl rfl (by kernel_rfl) (by kernel_rfl) (by kernel_rfl) (fun _ _ _ h => h) (Or.inl ⟨by rfl, ?_⟩) (by assumption) ?_
  rotate_left
  · (intro w hSw; (try dsimp only at hSw); go_simp; (try with_reducible rfl))
  (try simp only [List.set_cons_zero, List.set_cons_succ])
  refine held_take (i := 9) (d := 21) (v := ?_) rfl rfl (by kernel_rfl) (by kernel_rfl) (by kernel_rfl) (fun _ _ _ h => h) (Or.inl ⟨by rfl, ?_⟩) (by assumption) ?_
  rotate_left
  · (intro w hSw; (try dsimp only at hSw); go_simp; (try with_reducible rfl))
  (try simp only [List.set_cons_zero, List.set_cons_succ])
  refine held_take (i := 10) (d := 22) (v := ?_) rfl rfl (by kernel_rfl) (by kernel_rfl) (by kernel_rfl) (fun _ _ _ h => h) (Or.inl ⟨by rfl, ?_⟩) (by assumption) ?_
  rotate_left
  · (intro w hSw; (try dsimp only at hSw); go_simp; (try with_reducible rfl))
  (try simp only [List.set_cons_zero, List.set_cons_succ])
  refine held_take (i := 12) (d := 24) (v := ?_) rfl rfl (by kernel_rfl) (by kernel_rfl) (by kernel_rfl) (fun _ _ _ h => h) (Or.inl ⟨by rfl, ?_⟩) (by assumption) ?_
  rotate_left
  · (intro w hSw; (try dsimp only at hSw); go_simp; (try with_reducible rfl))
  (try simp only [List.set_cons_zero, List.set_cons_succ])
  refine wpAnyH_ready (rs := [11]) (by kernel_rfl) (by simp) ?_
  refine AllReadyH.cons rfl (fun K hK => ?_) AllReadyH.nil
  go_simp
  refine hK.out _ _ ?_ (fun hHeld => ?_)
  · (try dsimp only); exact ⟨Bl.cells (by (repeat (first | assumption | with_reducible exact Bl.refl _ | with_reducible refine Bl.drewN ?_ _ | with_reducible refine Bl.drew ?_ | with_reducible refine Bl.alloc ?_ _ | (with_reducible refine Bl.call ?_ (by assumption))))) kx2, Bl.cells (by (repeat (first | assumption | with_reducible exact Bl.refl _ | with_reducible refine Bl.drewN ?_ _ | with_reducible refine Bl.drew ?_ | with_reducible refine Bl.alloc ?_ _ | (with_reducible refine Bl.call ?_ (by assumption))))) kx4, Bl.cells (by (repeat (first | assumption | with_reducible exact Bl.refl _ | with_reducible refine Bl.drewN ?_ _ | with_reducible refine Bl.drew ?_ | with_reducible refine Bl.alloc ?_ _ | (with_reducible refine Bl.call ?_ (by assumption))))) kr⟩
  clear hK K
  (try simp only [Act.put]); (try simp only [List.setIfInBounds_toArray]); (try simp only [List.set_cons_succ]); (try simp only [List.set_cons_zero])
  refine held_take (i := 13) (d := 25) (v := ?_) rfl rfl (by kernel_rfl) (by kernel_rfl) (by kernel_rfl) (fun _ _ _ h => h) (Or.inl ⟨by rfl, ?_⟩) (by assumption) ?_
  rotate_left
  · (intro w hSw; (try dsimp only at hSw); go_simp; (try with_reducible rfl))
  (try simp only [List.set_cons_zero, List.set_cons_succ])
  refine wpAnyH_ready (rs := [14]) (by kernel_rfl) (by simp) ?_
  refine AllReadyH.cons rfl (fun K hK => ?_) AllReadyH.nil
  go_simp
  refine hK.out _ _ ?_ (fun hHeld => ?_)
  · (try dsimp only); exact ⟨Bl.cells (by (repeat (first | assumption | with_reducible exact Bl.refl _ | with_reducible refine Bl.drewN ?_ _ | with_reducible refine Bl.drew ?_ | with_reducible refine Bl.alloc ?_ _ | (with_reducible refine Bl.call ?_ (by assumption))))) kx2, Bl.cells (by (repeat (first | assumption | with_reducible exact Bl.refl _ | with_reducible refine Bl.drewN ?_ _ | with_reducible refine Bl.drew ?_ | with_reducible refine Bl.alloc ?_ _ | (with_reducible refine Bl.call ?_ (by assumption))))) kx4, Bl.cells (by (repeat (first | assumption | with_reducible exact Bl.refl _ | with_reducible refine Bl.drewN ?_ _ | with_reducible refine Bl.drew ?_ | with_reducible refine Bl.alloc ?_ _ | (with_reducible refine Bl.call ?_ (by assumption))))) kr⟩
  clear hK K
  (try simp only [Act.put]); (try simp only [List.setIfInBounds_toArray]); (try simp only [List.set_cons_succ]); (try simp only [List.set_cons_zero])
  refine held_take (i := 15) (d := 6) (v := ?_) rfl rfl (by kernel_rfl) (by kernel_rfl) (by kernel_rfl) (fun _ _ _ h => h) (Or.inl ⟨by rfl, ?_⟩) (by assumption) ?_
  rotate_left
  · (intro w hSw; (try dsimp only at hSw); go_simp; (try with_reducible rfl))
  (try simp only [List.set_cons_zero, List.set_cons_succ])
  refine wpAnyH_done (by kernel_rfl) ?_ _
  go_wp2
  go_ret
  exact ⟨rfl, (by (repeat (first | assumption | with_reducible exact Bl.refl _ | with_reducible refine Bl.drewN ?_ _ | with_reducible refine Bl.drew ?_ | with_reducible refine Bl.alloc ?_ _ | (with_reducible refine Bl.call ?_ (by assumption)))))⟩
set_option maxHeartbeats 2000000 in
theorem vwExtra_03 (r0 r1 r2 r3 r4 r5 r6 r7 r8 : Int) (A : Option Addr) (c : Nat) (w : World) (hl : RdI w A 9 c [r0, r1, r2, r3, r4, r5, r6, r7, r8]) (hall : ∀ z ∈ [r0, r1, r2, r3, r4, r5, r6, r7, r8], 0 ≤ z ∧ z < 2) :
    Calls Try.prog 107 #[.int .i64 0, .int .i64 3, .slice A 9 c] w fun r w' => r = .returned (.int .i64 (exF 0 3 [r0, r1, r2, r3, r4, r5, r6, r7, r8])) ∧ Bl w w' := by
  have hE : exF 0 3 [r0, r1, r2, r3, r4, r5, r6, r7, r8] = r1 := by simp [exF]
  rw [hE]
  clear hE
  obtain ⟨hle1, hle2⟩ := hl.le
  have hl9 := hl
  obtain ⟨ad, rfl, had, q0, qs⟩ := hl.lit (by omega)
  have kr0 : w.cell? ⟨ad.block, ad.off + 1, none⟩ = some (.int .i64 r1) := qs 1 _ (by omega) rfl
  clear qs q0
  have hall' := Lib.hid hall
  clear hall
  go_enter Try.func107, Try.ntmps107
  go_wp2_with (go_at_call 144; refine (vwShares1 2 r0 r1 r2 r3 r4 r5 r6 r7 r8 (some ad) c _ hl9 (by omega) hall'.out).mono ?_; rintro r w2 ⟨A2, c2, rfl, h2, hb2⟩)
  obtain ⟨hle3, hle4⟩ := h2.le
  obtain ⟨ax, rfl, hax, q0, qs⟩ := h2.lit (by omega)
  have kx2 : w2.cell? ⟨ax.block, ax.off + 2, none⟩ = some (.int .i64 ((r2 - r6) % 2)) := qs 2 _ (by omega) rfl
  have kx4 : w2.cell? ⟨ax.block, ax.off + 4, none⟩ = some (.int .i64 ((r2 * r3 - r8) % 2)) := qs 4 _ (by omega) rfl
  clear qs q0
  have kr := hb2.cells kr0
  have hwr1 : IntKind.i64.wrap 1 = 1 := rfl
  have hwr0 : IntKind.i64.wrap 0 = 0 := rfl
  go_wp2_with fail
  refine wp_region_held_drew (S := (fun w' => w'.cell? ⟨ax.block, ax.off + 2, none⟩ = some (.int .i64 ((r2 - r6) % 2)) ∧ w'.cell? ⟨ax.block, ax.off + 4, none⟩ = some (.int .i64 ((r2 * r3 - r8) % 2)) ∧ w'.cell? ⟨ad.block, ad.off + 1, none⟩ = some (.int .i64 r1))) (by kernel_rfl) ?_ (fun hHeld => ?_)
  · (try dsimp only); exact ⟨Bl.cells (by (repeat (first | assumption | with_reducible exact Bl.refl _ | with_reducible refine Bl.drewN ?_ _ | with_reducible refine Bl.drew ?_ | with_reducible refine Bl.alloc ?_ _ | (with_reducible refine Bl.call ?_ (by assumption))))) kx2, Bl.cells (by (repeat (first | assumption | with_reducible exact Bl.refl _ | with_reducible refine Bl.drewN ?_ _ | with_reducible refine Bl.drew ?_ | with_reducible refine Bl.alloc ?_ _ | (with_reducible refine Bl.call ?_ (by assumption))))) kx4, Bl.cells (by (repeat (first | assumption | with_reducible exact Bl.refl _ | with_reducible refine Bl.drewN ?_ _ | with_reducible refine Bl.drew ?_ | with_reducible refine Bl.alloc ?_ _ | (with_reducible refine Bl.call ?_ (by assumption))))) kr⟩
  refine held_take (i := 0) (d := 12) (v := ?_) rfl rfl (by kernel_rfl) (by kernel_rfl) (by kernel_rfl) (fun _ _ _ h => h) (Or.inl ⟨by rfl, ?_⟩) (by assumption) ?_
  rotate_left
  · (intro w hSw; (try dsimp only at hSw); go_simp; (try with_reducible rfl))
  (try simp only [List.set_cons_zero, List.set_cons_succ])
  refine held_take (i := 1) (d := 13) (v := ?_) rfl rfl (by kernel_rfl) (by kernel_rfl) (by kernel_rfl) (fun _ _ _ h => h) (Or.inl ⟨by rfl, ?_⟩) (by assumption) ?_
  rotate_left
  · (intro w hSw; (try dsimp only at hSw); go_simp; (try with_reducible rfl))
  (try simp only [List.set_cons_zero, List.set_cons_succ])
  refine held_take (i := 2) (d := 14) (v := ?_) rfl rfl (by kernel_rfl) (by kernel_rfl) (by kernel_rfl) (fun _ _ _ h => h) (Or.inl ⟨by rfl, ?_⟩) (by assumption) ?_
  rotate_left
  · (intro w hSw; (try dsimp only at hSw); go_simp; (try with_reducible rfl))
  (try simp only [List.set_cons_zero, List.set_cons_succ])
  refine held_take (i := 3) (d := 15) (v := ?_) rfl rfl (by kernel_rfl) (by kernel_rfl) (by kernel_rfl) (fun _ _ _ h => h) (Or.inl ⟨by rfl, ?_⟩) (by assumption) ?_
  rotate_left
  · (intro w hSw; (try dsimp only at hSw); go_simp; (try with_reducible rfl))
  (try simp only [List.set_cons_zero, List.set_cons_succ])
  refine held_take (i := 4) (d := 16) (v := ?_) rfl rfl (by kernel_rfl) (by kernel_rfl) (by kernel_rfl) (fun _ _ _ h => h) (Or.inl ⟨by rfl, ?_⟩) (by assumption) ?_
  rotate_left
  · (intro w hSw; (try dsimp only at hSw); go_simp; (try with_reducible rfl))
  (try simp only [List.set_cons_zero, List.set_cons_succ])
  refine held_take (i := 5) (d := 17) (v := ?_) rfl rfl (by kernel_rfl) (by kernel_rfl) (by kernel_rfl) (fun _ _ _ h => h) (Or.inl ⟨by rfl, ?_⟩) (by assumption) ?_
  rotate_left
  · (intro w hSw; (try dsimp only at hSw); go_simp; (try with_reducible rfl))
  (try simp only [List.set_cons_zero, List.set_cons_succ])
  refine held_take (i := 6) (d := 18) (v := ?_) rfl rfl (by kernel_rfl) (by kernel_rfl) (by kernel_rfl) (fun _ _ _ h => h) (Or.inl ⟨by rfl, ?_⟩) (by assumption) ?_
  rotate_left
  · (intro w hSw; (try dsimp only at hSw); go_simp; (try with_reducible rfl))
  (try simp only [List.set_cons_zero, List.set_cons_succ])
  refine held_take (i := 7) (d := 19) (v := ?_) rfl rfl (by kernel_rfl) (by kernel_rfl) (by kernel_rfl) (fun _ _ _ h => h) (Or.inl ⟨by rfl, ?_⟩) (by assumption) ?_
  rotate_left
  · (intro w hSw; (try dsimp only at hSw); go_simp; (try with_reducible rfl))
  (try simp only [List.set_cons_zero, List.set_cons_succ])
  refine held_take (i := 8) (d := 20) (v := ?_) rfl rfl (by kernel_rfl) (by kernel_rfl) (by kernel_rfl) (fun _ _ _ h => h) (Or.inl ⟨by rfl, ?_⟩) (by assumption) ?_
  rotate_left
  · (intro w hSw; (try dsimp only at hSw); go_simp; (try with_reducible rfl))
  (try simp only [List.set_cons_zero, List.set_cons_succ])
  refine held_take (i := 9) (d := 21) (v := ?_) rfl rfl (by kernel_rfl) (by kernel_rfl) (by kernel_rfl) (fun _ _ _ h => h) (Or.inl ⟨by rfl, ?_⟩) (by assumption) ?_
  rotate_left
  · (intro w hSw; (try dsimp only at hSw); go_simp; (try with_reducible rfl))
  (try simp only [List.set_cons_zero, List.set_cons_succ])
  refine held_take (i := 10) (d := 22) (v := ?_) rfl rfl (by kernel_rfl) (by kernel_rfl) (by kernel_rfl) (fun _ _ _ h => h) (Or.inl ⟨by rfl, ?_⟩) (by assumption) ?_
  rotate_left
  · (intro w hSw; (try dsimp only at hSw); go_simp; (try with_reducible rfl))
  (try simp only [List.set_cons_zero, List.set_cons_succ])
  refine held_take (i := 12) (d := 24) (v := ?_) rfl rfl (by kernel_rfl) (by kernel_rfl) (by kernel_rfl) (fun _ _ _ h => h) (Or.inl ⟨by rfl, ?_⟩) (by assumption) ?_
  rotate_left
  · (intro w hSw; (try dsimp only at hSw); go_simp; (try with_reducible rfl))
  (try simp only [List.set_cons_zero, List.set_cons_succ])
  refine wpAnyH_ready (rs := [11]) (by kernel_rfl) (by simp) ?_
  refine AllReadyH.cons rfl (fun K hK => ?_) AllReadyH.nil
  go_simp
  refine hK.out _ _ ?_ (fun hHeld => ?_)
  · (try dsimp only); exact ⟨Bl.cells (by (repeat (first | assumption | with_reducible exact Bl.refl _ | with_reducible refine Bl.drewN ?_ _ | with_reducible refine Bl.drew ?_ | with_reducible refine Bl.alloc ?_ _ | (with_reducible refine Bl.call ?_ (by assumption))))) kx2, Bl.cells (by (repeat (first | assumption | with_reducible exact Bl.refl _ | with_reducible refine Bl.drewN ?_ _ | with_reducible refine Bl.drew ?_ | with_reducible refine Bl.alloc ?_ _ | (with_reducible refine Bl.call ?_ (by assumption))))) kx4, Bl.cells (by (repeat (first | assumption | with_reducible exact Bl.refl _ | with_reducible refine Bl.drewN ?_ _ | with_reducible refine Bl.drew ?_ | with_reducible refine Bl.alloc ?_ _ | (with_reducible refine Bl.call ?_ (by assumption))))) kr⟩
  clear hK K
  (try simp only [Act.put]); (try simp only [List.setIfInBounds_toArray]); (try simp only [List.set_cons_succ]); (try simp only [List.set_cons_zero])
  refine held_take (i := 13) (d := 25) (v := ?_) rfl rfl (by kernel_rfl) (by kernel_rfl) (by kernel_rfl) (fun _ _ _ h => h) (Or.inl ⟨by rfl, ?_⟩) (by assumption) ?_
  rotate_left
  · (intro w hSw; (try dsimp only at hSw); go_simp; (try with_reducible rfl))
  (try simp only [List.set_cons_zero, List.set_cons_succ])
  refine wpAnyH_ready (rs := [14]) (by kernel_rfl) (by simp) ?_
  refine AllReadyH.cons rfl (fun K hK => ?_) AllReadyH.nil
  go_simp
  refine hK.out _ _ ?_ (fun hHeld => ?_)
  · (try dsimp only); exact ⟨Bl.cells (by (repeat (first | assumption | with_reducible exact Bl.refl _ | with_reducible refine Bl.drewN ?_ _ | with_reducible refine Bl.drew ?_ | with_reducible refine Bl.alloc ?_ _ | (with_reducible refine Bl.call ?_ (by assumption))))) kx2, Bl.cells (by (repeat (first | assumption | with_reducible exact Bl.refl _ | with_reducible refine Bl.drewN ?_ _ | with_reducible refine Bl.drew ?_ | with_reducible refine Bl.alloc ?_ _ | (with_reducible refine Bl.call ?_ (by assumption))))) kx4, Bl.cells (by (repeat (first | assumption | with_reducible exact Bl.refl _ | with_reducible refine Bl.drewN ?_ _ | with_reducible refine Bl.drew ?_ | with_reducible refine Bl.alloc ?_ _ | (with_reducible refine Bl.call ?_ (by assumption))))) kr⟩
  clear hK K
  (try simp only [Act.put]); (try simp only [List.setIfInBounds_toArray]); (try simp only [List.set_cons_succ]); (try simp only [List.set_cons_zero])
  refine held_take (i := 15) (d := 6) (v := ?_) rfl rfl (by kernel_rfl) (by kernel_rfl) (by kernel_rfl) (fun _ _ _ h => h) (Or.inl ⟨by rfl, ?_⟩) (by assumption) ?_
  rotate_left
  · (intro w hSw; (try dsimp only at hSw); go_simp; (try with_reducible rfl))
  (try simp only [List.set_cons_zero, List.set_cons_succ])
  refine wpAnyH_done (by kernel_rfl) ?_ _
  go_wp2
  go_ret
  exact ⟨rfl, (by (repeat (first | assumption | with_reducible exact Bl.refl _ | with_reducible refine Bl.drewN ?_ _ | with_reducible refine Bl.drew ?_ | with_reducible refine Bl.alloc ?_ _ | (with_reducible refine Bl.call ?_ (by assumption)))))⟩
set_option maxHeartbeats 2000000 in
theorem vwExtra_10 (r0 r1 r2 r3 r4 r5 r6 r7 r8 : Int) (A : Option Addr) (c : Nat) (w : World) (hl : RdI w A 9 c [r0, r1, r2, r3, r4, r5, r6, r7, r8]) (hall : ∀ z ∈ [r0, r1, r2, r3, r4, r5, r6, r7, r8], 0 ≤ z ∧ z < 2) :
    Calls Try.prog 107 #[.int .i64 1, .int .i64 0, .slice A 9 c] w fun r w' => r = .returned (.int .i64 (exF 1 0 [r0, r1, r2, r3, r4, r5, r6, r7, r8])) ∧ Bl w w' := by
  have hE : exF 1 0 [r0, r1, r2, r3, r4, r5, r6, r7, r8] = 0 := by simp [exF]
  rw [hE]
  clear hE
  obtain ⟨hle1, hle2⟩ := hl.le
  have hl9 := hl
  obtain ⟨ad, rfl, had, q0, qs⟩ := hl.lit (by omega)
  have kr0 : w.cell? ad = some (.int .i64 r0) := q0 _ rfl
  clear qs q0
  have hall' := Lib.hid hall
  clear hall
  go_enter Try.func107, Try.ntmps107
  go_wp2_with (go_at_call 144; refine (vwShares0 2 r0 r1 r2 r3 r4 r5 r6 r7 r8 (some ad) c _ hl9 (by omega) hall'.out).mono ?_; rintro r w2 ⟨A2, c2, rfl, h2, hb2⟩)
  obtain ⟨hle3, hle4⟩ := h2.le
  obtain ⟨ax, rfl, hax, q0, qs⟩ := h2.lit (by omega)
  have kx2 : w2.cell? ⟨ax.block, ax.off + 2, none⟩ = some (.int .i64 (r6)) := qs 2 _ (by omega) rfl
  have kx4 : w2.cell? ⟨ax.block, ax.off + 4, none⟩ = some (.int .i64 (r8)) := qs 4 _ (by omega) rfl
  clear qs q0
  have kr := hb2.cells kr0
  have hwr1 : IntKind.i64.wrap 1 = 1 := rfl
  have hwr0 : IntKind.i64.wrap 0 = 0 := rfl
  go_wp2_with fail
  refine wp_region_held_drew (S := (fun w' => w'.cell? ⟨ax.block, ax.off + 2, none⟩ = some (.int .i64 (r6)) ∧ w'.cell? ⟨ax.block, ax.off + 4, none⟩ = some (.int .i64 (r8)) ∧ w'.cell? ad = some (.int .i64 r0))) (by kernel_rfl) ?_ (fun hHeld => ?_)
  · (try dsimp only); exact ⟨Bl.cells (by (repeat (first | assumption | with_reducible exact Bl.refl _ | with_reducible refine Bl.drewN ?_ _ | with_reducible refine Bl.drew ?_ | with_reducible refine Bl.alloc ?_ _ | (with_reducible refine Bl.call ?_ (by assumption))))) kx2, Bl.cells (by (repeat (first | assumption | with_reducible exact Bl.refl _ | with_reducible refine Bl.drewN ?_ _ | with_reducible refine Bl.drew ?_ | with_reducible refine Bl.alloc ?_ _ | (with_reducible refine Bl.call ?_ (by assumption))))) kx4, Bl.cells (by (repeat (first | assumption | with_reducible exact Bl.refl _ | with_reducible refine Bl.drewN ?_ _ | with_reducible refine Bl.drew ?_ | with_reducible refine Bl.alloc ?_ _ | (with_reducible refine Bl.call ?_ (by assumption))))) kr⟩
  refine held_take (i := 0) (d := 12) (v := ?_) rfl rfl (by kernel_rfl) (by kernel_rfl) (by kernel_rfl) (fun _ _ _ h => h) (Or.inl ⟨by rfl, ?_⟩) (by assumption) ?_
  rotate_left
  · (intro w hSw; (try dsimp only at hSw); go_simp; (try with_reducible rfl))
  (try simp only [List.set_cons_zero, List.set_cons_succ])
  refine held_take (i := 1) (d := 13) (v := ?_) rfl rfl (by kernel_rfl) (by kernel_rfl) (by kernel_rfl) (fun _ _ _ h => h) (Or.inl ⟨by rfl, ?_⟩) (by assumption) ?_
  rotate_left
  · (intro w hSw; (try dsimp only at hSw); go_simp; (try with_reducible rfl))
  (try simp only [List.set_cons_zero, List.set_cons_succ])
  refine held_take (i := 2) (d := 14) (v := ?_) rfl rfl (by kernel_rfl) (by kernel_rfl) (by kernel_rfl) (fun _ _ _ h => h) (Or.inl ⟨by rfl, ?_⟩) (by assumption) ?_
  rotate_left
  · (intro w hSw; (try dsimp only at hSw); go_simp; (try with_reducible rfl))
  (try simp only [List.set_cons_zero, List.set_cons_succ])
  refine held_take (i := 3) (d := 15) (v := ?_) rfl rfl (by kernel_rfl) (by kernel_rfl) (by kernel_rfl) (fun _ _ _ h => h) (Or.inl ⟨by rfl, ?_⟩) (by assumption) ?_
  rotate_left
  · (intro w hSw; (try dsimp only at hSw); go_simp; (try with_reducible rfl))
  (try simp only [List.set_cons_zero, List.set_cons_succ])
  refine held_take (i := 4) (d := 16) (v := ?_) rfl rfl (by kernel_rfl) (by kernel_rfl) (by kernel_rfl) (fun _ _ _ h => h) (Or.inl ⟨by rfl, ?_⟩) (by assumption) ?_
  rotate_left
  · (intro w hSw; (try dsimp only at hSw); go_simp; (try with_reducible rfl))
  (try simp only [List.set_cons_zero, List.set_cons_succ])
  refine held_take (i := 5) (d := 17) (v := ?_) rfl rfl (by kernel_rfl) (by kernel_rfl) (by kernel_rfl) (fun _ _ _ h => h) (Or.inl ⟨by rfl, ?_⟩) (by assumption) ?_
  rotate_left
  · (intro w hSw; (try dsimp only at hSw); go_simp; (try with_reducible rfl))
  (try simp only [List.set_cons_zero, List.set_cons_succ])
  refine held_take (i := 6) (d := 18) (v := ?_) rfl rfl (by kernel_rfl) (by kernel_rfl) (by kernel_rfl) (fun _ _ _ h => h) (Or.inl ⟨by rfl, ?_⟩) (by assumption) ?_
  rotate_left
  · (intro w hSw; (try dsimp only at hSw); go_simp; (try with_reducible rfl))
  (try simp only [List.set_cons_zero, List.set_cons_succ])
  refine held_take (i := 7) (d := 19) (v := ?_) rfl rfl (by kernel_rfl) (by kernel_rfl) (by kernel_rfl) (fun _ _ _ h => h) (Or.inl ⟨by rfl, ?_⟩) (by assumption) ?_
  rotate_left
  · (intro w hSw; (try dsimp only at hSw); go_simp; (try with_reducible rfl))
  (try simp only [List.set_cons_zero, List.set_cons_succ])
  refine held_take (i := 8) (d := 20) (v := ?_) rfl rfl (by kernel_rfl) (by kernel_rfl) (by kernel_rfl) (fun _ _ _ h => h) (Or.inl ⟨by rfl, ?_⟩) (by assumption) ?_
  rotate_left
  · (intro w hSw; (try dsimp only at hSw); go_simp; (try with_reducible rfl))
  (try simp only [List.set_cons_zero, List.set_cons_succ])
  refine held_take (i := 9) (d := 21) (v := ?_) rfl rfl (by kernel_rfl) (by kernel_rfl) (by kernel_rfl) (fun _ _ _ h => h) (Or.inl ⟨by rfl, ?_⟩) (by assumption) ?_
  rotate_left
  · (intro w hSw; (try dsimp only at hSw); go_simp; (try with_reducible rfl))
  (try simp only [List.set_cons_zero, List.set_cons_succ])
  refine held_take (i := 10) (d := 22) (v := ?_) rfl rfl (by kernel_rfl) (by kernel_rfl) (by kernel_rfl) (fun _ _ _ h => h) (Or.inl ⟨by rfl, ?_⟩) (by assumption) ?_
  rotate_left
  · (intro w hSw; (try dsimp only at hSw); go_simp; (try with_reducible rfl))
  (try simp only [List.set_cons_zero, List.set_cons_succ])
  refine held_take (i := 12) (d := 24) (v := ?_) rfl rfl (by kernel_rfl) (by kernel_rfl) (by kernel_rfl) (fun _ _ _ h => h) (Or.inl ⟨by rfl, ?_⟩) (by assumption) ?_
  rotate_left
  · (intro w hSw; (try dsimp only at hSw); go_simp; (try with_reducible rfl))
  (try simp only [List.set_cons_zero, List.set_cons_succ])
  refine wpAnyH_ready (rs := [11]) (by kernel_rfl) (by simp) ?_
  refine AllReadyH.cons rfl (fun K hK => ?_) AllReadyH.nil
  go_simp
  refine hK.out _ _ ?_ (fun hHeld => ?_)
  · (try dsimp only); exact ⟨Bl.cells (by (repeat (first | assumption | with_reducible exact Bl.refl _ | with_reducible refine Bl.drewN ?_ _ | with_reducible refine Bl.drew ?_ | with_reducible refine Bl.alloc ?_ _ | (with_reducible refine Bl.call ?_ (by assumption))))) kx2, Bl.cells (by (repeat (first | assumption | with_reducible exact Bl.refl _ | with_reducible refine Bl.drewN ?_ _ | with_reducible refine Bl.drew ?_ | with_reducible refine Bl.alloc ?_ _ | (with_reducible refine Bl.call ?_ (by assumption))))) kx4, Bl.cells (by (repeat (first | assumption | with_reducible exact Bl.refl _ | with_reducible refine Bl.drewN ?_ _ | with_reducible refine Bl.drew ?_ | with_reducible refine Bl.alloc ?_ _ | (with_reducible refine Bl.call ?_ (by assumption))))) kr⟩
  clear hK K
  (try simp only [Act.put]); (try simp only [List.setIfInBounds_toArray]); (try simp only [List.set_cons_succ]); (try simp only [List.set_cons_zero])
  refine held_take (i := 13) (d := 25) (v := ?_) rfl rfl (by kernel_rfl) (by kernel_rfl) (by kernel_rfl) (fun _ _ _ h => h) (Or.inl ⟨by rfl, ?_⟩) (by assumption) ?_
  rotate_left
  · (intro w hSw; (try dsimp only at hSw); go_simp; (try with_reducible rfl))
  (try simp only [List.set_cons_zero, List.set_cons_succ])
  refine wpAnyH_ready (rs := [14]) (by kernel_rfl) (by simp) ?_
  refine AllReadyH.cons rfl (fun K hK => ?_) AllReadyH.nil
  go_simp
  refine hK.out _ _ ?_ (fun hHeld => ?_)
  · (try dsimp only); exact ⟨Bl.cells (by (repeat (first | assumption | with_reducible exact Bl.refl _ | with_reducible refine Bl.drewN ?_ _ | with_reducible refine Bl.drew ?_ | with_reducible refine Bl.alloc ?_ _ | (with_reducible refine Bl.call ?_ (by assumption))))) kx2, Bl.cells (by (repeat (first | assumption | with_reducible exact Bl.refl _ | with_reducible refine Bl.drewN ?_ _ | with_reducible refine Bl.drew ?_ | with_reducible refine Bl.alloc ?_ _ | (with_reducible refine Bl.call ?_ (by assumption))))) kx4, Bl.cells (by (repeat (first | assumption | with_reducible exact Bl.refl _ | with_reducible refine Bl.drewN ?_ _ | with_reducible refine Bl.drew ?_ | with_reducible refine Bl.alloc ?_ _ | (with_reducible refine Bl.call ?_ (by assumption))))) kr⟩
  clear hK K
  (try simp only [Act.put]); (try simp only [List.setIfInBounds_toArray]); (try simp only [List.set_cons_succ]); (try simp only [List.set_cons_zero])
  refine held_take (i := 15) (d := 6) (v := ?_) rfl rfl (by kernel_rfl) (by kernel_rfl) (by kernel_rfl) (fun _ _ _ h => h) (Or.inl ⟨by rfl, ?_⟩) (by assumption) ?_
  rotate_left
  · (intro w hSw; (try dsimp only at hSw); go_simp; (try with_reducible rfl))
  (try simp only [List.set_cons_zero, List.set_cons_succ])
  refine wpAnyH_done (by kernel_rfl) ?_ _
  go_wp2
  go_ret
  exact ⟨rfl, (by (repeat (first | assumption | with_reducible exact Bl.refl _ | with_reducible refine Bl.drewN ?_ _ | with_reducible refine Bl.drew ?_ | with_reducible refine Bl.alloc ?_ _ | (with_reducible refine Bl.call ?_ (by assumption)))))⟩
set_option maxHeartbeats 2000000 in
theorem vwExtra_11 (r0 r1 r2 r3 r4 r5 r6 r7 r8 : Int) (A : Option Addr) (c : Nat) (w : World) (hl : RdI w A 9 c [r0, r1, r2, r3, r4, r5, r6, r7, r8]) (hall : ∀ z ∈ [r0, r1, r2, r3, r4, r5, r6, r7, r8], 0 ≤ z ∧ z < 2) :
    Calls Try.prog 107 #[.int .i64 1, .int .i64 1, .slice A 9 c] w fun r w' => r = .returned (.int .i64 (exF 1 1 [r0, r1, r2, r3, r4, r5, r6, r7, r8])) ∧ Bl w w' := by
  have hE : exF 1 1 [r0, r1, r2, r3, r4, r5, r6, r7, r8] = r6 := by simp [exF]
  rw [hE]
  clear hE
  obtain ⟨hle1, hle2⟩ := hl.le
  have hl9 := hl
  obtain ⟨ad, rfl, had, q0, qs⟩ := hl.lit (by omega)
  have kr0 : w.cell? ad = some (.int .i64 r0) := q0 _ rfl
  clear qs q0
  have hall' := Lib.hid hall
  clear hall
  go_enter Try.func107, Try.ntmps107
  go_wp2_with (go_at_call 144; refine (vwShares0 2 r0 r1 r2 r3 r4 r5 r6 r7 r8 (some ad) c _ hl9 (by omega) hall'.out).mono ?_; rintro r w2 ⟨A2, c2, rfl, h2, hb2⟩)
  obtain ⟨hle3, hle4⟩ := h2.le
  obtain ⟨ax, rfl, hax, q0, qs⟩ := h2.lit (by omega)
  have kx2 : w2.cell? ⟨ax.block, ax.off + 2, none⟩ = some (.int .i64 (r6)) := qs 2 _ (by omega) rfl
  have kx4 : w2.cell? ⟨ax.block, ax.off + 4, none⟩ = some (.int .i64 (r8)) := qs 4 _ (by omega) rfl
  clear qs q0
  have kr := hb2.cells kr0
  have hwr1 : IntKind.i64.wrap 1 = 1 := rfl
  have hwr0 : IntKind.i64.wrap 0 = 0 := rfl
  go_wp2_with fail
  refine wp_region_held_drew (S := (fun w' => w'.cell? ⟨ax.block, ax.off + 2, none⟩ = some (.int .i64 (r6)) ∧ w'.cell? ⟨ax.block, ax.off + 4, none⟩ = some (.int .i64 (r8)) ∧ w'.cell? ad = some (.int .i64 r0))) (by kernel_rfl) ?_ (fun hHeld => ?_)
  · (try dsimp only); exact ⟨Bl.cells (by (repeat (first | assumption | with_reducible exact Bl.refl _ | with_reducible refine Bl.drewN ?_ _ | with_reducible refine Bl.drew ?_ | with_reducible refine Bl.alloc ?_ _ | (with_reducible refine Bl.call ?_ (by assumption))))) kx2, Bl.cells (by (repeat (first | assumption | with_reducible exact Bl.refl _ | with_reducible refine Bl.drewN ?_ _ | with_reducible refine Bl.drew ?_ | with_reducible refine Bl.alloc ?_ _ | (with_reducible refine Bl.call ?_ (by assumption))))) kx4, Bl.cells (by (repeat (first | assumption | with_reducible exact Bl.refl _ | with_reducible refine Bl.drewN ?_ _ | with_reducible refine Bl.drew ?_ | with_reducible refine Bl.alloc ?_ _ | (with_reducible refine Bl.call ?_ (by assumption))))) kr⟩
  refine held_take (i := 0) (d := 12) (v := ?_) rfl rfl (by kernel_rfl) (by kernel_rfl) (by kernel_rfl) (fun _ _ _ h => h) (Or.inl ⟨by rfl, ?_⟩) (by assumption) ?_
  rotate_left
  · (intro w hSw; (try dsimp only at hSw); go_simp; (try with_reducible rfl))
  (try simp only [List.set_cons_zero, List.set_cons_succ])
  refine held_take (i := 1) (d := 13) (v := ?_) rfl rfl (by kernel_rfl) (by kernel_rfl) (by kernel_rfl) (fun _ _ _ h => h) (Or.inl ⟨by rfl, ?_⟩) (by assumption) ?_
  rotate_left
  · (intro w hSw; (try dsimp only at hSw); go_simp; (try with_reducible rfl))
  (try simp only [List.set_cons_zero, List.set_cons_succ])
  refine held_take (i := 2) (d := 14) (v := ?_) rfl rfl (by kernel_rfl) (by kernel_rfl) (by kernel_rfl) (fun _ _ _ h => h) (Or.inl ⟨by rfl, ?_⟩) (by assumption) ?_
  rotate_left
  · (intro w hSw; (try dsimp only at hSw); go_simp; (try with_reducible rfl))
  (try simp only [List.set_cons_zero, List.set_cons_succ])
  refine held_take (i := 3) (d := 15) (v := ?_) rfl rfl (by kernel_rfl) (by kernel_rfl) (by kernel_rfl) (fun _ _ _ h => h) (Or.inl ⟨by rfl, ?_⟩) (by assumption) ?_
  rotate_left
  · (intro w hSw; (try dsimp only at hSw); go_simp; (try with_reducible rfl))
  (try simp only [List.set_cons_zero, List.set_cons_succ])
  refine held_take (i := 4) (d := 16) (v := ?_) rfl rfl (by kernel_rfl) (by kernel_rfl) (by kernel_rfl) (fun _ _ _ h => h) (Or.inl ⟨by rfl, ?_⟩) (by assumption) ?_
  rotate_left
  · (intro w hSw; (try dsimp only at hSw); go_simp; (try with_reducible rfl))
  (try simp only [List.set_cons_zero, List.set_cons_succ])
  refine held_take (i := 5) (d := 17) (v := ?_) rfl rfl (by kernel_rfl) (by kernel_rfl) (by kernel_rfl) (fun _ _ _ h => h) (Or.inl ⟨by rfl, ?_⟩) (by assumption) ?_
  rotate_left
  · (intro w hSw; (try dsimp only at hSw); go_simp; (try with_reducible rfl))
  (try simp only [List.set_cons_zero, List.set_cons_succ])
  refine held_take (i := 6) (d := 18) (v := ?_) rfl rfl (by kernel_rfl) (by kernel_rfl) (by kernel_rfl) (fun _ _ _ h => h) (Or.inl ⟨by rfl, ?_⟩) (by assumption) ?_
  rotate_left
  · (intro w hSw; (try dsimp only at hSw); go_simp; (try with_reducible rfl))
  (try simp only [List.set_cons_zero, List.set_cons_succ])
  refine held_take (i := 7) (d := 19) (v := ?_) rfl rfl (by kernel_rfl) (by kernel_rfl) (by kernel_rfl) (fun _ _ _ h => h) (Or.inl ⟨by rfl, ?_⟩) (by assumption) ?_
  rotate_left
  · (intro w hSw; (try dsimp only at hSw); go_simp; (try with_reducible rfl))
  (try simp only [List.set_cons_zero, List.set_cons_succ])
  refine held_take (i := 8) (d := 20) (v := ?_) rfl rfl (by kernel_rfl) (by kernel_rfl) (by kernel_rfl) (fun _ _ _ h => h) (Or.inl ⟨by rfl, ?_⟩) (by assumption) ?_
  rotate_left
  · (intro w hSw; (try dsimp only at hSw); go_simp; (try with_reducible rfl))
  (try simp only [List.set_cons_zero, List.set_cons_succ])
  refine held_take (i := 9) (d := 21) (v := ?_) rfl rfl (by kernel_rfl) (by kernel_rfl) (by kernel_rfl) (fun _ _ _ h => h) (Or.inl ⟨by rfl, ?_⟩) (by assumption) ?_
  rotate_left
  · (intro w hSw; (try dsimp only at hSw); go_simp; (try with_reducible rfl))
  (try simp only [List.set_cons_zero, List.set_cons_succ])
  refine held_take (i := 10) (d := 22) (v := ?_) rfl rfl (by kernel_rfl) (by kernel_rfl) (by kernel_rfl) (fun _ _ _ h => h) (Or.inl ⟨by rfl, ?_⟩) (by assumption) ?_
  rotate_left
  · (intro w hSw; (try dsimp only at hSw); go_simp; (try with_reducible rfl))
  (try simp only [List.set_cons_zero, List.set_cons_succ])
  refine held_take (i := 12) (d := 24) (v := ?_) rfl rfl (by kernel_rfl) (by kernel_rfl) (by kernel_rfl) (fun _ _ _ h => h) (Or.inl ⟨by rfl, ?_⟩) (by assumption) ?_
  rotate_left
  · (intro w hSw; (try dsimp only at hSw); go_simp; (try with_reducible rfl))
  (try simp only [List.set_cons_zero, List.set_cons_succ])
  refine wpAnyH_ready (rs := [11]) (by kernel_rfl) (by simp) ?_
  refine AllReadyH.cons rfl (fun K hK => ?_) AllReadyH.nil
  go_simp
  refine hK.out _ _ ?_ (fun hHeld => ?_)
  · (try dsimp only); exact ⟨Bl.cells (by (repeat (first | assumption | with_reducible exact Bl.refl _ | with_reducible refine Bl.drewN ?_ _ | with_reducible refine Bl.drew ?_ | with_reducible refine Bl.alloc ?_ _ | (with_reducible refine Bl.call ?_ (by assumption))))) kx2, Bl.cells (by (repeat (first | assumption | with_reducible exact Bl.refl _ | with_reducible refine Bl.drewN ?_ _ | with_reducible refine Bl.drew ?_ | with_reducible refine Bl.alloc ?_ _ | (with_reducible refine Bl.call ?_ (by assumption))))) kx4, Bl.cells (by (repeat (first | assumption | with_reducible exact Bl.refl _ | with_reducible refine Bl.drewN ?_ _ | with_reducible refine Bl.drew ?_ | with_reducible refine Bl.alloc ?_ _ | (with_reducible refine Bl.call ?_ (by assumption))))) kr⟩
  clear hK K
  (try simp only [Act.put]); (try simp only [List.setIfInBounds_toArray]); (try simp only [List.set_cons_succ]); (try simp only [List.set_cons_zero])
  refine held_take (i := 13) (d := 25) (v := ?_) rfl rfl (by kernel_rfl) (by kernel_rfl) (by kernel_rfl) (fun _ _ _ h => h) (Or.inl ⟨by rfl, ?_⟩) (by assumption) ?_
  rotate_left
  · (intro w hSw; (try dsimp only at hSw); go_simp; (try with_reducible rfl))
  (try simp only [List.set_cons_zero, List.set_cons_succ])
  refine wpAnyH_ready (rs := [14]) (by kernel_rfl) (by simp) ?_
  refine AllReadyH.cons rfl (fun K hK => ?_) AllReadyH.nil
  go_simp
  refine hK.out _ _ ?_ (fun hHeld => ?_)
  · (try dsimp only); exact ⟨Bl.cells (by (repeat (first | assumption | with_reducible exact Bl.refl _ | with_reducible refine Bl.drewN ?_ _ | with_reducible refine Bl.drew ?_ | with_reducible refine Bl.alloc ?_ _ | (with_reducible refine Bl.call ?_ (by assumption))))) kx2, Bl.cells (by (repeat (first | assumption | with_reducible exact Bl.refl _ | with_reducible refine Bl.drewN ?_ _ | with_reducible refine Bl.drew ?_ | with_reducible refine Bl.alloc ?_ _ | (with_reducible refine Bl.call ?_ (by assumption))))) kx4, Bl.cells (by (repeat (first | assumption | with_reducible exact Bl.refl _ | with_reducible refine Bl.drewN ?_ _ | with_reducible refine Bl.drew ?_ | with_reducible refine Bl.alloc ?_ _ | (with_reducible refine Bl.call ?_ (by assumption))))) kr⟩
  clear hK K
  (try simp only [Act.put]); (try simp only [List.setIfInBounds_toArray]); (try simp only [List.set_cons_succ]); (try simp only [List.set_cons_zero])
  refine held_take (i := 15) (d := 6) (v := ?_) rfl rfl (by kernel_rfl) (by kernel_rfl) (by kernel_rfl) (fun _ _ _ h => h) (Or.inl ⟨by rfl, ?_⟩) (by assumption) ?_
  rotate_left
  · (intro w hSw; (try dsimp only at hSw); go_simp; (try with_reducible rfl))
  (try simp only [List.set_cons_zero, List.set_cons_succ])
  refine wpAnyH_done (by kernel_rfl) ?_ _
  go_wp2
  go_ret
  exact ⟨rfl, (by (repeat (first | assumption | with_reducible exact Bl.refl _ | with_reducible refine Bl.drewN ?_ _ | with_reducible refine Bl.drew ?_ | with_reducible refine Bl.alloc ?_ _ | (with_reducible refine Bl.call ?_ (by assumption)))))⟩
set_option maxHeartbeats 2000000 in
theorem vwExtra_12 (r0 r1 r2 r3 r4 r5 r6 r7 r8 : Int) (A : Option Addr) (c : Nat) (w : World) (hl : RdI w A 9 c [r0, r1, r2, r3, r4, r5, r6, r7, r8]) (hall : ∀ z ∈ [r0, r1, r2, r3, r4, r5, r6, r7, r8], 0 ≤ z ∧ z < 2) :
    Calls Try.prog 107 #[.int .i64 1, .int .i64 2, .slice A 9 c] w fun r w' => r = .returned (.int .i64 (exF 1 2 [r0, r1, r2, r3, r4, r5, r6, r7, r8])) ∧ Bl w w' := by
  have hE : exF 1 2 [r0, r1, r2, r3, r4, r5, r6, r7, r8] = r8 := by simp [exF]
  rw [hE]
  clear hE
  obtain ⟨hle1, hle2⟩ := hl.le
  have hl9 := hl
  obtain ⟨ad, rfl, had, q0, qs⟩ := hl.lit (by omega)
  have kr0 : w.cell? ad = some (.int .i64 r0) := q0 _ rfl
  clear qs q0
  have hall' := Lib.hid hall
  clear hall
  go_enter Try.func107, Try.ntmps107
  go_wp2_with (go_at_call 144; refine (vwShares0 2 r0 r1 r2 r3 r4 r5 r6 r7 r8 (some ad) c _ hl9 (by omega) hall'.out).mono ?_; rintro r w2 ⟨A2, c2, rfl, h2, hb2⟩)
  obtain ⟨hle3, hle4⟩ := h2.le
  obtain ⟨ax, rfl, hax, q0, qs⟩ := h2.lit (by omega)
  have kx2 : w2.cell? ⟨ax.block, ax.off + 2, none⟩ = some (.int .i64 (r6)) := qs 2 _ (by omega) rfl
  have kx4 : w2.cell? ⟨ax.block, ax.off + 4, none⟩ = some (.int .i64 (r8)) := qs 4 _ (by omega) rfl
  clear qs q0
  have kr := hb2.cells kr0
  have hwr1 : IntKind.i64.wrap 1 = 1 := rfl
  have hwr0 : IntKind.i64.wrap 0 = 0 := rfl
  go_wp2_with fail
  refine wp_region_held_drew (S := (fun w' => w'.cell? ⟨ax.block, ax.off + 2, none⟩ = some (.int .i64 (r6)) ∧ w'.cell? ⟨ax.block, ax.off + 4, none⟩ = some (.int .i64 (r8)) ∧ w'.cell? ad = some (.int .i64 r0))) (by kernel_rfl) ?_ (fun hHeld => ?_)
  · (try dsimp only); exact ⟨Bl.cells (by (repeat (first | assumption | with_reducible exact Bl.refl _ | with_reducible refine Bl.drewN ?_ _ | with_reducible refine Bl.drew ?_ | with_reducible refine Bl.alloc ?_ _ | (with_reducible refine Bl.call ?_ (by assumption))))) kx2, Bl.cells (by (repeat (first | assumption | with_reducible exact Bl.refl _ | with_reducible refine Bl.drewN ?_ _ | with_reducible refine Bl.drew ?_ | with_reducible refine Bl.alloc ?_ _ | (with_reducible refine Bl.call ?_ (by assumption))))) kx4, Bl.cells (by (repeat (first | assumption | with_reducible exact Bl.refl _ | with_reducible refine Bl.drewN ?_ _ | with_reducible refine Bl.drew ?_ | with_reducible refine Bl.alloc ?_ _ | (with_reducible refine Bl.call ?_ (by assumption))))) kr⟩
  refine held_take (i := 0) (d := 12) (v := ?_) rfl rfl (by kernel_rfl) (by kernel_rfl) (by kernel_rfl) (fun _ _ _ h => h) (Or.inl ⟨by rfl, ?_⟩) (by assumption) ?_
  rotate_left
  · (intro w hSw; (try dsimp only at hSw); go_simp; (try with_reducible rfl))
  (try simp only [List.set_cons_zero, List.set_cons_succ])
  refine held_take (i := 1) (d := 13) (v := ?_) rfl rfl (by kernel_rfl) (by kernel_rfl) (by kernel_rfl) (fun _ _ _ h => h) (Or.inl ⟨by rfl, ?_⟩) (by assumption) ?_
  rotate_left
  · (intro w hSw; (try dsimp only at hSw); go_simp; (try with_reducible rfl))
  (try simp only [List.set_cons_zero, List.set_cons_succ])
  refine held_take (i := 2) (d := 14) (v := ?_) rfl rfl (by kernel_rfl) (by kernel_rfl) (by kernel_rfl) (fun _ _ _ h => h) (Or.inl ⟨by rfl, ?_⟩) (by assumption) ?_
  rotate_left
  · (intro w hSw; (try dsimp only at hSw); go_simp; (try with_reducible rfl))
  (try simp only [List.set_cons_zero, List.set_cons_succ])
  refine held_take (i := 3) (d := 15) (v := ?_) rfl rfl (by kernel_rfl) (by kernel_rfl) (by kernel_rfl) (fun _ _ _ h => h) (Or.inl ⟨by rfl, ?_⟩) (by assumption) ?_
  rotate_left
  · (intro w hSw; (try dsimp only at hSw); go_simp; (try with_reducible rfl))
  (try simp only [List.set_cons_zero, List.set_cons_succ])
  refine held_take (i := 4) (d := 16) (v := ?_) rfl rfl (by kernel_rfl) (by kernel_rfl) (by kernel_rfl) (fun _ _ _ h => h) (Or.inl ⟨by rfl, ?_⟩) (by assumption) ?_
  rotate_left
  · (intro w hSw; (try dsimp only at hSw); go_simp; (try with_reducible rfl))
  (try simp only [List.set_cons_zero, List.set_cons_succ])
  refine held_take (i := 5) (d := 17) (v := ?_) rfl rfl (by kernel_rfl) (by kernel_rfl) (by kernel_rfl) (fun _ _ _ h => h) (Or.inl ⟨by rfl, ?_⟩) (by assumption) ?_
  rotate_left
  · (intro w hSw; (try dsimp only at hSw); go_simp; (try with_reducible rfl))
  (try simp only [List.set_cons_zero, List.set_cons_succ])
  refine held_take (i := 6) (d := 18) (v := ?_) rfl rfl (by kernel_rfl) (by kernel_rfl) (by kernel_rfl) (fun _ _ _ h => h) (Or.inl ⟨by rfl, ?_⟩) (by assumption) ?_
  rotate_left
  · (intro w hSw; (try dsimp only at hSw); go_simp; (try with_reducible rfl))
  (try simp only [List.set_cons_zero, List.set_cons_succ])
  refine held_take (i := 7) (d := 19) (v := ?_) rfl rfl (by kernel_rfl) (by kernel_rfl) (by kernel_rfl) (fun _ _ _ h => h) (Or.inl ⟨by rfl, ?_⟩) (by assumption) ?_
  rotate_left
  · (intro w hSw; (try dsimp only at hSw); go_simp; (try with_reducible rfl))
  (try simp only [List.set_cons_zero, List.set_cons_succ])
  refine held_take (i := 8) (d := 20) (v := ?_) rfl rfl (by kernel_rfl) (by kernel_rfl) (by kernel_rfl) (fun _ _ _ h => h) (Or.inl ⟨by rfl, ?_⟩) (by assumption) ?_
  rotate_left
  · (intro w hSw; (try dsimp only at hSw); go_simp; (try with_reducible rfl))
  (try simp only [List.set_cons_zero, List.set_cons_succ])
  refine held_take (i := 9) (d := 21) (v := ?_) rfl rfl (by kernel_rfl) (by kernel_rfl) (by kernel_rfl) (fun _ _ _ h => h) (Or.inl ⟨by rfl, ?_⟩) (by assumption) ?_
  rotate_left
  · (intro w hSw; (try dsimp only at hSw); go_simp; (try with_reducible rfl))
  (try simp only [List.set_cons_zero, List.set_cons_succ])
  refine held_take (i := 10) (d := 22) (v := ?_) rfl rfl (by kernel_rfl) (by kernel_rfl) (by kernel_rfl) (fun _ _ _ h => h) (Or.inl ⟨by rfl, ?_⟩) (by assumption) ?_
  rotate_left
  · (intro w hSw; (try dsimp only at hSw); go_simp; (try with_reducible rfl))
  (try simp only [List.set_cons_zero, List.set_cons_succ])
  refine held_take (i := 12) (d := 24) (v := ?_) rfl rfl (by kernel_rfl) (by kernel_rfl) (by kernel_rfl) (fun _ _ _ h => h) (Or.inl ⟨by rfl, ?_⟩) (by assumption) ?_
  rotate_left
  · (intro w hSw; (try dsimp only at hSw); go_simp; (try with_reducible rfl))
  (try simp only [List.set_cons_zero, List.set_cons_succ])
  refine wpAnyH_ready (rs := [11]) (by kernel_rfl) (by simp) ?_
  refine AllReadyH.cons rfl (fun K hK => ?_) AllReadyH.nil
  go_simp
  refine hK.out _ _ ?_ (fun hHeld => ?_)
  · (try dsimp only); exact ⟨Bl.cells (by (repeat (first | assumption | with_reducible exact Bl.refl _ | with_reducible refine Bl.drewN ?_ _ | with_reducible refine Bl.drew ?_ | with_reducible refine Bl.alloc ?_ _ | (with_reducible refine Bl.call ?_ (by assumption))))) kx2, Bl.cells (by (repeat (first | assumption | with_reducible exact Bl.refl _ | with_reducible refine Bl.drewN ?_ _ | with_reducible refine Bl.drew ?_ | with_reducible refine Bl.alloc ?_ _ | (with_reducible refine Bl.call ?_ (by assumption))))) kx4, Bl.cells (by (repeat (first | assumption | with_reducible exact Bl.refl _ | with_reducible refine Bl.drewN ?_ _ | with_reducible refine Bl.drew ?_ | with_reducible refine Bl.alloc ?_ _ | (with_reducible refine Bl.call ?_ (by assumption))))) kr⟩
  clear hK K
  (try simp only [Act.put]); (try simp only [List.setIfInBounds_toArray]); (try simp only [List.set_cons_succ]); (try simp only [List.set_cons_zero])
  refine held_take (i := 13) (d := 25) (v := ?_) rfl rfl (by kernel_rfl) (by kernel_rfl) (by kernel_rfl) (fun _ _ _ h => h) (Or.inl ⟨by rfl, ?_⟩) (by assumption) ?_
  rotate_left
  · (intro w hSw; (try dsimp only at hSw); go_simp; (try with_reducible rfl))
  (try simp only [List.set_cons_zero, List.set_cons_succ])
  refine wpAnyH_ready (rs := [14]) (by kernel_rfl) (by simp) ?_
  refine AllReadyH.cons rfl (fun K hK => ?_) AllReadyH.nil
  go_simp
  refine hK.out _ _ ?_ (fun hHeld => ?_)
  · (try dsimp only); exact ⟨Bl.cells (by (repeat (first | assumption | with_reducible exact Bl.refl _ | with_reducible refine Bl.drewN ?_ _ | with_reducible refine Bl.drew ?_ | with_reducible refine Bl.alloc ?_ _ | (with_reducible refine Bl.call ?_ (by assumption))))) kx2, Bl.cells (by (repeat (first | assumption | with_reducible exact Bl.refl _ | with_reducible refine Bl.drewN ?_ _ | with_reducible refine Bl.drew ?_ | with_reducible refine Bl.alloc ?_ _ | (with_reducible refine Bl.call ?_ (by assumption))))) kx4, Bl.cells (by (repeat (first | assumption | with_reducible exact Bl.refl _ | with_reducible refine Bl.drewN ?_ _ | with_reducible refine Bl.drew ?_ | with_reducible refine Bl.alloc ?_ _ | (with_reducible refine Bl.call ?_ (by assumption))))) kr⟩
  clear hK K
  (try simp only [Act.put]); (try simp only [List.setIfInBounds_toArray]); (try simp only [List.set_cons_succ]); (try simp only [List.set_cons_zero])
  refine held_take (i := 15) (d := 6) (v := ?_) rfl rfl (by kernel_rfl) (by kernel_rfl) (by kernel_rfl) (fun _ _ _ h => h) (Or.inl ⟨by rfl, ?_⟩) (by assumption) ?_
  rotate_left
  · (intro w hSw; (try dsimp only at hSw); go_simp; (try with_reducible rfl))
  (try simp only [List.set_cons_zero, List.set_cons_succ])
  refine wpAnyH_done (by kernel_rfl) ?_ _
  go_wp2
  go_ret
  exact ⟨rfl, (by (repeat (first | assumption | with_reducible exact Bl.refl _ | with_reducible refine Bl.drewN ?_ _ | with_reducible refine Bl.drew ?_ | with_reducible refine Bl.alloc ?_ _ | (with_reducible refine Bl.call ?_ (by assumption)))))⟩
set_option maxHeartbeats 2000000 in
theorem vwExtra_13 (r0 r1 r2 r3 r4 r5 r6 r7 r8 : Int) (A : Option Addr) (c : Nat) (w : World) (hl : RdI w A 9 c [r0, r1, r2, r3, r4, r5, r6, r7, r8]) (hall : ∀ z ∈ [r0, r1, r2, r3, r4, r5, r6, r7, r8], 0 ≤ z ∧ z < 2) :
    Calls Try.prog 107 #[.int .i64 1, .int .i64 3, .slice A 9 c] w fun r w' => r = .returned (.int .i64 (exF 1 3 [r0, r1, r2, r3, r4, r5, r6, r7, r8])) ∧ Bl w w' := by
  have hE : exF 1 3 [r0, r1, r2, r3, r4, r5, r6, r7, r8] = r0 := by simp [exF]
  rw [hE]
  clear hE
  obtain ⟨hle1, hle2⟩ := hl.le
  have hl9 := hl
  obtain ⟨ad, rfl, had, q0, qs⟩ := hl.lit (by omega)
  have kr0 : w.cell? ad = some (.int .i64 r0) := q0 _ rfl
  clear qs q0
  have hall' := Lib.hid hall
  clear hall
  go_enter Try.func107, Try.ntmps107
  go_wp2_with (go_at_call 144; refine (vwShares0 2 r0 r1 r2 r3 r4 r5 r6 r7 r8 (some ad) c _ hl9 (by omega) hall'.out).mono ?_; rintro r w2 ⟨A2, c2, rfl, h2, hb2⟩)
  obtain ⟨hle3, hle4⟩ := h2.le
  obtain ⟨ax, rfl, hax, q0, qs⟩ := h2.lit (by omega)
  have kx2 : w2.cell? ⟨ax.block, ax.off + 2, none⟩ = some (.int .i64 (r6)) := qs 2 _ (by omega) rfl
  have kx4 : w2.cell? ⟨ax.block, ax.off + 4, none⟩ = some (.int .i64 (r8)) := qs 4 _ (by omega) rfl
  clear qs q0
  have kr := hb2.cells kr0
  have hwr1 : IntKind.i64.wrap 1 = 1 := rfl
  have hwr0 : IntKind.i64.wrap 0 = 0 := rfl
  go_wp2_with fail
  refine wp_region_held_drew (S := (fun w' => w'.cell? ⟨ax.block, ax.off + 2, none⟩ = some (.int .i64 (r6)) ∧ w'.cell? ⟨ax.block, ax.off + 4, none⟩ = some (.int .i64 (r8)) ∧ w'.cell? ad = some (.int .i64 r0))) (by kernel_rfl) ?_ (fun hHeld => ?_)
  · (try dsimp only); exact ⟨Bl.cells (by (repeat (first | assumption | with_reducible exact Bl.refl _ | with_reducible refine Bl.drewN ?_ _ | with_reducible refine Bl.drew ?_ | with_reducible refine Bl.alloc ?_ _ | (with_reducible refine Bl.call ?_ (by assumption))))) kx2, Bl.cells (by (repeat (first | assumption | with_reducible exact Bl.refl _ | with_reducible refine Bl.drewN ?_ _ | with_reducible refine Bl.drew ?_ | with_reducible refine Bl.alloc ?_ _ | (with_reducible refine Bl.call ?_ (by assumption))))) kx4, Bl.cells (by (repeat (first | assumption | with_reducible exact Bl.refl _ | with_reducible refine Bl.drewN ?_ _ | with_reducible refine Bl.drew ?_ | with_reducible refine Bl.alloc ?_ _ | (with_reducible refine Bl.call ?_ (by assumption))))) kr⟩
  refine held_take (i := 0) (d := 12) (v := ?_) rfl rfl (by kernel_rfl) (by kernel_rfl) (by kernel_rfl) (fun _ _ _ h => h) (Or.inl ⟨by rfl, ?_⟩) (by assumption) ?_
  rotate_left
  · (intro w hSw; (try dsimp only at hSw); go_simp; (try with_reducible rfl))
  (try simp only [List.set_cons_zero, List.set_cons_succ])
  refine held_take (i := 1) (d := 13) (v := ?_) rfl rfl (by kernel_rfl) (by kernel_rfl) (by kernel_rfl) (fun _ _ _ h => h) (Or.inl ⟨by rfl, ?_⟩) (by assumption) ?_
  rotate_left
  · (intro w hSw; (try dsimp only at hSw); go_simp; (try with_reducible rfl))
  (try simp only [List.set_cons_zero, List.set_cons_succ])
  refine held_take (i := 2) (d := 14) (v := ?_) rfl rfl (by kernel_rfl) (by kernel_rfl) (by kernel_rfl) (fun _ _ _ h => h) (Or.inl ⟨by rfl, ?_⟩) (by assumption) ?_
  rotate_left
  · (intro w hSw; (try dsimp only at hSw); go_simp; (try with_reducible rfl))
  (try simp only [List.set_cons_zero, List.set_cons_succ])
  refine held_take (i := 3) (d := 15) (v := ?_) rfl rfl (by kernel_rfl) (by kernel_rfl) (by kernel_rfl) (fun _ _ _ h => h) (Or.inl ⟨by rfl, ?_⟩) (by assumption) ?_
  rotate_left
  · (intro w hSw; (try dsimp only at hSw); go_simp; (try with_reducible rfl))
  (try simp only [List.set_cons_zero, List.set_cons_succ])
  refine held_take (i := 4) (d := 16) (v := ?_) rfl rfl (by kernel_rfl) (by kernel_rfl) (by kernel_rfl) (fun _ _ _ h => h) (Or.inl ⟨by rfl, ?_⟩) (by assumption) ?_
  rotate_left
  · (intro w hSw; (try dsimp only at hSw); go_simp; (try with_reducible rfl))
  (try simp only [List.set_cons_zero, List.set_cons_succ])
  refine held_take (i := 5) (d := 17) (v := ?_) rfl rfl (by kernel_rfl) (by kernel_rfl) (by kernel_rfl) (fun _ _ _ h => h) (Or.inl ⟨by rfl, ?_⟩) (by assumption) ?_
  rotate_left
  · (intro w hSw; (try dsimp only at hSw); go_simp; (try with_reducible rfl))
  (try simp only [List.set_cons_zero, List.set_cons_succ])
  refine held_take (i := 6) (d := 18) (v := ?_) rfl rfl (by kernel_rfl) (by kernel_rfl) (by kernel_rfl) (fun _ _ _ h => h) (Or.inl ⟨by rfl, ?_⟩) (by assumption) ?_
  rotate_left
  · (intro w hSw; (try dsimp only at hSw); go_simp; (try with_reducible rfl))
  (try simp only [List.set_cons_zero, List.set_cons_succ])
  refine held_take (i := 7) (d := 19) (v := ?_) rfl rfl (by kernel_rfl) (by kernel_rfl) (by kernel_rfl) (fun _ _ _ h => h) (Or.inl ⟨by rfl, ?_⟩) (by assumption) ?_
  rotate_left
  · (intro w hSw; (try dsimp only at hSw); go_simp; (try with_reducible rfl))
  (try simp only [List.set_cons_zero, List.set_cons_succ])
  refine held_take (i := 8) (d := 20) (v := ?_) rfl rfl (by kernel_rfl) (by kernel_rfl) (by kernel_rfl) (fun _ _ _ h => h) (Or.inl ⟨by rfl, ?_⟩) (by assumption) ?_
  rotate_left
  · (intro w hSw; (try dsimp only at hSw); go_simp; (try with_reducible rfl))
  (try simp only [List.set_cons_zero, List.set_cons_succ])
  refine held_take (i := 9) (d := 21) (v := ?_) rfl rfl (by kernel_rfl) (by kernel_rfl) (by kernel_rfl) (fun _ _ _ h => h) (Or.inl ⟨by rfl, ?_⟩) (by assumption) ?_
  rotate_left
  · (intro w hSw; (try dsimp only at hSw); go_simp; (try with_reducible rfl))
  (try simp only [List.set_cons_zero, List.set_cons_succ])
  refine held_take (i := 10) (d := 22) (v := ?_) rfl rfl (by kernel_rfl) (by kernel_rfl) (by kernel_rfl) (fun _ _ _ h => h) (Or.inl ⟨by rfl, ?_⟩) (by assumption) ?_
  rotate_left
  · (intro w hSw; (try dsimp only at hSw); go_simp; (try with_reducible rfl))
  (try simp only [List.set_cons_zero, List.set_cons_succ])
  refine held_take (i := 12) (d := 24) (v := ?_) rfl rfl (by kernel_rfl) (by kernel_rfl) (by kernel_rfl) (fun _ _ _ h => h) (Or.inl ⟨by rfl, ?_⟩) (by assumption) ?_
  rotate_left
  · (intro w hSw; (try dsimp only at hSw); go_simp; (try with_reducible rfl))
  (try simp only [List.set_cons_zero, List.set_cons_succ])
  refine wpAnyH_ready (rs := [11]) (by kernel_rfl) (by simp) ?_
  refine AllReadyH.cons rfl (fun K hK => ?_) AllReadyH.nil
  go_simp
  refine hK.out _ _ ?_ (fun hHeld => ?_)
  · (try dsimp only); exact ⟨Bl.cells (by (repeat (first | assumption | with_reducible exact Bl.refl _ | with_reducible refine Bl.drewN ?_ _ | with_reducible refine Bl.drew ?_ | with_reducible refine Bl.alloc ?_ _ | (with_reducible refine Bl.call ?_ (by assumption))))) kx2, Bl.cells (by (repeat (first | assumption | with_reducible exact Bl.refl _ | with_reducible refine Bl.drewN ?_ _ | with_reducible refine Bl.drew ?_ | with_reducible refine Bl.alloc ?_ _ | (with_reducible refine Bl.call ?_ (by assumption))))) kx4, Bl.cells (by (repeat (first | assumption | with_reducible exact Bl.refl _ | with_reducible refine Bl.drewN ?_ _ | with_reducible refine Bl.drew ?_ | with_reducible refine Bl.alloc ?_ _ | (with_reducible refine Bl.call ?_ (by assumption))))) kr⟩
  clear hK K
  (try simp only [Act.put]); (try simp only [List.setIfInBounds_toArray]); (try simp only [List.set_cons_succ]); (try simp only [List.set_cons_zero])
  refine held_take (i := 13) (d := 25) (v := ?_) rfl rfl (by kernel_rfl) (by kernel_rfl) (by kernel_rfl) (fun _ _ _ h => h) (Or.inl ⟨by rfl, ?_⟩) (by assumption) ?_
  rotate_left
  · (intro w hSw; (try dsimp only at hSw); go_simp; (try with_reducible rfl))
  (try simp only [List.set_cons_zero, List.set_cons_succ])
  refine wpAnyH_ready (rs := [14]) (by kernel_rfl) (by simp) ?_
  refine AllReadyH.cons rfl (fun K hK => ?_) AllReadyH.nil
  go_simp
  refine hK.out _ _ ?_ (fun hHeld => ?_)
  · (try dsimp only); exact ⟨Bl.cells (by (repeat (first | assumption | with_reducible exact Bl.refl _ | with_reducible refine Bl.drewN ?_ _ | with_reducible refine Bl.drew ?_ | with_reducible refine Bl.alloc ?_ _ | (with_reducible refine Bl.call ?_ (by assumption))))) kx2, Bl.cells (by (repeat (first | assumption | with_reducible exact Bl.refl _ | with_reducible refine Bl.drewN ?_ _ | with_reducible refine Bl.drew ?_ | with_reducible refine Bl.alloc ?_ _ | (with_reducible refine Bl.call ?_ (by assumption))))) kx4, Bl.cells (by (repeat (first | assumption | with_reducible exact Bl.refl _ | with_reducible refine Bl.drewN ?_ _ | with_reducible refine Bl.drew ?_ | with_reducible refine Bl.alloc ?_ _ | (with_reducible refine Bl.call ?_ (by assumption))))) kr⟩
  clear hK K
  (try simp only [Act.put]); (try simp only [List.setIfInBounds_toArray]); (try simp only [List.set_cons_succ]); (try simp only [List.set_cons_zero])
  refine held_take (i := 15) (d := 6) (v := ?_) rfl rfl (by kernel_rfl) (by kernel_rfl) (by kernel_rfl) (fun _ _ _ h => h) (Or.inl ⟨by rfl, ?_⟩) (by assumption) ?_
  rotate_left
  · (intro w hSw; (try dsimp only at hSw); go_simp; (try with_reducible rfl))
  (try simp only [List.set_cons_zero, List.set_cons_succ])
  refine wpAnyH_done (by kernel_rfl) ?_ _
  go_wp2
  go_ret
  exact ⟨rfl, (by (repeat (first | assumption | with_reducible exact Bl.refl _ | with_reducible refine Bl.drewN ?_ _ | with_reducible refine Bl.drew ?_ | with_reducible refine Bl.alloc ?_ _ | (with_reducible refine Bl.call ?_ (by assumption)))))⟩
end Go.Proofs.Ytglgaicbcackbaa
