/- The law's words on rows of lines: equality, marks.
   Conditions: rows of a bounded length. -/
import Derived.Test.YtdndkkaacfbkkaaDoorPre
namespace Go.Proofs.YtdndkkaacfbkkaaDoor
open Go.RowKit
set_option linter.unusedVariables false
theorem OwnV.far {e size base n c : Nat} {w w' : World} {A : Option Addr} {xs : List Value} {row : Option Nat} (h : OwnV e size base w A n c xs) (hg : w.grownBy w' row) (hne : ∀ k, A.map (·.block) = some k → row ≠ some k) : OwnV e size base w' A n c xs := by
  refine h.grown hg ?_
  rcases hA : A.map (·.block) with _ | k
  · exact .inl hA
  · exact .inr fun e => hne k hA (by rw [← e, hA])
theorem Bl.toG {w w' : World} (h : Bl w w') (row : Option Nat) : w.grownBy w' row := ⟨h.os, h.tape, h.output, h.size, fun k hk _ => h.block k hk⟩
theorem encs_app {l r : List (Hd × Ln)} : encs encL (l ++ r) = encs encL l ++ encs encL r := by unfold encs; rw [List.flatMap_append]
theorem encs_mid {D r : List (Hd × Ln)} {p p' : Hd × Ln} {f : Nat} {v : Value} (hf : f < 7) (he : encL p' = (encL p).set f v) : (encs encL (D ++ p :: r)).set (D.length * 7 + f) v = encs encL (D ++ p' :: r) := by
  have hD : (encs encL D).length = D.length * 7 := encs_length encL_len D
  rw [encs_app, encs_app, encs_cons, encs_cons, List.set_append_right _ _ (by omega), hD, Nat.add_sub_cancel_left, List.set_append_left _ _ (by rw [encL_len]; exact hf), he]
theorem apart_iff {l : List (Hd × Ln)} : (l.Pairwise fun p q => ∀ k, p.1.blk = some k → q.1.blk ≠ some k) ↔ ((l.map (·.1)).Pairwise fun a b => ∀ k, a.blk = some k → b.blk ≠ some k) := by rw [List.pairwise_map]
theorem mem_mid {D r : List (Hd × Ln)} {p p' q : Hd × Ln} (h1 : p'.1 = p.1) (h : q ∈ D ++ p' :: r) : q = p' ∨ q ∈ D ++ p :: r := by
  simp only [List.mem_append, List.mem_cons] at h ⊢
  rcases h with h | h | h
  · exact .inr (.inl h)
  · exact .inl h
  · exact .inr (.inr (.inr h))
theorem map_mid {D r : List (Hd × Ln)} {p p' : Hd × Ln} (h1 : p'.1 = p.1) : (D ++ p' :: r).map (·.1) = (D ++ p :: r).map (·.1) := by
  rw [List.map_append, List.map_append, List.map_cons, List.map_cons, h1]
section
variable {base n c g f : Nat} {w w' : World} {A : Option Addr} {D r : List (Hd × Ln)} {hd : Hd} {x x' : Ln}
/-- One field of a line is written. -/
theorem OwnL.setc (h : OwnL base w (some ⟨g, 0, none⟩) n c (D ++ (hd, x) :: r)) {v : Value} (hf : f < 7) (he : encL (hd, x') = (encL (hd, x)).set f v) (hp : x'.ps = x.ps) :
    OwnL base (w.setCell ⟨g, D.length * 7 + f, none⟩ v) (some ⟨g, 0, none⟩) n c (D ++ (hd, x') :: r) := by
  have hlen := h.len
  rw [List.length_append, List.length_cons] at hlen
  refine ⟨by rw [← encs_mid hf he]; exact h.row.set_ _ _ (by omega), by rw [← h.len]; simp, fun q hq => ?_, fun q hq => ?_, ?_⟩
  · have hm : ∃ q0 ∈ D ++ (hd, x) :: r, q0.1 = q.1 ∧ q0.2.ps = q.2.ps := by
      rcases mem_mid (p := (hd, x)) (p' := (hd, x')) rfl hq with rfl | hq
      · exact ⟨(hd, x), by simp, rfl, hp.symm⟩
      · exact ⟨q, hq, rfl, rfl⟩
    obtain ⟨q0, hq0, e1, e2⟩ := hm
    rw [← e1, ← e2]
    exact OwnV.far (h.ps q0 hq0) (grownBy_setCell w g _ v) (fun k hk e => h.apA q0 hq0 k hk (by rw [← e]; rfl))
  · have hm : ∃ q0 ∈ D ++ (hd, x) :: r, q0.1 = q.1 := by
      rcases mem_mid (p := (hd, x)) (p' := (hd, x')) rfl hq with rfl | hq
      · exact ⟨(hd, x), by simp, rfl⟩
      · exact ⟨q, hq, rfl⟩
    obtain ⟨q0, hq0, e1⟩ := hm
    rw [← e1]
    exact h.apA q0 hq0
  · rw [apart_iff, map_mid (p := (hd, x)) (p' := (hd, x')) rfl, ← apart_iff]
    exact h.apR
/-- The parts of a line are written. -/
theorem OwnL.setp (h : OwnL base w A n c (D ++ (hd, x) :: r)) (hg : w.grownBy w' hd.blk) (ho : OwnS base w' hd.A hd.n hd.c x'.ps) (he : encL (hd, x') = encL (hd, x)) :
    OwnL base w' A n c (D ++ (hd, x') :: r) := by
  have hin : (hd, x) ∈ D ++ (hd, x) :: r := by simp
  have hrow := OwnV.far h.row hg (fun k hk e => h.apA _ hin k e hk)
  have henc : encs encL (D ++ (hd, x') :: r) = encs encL (D ++ (hd, x) :: r) := by rw [encs_app, encs_app, encs_cons, encs_cons, he]
  refine ⟨by rw [henc]; exact hrow, by rw [← h.len]; simp, fun q hq => ?_, fun q hq => ?_, ?_⟩
  · have hR := h.apR
    rw [List.pairwise_append, List.pairwise_cons] at hR
    obtain ⟨_, ⟨h2, _⟩, h3⟩ := hR
    simp only [List.mem_append, List.mem_cons] at hq
    rcases hq with hq | rfl | hq
    · exact OwnV.far (h.ps q (by simp [hq])) hg (fun k hk e => h3 q hq (hd, x) (by simp) k hk e)
    · exact ho
    · exact OwnV.far (h.ps q (by simp [hq])) hg (fun k hk e => h2 q hq k e hk)
  · rcases mem_mid (p := (hd, x)) (p' := (hd, x')) rfl hq with rfl | hq
    · exact h.apA (hd, x) hin
    · exact h.apA q hq
  · rw [apart_iff, map_mid (p := (hd, x)) (p' := (hd, x')) rfl, ← apart_iff]
    exact h.apR
/-- The cells of a line. -/
theorem OwnL.cell (h : OwnL base w A n c (D ++ (hd, x) :: r)) : ∃ g, A = some ⟨g, 0, none⟩ ∧ base ≤ g ∧ g < w.heap.size ∧ (∀ i, w.frozen? ⟨g, i, none⟩ = false) ∧ OwnS base w hd.A hd.n hd.c x.ps ∧ ∀ j u, j < 7 → (encL (hd, x))[j]? = some u → w.cell? ⟨g, D.length * 7 + j, none⟩ = some u := by
  have hlen := h.len
  rw [List.length_append, List.length_cons] at hlen
  obtain ⟨g, hg, h1, h2, hcell, hfr⟩ := h.row.form (by omega)
  refine ⟨g, hg, h1, h2, hfr, h.ps (hd, x) (by simp), fun j u hj hu => hcell _ u ?_⟩
  rw [encs_get encL_len _ D.length j (hd, x) (by simp) hj]
  exact hu
theorem OwnL.cellg (h : OwnL base w (some ⟨g, 0, none⟩) n c (D ++ (hd, x) :: r)) : base ≤ g ∧ g < w.heap.size ∧ (∀ i, w.frozen? ⟨g, i, none⟩ = false) ∧ OwnS base w hd.A hd.n hd.c x.ps ∧ ∀ j u, j < 7 → (encL (hd, x))[j]? = some u → w.cell? ⟨g, D.length * 7 + j, none⟩ = some u := by
  obtain ⟨g', e, h1, h2, h3, h4, h5⟩ := h.cell
  injection e with e
  injection e with e
  subst e
  exact ⟨h1, h2, h3, h4, h5⟩
end
/-- The text of a mark. -/
def mtR : Nat → Int → ByteArray → ByteArray
  | 0, _, s => s
  | f + 1, k, s => if 0 < k then mtR f (k / 10) (⟨#[48 + UInt8.ofNat (k % 10).toNat]⟩ ++ s) else s
theorem mtR_yes {f : Nat} {k : Int} {s : ByteArray} (hk : 0 < k) : mtR (f + 1) k s = mtR f (k / 10) (⟨#[48 + UInt8.ofNat (k % 10).toNat]⟩ ++ s) := by rw [mtR, if_pos hk]
theorem mtR_no {f : Nat} {k : Int} {s : ByteArray} (hk : ¬ 0 < k) : mtR f k s = s := by
  cases f with
  | zero => rfl
  | succ f => rw [mtR, if_neg hk]
def mt (k : Int) : ByteArray := if k ≤ 0 then ⟨#[109, 48]⟩ else ⟨#[109]⟩ ++ mtR k.toNat k ⟨#[]⟩
def mkS (k : Int) (n : Nat) : List ByteArray := (List.range n).map fun j => mt (k + (j : Nat))
theorem mkS_length (k : Int) (n : Nat) : (mkS k n).length = n := by simp [mkS]
theorem mkS_get {k : Int} {n j : Nat} (h : j < n) : (mkS k n)[j]? = some (mt (k + (j : Nat))) := by simp [mkS, h]
def mkSi (k : Int) (l : List ByteArray) (i : Nat) : List ByteArray := mkS k i ++ l.drop i
theorem mkSi_zero (k : Int) (l : List ByteArray) : mkSi k l 0 = l := by simp [mkSi, mkS]
theorem mkSi_all {k : Int} {l : List ByteArray} {n : Nat} (h : l.length = n) : mkSi k l n = mkS k n := by subst h; simp [mkSi]
theorem mkSi_step (k : Int) (l : List ByteArray) (i : Nat) (h : i < l.length) : (mkSi k l i).set i (mt (k + (i : Nat))) = mkSi k l (i + 1) := by
  unfold mkSi
  rw [List.set_append_right _ _ (by simp [mkS]), show i - (mkS k i).length = 0 by simp [mkS], List.drop_eq_getElem_cons h, List.set_cons_zero]
  simp [mkS, List.range_succ]
def cntL (x : Ln) : Nat := 6 + x.ps.length
def totL : List (Hd × Ln) → Nat
  | [] => 0
  | p :: r => cntL p.2 + totL r
def mkL1 (k : Int) (x : Ln) : Ln := ⟨k, mt (k + 1), mt (k + 1 + 1), mkS (k + 1 + 1 + 1) x.ps.length, k + 1 + 1 + 1 + x.ps.length, k + 1 + 1 + 1 + x.ps.length + 1, k + 1 + 1 + 1 + x.ps.length + 1 + 1⟩
def mkLs (k : Int) : List (Hd × Ln) → List (Hd × Ln)
  | [] => []
  | p :: r => (p.1, mkL1 k p.2) :: mkLs (k + cntL p.2) r
theorem mkLs_length (k : Int) (l : List (Hd × Ln)) : (mkLs k l).length = l.length := by
  induction l generalizing k with
  | nil => rfl
  | cons p r ih => rw [mkLs, List.length_cons, List.length_cons, ih]
theorem OwnS.set_ {base n c g : Nat} {w : World} {l : List ByteArray} (h : OwnS base w (some ⟨g, 0, none⟩) n c l) {j : Nat} (hj : j < n) (s : ByteArray) : OwnS base (w.setCell ⟨g, j, none⟩ (.string s)) (some ⟨g, 0, none⟩) n c (l.set j s) := by
  have := OwnV.set_ h j (.string s) (by omega)
  unfold OwnS
  rwa [show strs (l.set j s) = (strs l).set j (.string s) by simp [strs, List.map_set]]
theorem OwnS.at_ {base n c : Nat} {w : World} {A : Option Addr} {l : List ByteArray} (h : OwnS base w A n c l) {j : Nat} (hj : j < n) : ∃ g s, A = some ⟨g, 0, none⟩ ∧ l[j]? = some s ∧ base ≤ g ∧ g < w.heap.size ∧ (∀ i, w.frozen? ⟨g, i, none⟩ = false) ∧ w.cell? ⟨g, j, none⟩ = some (.string s) := by
  obtain ⟨g, hg, h1, h2, hcell, hfr⟩ := OwnV.form h (by omega)
  have hl : j < l.length := by rw [h.length]; exact hj
  exact ⟨g, l[j], hg, List.getElem?_eq_getElem hl, h1, h2, hfr, hcell j _ (by rw [strs_get, List.getElem?_eq_getElem hl]; rfl)⟩
theorem laws_eqStringS (A B : Option Addr) (n c m d : Nat) (l : List ByteArray) (w : World) (h : RdS w A n c l) (h' : RdS w B m d l) :
    Calls Tryd.prog 30 #[.slice A n c, .slice B m d] w fun e w' => e = .returned (.bool true) ∧ Bl w w' := by
  obtain rfl : m = n := by have := h.length; have := h'.length; omega
  obtain ⟨hle1, hle2⟩ := h.le
  obtain ⟨hle3, hle4⟩ := h'.le
  go_enter Tryd.func30, Tryd.ntmps30
  go_wp2
  go_loopw [5] (fun i wr => ∃ k : Nat, k ≤ m ∧ i = .int .i64 k ∧ Bl w wr) (fun i _ => m - (intOf i).toNat)
  case atStart => exact ⟨0, by omega, rfl, Bl.refl _⟩
  case round =>
    obtain ⟨k, hk, rfl, hb⟩ := hrel
    by_cases hlt : k < m
    · obtain ⟨ad, x, rfl, hadb, hx, hcell⟩ := (RdS.keep h hb).at_ hlt
      obtain ⟨ad', x', rfl, hadb', hx', hcell'⟩ := (RdS.keep h' hb).at_ hlt
      rw [hx] at hx'
      injection hx' with hx'
      subst hx'
      clear hx
      have i1 : (k : Int) < m := by omega
      have e1 : (x.toList == x.toList) = true := by simp
      go_wp2_with fail
      refine wp_region_held_drew (S := (fun w' => w'.cell? (ad.add k) = some (.string x) ∧ w'.cell? (ad'.add k) = some (.string x))) (by kernel_rfl) ?_ (fun hHeld => ?_)
      · (try dsimp only); exact ⟨Bl.cells ((Bl.refl _).drew) hcell, Bl.cells ((Bl.refl _).drew) hcell'⟩
      refine held_take (i := 0) (d := 17) (v := ?_) rfl rfl (by kernel_rfl) (by kernel_rfl) (by kernel_rfl) (fun _ _ _ h => h) (Or.inl ⟨by rfl, ?_⟩) (by assumption) ?_
      rotate_left
      · (intro w hSw; (try dsimp only at hSw); go_simp; (try with_reducible rfl))
      (try simp only [List.set_cons_zero, List.set_cons_succ])
      refine held_take (i := 1) (d := 18) (v := ?_) rfl rfl (by kernel_rfl) (by kernel_rfl) (by kernel_rfl) (fun _ _ _ h => h) (Or.inl ⟨by rfl, ?_⟩) (by assumption) ?_
      rotate_left
      · (intro w hSw; (try dsimp only at hSw); go_simp; (try with_reducible rfl))
      (try simp only [List.set_cons_zero, List.set_cons_succ])
      refine held_take (i := 2) (d := 19) (v := ?_) rfl rfl (by kernel_rfl) (by kernel_rfl) (by kernel_rfl) (fun _ _ _ h => h) (Or.inl ⟨by rfl, ?_⟩) (by assumption) ?_
      rotate_left
      · (intro w hSw; (try dsimp only at hSw); go_simp; (try with_reducible rfl))
      (try simp only [List.set_cons_zero, List.set_cons_succ])
      refine held_take (i := 3) (d := 20) (v := ?_) rfl rfl (by kernel_rfl) (by kernel_rfl) (by kernel_rfl) (fun _ _ _ h => h) (Or.inl ⟨by rfl, ?_⟩) (by assumption) ?_
      rotate_left
      · (intro w hSw; (try dsimp only at hSw); go_simp; (try with_reducible rfl))
      (try simp only [List.set_cons_zero, List.set_cons_succ])
      refine held_take (i := 4) (d := 21) (v := ?_) rfl rfl (by kernel_rfl) (by kernel_rfl) (by kernel_rfl) (fun _ _ _ h => h) (Or.inl ⟨by rfl, ?_⟩) (by assumption) ?_
      rotate_left
      · (intro w hSw; (try dsimp only at hSw); go_simp; (try with_reducible rfl))
      (try simp only [List.set_cons_zero, List.set_cons_succ])
      refine held_take (i := 5) (d := 22) (v := ?_) rfl rfl (by kernel_rfl) (by kernel_rfl) (by kernel_rfl) (fun _ _ _ h => h) (Or.inl ⟨by rfl, ?_⟩) (by assumption) ?_
      rotate_left
      · (intro w hSw; (try dsimp only at hSw); go_simp; (try with_reducible rfl))
      (try simp only [List.set_cons_zero, List.set_cons_succ])
      refine held_take (i := 6) (d := 23) (v := ?_) rfl rfl (by kernel_rfl) (by kernel_rfl) (by kernel_rfl) (fun _ _ _ h => h) (Or.inl ⟨by rfl, ?_⟩) (by assumption) ?_
      rotate_left
      · (intro w hSw; (try dsimp only at hSw); go_simp; (try with_reducible rfl))
      (try simp only [List.set_cons_zero, List.set_cons_succ])
      refine held_take (i := 7) (d := 24) (v := ?_) rfl rfl (by kernel_rfl) (by kernel_rfl) (by kernel_rfl) (fun _ _ _ h => h) (Or.inl ⟨by rfl, ?_⟩) (by assumption) ?_
      rotate_left
      · (intro w hSw; (try dsimp only at hSw); go_simp; (try with_reducible rfl))
      (try simp only [List.set_cons_zero, List.set_cons_succ])
      refine held_take (i := 8) (d := 25) (v := ?_) rfl rfl (by kernel_rfl) (by kernel_rfl) (by kernel_rfl) (fun _ _ _ h => h) (Or.inl ⟨by rfl, ?_⟩) (by assumption) ?_
      rotate_left
      · (intro w hSw; (try dsimp only at hSw); go_simp; (try with_reducible rfl))
      (try simp only [List.set_cons_zero, List.set_cons_succ])
      refine wpAnyH_done (by kernel_rfl) ?_ _
      go_wp2_with fail
      go_roundw
      case rel => exact ⟨k + 1, by omega, by go_num, hb.drew⟩
      case measure => simp [intOf]; omega
    · obtain rfl : k = m := by omega
      go_wp2
      go_ret
      exact ⟨rfl, hb⟩
set_option maxRecDepth 20000 in
set_option maxHeartbeats 2000000 in
theorem laws_markText (K : Int) (w : World) (h0 : 0 ≤ K) (h1 : K ≤ 1000000) :
    Calls Tryd.prog 15 #[.int .i64 K] w fun e w' => e = .returned (.string (mt K)) ∧ Bl w w' := by
  unfold mt
  by_cases hk : K ≤ 0
  · rw [if_pos hk]
    go_enter Tryd.func15, Tryd.ntmps15
    go_wp2_with fail
    go_ret
    exact ⟨rfl, Bl.refl _⟩
  · rw [if_neg hk]
    obtain ⟨R, hR⟩ : ∃ R, mtR K.toNat K ⟨#[]⟩ = R := ⟨_, rfl⟩
    have HR := Lib.hid hR
    rw [hR]
    clear hR
    have c0 := hk
    have hbW := Bl.refl w
    go_enter Tryd.func15, Tryd.ntmps15
    go_wp2_with fail
    go_loopw [0, 3] (fun k o wr => ∃ (q : Int) (f : Nat) (s : ByteArray), 0 ≤ q ∧ q ≤ f ∧ q + s.size ≤ K ∧ k = .int .i64 q ∧ o = .string s ∧ Hid (mtR f q s = R) ∧ Bl w wr) (fun k _ _ => (intOf k).toNat)
    case atStart => exact ⟨K, K.toNat, ⟨#[]⟩, by omega, by omega, by rw [show (⟨#[]⟩ : ByteArray).size = 0 from rfl]; omega, rfl, rfl, HR, hbW⟩
    case round =>
      clear c0
      obtain ⟨q, f, s, hq0, hqf, hqs, rfl, rfl, HQ, hb⟩ := hrel
      by_cases hq : 0 < q
      · obtain ⟨f, rfl⟩ : ∃ f', f = f' + 1 := ⟨f - 1, by omega⟩
        have HS := Lib.hid (mtR_yes (f := f) (s := s) hq)
        have kc := fun w => conv1 w (48 + UInt8.ofNat (q % 10).toNat) (48 + q % 10) (by rw [UInt8.toNat_add, UInt8.toNat_ofNat']; show (((48 + (q % 10).toNat % 256) % 256 : Nat) : Int) = 48 + q % 10; omega)
        have r1 : q.tmod 10 = q % 10 := Int.tmod_eq_emod_of_nonneg hq0
        have r2 : q.tdiv 10 = q / 10 := Int.tdiv_eq_ediv_of_nonneg hq0
        have hsz : ((⟨#[48 + UInt8.ofNat (q % 10).toNat]⟩ : ByteArray) ++ s).size = 1 + s.size := by rw [ByteArray.size_append]; rfl
        go_wp2_with fail
        go_roundw
        case rel => exact ⟨q / 10, f, _, by omega, by omega, by rw [hsz]; omega, by go_num, rfl, Lib.hid (by rw [← HS.out]; exact HQ.out), (by (repeat (first | with_reducible assumption | with_reducible exact Bl.refl _ | with_reducible refine Bl.drewN ?_ _ | with_reducible refine Bl.drew ?_ | with_reducible refine Bl.alloc ?_ _ | with_reducible refine Bl.setCell ?_ (by first | (dsimp only; omega) | (simp; omega)) _ | (with_reducible refine Bl.call ?_ (by with_reducible assumption)))))⟩
        case measure => simp [intOf]; omega
      · have hs0 : q = 0 := by omega
        have HE := Lib.hid (mtR_no (f := f) (s := s) hq)
        have d1 : (⟨#[109]⟩ : ByteArray).size = 1 := rfl
        go_wp2_with fail
        go_ret
        exact ⟨by rw [← HQ.out, HE.out]; rfl, hb⟩
set_option maxHeartbeats 2000000 in
theorem laws_markStringS (A : Option Addr) (n c base : Nat) (l : List ByteArray) (k : Int) (w : World) (h : OwnS base w A n c l) (hk : 0 ≤ k) (hk2 : k + n ≤ 1000000) :
    Calls Tryd.prog 16 #[.slice A n c, .int .i64 k] w fun e w' => e = .returned (.int .i64 (k + n)) ∧ OwnS base w' A n c (mkS k n) ∧ w.grownBy w' (A.map (·.block)) := by
  obtain ⟨hle1, hle2⟩ := h.rd.le
  have hlen := h.length
  have hl := Lib.hid h.length
  go_enter Tryd.func16, Tryd.ntmps16
  go_wp2
  go_loopw [1, 5] (fun q i wr => ∃ j : Nat, j ≤ n ∧ i = .int .i64 j ∧ q = .int .i64 (k + j) ∧ OwnS base wr A n c (mkSi k l j) ∧ w.grownBy wr (A.map (·.block))) (fun _ i _ => n - (intOf i).toNat)
  case atStart => exact ⟨0, by omega, rfl, by simp, by rw [mkSi_zero]; exact h, World.grownBy.refl w _⟩
  case round =>
    obtain ⟨j, hj, rfl, rfl, hown, hg⟩ := hrel
    by_cases hlt : j < n
    · have i1 : (j : Int) < n := by omega
      go_wp2_with fail
      refine (laws_markText _ _ (by omega) (by omega)).mono ?_
      rintro e w1 ⟨rfl, hb1⟩
      have hown1 := hown.keep hb1
      obtain ⟨g, s, rfl, hx, hbg, hgl, hfr, hcell⟩ := hown1.at_ hlt
      clear hx
      go_wp2_with fail
      go_roundw
      case rel => exact ⟨j + 1, by omega, by go_num, by go_num, by rw [← mkSi_step _ _ _ (by rw [hl.out]; omega)]; exact hown1.set_ hlt _, grownBy_trans (grownBy_trans hg (hb1.toG _)) (grownBy_setCell _ _ _ _)⟩
      case measure => simp [intOf]; omega
    · obtain rfl : j = n := by omega
      go_wp2
      go_ret
      exact ⟨rfl, by rw [← mkSi_all hl.out]; exact hown, hg⟩
set_option maxHeartbeats 2000000 in
theorem laws_heldStringS (A : Option Addr) (n c : Nat) (k : Int) (w : World) (h : RdS w A n c (mkS k n)) (hk : 0 ≤ k) (hk2 : k + n ≤ 1000000) :
    Calls Tryd.prog 17 #[.slice A n c, .int .i64 k] w fun e w' => e = .returned (.int .i64 (k + n)) ∧ Bl w w' := by
  obtain ⟨hle1, hle2⟩ := h.le
  go_enter Tryd.func17, Tryd.ntmps17
  go_wp2
  go_loopw [1, 5] (fun q i wr => ∃ j : Nat, j ≤ n ∧ i = .int .i64 j ∧ q = .int .i64 (k + j) ∧ Bl w wr) (fun _ i _ => n - (intOf i).toNat)
  case atStart => exact ⟨0, by omega, rfl, by simp, Bl.refl _⟩
  case round =>
    obtain ⟨j, hj, rfl, rfl, hb⟩ := hrel
    by_cases hlt : j < n
    · obtain ⟨ad, s, rfl, hgl, hx, hcell⟩ := (RdS.keep h hb).at_ hlt
      rw [mkS_get hlt] at hx
      injection hx with hx
      subst hx
      have i1 : (j : Int) < n := by omega
      have e1 : ((mt (k + (j : Nat))).toList == (mt (k + (j : Nat))).toList) = true := by simp
      generalize hmt : mt (k + (j : Nat)) = M at hcell e1
      have HMT := Lib.hid hmt
      clear hmt
      go_wp2_with fail
      refine wp_region_held_drew (S := (fun w' => w'.cell? (ad.add j) = some (.string M))) (by kernel_rfl) ?_ (fun hHeld => ?_)
      · (try dsimp only); exact Bl.cells ((Bl.refl _).drew) hcell
      refine held_take (i := 0) (d := 12) (v := ?_) rfl rfl (by kernel_rfl) (by kernel_rfl) (by kernel_rfl) (fun _ _ _ h => h) (Or.inl ⟨by rfl, ?_⟩) (by assumption) ?_
      rotate_left
      · (intro w hSw; (try dsimp only at hSw); go_simp; (try with_reducible rfl))
      (try simp only [List.set_cons_zero, List.set_cons_succ])
      refine held_take (i := 1) (d := 13) (v := ?_) rfl rfl (by kernel_rfl) (by kernel_rfl) (by kernel_rfl) (fun _ _ _ h => h) (Or.inl ⟨by rfl, ?_⟩) (by assumption) ?_
      rotate_left
      · (intro w hSw; (try dsimp only at hSw); go_simp; (try with_reducible rfl))
      (try simp only [List.set_cons_zero, List.set_cons_succ])
      refine held_take (i := 2) (d := 14) (v := ?_) rfl rfl (by kernel_rfl) (by kernel_rfl) (by kernel_rfl) (fun _ _ _ h => h) (Or.inl ⟨by rfl, ?_⟩) (by assumption) ?_
      rotate_left
      · (intro w hSw; (try dsimp only at hSw); go_simp; (try with_reducible rfl))
      (try simp only [List.set_cons_zero, List.set_cons_succ])
      refine held_take (i := 3) (d := 15) (v := ?_) rfl rfl (by kernel_rfl) (by kernel_rfl) (by kernel_rfl) (fun _ _ _ h => h) (Or.inl ⟨by rfl, ?_⟩) (by assumption) ?_
      rotate_left
      · (intro w hSw; (try dsimp only at hSw); go_simp; (try with_reducible rfl))
      (try simp only [List.set_cons_zero, List.set_cons_succ])
      refine held_take (i := 4) (d := 16) (v := ?_) rfl rfl (by kernel_rfl) (by kernel_rfl) (by kernel_rfl) (fun _ _ _ h => h) (Or.inl ⟨by rfl, ?_⟩) (by assumption) ?_
      rotate_left
      · (intro w hSw; (try dsimp only at hSw); go_simp; (try with_reducible rfl))
      (try simp only [List.set_cons_zero, List.set_cons_succ])
      refine wpAnyH_ready (rs := [5]) (by kernel_rfl) (by simp) ?_
      refine AllReadyH.cons rfl (fun K hK => ?_) AllReadyH.nil
      go_simp
      refine (laws_markText _ _ (by omega) (by omega)).mono ?_; rintro e w1 ⟨rfl, hb1⟩; rw [HMT.out]
      go_wp2_with fail
      refine hK.out _ _ ?_ (fun hHeld => ?_)
      · (try dsimp only); exact Bl.cells (((Bl.refl _).drew).call hb1) hcell
      clear hK K
      (try simp only [Act.put]); (try simp only [List.setIfInBounds_toArray]); (try simp only [List.set_cons_succ]); (try simp only [List.set_cons_zero])
      refine held_take (i := 6) (d := 18) (v := ?_) rfl rfl (by kernel_rfl) (by kernel_rfl) (by kernel_rfl) (fun _ _ _ h => h) (Or.inl ⟨by rfl, ?_⟩) (by assumption) ?_
      rotate_left
      · (intro w hSw; (try dsimp only at hSw); go_simp; (try with_reducible rfl))
      (try simp only [List.set_cons_zero, List.set_cons_succ])
      refine wpAnyH_done (by kernel_rfl) ?_ _
      go_wp2_with fail
      go_roundw
      case rel => exact ⟨j + 1, by omega, by go_num, by go_num, (hb.drew).call hb1⟩
      case measure => simp [intOf]; omega
    · obtain rfl : j = n := by omega
      go_wp2
      go_ret
      exact ⟨rfl, hb⟩
set_option maxHeartbeats 2000000 in
theorem laws_eqLine (A B : Option Addr) (n c m d : Nat) (x : Ln) (w : World) (h : RdS w A n c x.ps) (h' : RdS w B m d x.ps) :
    Calls Tryd.prog 14 #[.agg #[.int .i64 x.k, .string x.nm, .string x.op, .slice A n c, .int .i64 x.pt, .int .i64 x.wd, .int .i64 x.vl], .agg #[.int .i64 x.k, .string x.nm, .string x.op, .slice B m d, .int .i64 x.pt, .int .i64 x.wd, .int .i64 x.vl]] w fun e w' => e = .returned (.bool true) ∧ Bl w w' := by
  obtain ⟨k, nm, op, ps, pt, wd, vl⟩ := x
  have e1 : (nm.toList == nm.toList) = true := by simp
  have e2 : (op.toList == op.toList) = true := by simp
  have hX := Blk.new w 33 #[.int .i64 k, .string nm, .string op, .slice A n c, .int .i64 pt, .int .i64 wd, .int .i64 vl] (g := w.heap.size)
  have hV := (Bl.refl w).alloc (.cells #[.int .i64 k, .string nm, .string op, .slice A n c, .int .i64 pt, .int .i64 wd, .int .i64 vl] 33)
  have hX2 := Blk.new (w.alloc (.cells #[.int .i64 k, .string nm, .string op, .slice A n c, .int .i64 pt, .int .i64 wd, .int .i64 vl] 33)) 33 #[.int .i64 k, .string nm, .string op, .slice B m d, .int .i64 pt, .int .i64 wd, .int .i64 vl] (g := w.heap.size + 1)
  have hV2 := (Bl.refl (w.alloc (.cells #[.int .i64 k, .string nm, .string op, .slice A n c, .int .i64 pt, .int .i64 wd, .int .i64 vl] 33))).alloc (.cells #[.int .i64 k, .string nm, .string op, .slice B m d, .int .i64 pt, .int .i64 wd, .int .i64 vl] 33)
  go_enter Tryd.func14, Tryd.ntmps14
  go_wp2_with fail
  refine (laws_eqStringS _ _ _ _ _ _ ps _ (h.keep (hV.call hV2)) (h'.keep (hV.call hV2))).mono ?_
  rintro e w1 ⟨rfl, hb1⟩
  replace hX := (hX.keep hV2).keep hb1
  replace hX2 := hX2.keep hb1
  have x4 := hX.cell 4 _ rfl
  have x5 := hX.cell 5 _ rfl
  have x6 := hX.cell 6 _ rfl
  have y4 := hX2.cell 4 _ rfl
  have y5 := hX2.cell 5 _ rfl
  have y6 := hX2.cell 6 _ rfl
  go_wp2_with fail
  go_ret
  exact ⟨rfl, (hV.call hV2).call hb1⟩
set_option maxHeartbeats 2000000 in
theorem laws_eqLineS (A B : Option Addr) (n c m d : Nat) (l l' : List (Hd × Ln)) (w : World) (h : RdL w A n c l) (h' : RdL w B m d l') (he : l.map (·.2) = l'.map (·.2)) :
    Calls Tryd.prog 6 #[.slice A n c, .slice B m d] w fun e w' => e = .returned (.bool true) ∧ Bl w w' := by
  obtain rfl : m = n := by have := h.len; have := h'.len; have := congrArg List.length he; simp at this; omega
  obtain ⟨hle1, hle2⟩ := h.le
  obtain ⟨hle3, hle4⟩ := h'.le
  have HE := Lib.hid he
  clear he
  go_enter Tryd.func6, Tryd.ntmps6
  go_wp2
  go_loopw [5] (fun i wr => ∃ k : Nat, k ≤ m ∧ i = .int .i64 k ∧ Bl w wr) (fun i _ => m - (intOf i).toNat)
  case atStart => exact ⟨0, by omega, rfl, Bl.refl _⟩
  case round =>
    obtain ⟨k, hk, rfl, hb⟩ := hrel
    by_cases hlt : k < m
    · obtain ⟨ad, p, rfl, hadb, hx, hs, q0, q1, q2, q3, q4, q5, q6⟩ := (h.keep hb).at_ hlt
      obtain ⟨ad', p', rfl, hadb', hx', hs', r0, r1, r2, r3, r4, r5, r6⟩ := (h'.keep hb).at_ hlt
      have hpp : p.2 = p'.2 := by
        have := congrArg (fun t => t[k]?) HE.out
        simpa [hx, hx'] using this
      obtain ⟨⟨A1, n1, c1⟩, x⟩ := p
      obtain ⟨⟨A2, n2, c2⟩, x'⟩ := p'
      change x = x' at hpp
      subst hpp
      obtain ⟨z1, z2, z3, z4, z5, z6, z7⟩ := x
      clear hx hx'
      dsimp only at hs hs' q0 q1 q2 q3 q4 q5 q6 r0 r1 r2 r3 r4 r5 r6
      have i1 : (k : Int) < m := by omega
      go_wp2_with fail
      refine wp_region_held_drew (S := (fun w' => w'.cell? (ad.add (k * 7)) = some (.int .i64 z1) ∧ w'.cell? ⟨(ad.add (k * 7)).block, (ad.add (k * 7)).off + 1, none⟩ = some (.string z2) ∧ w'.cell? ⟨(ad.add (k * 7)).block, (ad.add (k * 7)).off + 2, none⟩ = some (.string z3) ∧ w'.cell? ⟨(ad.add (k * 7)).block, (ad.add (k * 7)).off + 3, none⟩ = some (.slice A1 n1 c1) ∧ w'.cell? ⟨(ad.add (k * 7)).block, (ad.add (k * 7)).off + 4, none⟩ = some (.int .i64 z5) ∧ w'.cell? ⟨(ad.add (k * 7)).block, (ad.add (k * 7)).off + 5, none⟩ = some (.int .i64 z6) ∧ w'.cell? ⟨(ad.add (k * 7)).block, (ad.add (k * 7)).off + 6, none⟩ = some (.int .i64 z7) ∧ w'.cell? (ad'.add (k * 7)) = some (.int .i64 z1) ∧ w'.cell? ⟨(ad'.add (k * 7)).block, (ad'.add (k * 7)).off + 1, none⟩ = some (.string z2) ∧ w'.cell? ⟨(ad'.add (k * 7)).block, (ad'.add (k * 7)).off + 2, none⟩ = some (.string z3) ∧ w'.cell? ⟨(ad'.add (k * 7)).block, (ad'.add (k * 7)).off + 3, none⟩ = some (.slice A2 n2 c2) ∧ w'.cell? ⟨(ad'.add (k * 7)).block, (ad'.add (k * 7)).off + 4, none⟩ = some (.int .i64 z5) ∧ w'.cell? ⟨(ad'.add (k * 7)).block, (ad'.add (k * 7)).off + 5, none⟩ = some (.int .i64 z6) ∧ w'.cell? ⟨(ad'.add (k * 7)).block, (ad'.add (k * 7)).off + 6, none⟩ = some (.int .i64 z7))) (by kernel_rfl) ?_ (fun hHeld => ?_)
      · (try dsimp only); exact ⟨Bl.cells ((Bl.refl _).drew) q0, Bl.cells ((Bl.refl _).drew) q1, Bl.cells ((Bl.refl _).drew) q2, Bl.cells ((Bl.refl _).drew) q3, Bl.cells ((Bl.refl _).drew) q4, Bl.cells ((Bl.refl _).drew) q5, Bl.cells ((Bl.refl _).drew) q6, Bl.cells ((Bl.refl _).drew) r0, Bl.cells ((Bl.refl _).drew) r1, Bl.cells ((Bl.refl _).drew) r2, Bl.cells ((Bl.refl _).drew) r3, Bl.cells ((Bl.refl _).drew) r4, Bl.cells ((Bl.refl _).drew) r5, Bl.cells ((Bl.refl _).drew) r6⟩
      refine held_take (i := 0) (d := 17) (v := ?_) rfl rfl (by kernel_rfl) (by kernel_rfl) (by kernel_rfl) (fun _ _ _ h => h) (Or.inl ⟨by rfl, ?_⟩) (by assumption) ?_
      rotate_left
      · (intro w hSw; (try dsimp only at hSw); go_simp; (try with_reducible rfl))
      (try simp only [List.set_cons_zero, List.set_cons_succ])
      refine held_take (i := 1) (d := 18) (v := ?_) rfl rfl (by kernel_rfl) (by kernel_rfl) (by kernel_rfl) (fun _ _ _ h => h) (Or.inl ⟨by rfl, ?_⟩) (by assumption) ?_
      rotate_left
      · (intro w hSw; (try dsimp only at hSw); go_simp; (try with_reducible rfl))
      (try simp only [List.set_cons_zero, List.set_cons_succ])
      refine held_take (i := 2) (d := 19) (v := ?_) rfl rfl (by kernel_rfl) (by kernel_rfl) (by kernel_rfl) (fun _ _ _ h => h) (Or.inl ⟨by rfl, ?_⟩) (by assumption) ?_
      rotate_left
      · (intro w hSw; (try dsimp only at hSw); go_simp; (try with_reducible rfl))
      (try simp only [List.set_cons_zero, List.set_cons_succ])
      refine held_take (i := 3) (d := 20) (v := ?_) rfl rfl (by kernel_rfl) (by kernel_rfl) (by kernel_rfl) (fun _ _ _ h => h) (Or.inl ⟨by rfl, ?_⟩) (by assumption) ?_
      rotate_left
      · (intro w hSw; (try dsimp only at hSw); go_simp; (try with_reducible rfl))
      (try simp only [List.set_cons_zero, List.set_cons_succ])
      refine held_take (i := 4) (d := 21) (v := ?_) rfl rfl (by kernel_rfl) (by kernel_rfl) (by kernel_rfl) (fun _ _ _ h => h) (Or.inl ⟨by rfl, ?_⟩) (by assumption) ?_
      rotate_left
      · (intro w hSw; (try dsimp only at hSw); go_simp; (try with_reducible rfl))
      (try simp only [List.set_cons_zero, List.set_cons_succ])
      refine held_take (i := 5) (d := 22) (v := ?_) rfl rfl (by kernel_rfl) (by kernel_rfl) (by kernel_rfl) (fun _ _ _ h => h) (Or.inl ⟨by rfl, ?_⟩) (by assumption) ?_
      rotate_left
      · (intro w hSw; (try dsimp only at hSw); go_simp; (try with_reducible rfl))
      (try simp only [List.set_cons_zero, List.set_cons_succ])
      refine held_take (i := 6) (d := 23) (v := ?_) rfl rfl (by kernel_rfl) (by kernel_rfl) (by kernel_rfl) (fun _ _ _ h => h) (Or.inl ⟨by rfl, ?_⟩) (by assumption) ?_
      rotate_left
      · (intro w hSw; (try dsimp only at hSw); go_simp; (try with_reducible rfl))
      (try simp only [List.set_cons_zero, List.set_cons_succ])
      refine held_take (i := 7) (d := 24) (v := ?_) rfl rfl (by kernel_rfl) (by kernel_rfl) (by kernel_rfl) (fun _ _ _ h => h) (Or.inl ⟨by rfl, ?_⟩) (by assumption) ?_
      rotate_left
      · (intro w hSw; (try dsimp only at hSw); go_simp; (try with_reducible rfl))
      (try simp only [List.set_cons_zero, List.set_cons_succ])
      refine wpAnyH_ready (rs := [8]) (by kernel_rfl) (by simp) ?_
      refine AllReadyH.cons rfl (fun K hK => ?_) AllReadyH.nil
      go_simp
      refine (laws_eqLine _ _ _ _ _ _ ⟨z1, z2, z3, z4, z5, z6, z7⟩ _ (hs.keep ((Bl.refl _).drew)) (hs'.keep ((Bl.refl _).drew))).mono ?_; rintro e w1 ⟨rfl, hb1⟩
      go_wp2_with fail
      refine hK.out _ _ ?_ (fun hHeld => ?_)
      · (try dsimp only); exact ⟨Bl.cells (((Bl.refl _).drew).call hb1) q0, Bl.cells (((Bl.refl _).drew).call hb1) q1, Bl.cells (((Bl.refl _).drew).call hb1) q2, Bl.cells (((Bl.refl _).drew).call hb1) q3, Bl.cells (((Bl.refl _).drew).call hb1) q4, Bl.cells (((Bl.refl _).drew).call hb1) q5, Bl.cells (((Bl.refl _).drew).call hb1) q6, Bl.cells (((Bl.refl _).drew).call hb1) r0, Bl.cells (((Bl.refl _).drew).call hb1) r1, Bl.cells (((Bl.refl _).drew).call hb1) r2, Bl.cells (((Bl.refl _).drew).call hb1) r3, Bl.cells (((Bl.refl _).drew).call hb1) r4, Bl.cells (((Bl.refl _).drew).call hb1) r5, Bl.cells (((Bl.refl _).drew).call hb1) r6⟩
      clear hK K
      (try simp only [Act.put]); (try simp only [List.setIfInBounds_toArray]); (try simp only [List.set_cons_succ]); (try simp only [List.set_cons_zero])
      refine held_take (i := 9) (d := 26) (v := ?_) rfl rfl (by kernel_rfl) (by kernel_rfl) (by kernel_rfl) (fun _ _ _ h => h) (Or.inl ⟨by rfl, ?_⟩) (by assumption) ?_
      rotate_left
      · (intro w hSw; (try dsimp only at hSw); go_simp; (try with_reducible rfl))
      (try simp only [List.set_cons_zero, List.set_cons_succ])
      refine wpAnyH_done (by kernel_rfl) ?_ _
      go_wp2_with fail
      go_roundw
      case rel => exact ⟨k + 1, by omega, by go_num, (hb.drew).call hb1⟩
      case measure => simp [intOf]; omega
    · obtain rfl : k = m := by omega
      go_wp2
      go_ret
      exact ⟨rfl, hb⟩
set_option maxHeartbeats 4000000 in
theorem laws_markLineS (A : Option Addr) (n c base : Nat) (l : List (Hd × Ln)) (k : Int) (w : World) (h : OwnL base w A n c l) (hk : 0 ≤ k) (hk2 : k + totL l ≤ 1000000) :
    Calls Tryd.prog 7 #[.slice A n c, .int .i64 k] w fun e w' => e = .returned (.int .i64 (k + totL l)) ∧ OwnL base w' A n c (mkLs k l) ∧ (∀ W, Bl W w → W.heap.size ≤ base → Bl W w') := by
  obtain ⟨hle1, hle2⟩ := h.rd.le
  have hlen := Lib.hid h.len
  go_enter Tryd.func7, Tryd.ntmps7
  go_wp2
  go_loopw [1, 5] (fun q i wr => ∃ (D R : List (Hd × Ln)) (k1 : Int), i = .int .i64 (D.length : Nat) ∧ D.length + R.length = n ∧ q = .int .i64 k1 ∧ k ≤ k1 ∧ k1 + totL R = k + totL l ∧ OwnL base wr A n c (D ++ R) ∧ Hid (D ++ mkLs k1 R = mkLs k l) ∧ Hid (∀ W, Bl W w → W.heap.size ≤ base → Bl W wr)) (fun _ i _ => n - (intOf i).toNat)
  case atStart => exact ⟨[], l, k, rfl, by simpa using hlen.out, rfl, by omega, rfl, h, Lib.hid rfl, Lib.hid fun W hW _ => hW⟩
  case round =>
    clear h
    obtain ⟨D, R, k1, rfl, hn, rfl, hk1, ht, hown, HQ, HB⟩ := hrel
    rcases R with _ | ⟨⟨⟨A6, n6, c6⟩, x⟩, R⟩
    · obtain rfl : D.length = n := by simpa using hn
      go_wp2
      go_ret
      refine ⟨?_, by have := HQ.out; rw [mkLs, List.append_nil] at this; rw [← this]; simpa using hown, HB.out⟩
      rw [← ht]; simp [totL]
    · rw [List.length_cons] at hn
      have i1 : (D.length : Int) < n := by omega
      obtain ⟨g, rfl, hbg, hgl, hfr, hps, hc⟩ := hown.cell
      obtain ⟨z1, z2, z3, z4, z5, z6, z7⟩ := x
      have hnx : z4.length = n6 := hps.length
      have ht' : k1 + (6 + n6 + totL R : Nat) = k + totL l := by rw [← ht, totL, cntL]; simp only [hnx]
      have q0 : wr.cell? ⟨g, D.length * 7, none⟩ = some (.int .i64 z1) := hc 0 _ (by omega) rfl
      clear hc
      go_wp2_with fail
      refine (laws_markText _ _ (by omega) (by omega)).mono ?_
      rintro e w1 ⟨rfl, hb1⟩
      have o1 := (hown.setc (f := 0) (v := .int .i64 k1) (x' := ⟨k1, z2, z3, z4, z5, z6, z7⟩) (by omega) rfl rfl).keep hb1
      obtain ⟨_, hgl1, hfr1, _, hc⟩ := o1.cellg
      have q1 := hc 1 _ (by omega) rfl
      clear hc q0 hfr
      go_wp2_with fail
      refine (laws_markText _ _ (by omega) (by omega)).mono ?_
      rintro e w2 ⟨rfl, hb2⟩
      have o2 := (o1.setc (f := 1) (v := .string (mt (k1 + 1))) (x' := ⟨k1, mt (k1 + 1), z3, z4, z5, z6, z7⟩) (by omega) rfl rfl).keep hb2
      obtain ⟨_, hgl2, hfr2, _, hc⟩ := o2.cellg
      have q2 := hc 2 _ (by omega) rfl
      have q3 := hc 3 _ (by omega) rfl
      clear hc q1 hfr1
      have o3 := o2.setc (f := 2) (v := .string (mt (k1 + 1 + 1))) (x' := ⟨k1, mt (k1 + 1), mt (k1 + 1 + 1), z4, z5, z6, z7⟩) (by omega) rfl rfl
      obtain ⟨_, _, _, hps3, _⟩ := o3.cellg
      go_wp2_with fail
      refine (laws_markStringS _ _ _ _ _ _ _ hps3 (by omega) (by omega)).mono ?_
      rintro e w4 ⟨rfl, hps4, hg4⟩
      have o4 := o3.setp (x' := ⟨k1, mt (k1 + 1), mt (k1 + 1 + 1), mkS (k1 + 1 + 1 + 1) n6, z5, z6, z7⟩) hg4 hps4 rfl
      obtain ⟨_, hgl4, hfr4, _, hc⟩ := o4.cellg
      have q4 := hc 4 _ (by omega) rfl
      have q5 := hc 5 _ (by omega) rfl
      have q6 := hc 6 _ (by omega) rfl
      clear hc q2 q3 hfr2
      go_wp2_with fail
      go_roundw
      case rel =>
        have o5 := ((o4.setc (f := 4) (v := .int .i64 (k1 + 1 + 1 + 1 + n6)) (x' := ⟨k1, mt (k1 + 1), mt (k1 + 1 + 1), mkS (k1 + 1 + 1 + 1) n6, k1 + 1 + 1 + 1 + n6, z6, z7⟩) (by omega) rfl rfl).setc (f := 5) (v := .int .i64 (k1 + 1 + 1 + 1 + n6 + 1)) (x' := ⟨k1, mt (k1 + 1), mt (k1 + 1 + 1), mkS (k1 + 1 + 1 + 1) n6, k1 + 1 + 1 + 1 + n6, k1 + 1 + 1 + 1 + n6 + 1, z7⟩) (by omega) rfl rfl).setc (f := 6) (v := .int .i64 (k1 + 1 + 1 + 1 + n6 + 1 + 1)) (x' := ⟨k1, mt (k1 + 1), mt (k1 + 1 + 1), mkS (k1 + 1 + 1 + 1) n6, k1 + 1 + 1 + 1 + n6, k1 + 1 + 1 + 1 + n6 + 1, k1 + 1 + 1 + 1 + n6 + 1 + 1⟩) (by omega) rfl rfl
        refine ⟨D ++ [(⟨A6, n6, c6⟩, ⟨k1, mt (k1 + 1), mt (k1 + 1 + 1), mkS (k1 + 1 + 1 + 1) n6, k1 + 1 + 1 + 1 + n6, k1 + 1 + 1 + 1 + n6 + 1, k1 + 1 + 1 + 1 + n6 + 1 + 1⟩)], R, k1 + (6 + n6 : Nat), ?_, ?_, ?_, by omega, by omega, ?_, Lib.hid ?_, Lib.hid fun W hW hb => ?_⟩
        · rw [List.length_append]; rfl
        · rw [List.length_append, List.length_cons, List.length_nil]; omega
        · go_num
        · rw [List.append_assoc]; exact o5
        · rw [← HQ.out, mkLs, List.append_assoc]
          simp only [mkL1, cntL, hnx]
          rfl
        · have h3 := ((((((HB.out W hW hb).setCell (p := ⟨g, D.length * 7, none⟩) (Nat.le_trans hb hbg) (.int .i64 k1)).call hb1).setCell (p := ⟨g, D.length * 7 + 1, none⟩) (Nat.le_trans hb hbg) (.string (mt (k1 + 1)))).call hb2).setCell (p := ⟨g, D.length * 7 + 2, none⟩) (Nat.le_trans hb hbg) (.string (mt (k1 + 1 + 1)))).grown hg4 (fun q hq => Nat.le_trans hb (OwnV.blk hps3 q hq).1)
          exact ((h3.setCell (p := ⟨g, _, none⟩) (Nat.le_trans hb hbg) _).setCell (p := ⟨g, _, none⟩) (Nat.le_trans hb hbg) _).setCell (p := ⟨g, _, none⟩) (Nat.le_trans hb hbg) _
      case measure => simp [intOf]; omega
set_option maxHeartbeats 4000000 in
theorem laws_heldLineS (A : Option Addr) (n c : Nat) (l : List (Hd × Ln)) (k : Int) (w : World) (h : RdL w A n c (mkLs k l)) (hk : 0 ≤ k) (hk2 : k + totL l ≤ 1000000) :
    Calls Tryd.prog 8 #[.slice A n c, .int .i64 k] w fun e w' => e = .returned (.int .i64 (k + totL l)) ∧ Bl w w' := by
  obtain ⟨hle1, hle2⟩ := h.le
  have hlen : l.length = n := by rw [← mkLs_length k l]; exact h.len
  go_enter Tryd.func8, Tryd.ntmps8
  go_wp2
  go_loopw [1, 5] (fun q i wr => ∃ (D R : List (Hd × Ln)) (k1 : Int), i = .int .i64 (D.length : Nat) ∧ D.length + R.length = n ∧ q = .int .i64 k1 ∧ k ≤ k1 ∧ k1 + totL R = k + totL l ∧ Hid (mkLs k l = D ++ mkLs k1 R) ∧ Bl w wr) (fun _ i _ => n - (intOf i).toNat)
  case atStart => exact ⟨[], l, k, rfl, by simpa using hlen, rfl, by omega, rfl, Lib.hid rfl, Bl.refl _⟩
  case round =>
    clear hlen
    obtain ⟨D, R, k1, rfl, hn, rfl, hk1, ht, HQ, hb⟩ := hrel
    rcases R with _ | ⟨⟨⟨A6, n6, c6⟩, x⟩, R⟩
    · obtain rfl : D.length = n := by simpa using hn
      go_wp2
      go_ret
      exact ⟨by rw [← ht]; simp [totL], hb⟩
    · rw [List.length_cons] at hn
      have i1 : (D.length : Int) < n := by omega
      obtain ⟨ad, p, rfl, hadb, hx, hs, q0, q1, q2, q3, q4, q5, q6⟩ := (h.keep hb).at_ (i := D.length) (by omega)
      rw [HQ.out, mkLs, List.getElem?_append_right (Nat.le_refl _), Nat.sub_self] at hx
      injection hx with hx
      subst hx
      dsimp only [mkL1] at hs q0 q1 q2 q3 q4 q5 q6
      have hnx : x.ps.length = n6 := by have := hs.length; rw [mkS_length] at this; exact this
      rw [hnx] at hs q4 q5 q6
      have ht' : k1 + (6 + n6 + totL R : Nat) = k + totL l := by rw [← ht, totL, cntL, hnx]
      have e1 : ((mt (k1 + 1)).toList == (mt (k1 + 1)).toList) = true := by simp
      have e2 : ((mt (k1 + 1 + 1)).toList == (mt (k1 + 1 + 1)).toList) = true := by simp
      generalize hm1 : mt (k1 + 1) = M1 at q1 e1
      generalize hm2 : mt (k1 + 1 + 1) = M2 at q2 e2
      have HM1 := Lib.hid hm1
      have HM2 := Lib.hid hm2
      clear hm1 hm2
      go_wp2_with fail
      refine wp_region_held_drew (S := (fun w' => w'.cell? ⟨(ad.add (D.length * 7)).block, (ad.add (D.length * 7)).off + 1, none⟩ = some (.string M1))) (by kernel_rfl) ?_ (fun hHeld => ?_)
      · (try dsimp only); exact Bl.cells ((Bl.refl _).drew) q1
      refine held_take (i := 0) (d := 21) (v := ?_) rfl rfl (by kernel_rfl) (by kernel_rfl) (by kernel_rfl) (fun _ _ _ h => h) (Or.inl ⟨by rfl, ?_⟩) (by assumption) ?_
      rotate_left
      · (intro w hSw; (try dsimp only at hSw); go_simp; (try with_reducible rfl))
      (try simp only [List.set_cons_zero, List.set_cons_succ])
      refine held_take (i := 1) (d := 22) (v := ?_) rfl rfl (by kernel_rfl) (by kernel_rfl) (by kernel_rfl) (fun _ _ _ h => h) (Or.inl ⟨by rfl, ?_⟩) (by assumption) ?_
      rotate_left
      · (intro w hSw; (try dsimp only at hSw); go_simp; (try with_reducible rfl))
      (try simp only [List.set_cons_zero, List.set_cons_succ])
      refine held_take (i := 2) (d := 23) (v := ?_) rfl rfl (by kernel_rfl) (by kernel_rfl) (by kernel_rfl) (fun _ _ _ h => h) (Or.inl ⟨by rfl, ?_⟩) (by assumption) ?_
      rotate_left
      · (intro w hSw; (try dsimp only at hSw); go_simp; (try with_reducible rfl))
      (try simp only [List.set_cons_zero, List.set_cons_succ])
      refine held_take (i := 3) (d := 24) (v := ?_) rfl rfl (by kernel_rfl) (by kernel_rfl) (by kernel_rfl) (fun _ _ _ h => h) (Or.inl ⟨by rfl, ?_⟩) (by assumption) ?_
      rotate_left
      · (intro w hSw; (try dsimp only at hSw); go_simp; (try with_reducible rfl))
      (try simp only [List.set_cons_zero, List.set_cons_succ])
      refine held_take (i := 4) (d := 25) (v := ?_) rfl rfl (by kernel_rfl) (by kernel_rfl) (by kernel_rfl) (fun _ _ _ h => h) (Or.inl ⟨by rfl, ?_⟩) (by assumption) ?_
      rotate_left
      · (intro w hSw; (try dsimp only at hSw); go_simp; (try with_reducible rfl))
      (try simp only [List.set_cons_zero, List.set_cons_succ])
      refine held_take (i := 5) (d := 26) (v := ?_) rfl rfl (by kernel_rfl) (by kernel_rfl) (by kernel_rfl) (fun _ _ _ h => h) (Or.inl ⟨by rfl, ?_⟩) (by assumption) ?_
      rotate_left
      · (intro w hSw; (try dsimp only at hSw); go_simp; (try with_reducible rfl))
      (try simp only [List.set_cons_zero, List.set_cons_succ])
      refine wpAnyH_ready (rs := [6]) (by kernel_rfl) (by simp) ?_
      refine AllReadyH.cons rfl (fun K hK => ?_) AllReadyH.nil
      go_simp
      refine (laws_markText _ _ (by omega) (by omega)).mono ?_; rintro e w1 ⟨rfl, hb1⟩; rw [HM1.out]
      go_wp2_with fail
      refine hK.out _ _ ?_ (fun hHeld => ?_)
      · (try dsimp only); exact Bl.cells (((Bl.refl _).drew).call hb1) q1
      clear hK K
      (try simp only [Act.put]); (try simp only [List.setIfInBounds_toArray]); (try simp only [List.set_cons_succ]); (try simp only [List.set_cons_zero])
      refine held_take (i := 7) (d := 28) (v := ?_) rfl rfl (by kernel_rfl) (by kernel_rfl) (by kernel_rfl) (fun _ _ _ h => h) (Or.inl ⟨by rfl, ?_⟩) (by assumption) ?_
      rotate_left
      · (intro w hSw; (try dsimp only at hSw); go_simp; (try with_reducible rfl))
      (try simp only [List.set_cons_zero, List.set_cons_succ])
      refine wpAnyH_done (by kernel_rfl) ?_ _
      go_wp2_with fail
      refine wp_region_held_drew (S := (fun w' => w'.cell? ⟨(ad.add (D.length * 7)).block, (ad.add (D.length * 7)).off + 2, none⟩ = some (.string M2))) (by kernel_rfl) ?_ (fun hHeld => ?_)
      · (try dsimp only); exact Bl.cells (((Bl.refl _).drew.call hb1).drew) q2
      refine held_take (i := 0) (d := 31) (v := ?_) rfl rfl (by kernel_rfl) (by kernel_rfl) (by kernel_rfl) (fun _ _ _ h => h) (Or.inl ⟨by rfl, ?_⟩) (by assumption) ?_
      rotate_left
      · (intro w hSw; (try dsimp only at hSw); go_simp; (try with_reducible rfl))
      (try simp only [List.set_cons_zero, List.set_cons_succ])
      refine held_take (i := 1) (d := 32) (v := ?_) rfl rfl (by kernel_rfl) (by kernel_rfl) (by kernel_rfl) (fun _ _ _ h => h) (Or.inl ⟨by rfl, ?_⟩) (by assumption) ?_
      rotate_left
      · (intro w hSw; (try dsimp only at hSw); go_simp; (try with_reducible rfl))
      (try simp only [List.set_cons_zero, List.set_cons_succ])
      refine held_take (i := 2) (d := 33) (v := ?_) rfl rfl (by kernel_rfl) (by kernel_rfl) (by kernel_rfl) (fun _ _ _ h => h) (Or.inl ⟨by rfl, ?_⟩) (by assumption) ?_
      rotate_left
      · (intro w hSw; (try dsimp only at hSw); go_simp; (try with_reducible rfl))
      (try simp only [List.set_cons_zero, List.set_cons_succ])
      refine held_take (i := 3) (d := 34) (v := ?_) rfl rfl (by kernel_rfl) (by kernel_rfl) (by kernel_rfl) (fun _ _ _ h => h) (Or.inl ⟨by rfl, ?_⟩) (by assumption) ?_
      rotate_left
      · (intro w hSw; (try dsimp only at hSw); go_simp; (try with_reducible rfl))
      (try simp only [List.set_cons_zero, List.set_cons_succ])
      refine held_take (i := 4) (d := 35) (v := ?_) rfl rfl (by kernel_rfl) (by kernel_rfl) (by kernel_rfl) (fun _ _ _ h => h) (Or.inl ⟨by rfl, ?_⟩) (by assumption) ?_
      rotate_left
      · (intro w hSw; (try dsimp only at hSw); go_simp; (try with_reducible rfl))
      (try simp only [List.set_cons_zero, List.set_cons_succ])
      refine held_take (i := 5) (d := 36) (v := ?_) rfl rfl (by kernel_rfl) (by kernel_rfl) (by kernel_rfl) (fun _ _ _ h => h) (Or.inl ⟨by rfl, ?_⟩) (by assumption) ?_
      rotate_left
      · (intro w hSw; (try dsimp only at hSw); go_simp; (try with_reducible rfl))
      (try simp only [List.set_cons_zero, List.set_cons_succ])
      refine wpAnyH_ready (rs := [6]) (by kernel_rfl) (by simp) ?_
      refine AllReadyH.cons rfl (fun K hK => ?_) AllReadyH.nil
      go_simp
      refine (laws_markText _ _ (by omega) (by omega)).mono ?_; rintro e w2 ⟨rfl, hb2⟩; rw [HM2.out]
      go_wp2_with fail
      refine hK.out _ _ ?_ (fun hHeld => ?_)
      · (try dsimp only); exact Bl.cells ((((Bl.refl _).drew.call hb1).drew).call hb2) q2
      clear hK K
      (try simp only [Act.put]); (try simp only [List.setIfInBounds_toArray]); (try simp only [List.set_cons_succ]); (try simp only [List.set_cons_zero])
      refine held_take (i := 7) (d := 38) (v := ?_) rfl rfl (by kernel_rfl) (by kernel_rfl) (by kernel_rfl) (fun _ _ _ h => h) (Or.inl ⟨by rfl, ?_⟩) (by assumption) ?_
      rotate_left
      · (intro w hSw; (try dsimp only at hSw); go_simp; (try with_reducible rfl))
      (try simp only [List.set_cons_zero, List.set_cons_succ])
      refine wpAnyH_done (by kernel_rfl) ?_ _
      replace q3 := Bl.cells (((Bl.refl _).drew.call hb1).drew.call hb2) q3
      go_wp2_with fail
      refine (laws_heldStringS _ _ _ _ _ (RdS.keep hs (((Bl.refl _).drew.call hb1).drew.call hb2)) (by omega) (by omega)).mono ?_
      rintro e w3 ⟨rfl, hb3⟩
      replace q4 := Bl.cells ((((Bl.refl _).drew.call hb1).drew.call hb2).call hb3) q4
      replace q5 := Bl.cells ((((Bl.refl _).drew.call hb1).drew.call hb2).call hb3) q5
      replace q6 := Bl.cells ((((Bl.refl _).drew.call hb1).drew.call hb2).call hb3) q6
      go_wp2_with fail
      go_roundw
      case rel => exact ⟨D ++ [(⟨A6, n6, c6⟩, mkL1 k1 x)], R, k1 + (6 + n6 : Nat), by rw [List.length_append]; rfl, by rw [List.length_append, List.length_cons, List.length_nil]; omega, by go_num, by omega, by omega, Lib.hid (by rw [HQ.out, mkLs, List.append_assoc, cntL, hnx]; rfl), hb.call ((((Bl.refl _).drew.call hb1).drew.call hb2).call hb3)⟩
      case measure => simp [intOf]; omega
end Go.Proofs.YtdndkkaacfbkkaaDoor
