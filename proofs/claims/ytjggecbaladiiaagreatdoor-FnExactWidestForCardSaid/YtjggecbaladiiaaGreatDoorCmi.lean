/- Contracts of a line's gates in the program's compiler.
   Conditions: small numbers. -/
import Derived.Test.YtjggecbaladiiaaGreatDoorCme
namespace Go.Proofs.YtjggecbaladiiaaGreatDoor
open Go.RowKit
set_option linter.unusedVariables false
theorem ResE.from_ {T : TypeId} {X : Mx} {w w1 w' : World} {A : Option Addr} {g' : List Gt} {l' : List Int} {e : Ending} (hb : Bl w w1) (hx : X.x ≤ w.heap.size) (h : ResE T X w1 A g' l' e w') : ResE T X w A g' l' e w' := by
  obtain ⟨A', n1, S, m, c, rfl, hm, hf, hr, hq⟩ := h
  exact ⟨A', n1, S, m, c, rfl, hm, ((Fm.refl w X.x A).grew hb hx).trans hf, hr, fun q e => ⟨Nat.le_trans hb.size (hq q e).1, (hq q e).2⟩⟩
theorem Fm.cell {w w' : World} {x : Nat} {A A' : Option Addr} {p : Addr} {v : Value} (hf : Fm w w' x A A') (hc : w.cell? p = some v) (h1 : p.block ≠ x) (h2 : A.map (·.block) ≠ some p.block) : w'.cell? p = some v :=
  (World.cell?_of_block (hf.kept _ (World.block_lt_of_cell? w _ hc) h1 h2)).trans hc
theorem ResE.fm_ {T : TypeId} {X : Mx} {w w' : World} {A : Option Addr} {g' : List Gt} {l' : List Int} {e : Ending} (h : ResE T X w A g' l' e w') : ∃ A', Fm w w' X.x A A' := by
  obtain ⟨A', n1, S, m, c, rfl, hm, hf, _⟩ := h
  exact ⟨A', hf⟩
theorem p0_cell {w : World} {pa : Option Addr} {n c : Nat} {h1 : Hd} {r : List Hd} (h : Rd w 1 pa n c ((h1 :: r).map Hd.vl)) (hn : 0 < n) : ∃ ad, pa = some ad ∧ ad.block < w.heap.size ∧ w.cell? ad = some (.slice h1.A h1.n h1.c) ∧ (∀ j y, (h1 :: r)[j]? = some y → w.cell? (ad.add j) = some (.slice y.A y.n y.c)) := by
  obtain ⟨ad, e, hb, hc⟩ := h.at0 (by omega)
  exact ⟨ad, e, hb, hc 0 _ rfl, fun j y hy => hc j _ (by rw [List.getElem?_map, hy]; rfl)⟩
set_option maxRecDepth 20000 in
set_option maxHeartbeats 4000000 in
theorem impl_line_2 {w : World} {X : Mx} {n : Nat} {g : List Gt} {A : Option Addr} (h : ME 117 X w n g A) (nm op : ByteArray) (C : Option Addr) (m cc : Nat) (pt wd vl : Int) (x : Ln) (hx : x = ⟨2, nm, op, x.ps, pt, wd, vl⟩) (PA : Option Addr) (pn pc : Nat) (hPq : ∀ q, PA.map (·.block) = some q → q ≠ X.x ∧ A.map (·.block) ≠ some q) (N : Nat) (hwd : wd = N) (hv : 0 ≤ vl ∧ vl ≤ 1023) (hN : N ≤ 10) (P : List (List Int)) (hn : n ≤ 300) :
    Calls Tryz.prog 90 #[.pointer (some ⟨X.x, 0, none⟩), .agg #[.int .i64 2, .string nm, .string op, .slice C m cc, .int .i64 pt, .int .i64 wd, .int .i64 vl], .slice PA pn pc] w (ResE 117 X w A (lineS mulI X.t x P g).1 (lineS mulI X.t x P g).2) := by
  have hB := Blk.new w 92 #[.int .i64 2, .string nm, .string op, .slice C m cc, .int .i64 pt, .int .i64 wd, .int .i64 vl] (g := w.heap.size)
  have hV := (Bl.refl w).alloc (.cells #[.int .i64 2, .string nm, .string op, .slice C m cc, .int .i64 pt, .int .i64 wd, .int .i64 vl] 92)
  have hxl := Nat.le_of_lt h.lt
  have HXL := Lib.hid hxl
  have HXT := Lib.hid h.lt
  have HAT := Lib.hid h.at_
  have HPQ := Lib.hid hPq
  have h1 := h.keep hV
  have HE := Lib.hid (show lineS mulI X.t x P g = (g ++ [⟨3, 0, 0⟩] ++ [⟨2, wn X.t n, 0⟩], cstL (wn X.t (n + 1)) vl N) by rw [hx]; unfold lineS cstL; rw [if_pos rfl, h.len, hwd]; rfl)
  rw [HE.out]
  dsimp only
  obtain ⟨⟨G, R⟩, HGR⟩ : ∃ p, p = (g ++ [⟨3, 0, 0⟩] ++ [⟨2, wn X.t n, 0⟩], cstL (wn X.t (n + 1)) vl N) := ⟨_, rfl⟩
  have HG := Lib.hid (show g ++ [⟨3, 0, 0⟩] ++ [⟨2, wn X.t n, 0⟩] = G from (congrArg Prod.fst HGR).symm)
  have HR := Lib.hid (show cstL (wn X.t (n + 1)) vl N = R from (congrArg Prod.snd HGR).symm)
  rw [HG.out, HR.out]
  clear hx HGR
  subst hwd
  have hB_0 := hB.cell 0 _ rfl
  have hB_5 := hB.cell 5 _ rfl
  have hB_6 := hB.cell 6 _ rfl
  have hB_l := hB.lt
  go_enter Tryz.func90, Tryz.ntmps90
  go_wp2_with fail
  refine (impl_constant h1 vl N hv hN (by omega)).mono ?_
  intro e w2 hres
  replace hres := (hres.cast HG.out HR.out).from_ hV HXL.out
  obtain ⟨A', n1, S, m1, c1, rfl, hrest⟩ := hres
  go_wp2_with fail
  go_ret
  exact ⟨A', n1, S, m1, c1, rfl, hrest⟩
set_option maxRecDepth 20000 in
set_option maxHeartbeats 4000000 in
theorem impl_line_3 {w : World} {X : Mx} {n : Nat} {g : List Gt} {A : Option Addr} (h : ME 117 X w n g A) (nm op : ByteArray) (C : Option Addr) (m cc : Nat) (pt wd vl : Int) (x : Ln) (hx : x = ⟨3, nm, op, x.ps, pt, wd, vl⟩) (PA : Option Addr) (pn pc : Nat) (hPq : ∀ q, PA.map (·.block) = some q → q ≠ X.x ∧ A.map (·.block) ≠ some q) (h1_ : Hd) (l1 : List Int) (hL1 : Lx w X.x A h1_.A h1_.n h1_.c l1) (h2_ : Hd) (l2 : List Int) (hL2 : Lx w X.x A h2_.A h2_.n h2_.c l2) (hPA : Rd w 1 PA pn pc ([h1_, h2_].map Hd.vl)) (N : Nat) (hn1 : h1_.n = N) (hn2 : h2_.n = N) (hop : op ∈ opsL) (hN0 : 0 < N) (hN4 : N ≤ 4) (hn : n ≤ 300) :
    Calls Tryz.prog 90 #[.pointer (some ⟨X.x, 0, none⟩), .agg #[.int .i64 3, .string nm, .string op, .slice C m cc, .int .i64 pt, .int .i64 wd, .int .i64 vl], .slice PA pn pc] w (ResE 117 X w A (lineS mulI X.t x [l1, l2] g).1 (lineS mulI X.t x [l1, l2] g).2) := by
  have hB := Blk.new w 92 #[.int .i64 3, .string nm, .string op, .slice C m cc, .int .i64 pt, .int .i64 wd, .int .i64 vl] (g := w.heap.size)
  have hV := (Bl.refl w).alloc (.cells #[.int .i64 3, .string nm, .string op, .slice C m cc, .int .i64 pt, .int .i64 wd, .int .i64 vl] 92)
  have hxl := Nat.le_of_lt h.lt
  have HXL := Lib.hid hxl
  have HXT := Lib.hid h.lt
  have HAT := Lib.hid h.at_
  have HPQ := Lib.hid hPq
  have h1 := h.keep hV
  have HE := Lib.hid (show lineS mulI X.t x [l1, l2] g = twoS mulI X.t op l1 l2 g by rw [hx]; rfl)
  rw [HE.out]
  obtain ⟨G, hG⟩ : ∃ G, (twoS mulI X.t op l1 l2 g).1 = G := ⟨_, rfl⟩
  obtain ⟨R, hR⟩ : ∃ R, (twoS mulI X.t op l1 l2 g).2 = R := ⟨_, rfl⟩
  rw [hG, hR]
  have HG := Lib.hid hG
  have HR := Lib.hid hR
  have hpn : pn = 2 := by have := hPA.len; simp at this; omega
  subst hpn
  obtain ⟨pa, rfl, hpb, pc0, hpc⟩ := p0_cell hPA (by omega)
  have hple := hPA.cap
  have pc1 := hpc 1 _ rfl
  replace pc1 : w.cell? ⟨pa.block, pa.off + 1, none⟩ = _ := pc1
  rw [hn1] at pc0 hL1
  rw [hn2] at pc1 hL2
  replace pc0 := Bl.cells hV pc0
  replace pc1 := Bl.cells hV pc1
  have hVd := hV.drew
  replace h1 := h1.keep ((Bl.refl _).drew)
  clear hx hG hR hpc hn1 hn2 hPA
  have hB_0 := hB.cell 0 _ rfl
  have hB_2 := hB.cell 2 _ rfl
  have hB_l := hB.lt
  go_enter Tryz.func90, Tryz.ntmps90
  go_wp2_with fail
  refine wp_region_held_drew (S := (fun w' => w'.cell? ⟨w.heap.size, 2, none⟩ = some (.string op) ∧ w'.cell? pa = some (.slice h1_.A N h1_.c) ∧ w'.cell? ⟨pa.block, pa.off + 1, none⟩ = some (.slice h2_.A N h2_.c))) (by kernel_rfl) ?_ (fun hHeld => ?_)
  · (try dsimp only); exact ⟨hB_2, pc0, pc1⟩
  refine held_take (i := 0) (d := 22) (v := ?_) rfl rfl (by kernel_rfl) (by kernel_rfl) (by kernel_rfl) (fun _ _ _ h => h) (Or.inl ⟨by rfl, ?_⟩) (by assumption) ?_
  rotate_left
  · (intro w hSw; (try dsimp only at hSw); go_simp; (try with_reducible rfl))
  (try simp only [List.set_cons_zero, List.set_cons_succ])
  refine held_take (i := 1) (d := 23) (v := ?_) rfl rfl (by kernel_rfl) (by kernel_rfl) (by kernel_rfl) (fun _ _ _ h => h) (Or.inl ⟨by rfl, ?_⟩) (by assumption) ?_
  rotate_left
  · (intro w hSw; (try dsimp only at hSw); go_simp; (try with_reducible rfl))
  (try simp only [List.set_cons_zero, List.set_cons_succ])
  refine held_take (i := 2) (d := 24) (v := ?_) rfl rfl (by kernel_rfl) (by kernel_rfl) (by kernel_rfl) (fun _ _ _ h => h) (Or.inl ⟨by rfl, ?_⟩) (by assumption) ?_
  rotate_left
  · (intro w hSw; (try dsimp only at hSw); go_simp; (try with_reducible rfl))
  (try simp only [List.set_cons_zero, List.set_cons_succ])
  refine held_take (i := 3) (d := 25) (v := ?_) rfl rfl (by kernel_rfl) (by kernel_rfl) (by kernel_rfl) (fun _ _ _ h => h) (Or.inl ⟨by rfl, ?_⟩) (by assumption) ?_
  rotate_left
  · (intro w hSw; (try dsimp only at hSw); go_simp; (try with_reducible rfl))
  (try simp only [List.set_cons_zero, List.set_cons_succ])
  refine held_take (i := 4) (d := 26) (v := ?_) rfl rfl (by kernel_rfl) (by kernel_rfl) (by kernel_rfl) (fun _ _ _ h => h) (Or.inl ⟨by rfl, ?_⟩) (by assumption) ?_
  rotate_left
  · (intro w hSw; (try dsimp only at hSw); go_simp; (try with_reducible rfl))
  (try simp only [List.set_cons_zero, List.set_cons_succ])
  refine held_take (i := 5) (d := 27) (v := ?_) rfl rfl (by kernel_rfl) (by kernel_rfl) (by kernel_rfl) (fun _ _ _ h => h) (Or.inl ⟨by rfl, ?_⟩) (by assumption) ?_
  rotate_left
  · (intro w hSw; (try dsimp only at hSw); go_simp; (try with_reducible rfl))
  (try simp only [List.set_cons_zero, List.set_cons_succ])
  refine held_take (i := 6) (d := 28) (v := ?_) rfl rfl (by kernel_rfl) (by kernel_rfl) (by kernel_rfl) (fun _ _ _ h => h) (Or.inl ⟨by rfl, ?_⟩) (by assumption) ?_
  rotate_left
  · (intro w hSw; (try dsimp only at hSw); go_simp; (try with_reducible rfl))
  (try simp only [List.set_cons_zero, List.set_cons_succ])
  refine held_take (i := 7) (d := 29) (v := ?_) rfl rfl (by kernel_rfl) (by kernel_rfl) (by kernel_rfl) (fun _ _ _ h => h) (Or.inl ⟨by rfl, ?_⟩) (by assumption) ?_
  rotate_left
  · (intro w hSw; (try dsimp only at hSw); go_simp; (try with_reducible rfl))
  (try simp only [List.set_cons_zero, List.set_cons_succ])
  refine held_take (i := 8) (d := 30) (v := ?_) rfl rfl (by kernel_rfl) (by kernel_rfl) (by kernel_rfl) (fun _ _ _ h => h) (Or.inl ⟨by rfl, ?_⟩) (by assumption) ?_
  rotate_left
  · (intro w hSw; (try dsimp only at hSw); go_simp; (try with_reducible rfl))
  (try simp only [List.set_cons_zero, List.set_cons_succ])
  refine wpAnyH_ready (rs := [9]) (by kernel_rfl) (by simp) ?_
  refine AllReadyH.cons rfl (fun K hK => ?_) AllReadyH.nil
  go_simp
  refine (impl_two h1 op hop h1_.A h2_.A N h1_.c h2_.c l1 l2 (hL1.keep hVd) (hL2.keep hVd) hN0 hN4 (by omega)).mono ?_; intro e w2 hres; obtain ⟨A8, hf8⟩ := hres.fm_; replace hB_2 := hf8.cell hB_2 (fun e => by have := HXT.out; have e : w.heap.size = X.x := e; omega) (fun e => by have := (HAT.out _ e).2; exact Nat.lt_irrefl _ this); replace pc0 := hf8.cell pc0 (HPQ.out pa.block rfl).1 (HPQ.out pa.block rfl).2; replace pc1 := hf8.cell pc1 (HPQ.out pa.block rfl).1 (HPQ.out pa.block rfl).2; replace hres := (hres.cast HG.out HR.out).from_ hVd HXL.out; obtain ⟨A1, n1, S1, m1, c1, rfl, hrest⟩ := hres
  go_wp2_with fail
  refine hK.out _ _ ?_ (fun hHeld => ?_)
  · (try dsimp only); exact ⟨hB_2, pc0, pc1⟩
  clear hK K
  (try simp only [Act.put]); (try simp only [List.setIfInBounds_toArray]); (try simp only [List.set_cons_succ]); (try simp only [List.set_cons_zero])
  refine held_take (i := 10) (d := 6) (v := ?_) rfl rfl (by kernel_rfl) (by kernel_rfl) (by kernel_rfl) (fun _ _ _ h => h) (Or.inl ⟨by rfl, ?_⟩) (by assumption) ?_
  rotate_left
  · (intro w hSw; (try dsimp only at hSw); go_simp; (try with_reducible rfl))
  (try simp only [List.set_cons_zero, List.set_cons_succ])
  refine wpAnyH_done (by kernel_rfl) ?_ _
  go_wp2_with fail
  go_ret
  exact ⟨A1, n1, S1, m1, c1, rfl, hrest⟩
set_option maxRecDepth 20000 in
set_option maxHeartbeats 4000000 in
theorem impl_line_4 {w : World} {X : Mx} {n : Nat} {g : List Gt} {A : Option Addr} (h : ME 117 X w n g A) (nm op : ByteArray) (C : Option Addr) (m cc : Nat) (pt wd vl : Int) (x : Ln) (hx : x = ⟨4, nm, op, x.ps, pt, wd, vl⟩) (PA : Option Addr) (pn pc : Nat) (hPq : ∀ q, PA.map (·.block) = some q → q ≠ X.x ∧ A.map (·.block) ≠ some q) (h1_ : Hd) (l1 : List Int) (hL1 : Lx w X.x A h1_.A h1_.n h1_.c l1) (hPA : Rd w 1 PA pn pc ([h1_].map Hd.vl)) (N : Nat) (hn1 : h1_.n = N) (hN : N ≤ 20) (hn : n ≤ 300) :
    Calls Tryz.prog 90 #[.pointer (some ⟨X.x, 0, none⟩), .agg #[.int .i64 4, .string nm, .string op, .slice C m cc, .int .i64 pt, .int .i64 wd, .int .i64 vl], .slice PA pn pc] w (ResE 117 X w A (lineS mulI X.t x [l1] g).1 (lineS mulI X.t x [l1] g).2) := by
  have hB := Blk.new w 92 #[.int .i64 4, .string nm, .string op, .slice C m cc, .int .i64 pt, .int .i64 wd, .int .i64 vl] (g := w.heap.size)
  have hV := (Bl.refl w).alloc (.cells #[.int .i64 4, .string nm, .string op, .slice C m cc, .int .i64 pt, .int .i64 wd, .int .i64 vl] 92)
  have hxl := Nat.le_of_lt h.lt
  have HXL := Lib.hid hxl
  have HXT := Lib.hid h.lt
  have HAT := Lib.hid h.at_
  have HPQ := Lib.hid hPq
  have h1 := h.keep hV
  have HE := Lib.hid (show lineS mulI X.t x [l1] g = notS X.t l1 g N by rw [hx]; show notS X.t l1 g l1.length = _; rw [hL1.rd.length, hn1])
  rw [HE.out]
  have hpn : pn = 1 := by have := hPA.len; simp at this; omega
  subst hpn
  obtain ⟨pa, rfl, hpb, pc0, hpc⟩ := p0_cell hPA (by omega)
  have hple := hPA.cap
  rw [hn1] at pc0 hL1
  replace pc0 := Bl.cells hV pc0
  replace hL1 := hL1.keep hV
  clear hx hpc hPA hn1
  have hB_0 := hB.cell 0 _ rfl
  have hB_l := hB.lt
  have hL0 := LE.made h1
  rw [show (w.alloc (.cells #[.int .i64 4, .string nm, .string op, .slice C m cc, .int .i64 pt, .int .i64 wd, .int .i64 vl] 92)).heap.size = w.heap.size + 1 by simp] at hL0
  go_enter Tryz.func90, Tryz.ntmps90
  go_wp2_with fail
  generalize hw1 : w.alloc (.cells #[.int .i64 4, .string nm, .string op, .slice C m cc, .int .i64 pt, .int .i64 wd, .int .i64 vl] 92) = w1 at h1 hV hL1 hL0 ⊢
  clear hB hB_0 hB_l hw1
  have hxq := h1.lt
  go_loopw [7, 39] (fun o i wr => ∃ (k n1 c : Nat) (A1 S : Option Addr) (g1 : List Gt) (l : List Int), k ≤ N ∧ o = .slice S k c ∧ i = .int .i64 (k : Nat) ∧ n1 ≤ n + k ∧ Hid (notS X.t l1 g k = (g1, l)) ∧ LE 117 X w1 wr A A1 n1 g1 S k c l) (fun _ i _ => N - (intOf i).toNat)
  case atStart => exact ⟨0, n, 0, A, _, g, [], by omega, rfl, rfl, by omega, Lib.hid rfl, hL0⟩
  case round =>
    clear hL0
    obtain ⟨k, n1, c, A1, S, g1, l, hk, rfl, rfl, hn1, hSt, hL⟩ := hrel
    by_cases hlt : k < N
    · have ik : (k : Int) < N := by omega
      obtain ⟨ada, va, hea0, hea, hva⟩ := hL1.at_ hlt
      have hva1 := hva _ _ hL.fm
      have HN := Lib.hid hn1
      have HS := Lib.hid (notS_s hSt.out hL.ms.len hea)
      have iA := Lib.hid hea0
      clear hva hL1 hSt hea
      rw [hea0]
      clear hea0
      go_wp2_with (first | (go_at_call 140; refine (mi_not hL.ms (by omega) _).mono ?_; rintro e wz ⟨A9, rfl, hm9, hf9⟩; replace hL := hL.step hm9 hf9; clear hm9 hf9) | (at_builtin; refine ap_int rfl rfl rfl (hL.own.alloc _) rfl (rd_new1 _ _ _) (by omega) (by have := hL.fm.size; simp; omega) ?_; intro S9 c9 wz ho9 hg9 hat9; replace hL := hL.app hxq ho9 hg9 hat9; clear ho9 hg9 hat9))
      go_roundw
      case rel => exact ⟨k + 1, _, _, _, _, _, _, by omega, rfl, by go_num, by have := HN.out; omega, HS, hL⟩
      case measure => simp [intOf]; omega
    · have ik : ¬ ((k : Int) < N) := by omega
      have hkn : k = N := by omega
      subst hkn
      go_wp2_with fail
      go_ret
      have hres := LE.res hL
      rw [hSt.out]
      exact hres.from_ hV HXL.out
set_option maxRecDepth 20000 in
set_option maxHeartbeats 4000000 in
theorem impl_line_5 {w : World} {X : Mx} {n : Nat} {g : List Gt} {A : Option Addr} (h : ME 117 X w n g A) (nm op : ByteArray) (C : Option Addr) (m cc : Nat) (pt wd vl : Int) (x : Ln) (hx : x = ⟨5, nm, op, x.ps, pt, wd, vl⟩) (PA : Option Addr) (pn pc : Nat) (hPq : ∀ q, PA.map (·.block) = some q → q ≠ X.x ∧ A.map (·.block) ≠ some q) (h1_ : Hd) (l1 : List Int) (hL1 : Lx w X.x A h1_.A h1_.n h1_.c l1) (h2_ : Hd) (l2 : List Int) (hL2 : Lx w X.x A h2_.A h2_.n h2_.c l2) (h3_ : Hd) (l3 : List Int) (hL3 : Lx w X.x A h3_.A h3_.n h3_.c l3) (hPA : Rd w 1 PA pn pc ([h1_, h2_, h3_].map Hd.vl)) (N N1 : Nat) (hn1 : h1_.n = N1) (hN1 : 0 < N1) (hn2 : h2_.n = N) (hn3 : h3_.n = N) (hN : N ≤ 20) (hn : n ≤ 300) :
    Calls Tryz.prog 90 #[.pointer (some ⟨X.x, 0, none⟩), .agg #[.int .i64 5, .string nm, .string op, .slice C m cc, .int .i64 pt, .int .i64 wd, .int .i64 vl], .slice PA pn pc] w (ResE 117 X w A (lineS mulI X.t x [l1, l2, l3] g).1 (lineS mulI X.t x [l1, l2, l3] g).2) := by
  have hB := Blk.new w 92 #[.int .i64 5, .string nm, .string op, .slice C m cc, .int .i64 pt, .int .i64 wd, .int .i64 vl] (g := w.heap.size)
  have hV := (Bl.refl w).alloc (.cells #[.int .i64 5, .string nm, .string op, .slice C m cc, .int .i64 pt, .int .i64 wd, .int .i64 vl] 92)
  have hxl := Nat.le_of_lt h.lt
  have HXL := Lib.hid hxl
  have HXT := Lib.hid h.lt
  have HAT := Lib.hid h.at_
  have HPQ := Lib.hid hPq
  have h1 := h.keep hV
  obtain ⟨sa, s, hsa, hs0, hsc⟩ := hL1.at_ (k := 0) (by omega)
  replace hsc := hsc w A (Fm.refl _ _ _)
  replace hsc : w.cell? sa = _ := hsc
  have HE := Lib.hid (show lineS mulI X.t x [l1, l2, l3] g = pickS X.t s l2 l3 g N by rw [hx]; show pickS X.t (l1.getD 0 0) l2 l3 g l2.length = _; rw [hL2.rd.length, hn2, List.getD_eq_getElem?_getD, hs0]; rfl)
  rw [HE.out]
  obtain ⟨G, hG⟩ : ∃ G, (pickS X.t s l2 l3 g N).1 = G := ⟨_, rfl⟩
  obtain ⟨R, hR⟩ : ∃ R, (pickS X.t s l2 l3 g N).2 = R := ⟨_, rfl⟩
  rw [hG, hR]
  have HG := Lib.hid hG
  have HR := Lib.hid hR
  have hpn : pn = 3 := by have := hPA.len; simp at this; omega
  subst hpn
  obtain ⟨pa, rfl, hpb, pc0, hpc⟩ := p0_cell hPA (by omega)
  have hple := hPA.cap
  have pc1 := hpc 1 _ rfl
  have pc2 := hpc 2 _ rfl
  replace pc1 : w.cell? ⟨pa.block, pa.off + 1, none⟩ = _ := pc1
  replace pc2 : w.cell? ⟨pa.block, pa.off + 2, none⟩ = _ := pc2
  rw [hn1, hsa] at pc0
  rw [hn2] at pc1 hL2
  rw [hn3] at pc2 hL3
  have hle1 := hL1.le
  rw [hn1] at hle1
  replace pc0 := Bl.cells hV pc0
  replace pc1 := Bl.cells hV pc1
  replace pc2 := Bl.cells hV pc2
  replace hsc := Bl.cells hV hsc
  have hVd := hV.drew
  replace h1 := h1.keep ((Bl.refl _).drew)
  have j1 : (0 : Int) < N1 := by omega
  have HSA := Lib.hid (show sa.block ≠ X.x ∧ A.map (·.block) ≠ some sa.block from (hL1.ap sa.block (by rw [hsa]; rfl)).2)
  clear hx hG hR hpc hn1 hn2 hn3 hPA hL1 hs0 hsa
  have hB_0 := hB.cell 0 _ rfl
  have hB_l := hB.lt
  go_enter Tryz.func90, Tryz.ntmps90
  go_wp2_with fail
  refine wp_region_held_drew (S := (fun w' => w'.cell? pa = some (.slice (some sa) N1 h1_.c) ∧ w'.cell? ⟨pa.block, pa.off + 1, none⟩ = some (.slice h2_.A N h2_.c) ∧ w'.cell? ⟨pa.block, pa.off + 2, none⟩ = some (.slice h3_.A N h3_.c) ∧ w'.cell? sa = some (.int .i64 s))) (by kernel_rfl) ?_ (fun hHeld => ?_)
  · (try dsimp only); exact ⟨pc0, pc1, pc2, hsc⟩
  refine held_take (i := 0) (d := 53) (v := ?_) rfl rfl (by kernel_rfl) (by kernel_rfl) (by kernel_rfl) (fun _ _ _ h => h) (Or.inl ⟨by rfl, ?_⟩) (by assumption) ?_
  rotate_left
  · (intro w hSw; (try dsimp only at hSw); go_simp; (try with_reducible rfl))
  (try simp only [List.set_cons_zero, List.set_cons_succ])
  refine held_take (i := 1) (d := 54) (v := ?_) rfl rfl (by kernel_rfl) (by kernel_rfl) (by kernel_rfl) (fun _ _ _ h => h) (Or.inl ⟨by rfl, ?_⟩) (by assumption) ?_
  rotate_left
  · (intro w hSw; (try dsimp only at hSw); go_simp; (try with_reducible rfl))
  (try simp only [List.set_cons_zero, List.set_cons_succ])
  refine held_take (i := 2) (d := 55) (v := ?_) rfl rfl (by kernel_rfl) (by kernel_rfl) (by kernel_rfl) (fun _ _ _ h => h) (Or.inl ⟨by rfl, ?_⟩) (by assumption) ?_
  rotate_left
  · (intro w hSw; (try dsimp only at hSw); go_simp; (try with_reducible rfl))
  (try simp only [List.set_cons_zero, List.set_cons_succ])
  refine held_take (i := 3) (d := 56) (v := ?_) rfl rfl (by kernel_rfl) (by kernel_rfl) (by kernel_rfl) (fun _ _ _ h => h) (Or.inl ⟨by rfl, ?_⟩) (by assumption) ?_
  rotate_left
  · (intro w hSw; (try dsimp only at hSw); go_simp; (try with_reducible rfl))
  (try simp only [List.set_cons_zero, List.set_cons_succ])
  refine held_take (i := 4) (d := 57) (v := ?_) rfl rfl (by kernel_rfl) (by kernel_rfl) (by kernel_rfl) (fun _ _ _ h => h) (Or.inl ⟨by rfl, ?_⟩) (by assumption) ?_
  rotate_left
  · (intro w hSw; (try dsimp only at hSw); go_simp; (try with_reducible rfl))
  (try simp only [List.set_cons_zero, List.set_cons_succ])
  refine held_take (i := 5) (d := 58) (v := ?_) rfl rfl (by kernel_rfl) (by kernel_rfl) (by kernel_rfl) (fun _ _ _ h => h) (Or.inl ⟨by rfl, ?_⟩) (by assumption) ?_
  rotate_left
  · (intro w hSw; (try dsimp only at hSw); go_simp; (try with_reducible rfl))
  (try simp only [List.set_cons_zero, List.set_cons_succ])
  refine held_take (i := 6) (d := 59) (v := ?_) rfl rfl (by kernel_rfl) (by kernel_rfl) (by kernel_rfl) (fun _ _ _ h => h) (Or.inl ⟨by rfl, ?_⟩) (by assumption) ?_
  rotate_left
  · (intro w hSw; (try dsimp only at hSw); go_simp; (try with_reducible rfl))
  (try simp only [List.set_cons_zero, List.set_cons_succ])
  refine held_take (i := 7) (d := 60) (v := ?_) rfl rfl (by kernel_rfl) (by kernel_rfl) (by kernel_rfl) (fun _ _ _ h => h) (Or.inl ⟨by rfl, ?_⟩) (by assumption) ?_
  rotate_left
  · (intro w hSw; (try dsimp only at hSw); go_simp; (try with_reducible rfl))
  (try simp only [List.set_cons_zero, List.set_cons_succ])
  refine held_take (i := 8) (d := 61) (v := ?_) rfl rfl (by kernel_rfl) (by kernel_rfl) (by kernel_rfl) (fun _ _ _ h => h) (Or.inl ⟨by rfl, ?_⟩) (by assumption) ?_
  rotate_left
  · (intro w hSw; (try dsimp only at hSw); go_simp; (try with_reducible rfl))
  (try simp only [List.set_cons_zero, List.set_cons_succ])
  refine held_take (i := 9) (d := 62) (v := ?_) rfl rfl (by kernel_rfl) (by kernel_rfl) (by kernel_rfl) (fun _ _ _ h => h) (Or.inl ⟨by rfl, ?_⟩) (by assumption) ?_
  rotate_left
  · (intro w hSw; (try dsimp only at hSw); go_simp; (try with_reducible rfl))
  (try simp only [List.set_cons_zero, List.set_cons_succ])
  refine held_take (i := 10) (d := 63) (v := ?_) rfl rfl (by kernel_rfl) (by kernel_rfl) (by kernel_rfl) (fun _ _ _ h => h) (Or.inl ⟨by rfl, ?_⟩) (by assumption) ?_
  rotate_left
  · (intro w hSw; (try dsimp only at hSw); go_simp; (try with_reducible rfl))
  (try simp only [List.set_cons_zero, List.set_cons_succ])
  refine held_take (i := 11) (d := 64) (v := ?_) rfl rfl (by kernel_rfl) (by kernel_rfl) (by kernel_rfl) (fun _ _ _ h => h) (Or.inl ⟨by rfl, ?_⟩) (by assumption) ?_
  rotate_left
  · (intro w hSw; (try dsimp only at hSw); go_simp; (try with_reducible rfl))
  (try simp only [List.set_cons_zero, List.set_cons_succ])
  refine wpAnyH_ready (rs := [12]) (by kernel_rfl) (by simp) ?_
  refine AllReadyH.cons rfl (fun K hK => ?_) AllReadyH.nil
  go_simp
  refine (impl_choose h1 s h2_.A h3_.A N h2_.c h3_.c l2 l3 (hL2.keep hVd) (hL3.keep hVd) hN (by omega)).mono ?_; rintro e w2 ⟨A1, n1, S1, c1, rfl, hLL⟩; have hf8 := hLL.fm; replace pc0 := hf8.cell pc0 (HPQ.out pa.block rfl).1 (HPQ.out pa.block rfl).2; replace pc1 := hf8.cell pc1 (HPQ.out pa.block rfl).1 (HPQ.out pa.block rfl).2; replace pc2 := hf8.cell pc2 (HPQ.out pa.block rfl).1 (HPQ.out pa.block rfl).2; replace hsc := hf8.cell hsc (HSA.out).1 (HSA.out).2; have hres := ((LE.res hLL).cast HG.out HR.out).from_ hVd HXL.out; clear hLL; obtain ⟨A2, n2, S2, m2, c2, he, hrest⟩ := hres; injection he with he; injection he with e1 e2 e3; subst e1; subst e2; subst e3
  go_wp2_with fail
  refine hK.out _ _ ?_ (fun hHeld => ?_)
  · (try dsimp only); exact ⟨pc0, pc1, pc2, hsc⟩
  clear hK K
  (try simp only [Act.put]); (try simp only [List.setIfInBounds_toArray]); (try simp only [List.set_cons_succ]); (try simp only [List.set_cons_zero])
  refine held_take (i := 13) (d := 6) (v := ?_) rfl rfl (by kernel_rfl) (by kernel_rfl) (by kernel_rfl) (fun _ _ _ h => h) (Or.inl ⟨by rfl, ?_⟩) (by assumption) ?_
  rotate_left
  · (intro w hSw; (try dsimp only at hSw); go_simp; (try with_reducible rfl))
  (try simp only [List.set_cons_zero, List.set_cons_succ])
  refine wpAnyH_done (by kernel_rfl) ?_ _
  go_wp2_with fail
  go_ret
  exact ⟨_, _, _, _, _, rfl, hrest⟩
set_option maxRecDepth 20000 in
set_option maxHeartbeats 4000000 in
theorem impl_line_6 {w : World} {X : Mx} {n : Nat} {g : List Gt} {A : Option Addr} (h : ME 117 X w n g A) (nm op : ByteArray) (C : Option Addr) (m cc : Nat) (pt wd vl : Int) (x : Ln) (hx : x = ⟨6, nm, op, x.ps, pt, wd, vl⟩) (PA : Option Addr) (pn pc : Nat) (hPq : ∀ q, PA.map (·.block) = some q → q ≠ X.x ∧ A.map (·.block) ≠ some q) (h1_ : Hd) (l1 : List Int) (hL1 : Lx w X.x A h1_.A h1_.n h1_.c l1) (hPA : Rd w 1 PA pn pc ([h1_].map Hd.vl)) (N : Nat) (hn1 : h1_.n = N) (hN : N ≤ 20) (hn : n ≤ 300) :
    Calls Tryz.prog 90 #[.pointer (some ⟨X.x, 0, none⟩), .agg #[.int .i64 6, .string nm, .string op, .slice C m cc, .int .i64 pt, .int .i64 wd, .int .i64 vl], .slice PA pn pc] w (ResE 117 X w A (lineS mulI X.t x [l1] g).1 (lineS mulI X.t x [l1] g).2) := by
  have hB := Blk.new w 92 #[.int .i64 6, .string nm, .string op, .slice C m cc, .int .i64 pt, .int .i64 wd, .int .i64 vl] (g := w.heap.size)
  have hV := (Bl.refl w).alloc (.cells #[.int .i64 6, .string nm, .string op, .slice C m cc, .int .i64 pt, .int .i64 wd, .int .i64 vl] 92)
  have hxl := Nat.le_of_lt h.lt
  have HXL := Lib.hid hxl
  have HXT := Lib.hid h.lt
  have HAT := Lib.hid h.at_
  have HPQ := Lib.hid hPq
  have h1 := h.keep hV
  have HE := Lib.hid (show lineS mulI X.t x [l1] g = (g, l1) by rw [hx]; rfl)
  rw [HE.out]
  dsimp only
  have hpn : pn = 1 := by have := hPA.len; simp at this; omega
  subst hpn
  obtain ⟨pa, rfl, hpb, pc0, hpc⟩ := p0_cell hPA (by omega)
  have hple := hPA.cap
  rw [hn1] at pc0 hL1
  replace pc0 := Bl.cells hV pc0
  replace hL1 := hL1.keep hV
  clear hx hpc hPA hn1
  have hB_0 := hB.cell 0 _ rfl
  have hB_l := hB.lt
  go_enter Tryz.func90, Tryz.ntmps90
  go_wp2_with fail
  refine (slices_Clone h1_.A N h1_.c l1 _ hL1.rd (by omega)).mono ?_
  rintro e w2 ⟨A2, c2, rfl, hO, hb2⟩
  go_wp2_with fail
  go_ret
  exact (LE.res (h1.own hb2 hO)).from_ hV HXL.out
end Go.Proofs.YtjggecbaladiiaaGreatDoor
