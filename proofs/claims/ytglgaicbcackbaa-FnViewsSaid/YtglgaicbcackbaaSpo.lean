/- Contracts of the reference's shares and own values.
   Conditions: small elements of a field. -/
import Derived.Test.YtglgaicbcackbaaSid
import Derived.Test.YtglgaicbcackbaaRsd
import Derived.Test.YtglgaicbcackbaaViw
import Derived.Outline
namespace Go.Proofs.Ytglgaicbcackbaa
open Go.RowKit
set_option linter.unusedVariables false
/-- Differences in a field, place by place. -/
def subsL (p : Int) (l l' : List Int) : List Int := List.zipWith (fun a b => (a - b) % p) l l'
theorem subsL_step {p : Int} {l l' : List Int} {k : Nat} {x y : Int} (hx : l[k]? = some x) (hy : l'[k]? = some y) : (subsL p l l').take (k + 1) = (subsL p l l').take k ++ [(x - y) % p] := by
  unfold subsL
  rw [List.take_add_one, List.getElem?_zipWith, hx, hy]
  rfl
theorem subsL_all {p : Int} {l l' : List Int} {n : Nat} (h : l.length = n) : (subsL p l l').take n = subsL p l l' := List.take_of_length_le (by unfold subsL; rw [List.length_zipWith]; omega)
set_option maxHeartbeats 1000000 in
theorem spec_shSum (p : Int) (A B : Option Addr) (n c m d : Nat) (l l' : List Int) (w : World) (h : RdI w A n c l) (h' : RdI w B m d l') (hnm : n ≤ m) (hn : n ≤ 1000) (hp : 2 ≤ p ∧ p ≤ 251)
    (hall : ∀ z ∈ l, 0 ≤ z ∧ z < p) (hall' : ∀ z ∈ l', 0 ≤ z ∧ z < p) :
    Calls Try.prog 153 #[.int .i64 p, .slice A n c, .slice B m d, .int .i64 (-1)] w fun e w' => ∃ A' c', e = .returned (.slice A' n c') ∧ OwnI w.heap.size w' A' n c' (subsL p l l') ∧ Bl w w' := by
  obtain ⟨hle1, hle2⟩ := h.le
  obtain ⟨hle3, hle4⟩ := h'.le
  have HA := Lib.hid hall
  have HA' := Lib.hid hall'
  have hlen := Lib.hid h.length
  clear hall hall'
  have hown0 := OwnI.nil w.heap.size w
  have hW0 := Bl.refl w
  go_enter Try.func153, Try.ntmps153
  go_wp2
  go_loopw [9, 14] (fun q i wr => ∃ k A' c', k ≤ n ∧ i = .int .i64 (k : Nat) ∧ q = .slice A' k c' ∧ OwnI w.heap.size wr A' k c' ((subsL p l l').take k) ∧ Bl w wr) (fun _ i _ => n - (intOf i).toNat)
  case atStart => exact ⟨0, none, 0, by omega, rfl, rfl, hown0, hW0⟩
  case round =>
    obtain ⟨k, A', c', hk, rfl, rfl, hown, hW⟩ := hrel
    clear hown0 hW0
    by_cases hlt : k < n
    · obtain ⟨ad, x, rfl, hadb, hx, hcell⟩ := (h.keep hW).at_ hlt
      obtain ⟨ad', y, rfl, hadb', hy, hcell'⟩ := (h'.keep hW).at_ (show k < m by omega)
      have hst := Lib.hid (subsL_step (p := p) hx hy)
      have hxb := HA.out x (List.mem_of_getElem? hx)
      have hyb := HA'.out y (List.mem_of_getElem? hy)
      clear hx hy
      have i1 : (k : Int) < n := by omega
      have i2 : (k : Int) < m := by omega
      have e1 : x + -1 * y = x - y := by omega
      go_wp2_with (first
        | (go_at_call 143; refine (spec_btMod _ _ _ (by omega) (by omega) (by omega) (by omega)).mono ?_; rintro e w' ⟨rfl, rfl⟩)
        | (at_builtin; refine ap_int rfl rfl rfl (hown.alloc _) rfl (rd_new1 _ 3 _) (by omega) (by have := hW.sz; simp; omega) ?_; intro A2 c2 w2 hown2 hg2 hat2; replace hW := (hW.alloc _).grown hg2 (fun k hk => (hown.blk k hk).1)))
      go_roundw
      case rel => exact ⟨k + 1, A2, c2, by omega, by go_num, rfl, by rw [hst.out]; first | exact hown2 | (rw [e1] at hown2; exact hown2) | (rw [show x + -y = x - y by omega] at hown2; exact hown2), hW⟩
      case measure => simp [intOf]; omega
    · have he : k = n := by omega
      subst he
      have hal := Lib.hid (subsL_all (p := p) (l' := l') hlen.out)
      go_wp2
      go_ret
      exact ⟨A', c', rfl, by rw [← hal.out]; exact hown, hW⟩
theorem RdI.two {w : World} {A : Option Addr} {c : Nat} {x0 x1 : Int} (h : RdI w A 2 c [x0, x1]) :
    ∃ ad, A = some ad ∧ ad.block < w.heap.size ∧ w.cell? ad = some (.int .i64 x0) ∧ w.cell? ⟨ad.block, ad.off + 1, none⟩ = some (.int .i64 x1) := by
  obtain ⟨ad, e, hb, h0, hc⟩ := h.lit (by omega)
  exact ⟨ad, e, hb, h0 _ rfl, hc 1 _ (by omega) rfl⟩
set_option maxHeartbeats 2000000 in
theorem vwOwn0 (p a b c d e f0 f1 u v : Int) (A B : Option Addr) (c1 c2 : Nat) (w : World) (hl : RdI w A 5 c1 [a, b, c, d, e]) (hf : RdI w B 2 c2 [f0, f1]) (hp : 2 ≤ p ∧ p ≤ 251) (ha : 0 ≤ a ∧ a < p) (hb : 0 ≤ b ∧ b < p)
   (hc : 0 ≤ c ∧ c < p) (hd : 0 ≤ d ∧ d < p) (he : 0 ≤ e ∧ e < p) (h0 : 0 ≤ f0 ∧ f0 < p) (h1 : 0 ≤ f1 ∧ f1 < p) (hu : 0 ≤ u ∧ u < p) (hv : 0 ≤ v ∧ v < p) :
    Calls Try.prog 145 #[.int .i64 p, .int .i64 0, .slice A 5 c1, .slice B 2 c2, .int .i64 u, .int .i64 v] w
      fun r w' => r = .returned (.tuple #[.int .i64 (prtD p 0 a c f0), .int .i64 (prtD p 0 b d f1), .int .i64 (shrZ p 0 c d e (prtD p 0 a c f0 + u) (prtD p 0 b d f1 + v))]) ∧ Bl w w' := by
  obtain ⟨ad, rfl, had, g0, g1, g2, g3, g4⟩ := hl.five
  obtain ⟨ad', rfl, had', k0, k1⟩ := hf.two
  have D := md_bd (a + f0 - c) hp.1
  have E := md_bd (b + f1 - d) hp.1
  have eD : prtD p 0 a c f0 = (a + f0 - c) % p := by unfold prtD; congr 1; simp; try omega
  have eE : prtD p 0 b d f1 = (b + f1 - d) % p := by unfold prtD; congr 1; simp; try omega
  rw [eD, eE]
  clear eD eE
  go_enter Try.func145, Try.ntmps145
  go_wp2_with fail
  go_quiet ((go_at_call 143; refine quiet_gen (spec_btMod _ _ _ ?_ ?_ ?_ ?_) _ rfl <;> omega))
  go_wp2_with fail
  go_quiet ((go_at_call 143; refine quiet_gen (spec_btMod _ _ _ ?_ ?_ ?_ ?_) _ rfl <;> omega))
  go_wp2_with fail
  have s1 : 0 ≤ (a + f0 - c) % p + u ∧ (a + f0 - c) % p + u ≤ 502 := by omega
  have s2 : 0 ≤ (b + f1 - d) % p + v ∧ (b + f1 - d) % p + v ≤ 502 := by omega
  have m1 := mul_bd3 ((a + f0 - c) % p + u) d 502 251 (by omega) (by omega) (by omega) (by omega)
  have m2 := mul_bd3 ((b + f1 - d) % p + v) c 502 251 (by omega) (by omega) (by omega) (by omega)
  have m3 := mul_bd3 ((a + f0 - c) % p + u) ((b + f1 - d) % p + v) 502 502 (by omega) (by omega) (by omega) (by omega)
  have hp0 : (p == 0) = false := by simp; omega
  have hp1 : ¬ p = 0 := by omega
  have T0 := Lib.hid (show shrZ p 0 c d e ((a + f0 - c) % p + u) ((b + f1 - d) % p + v) = (e + ((a + f0 - c) % p + u) * d + ((b + f1 - d) % p + v) * c + ((a + f0 - c) % p + u) * ((b + f1 - d) % p + v)) % p by simp [shrZ])
  go_quiet (fail)
  go_wp2
  refine bodyPost_ret (results_tmp3 rfl _ _ _) rfl ⟨?_, (by (repeat (first | assumption | with_reducible exact Bl.refl _ | with_reducible refine Bl.drewN ?_ _ | with_reducible refine Bl.drew ?_ | with_reducible refine Bl.alloc ?_ _ | (with_reducible refine Bl.call ?_ (by assumption)))))⟩
  rw [T0.out]
  rfl
set_option maxHeartbeats 2000000 in
theorem vwOwn1 (p a b c d e f0 f1 u v : Int) (A B : Option Addr) (c1 c2 : Nat) (w : World) (hl : RdI w A 5 c1 [a, b, c, d, e]) (hf : RdI w B 2 c2 [f0, f1]) (hp : 2 ≤ p ∧ p ≤ 251) (ha : 0 ≤ a ∧ a < p) (hb : 0 ≤ b ∧ b < p)
   (hc : 0 ≤ c ∧ c < p) (hd : 0 ≤ d ∧ d < p) (he : 0 ≤ e ∧ e < p) (h0 : 0 ≤ f0 ∧ f0 < p) (h1 : 0 ≤ f1 ∧ f1 < p) (hu : 0 ≤ u ∧ u < p) (hv : 0 ≤ v ∧ v < p) :
    Calls Try.prog 145 #[.int .i64 p, .int .i64 1, .slice A 5 c1, .slice B 2 c2, .int .i64 u, .int .i64 v] w
      fun r w' => r = .returned (.tuple #[.int .i64 (prtD p 1 a c f0), .int .i64 (prtD p 1 b d f1), .int .i64 (shrZ p 1 c d e (prtD p 1 a c f0 + u) (prtD p 1 b d f1 + v))]) ∧ Bl w w' := by
  obtain ⟨ad, rfl, had, g0, g1, g2, g3, g4⟩ := hl.five
  obtain ⟨ad', rfl, had', k0, k1⟩ := hf.two
  have D := md_bd (a - c) hp.1
  have E := md_bd (b - d) hp.1
  have eD : prtD p 1 a c f0 = (a - c) % p := by unfold prtD; congr 1; simp; try omega
  have eE : prtD p 1 b d f1 = (b - d) % p := by unfold prtD; congr 1; simp; try omega
  rw [eD, eE]
  clear eD eE
  go_enter Try.func145, Try.ntmps145
  go_wp2_with fail
  go_quiet ((go_at_call 143; refine quiet_gen (spec_btMod _ _ _ ?_ ?_ ?_ ?_) _ rfl <;> omega))
  go_wp2_with fail
  go_quiet ((go_at_call 143; refine quiet_gen (spec_btMod _ _ _ ?_ ?_ ?_ ?_) _ rfl <;> omega))
  go_wp2_with fail
  have s1 : 0 ≤ (a - c) % p + u ∧ (a - c) % p + u ≤ 502 := by omega
  have s2 : 0 ≤ (b - d) % p + v ∧ (b - d) % p + v ≤ 502 := by omega
  have m1 := mul_bd3 ((a - c) % p + u) d 502 251 (by omega) (by omega) (by omega) (by omega)
  have m2 := mul_bd3 ((b - d) % p + v) c 502 251 (by omega) (by omega) (by omega) (by omega)
  have m3 := mul_bd3 ((a - c) % p + u) ((b - d) % p + v) 502 502 (by omega) (by omega) (by omega) (by omega)
  have hp0 : (p == 0) = false := by simp; omega
  have hp1 : ¬ p = 0 := by omega
  have T0 := Lib.hid (show shrZ p 1 c d e ((a - c) % p + u) ((b - d) % p + v) = (e + ((a - c) % p + u) * d + ((b - d) % p + v) * c) % p by simp [shrZ])
  go_quiet (fail)
  go_wp2
  refine bodyPost_ret (results_tmp3 rfl _ _ _) rfl ⟨?_, (by (repeat (first | assumption | with_reducible exact Bl.refl _ | with_reducible refine Bl.drewN ?_ _ | with_reducible refine Bl.drew ?_ | with_reducible refine Bl.alloc ?_ _ | (with_reducible refine Bl.call ?_ (by assumption)))))⟩
  rw [T0.out]
  rfl
end Go.Proofs.Ytglgaicbcackbaa
