/- Contracts of what both parties have.
   Conditions: small elements of a field; the shares read as five numbers. -/
import Derived.Test.YtglgaicbcackbaaVco
import Derived.Test.YtglgaicbcackbaaQui
namespace Go.Proofs.Ytglgaicbcackbaa
open Go.RowKit
set_option linter.unusedVariables false
/-- A party's shares of d and e. -/
def prtD (p q a c f : Int) : Int := (a - c + (if q = 0 then f else 0)) % p
/-- A party's share of z. -/
def shrZ (p q b c d u v : Int) : Int := (d + u * c + v * b + (if q = 0 then u * v else 0)) % p
set_option maxHeartbeats 1000000 in
theorem parts0 (p x y m0 m1 f0 f1 a b c d e : Int) (A0 A1 : Option Addr) (c0 n1 c1 : Nat) (w : World) (hl : RdI w A0 5 c0 [a, b, c, d, e]) (hp : 2 ≤ p ∧ p ≤ 251) (ha : 0 ≤ a ∧ a < p) (hb : 0 ≤ b ∧ b < p)
   (hc : 0 ≤ c ∧ c < p) (hd : 0 ≤ d ∧ d < p) (h0 : 0 ≤ f0 ∧ f0 < p) (h1 : 0 ≤ f1 ∧ f1 < p) :
    Calls Try.prog 140 #[.agg #[.int .i64 p, .int .i64 x, .int .i64 y, .int .i64 m0, .int .i64 m1, .slice A0 5 c0, .slice A1 n1 c1], .int .i64 0, .int .i64 f0, .int .i64 f1] w
      fun e w' => e = .returned (.tuple #[.int .i64 (prtD p 0 a c f0), .int .i64 (prtD p 0 b d f1)]) ∧ Bl w w' := by
  obtain ⟨ad, rfl, had, g0, g1, g2, g3, g4⟩ := hl.five
  go_enter Try.func140, Try.ntmps140
  go_wp2_with fail
  go_quiet (fail)
  go_wp2_with fail
  go_quiet ((go_at_call 139; refine quiet_gen (impl_mod _ _ _ ?_ ?_ ?_ ?_) _ rfl <;> omega))
  go_wp2
  go_ret2
  exact ⟨by simp [prtD], (by (repeat (first | assumption | with_reducible exact Bl.refl _ | with_reducible refine Bl.drewN ?_ _ | with_reducible refine Bl.drew ?_ | with_reducible refine Bl.alloc ?_ _ | (with_reducible refine Bl.call ?_ (by assumption)))))⟩
set_option maxHeartbeats 1000000 in
theorem share0 (p x y m0 m1 u v a b c d e : Int) (A0 A1 : Option Addr) (c0 n1 c1 : Nat) (w : World) (hl : RdI w A0 5 c0 [a, b, c, d, e]) (hp : 2 ≤ p ∧ p ≤ 251) (he : 0 ≤ e ∧ e < p)
   (hc : 0 ≤ c ∧ c < p) (hd : 0 ≤ d ∧ d < p) (h0 : 0 ≤ u ∧ u < p) (h1 : 0 ≤ v ∧ v < p) :
    Calls Try.prog 141 #[.agg #[.int .i64 p, .int .i64 x, .int .i64 y, .int .i64 m0, .int .i64 m1, .slice A0 5 c0, .slice A1 n1 c1], .int .i64 0, .int .i64 u, .int .i64 v] w
      fun e' w' => e' = .returned (.int .i64 (shrZ p 0 c d e u v)) ∧ Bl w w' := by
  obtain ⟨ad, rfl, had, g0, g1, g2, g3, g4⟩ := hl.five
  have m1 := mul_bd3 u d 251 251 (by omega) (by omega) (by omega) (by omega)
  have m2 := mul_bd3 v c 251 251 (by omega) (by omega) (by omega) (by omega)
  have m3 := mul_bd3 u v 251 251 (by omega) (by omega) (by omega) (by omega)
  go_enter Try.func141, Try.ntmps141
  go_wp2_with fail
  go_quiet (fail)
  go_wp2_with (go_at_call 139; refine (impl_mod _ _ _ (by omega) (by omega) (by omega) (by omega)).mono ?_; rintro e w' ⟨rfl, rfl⟩)
  go_ret
  exact ⟨by simp [shrZ], (by (repeat (first | assumption | with_reducible exact Bl.refl _ | with_reducible refine Bl.drewN ?_ _ | with_reducible refine Bl.drew ?_ | with_reducible refine Bl.alloc ?_ _ | (with_reducible refine Bl.call ?_ (by assumption)))))⟩
set_option maxHeartbeats 1000000 in
theorem parts1 (p x y m0 m1 f0 f1 a b c d e : Int) (A0 A1 : Option Addr) (c0 n1 c1 : Nat) (w : World) (hl : RdI w A0 5 c0 [a, b, c, d, e]) (hp : 2 ≤ p ∧ p ≤ 251) (ha : 0 ≤ a ∧ a < p) (hb : 0 ≤ b ∧ b < p)
   (hc : 0 ≤ c ∧ c < p) (hd : 0 ≤ d ∧ d < p) (h0 : 0 ≤ f0 ∧ f0 < p) (h1 : 0 ≤ f1 ∧ f1 < p) :
    Calls Try.prog 140 #[.agg #[.int .i64 p, .int .i64 x, .int .i64 y, .int .i64 m0, .int .i64 m1, .slice A1 n1 c1, .slice A0 5 c0], .int .i64 1, .int .i64 f0, .int .i64 f1] w
      fun e w' => e = .returned (.tuple #[.int .i64 (prtD p 1 a c f0), .int .i64 (prtD p 1 b d f1)]) ∧ Bl w w' := by
  obtain ⟨ad, rfl, had, g0, g1, g2, g3, g4⟩ := hl.five
  go_enter Try.func140, Try.ntmps140
  go_wp2_with fail
  go_quiet (fail)
  go_wp2_with fail
  go_quiet ((go_at_call 139; refine quiet_gen (impl_mod _ _ _ ?_ ?_ ?_ ?_) _ rfl <;> omega))
  go_wp2
  go_ret2
  exact ⟨by simp [prtD], (by (repeat (first | assumption | with_reducible exact Bl.refl _ | with_reducible refine Bl.drewN ?_ _ | with_reducible refine Bl.drew ?_ | with_reducible refine Bl.alloc ?_ _ | (with_reducible refine Bl.call ?_ (by assumption)))))⟩
set_option maxHeartbeats 1000000 in
theorem share1 (p x y m0 m1 u v a b c d e : Int) (A0 A1 : Option Addr) (c0 n1 c1 : Nat) (w : World) (hl : RdI w A0 5 c0 [a, b, c, d, e]) (hp : 2 ≤ p ∧ p ≤ 251) (he : 0 ≤ e ∧ e < p)
   (hc : 0 ≤ c ∧ c < p) (hd : 0 ≤ d ∧ d < p) (h0 : 0 ≤ u ∧ u < p) (h1 : 0 ≤ v ∧ v < p) :
    Calls Try.prog 141 #[.agg #[.int .i64 p, .int .i64 x, .int .i64 y, .int .i64 m0, .int .i64 m1, .slice A1 n1 c1, .slice A0 5 c0], .int .i64 1, .int .i64 u, .int .i64 v] w
      fun e' w' => e' = .returned (.int .i64 (shrZ p 1 c d e u v)) ∧ Bl w w' := by
  obtain ⟨ad, rfl, had, g0, g1, g2, g3, g4⟩ := hl.five
  have m1 := mul_bd3 u d 251 251 (by omega) (by omega) (by omega) (by omega)
  have m2 := mul_bd3 v c 251 251 (by omega) (by omega) (by omega) (by omega)
  have m3 := mul_bd3 u v 251 251 (by omega) (by omega) (by omega) (by omega)
  go_enter Try.func141, Try.ntmps141
  go_wp2_with fail
  go_quiet (fail)
  go_wp2_with (go_at_call 139; refine (impl_mod _ _ _ (by omega) (by omega) (by omega) (by omega)).mono ?_; rintro e w' ⟨rfl, rfl⟩)
  go_ret
  exact ⟨by simp [shrZ], (by (repeat (first | assumption | with_reducible exact Bl.refl _ | with_reducible refine Bl.drewN ?_ _ | with_reducible refine Bl.drew ?_ | with_reducible refine Bl.alloc ?_ _ | (with_reducible refine Bl.call ?_ (by assumption)))))⟩
end Go.Proofs.Ytglgaicbcackbaa
