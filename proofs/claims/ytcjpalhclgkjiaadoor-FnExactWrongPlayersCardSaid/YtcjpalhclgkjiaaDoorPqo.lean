/- Opening players out of a law's heap.
   Conditions: none. -/
import Derived.Test.YtcjpalhclgkjiaaDoorTgs
import Derived.Test.YtcjpalhclgkjiaaDoorOpn
import Derived.Test.YtcjpalhclgkjiaaDoorPgo
namespace Go.Proofs.YtcjpalhclgkjiaaDoor
open Go.ChangeShapes Go.WideShapes Go.ChangeAt Go.RowKit Go.Deep
set_option linter.unusedVariables false
theorem open_ints_f {H : Type} {enc : TypeId × Value → H} {w : World} {base : Nat} {spare : Nat → Bool} {held : Bool} {v : Value} {y : DataW H × List MemPlace} {fuel : Nat}
  (hf : DataW.trod enc Tryd.prog w base spare held fuel 23 [v] = some y) : ∃ A n c l, v = .slice A n c ∧ RdI w A n c l := by
 rcases open_ints Tryd.underlying23 Tryd.underlying3 (by kernel_rfl) hf with ⟨hcs, hx⟩ | ⟨a, len', cap', zs, hcs, _, hl, hm, hz, hx, hcell, hwz⟩
 ·simp at hcs
  exact ⟨none, 0, 0, [], hcs, RdI.nil w⟩
 ·simp at hcs
  have hlz : len' ≤ zs.length := by rw [hz]; split <;> omega
  have hlt : (zs.take len').length = len' := by rw [List.length_take]; omega
  have hc2 : ∀ (j : Nat) (u : Value), (ints (zs.take len'))[j]? = some u → w.cell? (a.add j) = some u := by
   intro j u hu
   rw [ints_get] at hu
   obtain ⟨y, hy, rfl⟩ := Option.map_eq_some_iff.1 hu
   rw [List.getElem?_take] at hy
   split at hy
   ·have hj : j < zs.length := by omega
    rw [hcell j hj, List.getD_eq_getElem?_getD, hy]; rfl
   ·cases hy
  refine ⟨some a, len', cap', zs.take len', hcs, ⟨by simp [hlt], hl, hm, fun hn => ⟨a, rfl, ?_, hc2⟩⟩⟩
  have h0 : (ints (zs.take len'))[0]? = some ((ints (zs.take len'))[0]'(by rw [ints_length, hlt]; exact hn)) := List.getElem?_eq_getElem _
  have := World.block_lt_of_cell? w _ (hc2 0 _ h0)
  rwa [block_of_add] at this
theorem ints_cells : Tryd.prog.cellsOf 23 = 1 := by kernel_rfl
theorem open_SS {H : Type} {enc : TypeId × Value → H} {w : World} {base : Nat} {spare : Nat → Bool} {held : Bool} {v : Value} {y : DataW H × List MemPlace} {fuel : Nat}
  (hf : DataW.trod enc Tryd.prog w base spare held fuel 24 [v] = some y) : ∃ A n c hs LL, v = .slice A n c ∧ RdSS w A n c hs LL := by
 rcases open_slice Tryd.underlying24 hf with ⟨h0, _⟩ | ⟨a, len, cap, m, k, D, Pl, hcs, hb, hl, hm, hmm, hx, hi⟩
 ·simp at h0
  exact ⟨none, 0, 0, [], [], h0, RdSS.nil w⟩
 ·simp at hcs
  have hel : ∀ i, i < len → ∃ x : Hd × List Int, w.cell? (a.add i) = some x.1.val ∧ RdI w x.1.A x.1.n x.1.c x.2 := fun i hil => by
   have him : i < m := by rw [hmm]; split <;> omega
   obtain ⟨cs', hc, ht'⟩ := hi i him
   rw [ints_cells] at hc
   obtain ⟨_, hcl, hat⟩ := World.cells?_some hc
   match cs', hcl with
   | [u], _ =>
    obtain ⟨A, n, c, l, rfl, hr⟩ := open_ints_f ht'
    have q := hat 0 (by omega)
    rw [Nat.mul_one, add_zero_] at q
    exact ⟨⟨⟨A, n, c⟩, l⟩, q, hr⟩
  obtain ⟨L, hL, hp⟩ := choose_list (p := fun i (x : Hd × List Int) => w.cell? (a.add i) = some x.1.val ∧ RdI w x.1.A x.1.n x.1.c x.2) len hel
  refine ⟨some a, len, cap, L.map (·.1), L.map (·.2), hcs, ⟨by simp [hL], hl, hm, fun hn => ⟨a, rfl, ?_, fun j u hu => ?_⟩⟩, by simp, fun i x l h1 h2 => ?_⟩
  ·have := World.block_lt_of_cell? w _ (hp 0 (L[0]'(by omega)) (List.getElem?_eq_getElem _)).1
   rwa [block_of_add] at this
  ·rw [List.getElem?_map, List.getElem?_map] at hu
   rcases hz : L[j]? with _ | z
   ·rw [hz] at hu; cases hu
   ·rw [hz] at hu
    injection hu with hu
    rw [← hu]
    exact (hp j z hz).1
  ·rw [List.getElem?_map] at h1 h2
   rcases hz : L[i]? with _ | z
   ·rw [hz] at h1; cases h1
   ·rw [hz] at h1 h2
    injection h1 with h1
    injection h2 with h2
    subst h1; subst h2
    exact (hp i z hz).2
set_option maxRecDepth 20000 in
theorem open_meddles {H : Type} {enc : TypeId × Value → H} {w : World} {base : Nat} {spare : Nat → Bool} {held : Bool} {r : Reach} {b0 : Nat} {v : Value} {d : DataW H} {p : List MemPlace}
  (hv : Value.okWide Tryd.prog w r b0 27 v) (h : DataW.Trod enc Tryd.prog w base spare held 27 v d p) : ∃ A n c l, v = .slice A n c ∧ RdMd w A n c l := by
 obtain ⟨fuel, hf⟩ := h
 obtain ⟨A, n, c, rfl⟩ := okWide_slice Tryd.underlying27 hv
 simp [Value.cells] at hf
 exact open_Md hf
set_option maxRecDepth 20000 in
theorem open_player {H : Type} {enc : TypeId × Value → H} {w : World} {base : Nat} {spare : Nat → Bool} {held : Bool} {r : Reach} {b0 : Nat} {v : Value} {d : DataW H} {p : List MemPlace}
  (hv : Value.okWide Tryd.prog w r b0 26 v) (h : DataW.Trod enc Tryd.prog w base spare held 26 v d p) :
  ∃ (a : Pl) (As Ak Ah : Option Addr) (ns cs nk ck nh ch : Nat) (hs : List Hd), v = .agg #[.int .i64 a.p, .int .i64 a.party, .int .i64 a.x, .int .i64 a.mask, .int .i64 a.delta, .slice As ns cs, .slice Ak nk ck, .int .i64 a.step, .slice Ah nh ch, .int .i64 a.status, .int .i64 a.out] ∧ RdP w a As Ak Ah ns cs nk ck nh ch hs := by
 obtain ⟨cs, rfl, hl, hf⟩ := open_cells Tryd.underlying26 (by kernel_rfl) (by kernel_rfl) hv h
 match cs, hl with
 | [c0, c1, c2, c3, c4, c5, c6, c7, c8, c9, c10], _ =>
  obtain ⟨u0, y0, n0, e0, t0⟩ := hf 0 _ rfl
  obtain ⟨u1, y1, n1, e1, t1⟩ := hf 1 _ rfl
  obtain ⟨u2, y2, n2, e2, t2⟩ := hf 2 _ rfl
  obtain ⟨u3, y3, n3, e3, t3⟩ := hf 3 _ rfl
  obtain ⟨u4, y4, n4, e4, t4⟩ := hf 4 _ rfl
  obtain ⟨u5, y5, n5, e5, t5⟩ := hf 5 _ rfl
  obtain ⟨u6, y6, n6, e6, t6⟩ := hf 6 _ rfl
  obtain ⟨u7, y7, n7, e7, t7⟩ := hf 7 _ rfl
  obtain ⟨u8, y8, n8, e8, t8⟩ := hf 8 _ rfl
  obtain ⟨u9, y9, n9, e9, t9⟩ := hf 9 _ rfl
  obtain ⟨u10, y10, n10, e10, t10⟩ := hf 10 _ rfl
  obtain ⟨z0, q0, _, _⟩ := DataW.trod_int Tryd.underlying3 t0
  obtain ⟨z1, q1, _, _⟩ := DataW.trod_int Tryd.underlying3 t1
  obtain ⟨z2, q2, _, _⟩ := DataW.trod_int Tryd.underlying3 t2
  obtain ⟨z3, q3, _, _⟩ := DataW.trod_int Tryd.underlying3 t3
  obtain ⟨z4, q4, _, _⟩ := DataW.trod_int Tryd.underlying3 t4
  obtain ⟨z7, q7, _, _⟩ := DataW.trod_int Tryd.underlying3 t7
  obtain ⟨z9, q9, _, _⟩ := DataW.trod_int Tryd.underlying3 t9
  obtain ⟨z10, q10, _, _⟩ := DataW.trod_int Tryd.underlying3 t10
  obtain ⟨As, ns, cs, ls, rfl, hS⟩ := open_Tg t5
  obtain ⟨Ak, nk, ck, lk, rfl, hK⟩ := open_ints_f t6
  obtain ⟨Ah, nh, ch, hs, LL, rfl, hH⟩ := open_SS t8
  simp at e0 e1 e2 e3 e4 e5 e6 e7 e8 e9 e10 q0 q1 q2 q3 q4 q7 q9 q10
  subst e0 e1 e2 e3 e4 e5 e6 e7 e8 e9 e10 q0 q1 q2 q3 q4 q7 q9 q10
  exact ⟨⟨z0, z1, z2, z3, z4, ls, lk, z7, LL, z9, z10⟩, As, Ak, Ah, ns, cs, nk, ck, nh, ch, hs, rfl, hS, hK, hH⟩
end Go.Proofs.YtcjpalhclgkjiaaDoor
