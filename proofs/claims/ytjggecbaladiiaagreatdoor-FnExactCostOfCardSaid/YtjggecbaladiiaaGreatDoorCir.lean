/- Contracts of circuits: their wires, and whether they are valid.
   Conditions: none beyond the calls' own tests. -/
import Derived.Test.YtjggecbaladiiaaGreatDoorGts
import Derived.Test.YtjggecbaladiiaaGreatDoorFld
import Derived.Test.YtjggecbaladiiaaGreatDoorAll
import Derived.Deep.DeepCutAuto
namespace Go.Proofs.YtjggecbaladiiaaGreatDoor
open Go.RowKit
set_option linter.unusedVariables false
/-- A gate is valid behind N wires. -/
def goodG (N : Int) (g : Gt) : Bool := if g.k = 0 ∨ g.k = 1 then inR g.a 0 (N - 1) && inR g.b 0 (N - 1) else if g.k = 2 then inR g.a 0 (N - 1) && g.b == 0 else if g.k = 3 then g.a == 0 && g.b == 0 else false
/-- Gates are valid behind N wires. -/
def goodGs (N : Int) (l : List Gt) : Bool := (List.range l.length).all fun i => goodG (N + i) (l[i]?.getD Gt.zero)
theorem goodGs_of {N : Int} {l : List Gt} (h : ∀ (i : Nat) (g : Gt), l[i]? = some g → goodG (N + i) g = true) : goodGs N l = true := by
  unfold goodGs
  rw [List.all_eq_true]
  intro i hi
  have hi := List.mem_range.1 hi
  have := h i l[i] (List.getElem?_eq_getElem hi)
  rwa [List.getElem?_eq_getElem hi]
theorem goodGs_not {N : Int} {l : List Gt} {i : Nat} {g : Gt} (hi : l[i]? = some g) (h : goodG (N + i) g = false) : goodGs N l = false := by
  rw [Bool.eq_false_iff]
  intro hc
  have hl : i < l.length := (List.getElem?_eq_some_iff.1 hi).1
  have := List.all_eq_true.1 hc i (List.mem_range.2 hl)
  rw [hi, Option.getD_some, h] at this
  cases this
theorem goodGs_at {N : Int} {l : List Gt} (h : goodGs N l = true) {i : Nat} {g : Gt} (hi : l[i]? = some g) : goodG (N + i) g = true := by
  have hl : i < l.length := (List.getElem?_eq_some_iff.1 hi).1
  have := List.all_eq_true.1 h i (List.mem_range.2 hl)
  rwa [hi, Option.getD_some] at this
/-- A circuit is valid. -/
def headB (a b : Int) (n m : Nat) : Bool := inR a 0 20 && inR b 0 20 && decide (n ≤ 300) && decide (m ≤ 40)
def goodC (a b : Int) (gl : List Gt) (ol : List Int) : Bool := headB a b gl.length ol.length && goodGs (a + b) gl && allR ol 0 (a + b + gl.length - 1)
theorem goodC_facts {a b : Int} {gl : List Gt} {ol : List Int} (h : goodC a b gl ol = true) : 0 ≤ a ∧ a ≤ 20 ∧ 0 ≤ b ∧ b ≤ 20 ∧ gl.length ≤ 300 ∧ ol.length ≤ 40 ∧ goodGs (a + b) gl = true ∧ ∀ x ∈ ol, 0 ≤ x ∧ x < a + b + gl.length := by
  simp only [goodC, headB, Bool.and_eq_true, decide_eq_true_eq] at h
  obtain ⟨⟨⟨⟨⟨h1, h2⟩, h3⟩, h4⟩, h5⟩, h6⟩ := h
  have a1 := inR_iff.1 h1
  have a2 := inR_iff.1 h2
  exact ⟨a1.1, a1.2, a2.1, a2.2, h3, h4, h5, fun x hx => by have := allR_mem h6 hx; omega⟩
/-- What a valid gate reads. -/
def partsL (g : Gt) : List Int := if g.k = 3 then [] else if g.k = 2 then [g.a] else [g.a, g.b]
theorem goodG_facts {N : Int} {g : Gt} (h : goodG N g = true) : (g.k = 0 ∨ g.k = 1 ∨ g.k = 2 ∨ g.k = 3) ∧ ∀ x ∈ partsL g, 0 ≤ x ∧ x < N := by
  unfold goodG at h
  unfold partsL
  split at h
  · rename_i hk
    simp only [Bool.and_eq_true] at h
    have a1 := inR_iff.1 h.1
    have a2 := inR_iff.1 h.2
    refine ⟨by omega, ?_⟩
    rw [if_neg (by omega), if_neg (by omega)]
    intro x hx
    simp only [List.mem_cons, List.not_mem_nil, or_false] at hx
    rcases hx with rfl | rfl <;> omega
  · split at h
    · rename_i hk
      simp only [Bool.and_eq_true] at h
      have a1 := inR_iff.1 h.1
      refine ⟨by omega, ?_⟩
      rw [if_neg (by omega), if_pos hk]
      intro x hx
      simp only [List.mem_cons, List.not_mem_nil, or_false] at hx
      subst hx; omega
    · split at h
      · rename_i hk
        refine ⟨by omega, ?_⟩
        rw [if_pos hk]
        intro x hx; cases hx
      · cases h
theorem impl_gateOk (K x y N : Int) (w : World) (h0 : 0 ≤ N) (h1 : N ≤ 1000000) :
    Calls Tryz.prog 148 #[.agg #[.int .i64 K, .int .i64 x, .int .i64 y], .int .i64 N] w fun e w' => e = .returned (.bool (goodG N ⟨K, x, y⟩)) ∧ Bl w w' := by
  by_cases k0 : K = 0
  · subst k0
    rcases hx : inR x 0 (N - 1)
    · have hR := Lib.hid (show goodG N ⟨0, x, y⟩ = false by simp [goodG, hx])
      go_enter Tryz.func148, Tryz.ntmps148
      go_wp2_with (go_at_call 45; refine (impl_within _ _ _ _).mono ?_; rintro e w1 ⟨rfl, rfl⟩)
      go_ret
      exact ⟨by rw [hR.out]; rfl, (by (repeat (first | assumption | with_reducible exact Bl.refl _ | with_reducible refine Bl.drewN ?_ _ | with_reducible refine Bl.drew ?_ | with_reducible refine Bl.alloc ?_ _ | (with_reducible refine Bl.call ?_ (by assumption)))))⟩
    · have hR := Lib.hid (show goodG N ⟨0, x, y⟩ = inR y 0 (N - 1) by simp [goodG, hx])
      go_enter Tryz.func148, Tryz.ntmps148
      go_wp2_with (go_at_call 45; refine (impl_within _ _ _ _).mono ?_; rintro e w1 ⟨rfl, rfl⟩)
      go_ret
      exact ⟨by rw [hR.out]; rfl, (by (repeat (first | assumption | with_reducible exact Bl.refl _ | with_reducible refine Bl.drewN ?_ _ | with_reducible refine Bl.drew ?_ | with_reducible refine Bl.alloc ?_ _ | (with_reducible refine Bl.call ?_ (by assumption)))))⟩
  by_cases k1 : K = 1
  · subst k1
    rcases hx : inR x 0 (N - 1)
    · have hR := Lib.hid (show goodG N ⟨1, x, y⟩ = false by simp [goodG, hx])
      go_enter Tryz.func148, Tryz.ntmps148
      go_wp2_with (go_at_call 45; refine (impl_within _ _ _ _).mono ?_; rintro e w1 ⟨rfl, rfl⟩)
      go_ret
      exact ⟨by rw [hR.out]; rfl, (by (repeat (first | assumption | with_reducible exact Bl.refl _ | with_reducible refine Bl.drewN ?_ _ | with_reducible refine Bl.drew ?_ | with_reducible refine Bl.alloc ?_ _ | (with_reducible refine Bl.call ?_ (by assumption)))))⟩
    · have hR := Lib.hid (show goodG N ⟨1, x, y⟩ = inR y 0 (N - 1) by simp [goodG, hx])
      go_enter Tryz.func148, Tryz.ntmps148
      go_wp2_with (go_at_call 45; refine (impl_within _ _ _ _).mono ?_; rintro e w1 ⟨rfl, rfl⟩)
      go_ret
      exact ⟨by rw [hR.out]; rfl, (by (repeat (first | assumption | with_reducible exact Bl.refl _ | with_reducible refine Bl.drewN ?_ _ | with_reducible refine Bl.drew ?_ | with_reducible refine Bl.alloc ?_ _ | (with_reducible refine Bl.call ?_ (by assumption)))))⟩
  by_cases k2 : K = 2
  · subst k2
    rcases hx : inR x 0 (N - 1)
    · have hR := Lib.hid (show goodG N ⟨2, x, y⟩ = false by simp [goodG, hx])
      go_enter Tryz.func148, Tryz.ntmps148
      go_wp2_with (go_at_call 45; refine (impl_within _ _ _ _).mono ?_; rintro e w1 ⟨rfl, rfl⟩)
      go_ret
      exact ⟨by rw [hR.out]; rfl, (by (repeat (first | assumption | with_reducible exact Bl.refl _ | with_reducible refine Bl.drewN ?_ _ | with_reducible refine Bl.drew ?_ | with_reducible refine Bl.alloc ?_ _ | (with_reducible refine Bl.call ?_ (by assumption)))))⟩
    · have hR := Lib.hid (show goodG N ⟨2, x, y⟩ = (y == 0) by simp [goodG, hx])
      go_enter Tryz.func148, Tryz.ntmps148
      go_wp2_with (go_at_call 45; refine (impl_within _ _ _ _).mono ?_; rintro e w1 ⟨rfl, rfl⟩)
      go_ret
      exact ⟨by rw [hR.out]; rfl, (by (repeat (first | assumption | with_reducible exact Bl.refl _ | with_reducible refine Bl.drewN ?_ _ | with_reducible refine Bl.drew ?_ | with_reducible refine Bl.alloc ?_ _ | (with_reducible refine Bl.call ?_ (by assumption)))))⟩
  have d0 : (K == 0) = false := by simpa using k0
  have d1 : (K == 1) = false := by simpa using k1
  have d2 : (K == 2) = false := by simpa using k2
  by_cases k3 : K = 3
  · subst k3
    rcases hx : (x == 0)
    · have hR := Lib.hid (show goodG N ⟨3, x, y⟩ = false by simp [goodG, hx])
      go_enter Tryz.func148, Tryz.ntmps148
      go_wp2
      go_ret
      exact ⟨by rw [hR.out]; rfl, (by (repeat (first | assumption | with_reducible exact Bl.refl _ | with_reducible refine Bl.drewN ?_ _ | with_reducible refine Bl.drew ?_ | with_reducible refine Bl.alloc ?_ _ | (with_reducible refine Bl.call ?_ (by assumption)))))⟩
    · have hR := Lib.hid (show goodG N ⟨3, x, y⟩ = (y == 0) by simp [goodG, hx])
      go_enter Tryz.func148, Tryz.ntmps148
      go_wp2
      go_ret
      exact ⟨by rw [hR.out]; rfl, (by (repeat (first | assumption | with_reducible exact Bl.refl _ | with_reducible refine Bl.drewN ?_ _ | with_reducible refine Bl.drew ?_ | with_reducible refine Bl.alloc ?_ _ | (with_reducible refine Bl.call ?_ (by assumption)))))⟩
  have d3 : (K == 3) = false := by simpa using k3
  have hR := Lib.hid (show goodG N ⟨K, x, y⟩ = false by simp [goodG, k0, k1, k2, k3])
  go_enter Tryz.func148, Tryz.ntmps148
  go_wp2
  go_ret
  exact ⟨by rw [hR.out]; rfl, (by (repeat (first | assumption | with_reducible exact Bl.refl _ | with_reducible refine Bl.drewN ?_ _ | with_reducible refine Bl.drew ?_ | with_reducible refine Bl.alloc ?_ _ | (with_reducible refine Bl.call ?_ (by assumption)))))⟩
theorem impl_inputs (a b : Int) (Ag Ao : Option Addr) (n cg m co : Nat) (w : World) (ha : 0 ≤ a) (ha2 : a ≤ 1000) (hb : 0 ≤ b) (hb2 : b ≤ 1000) :
    Calls Tryz.prog 108 #[.agg #[.int .i64 a, .int .i64 b, .slice Ag n cg, .slice Ao m co]] w fun e w' => e = .returned (.int .i64 (a + b)) ∧ Bl w w' := by
  go_enter Tryz.func108, Tryz.ntmps108
  go_wp2
  go_ret
  exact ⟨rfl, (by (repeat (first | assumption | with_reducible exact Bl.refl _ | with_reducible refine Bl.drewN ?_ _ | with_reducible refine Bl.drew ?_ | with_reducible refine Bl.alloc ?_ _ | (with_reducible refine Bl.call ?_ (by assumption)))))⟩
theorem spec_ciInputs (a b : Int) (Ag Ao : Option Addr) (n cg m co : Nat) (w : World) (ha : 0 ≤ a) (ha2 : a ≤ 1000) (hb : 0 ≤ b) (hb2 : b ≤ 1000) :
    Calls Tryz.prog 102 #[.agg #[.int .i64 a, .int .i64 b, .slice Ag n cg, .slice Ao m co]] w fun e w' => e = .returned (.int .i64 (a + b)) ∧ Bl w w' := by
  go_enter Tryz.func102, Tryz.ntmps102
  go_wp2
  go_ret
  exact ⟨rfl, (by (repeat (first | assumption | with_reducible exact Bl.refl _ | with_reducible refine Bl.drewN ?_ _ | with_reducible refine Bl.drew ?_ | with_reducible refine Bl.alloc ?_ _ | (with_reducible refine Bl.call ?_ (by assumption)))))⟩
theorem impl_wires (a b : Int) (Ag Ao : Option Addr) (n cg m co : Nat) (w : World) (ha : 0 ≤ a) (ha2 : a ≤ 1000) (hb : 0 ≤ b) (hb2 : b ≤ 1000) (hn : n ≤ 1000) :
    Calls Tryz.prog 151 #[.agg #[.int .i64 a, .int .i64 b, .slice Ag n cg, .slice Ao m co]] w fun e w' => e = .returned (.int .i64 (a + b + n)) ∧ Bl w w' := by
  have hW := (Bl.refl w).alloc (.cells #[.int .i64 a, .int .i64 b, .slice Ag n cg, .slice Ao m co] 53)
  have hB := Blk.new w 53 #[.int .i64 a, .int .i64 b, .slice Ag n cg, .slice Ao m co]
  have hB_l := hB.lt; have hB_0 := hB.cell 0 _ rfl; have hB_1 := hB.cell 1 _ rfl; have hB_2 := hB.cell 2 _ rfl; have hB_3 := hB.cell 3 _ rfl
  have hw1 : IntKind.i64.wrap (a + b + (n : Int)) = a + b + n := IntWalk.i64_in _ (by omega)
  go_enter Tryz.func151, Tryz.ntmps151
  go_wp2_with fail
  go_region_held3 (fun w' => w'.cell? ⟨w.heap.size, 0, none⟩ = some (.int .i64 a) ∧ w'.cell? ⟨w.heap.size, 1, none⟩ = some (.int .i64 b) ∧ w'.cell? ⟨w.heap.size, 2, none⟩ = some (.slice Ag n cg) ∧ w'.cell? ⟨w.heap.size, 3, none⟩ = some (.slice Ao m co)) (first | exact ⟨hB_0, hB_1, hB_2, hB_3⟩ | go_keep) (first | (go_at_call 108; refine (impl_inputs _ _ _ _ _ _ _ _ _ ha ha2 hb hb2).mono ?_; rintro e w1 ⟨rfl, hb1⟩; replace hW := (by first | exact hW.call hb1 | exact hW.drew.call hb1 | exact (hW.alloc _).call hb1 | exact (hW.alloc _).drew.call hb1 | exact (hW.drewN _).call hb1 | exact (hW.drew.alloc _).call hb1 | exact ((hW.alloc _).alloc _).call hb1 | exact ((hW.alloc _).alloc _).drew.call hb1 | exact (((hW.alloc _).alloc _).alloc _).call hb1); replace hB := (by first | exact hB.keep hb1 | exact hB.drew.keep hb1 | exact (hB.alloc _).keep hb1 | exact (hB.alloc _).drew.keep hb1 | exact (hB.drewN _).keep hb1 | exact (hB.drew.alloc _).keep hb1 | exact ((hB.alloc _).alloc _).keep hb1 | exact ((hB.alloc _).alloc _).drew.keep hb1 | exact (((hB.alloc _).alloc _).alloc _).keep hb1); clear hB_l hB_0 hB_1 hB_2 hB_3; have hB_l := hB.lt; have hB_0 := hB.cell 0 _ rfl; have hB_1 := hB.cell 1 _ rfl; have hB_2 := hB.cell 2 _ rfl; have hB_3 := hB.cell 3 _ rfl))
  go_wp2
  go_ret
  exact ⟨rfl, hW⟩
theorem spec_ciWires (a b : Int) (Ag Ao : Option Addr) (n cg m co : Nat) (w : World) (ha : 0 ≤ a) (ha2 : a ≤ 1000) (hb : 0 ≤ b) (hb2 : b ≤ 1000) (hn : n ≤ 1000) :
    Calls Tryz.prog 146 #[.agg #[.int .i64 a, .int .i64 b, .slice Ag n cg, .slice Ao m co]] w fun e w' => e = .returned (.int .i64 (a + b + n)) ∧ Bl w w' := by
  have hW := (Bl.refl w).alloc (.cells #[.int .i64 a, .int .i64 b, .slice Ag n cg, .slice Ao m co] 53)
  have hB := Blk.new w 53 #[.int .i64 a, .int .i64 b, .slice Ag n cg, .slice Ao m co]
  have hB_l := hB.lt; have hB_0 := hB.cell 0 _ rfl; have hB_1 := hB.cell 1 _ rfl; have hB_2 := hB.cell 2 _ rfl; have hB_3 := hB.cell 3 _ rfl
  have hw1 : IntKind.i64.wrap (a + b + (n : Int)) = a + b + n := IntWalk.i64_in _ (by omega)
  go_enter Tryz.func146, Tryz.ntmps146
  go_wp2_with fail
  go_region_held3 (fun w' => w'.cell? ⟨w.heap.size, 0, none⟩ = some (.int .i64 a) ∧ w'.cell? ⟨w.heap.size, 1, none⟩ = some (.int .i64 b) ∧ w'.cell? ⟨w.heap.size, 2, none⟩ = some (.slice Ag n cg) ∧ w'.cell? ⟨w.heap.size, 3, none⟩ = some (.slice Ao m co)) (first | exact ⟨hB_0, hB_1, hB_2, hB_3⟩ | go_keep) (first | (go_at_call 102; refine (spec_ciInputs _ _ _ _ _ _ _ _ _ ha ha2 hb hb2).mono ?_; rintro e w1 ⟨rfl, hb1⟩; replace hW := (by first | exact hW.call hb1 | exact hW.drew.call hb1 | exact (hW.alloc _).call hb1 | exact (hW.alloc _).drew.call hb1 | exact (hW.drewN _).call hb1 | exact (hW.drew.alloc _).call hb1 | exact ((hW.alloc _).alloc _).call hb1 | exact ((hW.alloc _).alloc _).drew.call hb1 | exact (((hW.alloc _).alloc _).alloc _).call hb1); replace hB := (by first | exact hB.keep hb1 | exact hB.drew.keep hb1 | exact (hB.alloc _).keep hb1 | exact (hB.alloc _).drew.keep hb1 | exact (hB.drewN _).keep hb1 | exact (hB.drew.alloc _).keep hb1 | exact ((hB.alloc _).alloc _).keep hb1 | exact ((hB.alloc _).alloc _).drew.keep hb1 | exact (((hB.alloc _).alloc _).alloc _).keep hb1); clear hB_l hB_0 hB_1 hB_2 hB_3; have hB_l := hB.lt; have hB_0 := hB.cell 0 _ rfl; have hB_1 := hB.cell 1 _ rfl; have hB_2 := hB.cell 2 _ rfl; have hB_3 := hB.cell 3 _ rfl))
  go_wp2
  go_ret
  exact ⟨rfl, hW⟩
end Go.Proofs.YtjggecbaladiiaaGreatDoor
