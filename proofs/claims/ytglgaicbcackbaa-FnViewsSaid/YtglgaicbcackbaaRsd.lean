/- The contract of what both parties have for random choices.
   Conditions: small elements of a field. -/
import Derived.Test.YtglgaicbcackbaaSid
import Derived.Test.YtglgaicbcackbaaHel
import Derived.Test.YtglgaicbcackbaaMrk
import Derived.Outline
import Derived.Deep.DeepCutAuto
namespace Go.Proofs.Ytglgaicbcackbaa
open Go.RowKit
set_option linter.unusedVariables false
/-- Party 1's shares. -/
def sh1 (p r0 r1 r2 r3 r4 r5 r6 r7 r8 : Int) : List Int := [(r0 - r4) % p, (r1 - r5) % p, (r2 - r6) % p, (r3 - r7) % p, (r2 * r3 - r8) % p]
/-- What stands while the other party's shares are made: k of them. -/
def RS (w wr : World) (p x y r0 r1 : Int) (S0 : Value) (V : Array Value) (k : Nat) (B : Option Addr) (cB : Nat) (L : List Int) : Prop :=
  Blk wr w.heap.size 85 #[.int .i64 0, .int .i64 0, .int .i64 0, .int .i64 0, .int .i64 0, .slice none 0 0, .slice none 0 0] ∧ Blk wr (w.heap.size + 1) 85 #[.int .i64 p, .int .i64 x, .int .i64 y, .int .i64 r0, .int .i64 r1, S0, .slice B k cB] ∧
  Blk wr (w.heap.size + 1 + 1) 3 V ∧ OwnI (w.heap.size + 1 + 1 + 1) wr B k cB L ∧ Bl w wr ∧ w.heap.size + 1 + 1 + 1 ≤ wr.heap.size
theorem RS.ne {w wr : World} {p x y r0 r1 : Int} {S0 : Value} {V : Array Value} {k : Nat} {B : Option Addr} {cB : Nat} {L : List Int} (h : RS w wr p x y r0 r1 S0 V k B cB L) {g : Nat} (hg : g < w.heap.size + 1 + 1 + 1) :
    some g ≠ B.map (·.block) := by
  intro he
  have := (h.2.2.2.1.blk g he.symm).1
  omega
theorem RS.app {w wr wx w2 : World} {p x y r0 r1 : Int} {S0 : Value} {V : Array Value} {k : Nat} {B : Option Addr} {cB : Nat} {L : List Int} (h : RS w wr p x y r0 r1 S0 V k B cB L) (hx : Bl wr wx)
    (hg : wx.grownBy w2 (B.map (·.block))) : Blk w2 (w.heap.size + 1) 85 #[.int .i64 p, .int .i64 x, .int .i64 y, .int .i64 r0, .int .i64 r1, S0, .slice B k cB] ∧ Bl w w2 :=
  ⟨(h.2.1.keep hx).grown hg (h.ne (by omega)), (h.2.2.2.2.1.call hx).grown hg (fun k hk => by have := (h.2.2.2.1.blk k hk).1; omega)⟩
theorem RS.step {w wr wx w2 : World} {p x y r0 r1 : Int} {S0 : Value} {V : Array Value} {k n2 : Nat} {B A2 : Option Addr} {cB c2 : Nat} {L L2 : List Int} (h : RS w wr p x y r0 r1 S0 V k B cB L) (hx : Bl wr wx)
    (hg : wx.grownBy w2 (B.map (·.block))) (ho : OwnI (w.heap.size + 1 + 1 + 1) w2 A2 n2 c2 L2) : RS w (w2.setCell ⟨w.heap.size + 1, 6, none⟩ (.slice A2 n2 c2)) p x y r0 r1 S0 V n2 A2 c2 L2 := by
  obtain ⟨hb, hw⟩ := h.app hx hg
  have hs := hw.sz
  have hb2 := ho.blk
  refine ⟨?_, hb.set_ 6 _, ?_, ?_, hw.setCell (by show _ ≤ w.heap.size + 1; omega) _, ?_⟩
  · exact ((h.1.keep hx).grown hg (h.ne (by omega))).far (by show w.heap.size ≠ w.heap.size + 1; omega) _
  · exact ((h.2.2.1.keep hx).grown hg (h.ne (by omega))).far (by show w.heap.size + 1 + 1 ≠ w.heap.size + 1; omega) _
  · refine World.ownsRow.kept (row := some (w.heap.size + 1)) ho (grownBy_setCell w2 (w.heap.size + 1) 6 _) ?_
    rw [ownBlock_slice]
    rcases hA : A2.map (·.block) with _ | b
    · exact .inl hA
    · have := (hb2 b hA).1
      refine .inr (fun he => ?_)
      rw [hA] at he
      injection he with he
      omega
  · have h1 := h.2.2.2.2.2
    have h2 := hx.sz
    have h3 := hg.size
    simp only [World.setCell, Array.size_modify]
    omega
set_option maxRecDepth 20000 in
set_option maxHeartbeats 4000000 in
theorem impl_realSides (p x y r0 r1 r2 r3 r4 r5 r6 r7 r8 : Int) (A : Option Addr) (c : Nat) (w : World) (hl : RdI w A 9 c [r0, r1, r2, r3, r4, r5, r6, r7, r8]) (hp : 2 ≤ p ∧ p ≤ 251)
    (hall : ∀ z ∈ [r0, r1, r2, r3, r4, r5, r6, r7, r8], 0 ≤ z ∧ z < p) :
    Calls Try.prog 101 #[.int .i64 p, .int .i64 x, .int .i64 y, .slice A 9 c] w
      fun e w' => ∃ A0 c0 A1 c1, e = .returned (.agg #[.int .i64 p, .int .i64 x, .int .i64 y, .int .i64 r0, .int .i64 r1, .slice A0 5 c0, .slice A1 5 c1]) ∧ RdI w' A0 5 c0 [r4, r5, r6, r7, r8] ∧
        RdI w' A1 5 c1 (sh1 p r0 r1 r2 r3 r4 r5 r6 r7 r8) ∧ Bl w w' := by
  obtain ⟨hle1, hle2⟩ := hl.le
  obtain ⟨ad, rfl, had, q0, qs⟩ := hl.lit (by omega)
  have g0 := q0 _ rfl
  have g1 := qs 1 _ (by omega) rfl
  have g2 := qs 2 _ (by omega) rfl
  have g3 := qs 3 _ (by omega) rfl
  have q0 := qs 4 _ (by omega) rfl
  have q1 := qs 5 _ (by omega) rfl
  have q2 := qs 6 _ (by omega) rfl
  have q3 := qs 7 _ (by omega) rfl
  have q4 := qs 8 _ (by omega) rfl
  clear qs
  have b0 := hall r0 (by simp)
  have b1 := hall r1 (by simp)
  have b2 := hall r2 (by simp)
  have b3 := hall r3 (by simp)
  have b4 := hall r4 (by simp)
  have b5 := hall r5 (by simp)
  have b6 := hall r6 (by simp)
  have b7 := hall r7 (by simp)
  have b8 := hall r8 (by simp)
  clear hall
  have hm := mul_bd3 r2 r3 251 251 (by omega) (by omega) (by omega) (by omega)
  have i1 : (9 : Int) ≤ c := by omega
  have hmw : IntKind.i64.wrap (r2 * r3) = r2 * r3 := IntWalk.i64_in _ (by omega)
  have hR := Lib.hid (show sh1 p r0 r1 r2 r3 r4 r5 r6 r7 r8 = [(r0 - r4) % p, (r1 - r5) % p, (r2 - r6) % p, (r3 - r7) % p, (r2 * r3 - r8) % p] from rfl)
  obtain ⟨v0, hv0⟩ : ∃ v, v = (r0 - r4) % p := ⟨_, rfl⟩
  obtain ⟨v1, hv1⟩ : ∃ v, v = (r1 - r5) % p := ⟨_, rfl⟩
  obtain ⟨v2, hv2⟩ : ∃ v, v = (r2 - r6) % p := ⟨_, rfl⟩
  obtain ⟨v3, hv3⟩ : ∃ v, v = (r3 - r7) % p := ⟨_, rfl⟩
  obtain ⟨v4, hv4⟩ : ∃ v, v = (r2 * r3 - r8) % p := ⟨_, rfl⟩
  have HV0 := Lib.hid hv0
  have HV1 := Lib.hid hv1
  have HV2 := Lib.hid hv2
  have HV3 := Lib.hid hv3
  have HV4 := Lib.hid hv4
  clear hv0 hv1 hv2 hv3 hv4
  go_enter Try.func101, Try.ntmps101
  go_wp2_with fail
  go_region_held3 (fun w' => w'.cell? ad = some (.int .i64 r0) ∧ w'.cell? ⟨ad.block, ad.off + 1, none⟩ = some (.int .i64 r1)) (go_keep) (fail)
  go_wp2_with fail
  go_region_held3 (fun w' => w'.cell? ad = some (.int .i64 r0) ∧ w'.cell? ⟨ad.block, ad.off + 1, none⟩ = some (.int .i64 r1) ∧ w'.cell? ⟨ad.block, ad.off + 2, none⟩ = some (.int .i64 r2) ∧ w'.cell? ⟨ad.block, ad.off + 3, none⟩ = some (.int .i64 r3)) (exact ⟨Bl.cells (by (repeat (first | assumption | with_reducible exact Bl.refl _ | with_reducible refine Bl.drewN ?_ _ | with_reducible refine Bl.drew ?_ | with_reducible refine Bl.alloc ?_ _ | (with_reducible refine Bl.call ?_ (by assumption))))) g0, Bl.cells (by (repeat (first | assumption | with_reducible exact Bl.refl _ | with_reducible refine Bl.drewN ?_ _ | with_reducible refine Bl.drew ?_ | with_reducible refine Bl.alloc ?_ _ | (with_reducible refine Bl.call ?_ (by assumption))))) g1, Bl.cells (by (repeat (first | assumption | with_reducible exact Bl.refl _ | with_reducible refine Bl.drewN ?_ _ | with_reducible refine Bl.drew ?_ | with_reducible refine Bl.alloc ?_ _ | (with_reducible refine Bl.call ?_ (by assumption))))) g2, Bl.cells (by (repeat (first | assumption | with_reducible exact Bl.refl _ | with_reducible refine Bl.drewN ?_ _ | with_reducible refine Bl.drew ?_ | with_reducible refine Bl.alloc ?_ _ | (with_reducible refine Bl.call ?_ (by assumption))))) g3⟩) (fail)
  go_wp2_with fail
  clear g0 g1 g2 g3
  obtain ⟨V, hV⟩ : ∃ V : Array Value, V = #[.int .i64 r0, .int .i64 r1, .int .i64 r2, .int .i64 r3, .int .i64 (r2 * r3)] := ⟨_, rfl⟩
  have HV := Lib.hid hV
  have h0 : RS w (((w.alloc (.cells #[.int .i64 0, .int .i64 0, .int .i64 0, .int .i64 0, .int .i64 0, .slice none 0 0, .slice none 0 0] 85)).alloc (.cells #[.int .i64 p, .int .i64 x, .int .i64 y, .int .i64 r0, .int .i64 r1, (.slice (some ⟨ad.block, ad.off + 4, none⟩) 5 (c - 4)), .slice none 0 0] 85)).alloc (.cells #[.int .i64 r0, .int .i64 r1, .int .i64 r2, .int .i64 r3, .int .i64 (r2 * r3)] 3)).drew.drew p x y r0 r1 (.slice (some ⟨ad.block, ad.off + 4, none⟩) 5 (c - 4)) V 0 none 0 [] := by
    rw [hV]
    exact ⟨(((Blk.new w _ _).alloc _).alloc _).drew.drew, ((Blk.new _ _ _).alloc _).drew.drew, (Blk.new _ _ _).drew.drew, OwnI.nil _ _, (by (repeat (first | assumption | with_reducible exact Bl.refl _ | with_reducible refine Bl.drewN ?_ _ | with_reducible refine Bl.drew ?_ | with_reducible refine Bl.alloc ?_ _ | (with_reducible refine Bl.call ?_ (by assumption))))), by simp⟩
  clear hV
  go_loopw [49] (fun i wr => ∃ k B cB, k ≤ 5 ∧ i = .int .i64 (k : Nat) ∧ RS w wr p x y r0 r1 (.slice (some ⟨ad.block, ad.off + 4, none⟩) 5 (c - 4)) V k B cB (List.take k [v0, v1, v2, v3, v4])) (fun i _ => 5 - (intOf i).toNat)
  case atStart => exact ⟨0, none, 0, by omega, rfl, h0⟩
  case round =>
    obtain ⟨k, B, cB, hk, rfl, hH⟩ := hrel
    clear h0
    have hc : k = 0 ∨ k = 1 ∨ k = 2 ∨ k = 3 ∨ k = 4 ∨ k = 5 := by omega
    rcases hc with rfl | rfl | rfl | rfl | rfl | rfl
    · have hB := hH.2.1
      have hO := hH.2.2.2.1
      have hW := hH.2.2.2.2.1
      have hVb := hH.2.2.1
      rw [HV.out] at hVb
      have cv := hVb.cell 0 _ rfl
      have c6 := hB.cell 6 _ rfl
      have cr := hW.cells q0
      clear hVb
      have hw4 : IntKind.i64.wrap 4 = 4 := by rfl
      have hws : IntKind.i64.wrap (r0 - r4) = r0 - r4 := IntWalk.i64_in _ (by omega)
      trace "a"
      go_upto_region 6 with fail
      trace "bb"
      refine region_G (fun w' => w'.cell? ⟨w.heap.size + 1, 6, none⟩ = some (.slice B 0 cB) ∧ w'.cell? ⟨ad.block, ad.off + (4), none⟩ = some (.int .i64 r4)) 16 (by kernel_rfl) ?_ (fun hHeld => ?_)
      · (try dsimp only); (first | exact ⟨c6n, crn⟩ | exact ⟨c6, cr⟩ | exact ⟨Bl.cells (by (repeat (first | assumption | with_reducible exact Bl.refl _ | with_reducible refine Bl.drewN ?_ _ | with_reducible refine Bl.drew ?_ | with_reducible refine Bl.alloc ?_ _ | (with_reducible refine Bl.call ?_ (by assumption))))) c6, Bl.cells (by (repeat (first | assumption | with_reducible exact Bl.refl _ | with_reducible refine Bl.drewN ?_ _ | with_reducible refine Bl.drew ?_ | with_reducible refine Bl.alloc ?_ _ | (with_reducible refine Bl.call ?_ (by assumption))))) cr⟩)
      refine g_take (i := 0) (d := 54) (v := ?_) [0] rfl rfl (by kernel_rfl) (by kernel_rfl) (by kernel_rfl) (by kernel_rfl) (by kernel_rfl) (by kernel_rfl) (fun _ _ _ h => h) (by decide) (by kernel_rfl) (Or.inl ⟨by rfl, ?_⟩) (by assumption) ?_
      rotate_left
      · (intro w hSw; (try dsimp only at hSw); go_simp; (try with_reducible rfl))
      simp only [List.set_cons_zero, List.set_cons_succ]
      refine g_take (i := 1) (d := 55) (v := ?_) [1] rfl rfl (by kernel_rfl) (by kernel_rfl) (by kernel_rfl) (by kernel_rfl) (by kernel_rfl) (by kernel_rfl) (fun _ _ _ h => h) (by decide) (by kernel_rfl) (Or.inl ⟨by rfl, ?_⟩) (by assumption) ?_
      rotate_left
      · (intro w hSw; (try dsimp only at hSw); go_simp; (try with_reducible rfl))
      simp only [List.set_cons_zero, List.set_cons_succ]
      refine g_take (i := 2) (d := 56) (v := ?_) [2] rfl rfl (by kernel_rfl) (by kernel_rfl) (by kernel_rfl) (by kernel_rfl) (by kernel_rfl) (by kernel_rfl) (fun _ _ _ h => h) (by decide) (by kernel_rfl) (Or.inl ⟨by rfl, ?_⟩) (by assumption) ?_
      rotate_left
      · (intro w hSw; (try dsimp only at hSw); go_simp; (try with_reducible rfl))
      simp only [List.set_cons_zero, List.set_cons_succ]
      refine g_take (i := 3) (d := 57) (v := ?_) [3] rfl rfl (by kernel_rfl) (by kernel_rfl) (by kernel_rfl) (by kernel_rfl) (by kernel_rfl) (by kernel_rfl) (fun _ _ _ h => h) (by decide) (by kernel_rfl) (Or.inl ⟨by rfl, ?_⟩) (by assumption) ?_
      rotate_left
      · (intro w hSw; (try dsimp only at hSw); go_simp; (try with_reducible rfl))
      simp only [List.set_cons_zero, List.set_cons_succ]
      refine g_take (i := 4) (d := 58) (v := ?_) [4] rfl rfl (by kernel_rfl) (by kernel_rfl) (by kernel_rfl) (by kernel_rfl) (by kernel_rfl) (by kernel_rfl) (fun _ _ _ h => h) (by decide) (by kernel_rfl) (Or.inl ⟨by rfl, ?_⟩) (by assumption) ?_
      rotate_left
      · (intro w hSw; (try dsimp only at hSw); go_simp; (try with_reducible rfl))
      simp only [List.set_cons_zero, List.set_cons_succ]
      refine g_take (i := 5) (d := 59) (v := ?_) [5] rfl rfl (by kernel_rfl) (by kernel_rfl) (by kernel_rfl) (by kernel_rfl) (by kernel_rfl) (by kernel_rfl) (fun _ _ _ h => h) (by decide) (by kernel_rfl) (Or.inl ⟨by rfl, ?_⟩) (by assumption) ?_
      rotate_left
      · (intro w hSw; (try dsimp only at hSw); go_simp; (try with_reducible rfl))
      simp only [List.set_cons_zero, List.set_cons_succ]
      refine g_take (i := 6) (d := 60) (v := ?_) [6] rfl rfl (by kernel_rfl) (by kernel_rfl) (by kernel_rfl) (by kernel_rfl) (by kernel_rfl) (by kernel_rfl) (fun _ _ _ h => h) (by decide) (by kernel_rfl) (Or.inl ⟨by rfl, ?_⟩) (by assumption) ?_
      rotate_left
      · (intro w hSw; (try dsimp only at hSw); go_simp; (try with_reducible rfl))
      simp only [List.set_cons_zero, List.set_cons_succ]
      refine g_take (i := 7) (d := 61) (v := ?_) [7] rfl rfl (by kernel_rfl) (by kernel_rfl) (by kernel_rfl) (by kernel_rfl) (by kernel_rfl) (by kernel_rfl) (fun _ _ _ h => h) (by decide) (by kernel_rfl) (Or.inl ⟨by rfl, ?_⟩) (by assumption) ?_
      rotate_left
      · (intro w hSw; (try dsimp only at hSw); go_simp; (try with_reducible rfl))
      simp only [List.set_cons_zero, List.set_cons_succ]
      refine g_take (i := 8) (d := 62) (v := ?_) [8] rfl rfl (by kernel_rfl) (by kernel_rfl) (by kernel_rfl) (by kernel_rfl) (by kernel_rfl) (by kernel_rfl) (fun _ _ _ h => h) (by decide) (by kernel_rfl) (Or.inl ⟨by rfl, ?_⟩) (by assumption) ?_
      rotate_left
      · (intro w hSw; (try dsimp only at hSw); go_simp; (try with_reducible rfl))
      simp only [List.set_cons_zero, List.set_cons_succ]
      refine g_take (i := 9) (d := 63) (v := ?_) [9] rfl rfl (by kernel_rfl) (by kernel_rfl) (by kernel_rfl) (by kernel_rfl) (by kernel_rfl) (by kernel_rfl) (fun _ _ _ h => h) (by decide) (by kernel_rfl) (Or.inl ⟨by rfl, ?_⟩) (by assumption) ?_
      rotate_left
      · (intro w hSw; (try dsimp only at hSw); go_simp; (try with_reducible rfl))
      simp only [List.set_cons_zero, List.set_cons_succ]
      refine g_take (i := 10) (d := 64) (v := ?_) [10] rfl rfl (by kernel_rfl) (by kernel_rfl) (by kernel_rfl) (by kernel_rfl) (by kernel_rfl) (by kernel_rfl) (fun _ _ _ h => h) (by decide) (by kernel_rfl) (Or.inl ⟨by rfl, ?_⟩) (by assumption) ?_
      rotate_left
      · (intro w hSw; (try dsimp only at hSw); go_simp; (try with_reducible rfl))
      simp only [List.set_cons_zero, List.set_cons_succ]
      refine g_take (i := 14) (d := 68) (v := ?_) [15, 14] rfl rfl (by kernel_rfl) (by kernel_rfl) (by kernel_rfl) (by kernel_rfl) (by kernel_rfl) (by kernel_rfl) (fun _ _ _ h => h) (by decide) (by kernel_rfl) (Or.inl ⟨by rfl, ?_⟩) (by assumption) ?_
      rotate_left
      · (intro w hSw; (try dsimp only at hSw); go_simp; (try with_reducible rfl))
      simp only [List.set_cons_zero, List.set_cons_succ]
      refine g_step (i := 11) (by kernel_rfl) rfl (fun K hK => ?_)
      go_simp
      (first | (go_at_call 139; refine (impl_mod _ _ _ (by omega) (by omega) (by omega) (by omega)).mono ?_; rintro e w' ⟨rfl, rfl⟩; rw [← HV0.out]) | (refine ap_int_step rfl rfl rfl (hO.keep (by (repeat (first | assumption | with_reducible exact Bl.refl _ | with_reducible refine Bl.drewN ?_ _ | with_reducible refine Bl.drew ?_ | with_reducible refine Bl.alloc ?_ _ | (with_reducible refine Bl.call ?_ (by assumption)))))) rfl (rd_new1 _ _ _).drew (by omega) (by have := hH.2.2.2.2.2; simp; omega) ?_; intro A2 c2 w2 hown2 hg2 hat2; have hX := hH.app (by exact (by (repeat (first | assumption | with_reducible exact Bl.refl _ | with_reducible refine Bl.drewN ?_ _ | with_reducible refine Bl.drew ?_ | with_reducible refine Bl.alloc ?_ _ | (with_reducible refine Bl.call ?_ (by assumption)))))) hg2; have c6n := hX.1.cell 6 _ rfl; have c6f := hX.1.frozen 6; have crn := hX.2.cells q0))
      go_wp2_with fail
      refine hK.out _ _ ?_ (fun hHeld => ?_)
      · (try dsimp only); (first | exact ⟨c6n, crn⟩ | exact ⟨c6, cr⟩ | exact ⟨Bl.cells (by (repeat (first | assumption | with_reducible exact Bl.refl _ | with_reducible refine Bl.drewN ?_ _ | with_reducible refine Bl.drew ?_ | with_reducible refine Bl.alloc ?_ _ | (with_reducible refine Bl.call ?_ (by assumption))))) c6, Bl.cells (by (repeat (first | assumption | with_reducible exact Bl.refl _ | with_reducible refine Bl.drewN ?_ _ | with_reducible refine Bl.drew ?_ | with_reducible refine Bl.alloc ?_ _ | (with_reducible refine Bl.call ?_ (by assumption))))) cr⟩)
      clear hK K
      (try simp only [List.set_cons_succ]); (try simp only [List.set_cons_zero])
      refine g_step (i := 12) (by kernel_rfl) rfl (fun K hK => ?_)
      go_simp
      refine hK.out _ _ ?_ (fun hHeld => ?_)
      · (try dsimp only); (first | exact ⟨c6n, crn⟩ | exact ⟨c6, cr⟩ | exact ⟨Bl.cells (by (repeat (first | assumption | with_reducible exact Bl.refl _ | with_reducible refine Bl.drewN ?_ _ | with_reducible refine Bl.drew ?_ | with_reducible refine Bl.alloc ?_ _ | (with_reducible refine Bl.call ?_ (by assumption))))) c6, Bl.cells (by (repeat (first | assumption | with_reducible exact Bl.refl _ | with_reducible refine Bl.drewN ?_ _ | with_reducible refine Bl.drew ?_ | with_reducible refine Bl.alloc ?_ _ | (with_reducible refine Bl.call ?_ (by assumption))))) cr⟩)
      clear hK K
      (try simp only [Act.put]); (try simp only [List.setIfInBounds_toArray]); (try simp only [List.set_cons_succ]); (try simp only [List.set_cons_zero])
      refine g_step (i := 13) (by kernel_rfl) rfl (fun K hK => ?_)
      (first | (go_at_call 139; refine (impl_mod _ _ _ (by omega) (by omega) (by omega) (by omega)).mono ?_; rintro e w' ⟨rfl, rfl⟩; rw [← HV0.out]) | (refine ap_int_step rfl rfl rfl (hO.keep (by (repeat (first | assumption | with_reducible exact Bl.refl _ | with_reducible refine Bl.drewN ?_ _ | with_reducible refine Bl.drew ?_ | with_reducible refine Bl.alloc ?_ _ | (with_reducible refine Bl.call ?_ (by assumption)))))) rfl (rd_new1 _ _ _).drew (by omega) (by have := hH.2.2.2.2.2; simp; omega) ?_; intro A2 c2 w2 hown2 hg2 hat2; have hX := hH.app (by exact (by (repeat (first | assumption | with_reducible exact Bl.refl _ | with_reducible refine Bl.drewN ?_ _ | with_reducible refine Bl.drew ?_ | with_reducible refine Bl.alloc ?_ _ | (with_reducible refine Bl.call ?_ (by assumption)))))) hg2; have c6n := hX.1.cell 6 _ rfl; have c6f := hX.1.frozen 6; have crn := hX.2.cells q0))
      refine hK.out _ _ ?_ (fun hHeld => ?_)
      · (try dsimp only); (first | exact ⟨c6n, crn⟩ | exact ⟨c6, cr⟩ | exact ⟨Bl.cells (by (repeat (first | assumption | with_reducible exact Bl.refl _ | with_reducible refine Bl.drewN ?_ _ | with_reducible refine Bl.drew ?_ | with_reducible refine Bl.alloc ?_ _ | (with_reducible refine Bl.call ?_ (by assumption))))) c6, Bl.cells (by (repeat (first | assumption | with_reducible exact Bl.refl _ | with_reducible refine Bl.drewN ?_ _ | with_reducible refine Bl.drew ?_ | with_reducible refine Bl.alloc ?_ _ | (with_reducible refine Bl.call ?_ (by assumption))))) cr⟩)
      clear hK K
      (try simp only [Act.put]); (try simp only [List.setIfInBounds_toArray]); (try simp only [List.set_cons_succ]); (try simp only [List.set_cons_zero])
      refine g_take (i := 15) (d := 69) (v := ?_) [15] rfl rfl (by kernel_rfl) (by kernel_rfl) (by kernel_rfl) (by kernel_rfl) (by kernel_rfl) (by kernel_rfl) (fun _ _ _ h => h) (by decide) (by kernel_rfl) (Or.inl ⟨by rfl, ?_⟩) (by assumption) ?_
      rotate_left
      · (intro w hSw; (try dsimp only at hSw); go_simp; (try with_reducible rfl))
      simp only [List.set_cons_zero, List.set_cons_succ]
      refine g_last (by kernel_rfl) rfl (by simp) (fun K hK => ?_)
      go_simp
      refine hK.out _ _ ?_
      clear hK K
      refine g_done (by kernel_rfl) ?_ _
      go_wp2
      go_roundw
      case rel => exact ⟨1, A2, c2, by omega, rfl, hH.step (by exact (by (repeat (first | assumption | with_reducible exact Bl.refl _ | with_reducible refine Bl.drewN ?_ _ | with_reducible refine Bl.drew ?_ | with_reducible refine Bl.alloc ?_ _ | (with_reducible refine Bl.call ?_ (by assumption)))))) hg2 hown2⟩
      case measure => simp [intOf]
    · have hB := hH.2.1
      have hO := hH.2.2.2.1
      have hW := hH.2.2.2.2.1
      have hVb := hH.2.2.1
      rw [HV.out] at hVb
      have cv := hVb.cell 1 _ rfl
      have c6 := hB.cell 6 _ rfl
      have cr := hW.cells q1
      clear hVb
      have hw4 : IntKind.i64.wrap 5 = 5 := by rfl
      have hws : IntKind.i64.wrap (r1 - r5) = r1 - r5 := IntWalk.i64_in _ (by omega)
      trace "a"
      go_upto_region 6 with fail
      trace "bb"
      refine region_G (fun w' => w'.cell? ⟨w.heap.size + 1, 6, none⟩ = some (.slice B 1 cB) ∧ w'.cell? ⟨ad.block, ad.off + (5), none⟩ = some (.int .i64 r5)) 16 (by kernel_rfl) ?_ (fun hHeld => ?_)
      · (try dsimp only); (first | exact ⟨c6n, crn⟩ | exact ⟨c6, cr⟩ | exact ⟨Bl.cells (by (repeat (first | assumption | with_reducible exact Bl.refl _ | with_reducible refine Bl.drewN ?_ _ | with_reducible refine Bl.drew ?_ | with_reducible refine Bl.alloc ?_ _ | (with_reducible refine Bl.call ?_ (by assumption))))) c6, Bl.cells (by (repeat (first | assumption | with_reducible exact Bl.refl _ | with_reducible refine Bl.drewN ?_ _ | with_reducible refine Bl.drew ?_ | with_reducible refine Bl.alloc ?_ _ | (with_reducible refine Bl.call ?_ (by assumption))))) cr⟩)
      refine g_take (i := 0) (d := 54) (v := ?_) [0] rfl rfl (by kernel_rfl) (by kernel_rfl) (by kernel_rfl) (by kernel_rfl) (by kernel_rfl) (by kernel_rfl) (fun _ _ _ h => h) (by decide) (by kernel_rfl) (Or.inl ⟨by rfl, ?_⟩) (by assumption) ?_
      rotate_left
      · (intro w hSw; (try dsimp only at hSw); go_simp; (try with_reducible rfl))
      simp only [List.set_cons_zero, List.set_cons_succ]
      refine g_take (i := 1) (d := 55) (v := ?_) [1] rfl rfl (by kernel_rfl) (by kernel_rfl) (by kernel_rfl) (by kernel_rfl) (by kernel_rfl) (by kernel_rfl) (fun _ _ _ h => h) (by decide) (by kernel_rfl) (Or.inl ⟨by rfl, ?_⟩) (by assumption) ?_
      rotate_left
      · (intro w hSw; (try dsimp only at hSw); go_simp; (try with_reducible rfl))
      simp only [List.set_cons_zero, List.set_cons_succ]
      refine g_take (i := 2) (d := 56) (v := ?_) [2] rfl rfl (by kernel_rfl) (by kernel_rfl) (by kernel_rfl) (by kernel_rfl) (by kernel_rfl) (by kernel_rfl) (fun _ _ _ h => h) (by decide) (by kernel_rfl) (Or.inl ⟨by rfl, ?_⟩) (by assumption) ?_
      rotate_left
      · (intro w hSw; (try dsimp only at hSw); go_simp; (try with_reducible rfl))
      simp only [List.set_cons_zero, List.set_cons_succ]
      refine g_take (i := 3) (d := 57) (v := ?_) [3] rfl rfl (by kernel_rfl) (by kernel_rfl) (by kernel_rfl) (by kernel_rfl) (by kernel_rfl) (by kernel_rfl) (fun _ _ _ h => h) (by decide) (by kernel_rfl) (Or.inl ⟨by rfl, ?_⟩) (by assumption) ?_
      rotate_left
      · (intro w hSw; (try dsimp only at hSw); go_simp; (try with_reducible rfl))
      simp only [List.set_cons_zero, List.set_cons_succ]
      refine g_take (i := 4) (d := 58) (v := ?_) [4] rfl rfl (by kernel_rfl) (by kernel_rfl) (by kernel_rfl) (by kernel_rfl) (by kernel_rfl) (by kernel_rfl) (fun _ _ _ h => h) (by decide) (by kernel_rfl) (Or.inl ⟨by rfl, ?_⟩) (by assumption) ?_
      rotate_left
      · (intro w hSw; (try dsimp only at hSw); go_simp; (try with_reducible rfl))
      simp only [List.set_cons_zero, List.set_cons_succ]
      refine g_take (i := 5) (d := 59) (v := ?_) [5] rfl rfl (by kernel_rfl) (by kernel_rfl) (by kernel_rfl) (by kernel_rfl) (by kernel_rfl) (by kernel_rfl) (fun _ _ _ h => h) (by decide) (by kernel_rfl) (Or.inl ⟨by rfl, ?_⟩) (by assumption) ?_
      rotate_left
      · (intro w hSw; (try dsimp only at hSw); go_simp; (try with_reducible rfl))
      simp only [List.set_cons_zero, List.set_cons_succ]
      refine g_take (i := 6) (d := 60) (v := ?_) [6] rfl rfl (by kernel_rfl) (by kernel_rfl) (by kernel_rfl) (by kernel_rfl) (by kernel_rfl) (by kernel_rfl) (fun _ _ _ h => h) (by decide) (by kernel_rfl) (Or.inl ⟨by rfl, ?_⟩) (by assumption) ?_
      rotate_left
      · (intro w hSw; (try dsimp only at hSw); go_simp; (try with_reducible rfl))
      simp only [List.set_cons_zero, List.set_cons_succ]
      refine g_take (i := 7) (d := 61) (v := ?_) [7] rfl rfl (by kernel_rfl) (by kernel_rfl) (by kernel_rfl) (by kernel_rfl) (by kernel_rfl) (by kernel_rfl) (fun _ _ _ h => h) (by decide) (by kernel_rfl) (Or.inl ⟨by rfl, ?_⟩) (by assumption) ?_
      rotate_left
      · (intro w hSw; (try dsimp only at hSw); go_simp; (try with_reducible rfl))
      simp only [List.set_cons_zero, List.set_cons_succ]
      refine g_take (i := 8) (d := 62) (v := ?_) [8] rfl rfl (by kernel_rfl) (by kernel_rfl) (by kernel_rfl) (by kernel_rfl) (by kernel_rfl) (by kernel_rfl) (fun _ _ _ h => h) (by decide) (by kernel_rfl) (Or.inl ⟨by rfl, ?_⟩) (by assumption) ?_
      rotate_left
      · (intro w hSw; (try dsimp only at hSw); go_simp; (try with_reducible rfl))
      simp only [List.set_cons_zero, List.set_cons_succ]
      refine g_take (i := 9) (d := 63) (v := ?_) [9] rfl rfl (by kernel_rfl) (by kernel_rfl) (by kernel_rfl) (by kernel_rfl) (by kernel_rfl) (by kernel_rfl) (fun _ _ _ h => h) (by decide) (by kernel_rfl) (Or.inl ⟨by rfl, ?_⟩) (by assumption) ?_
      rotate_left
      · (intro w hSw; (try dsimp only at hSw); go_simp; (try with_reducible rfl))
      simp only [List.set_cons_zero, List.set_cons_succ]
      refine g_take (i := 10) (d := 64) (v := ?_) [10] rfl rfl (by kernel_rfl) (by kernel_rfl) (by kernel_rfl) (by kernel_rfl) (by kernel_rfl) (by kernel_rfl) (fun _ _ _ h => h) (by decide) (by kernel_rfl) (Or.inl ⟨by rfl, ?_⟩) (by assumption) ?_
      rotate_left
      · (intro w hSw; (try dsimp only at hSw); go_simp; (try with_reducible rfl))
      simp only [List.set_cons_zero, List.set_cons_succ]
      refine g_take (i := 14) (d := 68) (v := ?_) [15, 14] rfl rfl (by kernel_rfl) (by kernel_rfl) (by kernel_rfl) (by kernel_rfl) (by kernel_rfl) (by kernel_rfl) (fun _ _ _ h => h) (by decide) (by kernel_rfl) (Or.inl ⟨by rfl, ?_⟩) (by assumption) ?_
      rotate_left
      · (intro w hSw; (try dsimp only at hSw); go_simp; (try with_reducible rfl))
      simp only [List.set_cons_zero, List.set_cons_succ]
      refine g_step (i := 11) (by kernel_rfl) rfl (fun K hK => ?_)
      go_simp
      (first | (go_at_call 139; refine (impl_mod _ _ _ (by omega) (by omega) (by omega) (by omega)).mono ?_; rintro e w' ⟨rfl, rfl⟩; rw [← HV1.out]) | (refine ap_int_step rfl rfl rfl (hO.keep (by (repeat (first | assumption | with_reducible exact Bl.refl _ | with_reducible refine Bl.drewN ?_ _ | with_reducible refine Bl.drew ?_ | with_reducible refine Bl.alloc ?_ _ | (with_reducible refine Bl.call ?_ (by assumption)))))) rfl (rd_new1 _ _ _).drew (by omega) (by have := hH.2.2.2.2.2; simp; omega) ?_; intro A2 c2 w2 hown2 hg2 hat2; have hX := hH.app (by exact (by (repeat (first | assumption | with_reducible exact Bl.refl _ | with_reducible refine Bl.drewN ?_ _ | with_reducible refine Bl.drew ?_ | with_reducible refine Bl.alloc ?_ _ | (with_reducible refine Bl.call ?_ (by assumption)))))) hg2; have c6n := hX.1.cell 6 _ rfl; have c6f := hX.1.frozen 6; have crn := hX.2.cells q1))
      go_wp2_with fail
      refine hK.out _ _ ?_ (fun hHeld => ?_)
      · (try dsimp only); (first | exact ⟨c6n, crn⟩ | exact ⟨c6, cr⟩ | exact ⟨Bl.cells (by (repeat (first | assumption | with_reducible exact Bl.refl _ | with_reducible refine Bl.drewN ?_ _ | with_reducible refine Bl.drew ?_ | with_reducible refine Bl.alloc ?_ _ | (with_reducible refine Bl.call ?_ (by assumption))))) c6, Bl.cells (by (repeat (first | assumption | with_reducible exact Bl.refl _ | with_reducible refine Bl.drewN ?_ _ | with_reducible refine Bl.drew ?_ | with_reducible refine Bl.alloc ?_ _ | (with_reducible refine Bl.call ?_ (by assumption))))) cr⟩)
      clear hK K
      (try simp only [List.set_cons_succ]); (try simp only [List.set_cons_zero])
      refine g_step (i := 12) (by kernel_rfl) rfl (fun K hK => ?_)
      go_simp
      refine hK.out _ _ ?_ (fun hHeld => ?_)
      · (try dsimp only); (first | exact ⟨c6n, crn⟩ | exact ⟨c6, cr⟩ | exact ⟨Bl.cells (by (repeat (first | assumption | with_reducible exact Bl.refl _ | with_reducible refine Bl.drewN ?_ _ | with_reducible refine Bl.drew ?_ | with_reducible refine Bl.alloc ?_ _ | (with_reducible refine Bl.call ?_ (by assumption))))) c6, Bl.cells (by (repeat (first | assumption | with_reducible exact Bl.refl _ | with_reducible refine Bl.drewN ?_ _ | with_reducible refine Bl.drew ?_ | with_reducible refine Bl.alloc ?_ _ | (with_reducible refine Bl.call ?_ (by assumption))))) cr⟩)
      clear hK K
      (try simp only [Act.put]); (try simp only [List.setIfInBounds_toArray]); (try simp only [List.set_cons_succ]); (try simp only [List.set_cons_zero])
      refine g_step (i := 13) (by kernel_rfl) rfl (fun K hK => ?_)
      (first | (go_at_call 139; refine (impl_mod _ _ _ (by omega) (by omega) (by omega) (by omega)).mono ?_; rintro e w' ⟨rfl, rfl⟩; rw [← HV1.out]) | (refine ap_int_step rfl rfl rfl (hO.keep (by (repeat (first | assumption | with_reducible exact Bl.refl _ | with_reducible refine Bl.drewN ?_ _ | with_reducible refine Bl.drew ?_ | with_reducible refine Bl.alloc ?_ _ | (with_reducible refine Bl.call ?_ (by assumption)))))) rfl (rd_new1 _ _ _).drew (by omega) (by have := hH.2.2.2.2.2; simp; omega) ?_; intro A2 c2 w2 hown2 hg2 hat2; have hX := hH.app (by exact (by (repeat (first | assumption | with_reducible exact Bl.refl _ | with_reducible refine Bl.drewN ?_ _ | with_reducible refine Bl.drew ?_ | with_reducible refine Bl.alloc ?_ _ | (with_reducible refine Bl.call ?_ (by assumption)))))) hg2; have c6n := hX.1.cell 6 _ rfl; have c6f := hX.1.frozen 6; have crn := hX.2.cells q1))
      refine hK.out _ _ ?_ (fun hHeld => ?_)
      · (try dsimp only); (first | exact ⟨c6n, crn⟩ | exact ⟨c6, cr⟩ | exact ⟨Bl.cells (by (repeat (first | assumption | with_reducible exact Bl.refl _ | with_reducible refine Bl.drewN ?_ _ | with_reducible refine Bl.drew ?_ | with_reducible refine Bl.alloc ?_ _ | (with_reducible refine Bl.call ?_ (by assumption))))) c6, Bl.cells (by (repeat (first | assumption | with_reducible exact Bl.refl _ | with_reducible refine Bl.drewN ?_ _ | with_reducible refine Bl.drew ?_ | with_reducible refine Bl.alloc ?_ _ | (with_reducible refine Bl.call ?_ (by assumption))))) cr⟩)
      clear hK K
      (try simp only [Act.put]); (try simp only [List.setIfInBounds_toArray]); (try simp only [List.set_cons_succ]); (try simp only [List.set_cons_zero])
      refine g_take (i := 15) (d := 69) (v := ?_) [15] rfl rfl (by kernel_rfl) (by kernel_rfl) (by kernel_rfl) (by kernel_rfl) (by kernel_rfl) (by kernel_rfl) (fun _ _ _ h => h) (by decide) (by kernel_rfl) (Or.inl ⟨by rfl, ?_⟩) (by assumption) ?_
      rotate_left
      · (intro w hSw; (try dsimp only at hSw); go_simp; (try with_reducible rfl))
      simp only [List.set_cons_zero, List.set_cons_succ]
      refine g_last (by kernel_rfl) rfl (by simp) (fun K hK => ?_)
      go_simp
      refine hK.out _ _ ?_
      clear hK K
      refine g_done (by kernel_rfl) ?_ _
      go_wp2
      go_roundw
      case rel => exact ⟨2, A2, c2, by omega, rfl, hH.step (by exact (by (repeat (first | assumption | with_reducible exact Bl.refl _ | with_reducible refine Bl.drewN ?_ _ | with_reducible refine Bl.drew ?_ | with_reducible refine Bl.alloc ?_ _ | (with_reducible refine Bl.call ?_ (by assumption)))))) hg2 hown2⟩
      case measure => simp [intOf]
    · have hB := hH.2.1
      have hO := hH.2.2.2.1
      have hW := hH.2.2.2.2.1
      have hVb := hH.2.2.1
      rw [HV.out] at hVb
      have cv := hVb.cell 2 _ rfl
      have c6 := hB.cell 6 _ rfl
      have cr := hW.cells q2
      clear hVb
      have hw4 : IntKind.i64.wrap 6 = 6 := by rfl
      have hws : IntKind.i64.wrap (r2 - r6) = r2 - r6 := IntWalk.i64_in _ (by omega)
      trace "a"
      go_upto_region 6 with fail
      trace "bb"
      refine region_G (fun w' => w'.cell? ⟨w.heap.size + 1, 6, none⟩ = some (.slice B 2 cB) ∧ w'.cell? ⟨ad.block, ad.off + (6), none⟩ = some (.int .i64 r6)) 16 (by kernel_rfl) ?_ (fun hHeld => ?_)
      · (try dsimp only); (first | exact ⟨c6n, crn⟩ | exact ⟨c6, cr⟩ | exact ⟨Bl.cells (by (repeat (first | assumption | with_reducible exact Bl.refl _ | with_reducible refine Bl.drewN ?_ _ | with_reducible refine Bl.drew ?_ | with_reducible refine Bl.alloc ?_ _ | (with_reducible refine Bl.call ?_ (by assumption))))) c6, Bl.cells (by (repeat (first | assumption | with_reducible exact Bl.refl _ | with_reducible refine Bl.drewN ?_ _ | with_reducible refine Bl.drew ?_ | with_reducible refine Bl.alloc ?_ _ | (with_reducible refine Bl.call ?_ (by assumption))))) cr⟩)
      refine g_take (i := 0) (d := 54) (v := ?_) [0] rfl rfl (by kernel_rfl) (by kernel_rfl) (by kernel_rfl) (by kernel_rfl) (by kernel_rfl) (by kernel_rfl) (fun _ _ _ h => h) (by decide) (by kernel_rfl) (Or.inl ⟨by rfl, ?_⟩) (by assumption) ?_
      rotate_left
      · (intro w hSw; (try dsimp only at hSw); go_simp; (try with_reducible rfl))
      simp only [List.set_cons_zero, List.set_cons_succ]
      refine g_take (i := 1) (d := 55) (v := ?_) [1] rfl rfl (by kernel_rfl) (by kernel_rfl) (by kernel_rfl) (by kernel_rfl) (by kernel_rfl) (by kernel_rfl) (fun _ _ _ h => h) (by decide) (by kernel_rfl) (Or.inl ⟨by rfl, ?_⟩) (by assumption) ?_
      rotate_left
      · (intro w hSw; (try dsimp only at hSw); go_simp; (try with_reducible rfl))
      simp only [List.set_cons_zero, List.set_cons_succ]
      refine g_take (i := 2) (d := 56) (v := ?_) [2] rfl rfl (by kernel_rfl) (by kernel_rfl) (by kernel_rfl) (by kernel_rfl) (by kernel_rfl) (by kernel_rfl) (fun _ _ _ h => h) (by decide) (by kernel_rfl) (Or.inl ⟨by rfl, ?_⟩) (by assumption) ?_
      rotate_left
      · (intro w hSw; (try dsimp only at hSw); go_simp; (try with_reducible rfl))
      simp only [List.set_cons_zero, List.set_cons_succ]
      refine g_take (i := 3) (d := 57) (v := ?_) [3] rfl rfl (by kernel_rfl) (by kernel_rfl) (by kernel_rfl) (by kernel_rfl) (by kernel_rfl) (by kernel_rfl) (fun _ _ _ h => h) (by decide) (by kernel_rfl) (Or.inl ⟨by rfl, ?_⟩) (by assumption) ?_
      rotate_left
      · (intro w hSw; (try dsimp only at hSw); go_simp; (try with_reducible rfl))
      simp only [List.set_cons_zero, List.set_cons_succ]
      refine g_take (i := 4) (d := 58) (v := ?_) [4] rfl rfl (by kernel_rfl) (by kernel_rfl) (by kernel_rfl) (by kernel_rfl) (by kernel_rfl) (by kernel_rfl) (fun _ _ _ h => h) (by decide) (by kernel_rfl) (Or.inl ⟨by rfl, ?_⟩) (by assumption) ?_
      rotate_left
      · (intro w hSw; (try dsimp only at hSw); go_simp; (try with_reducible rfl))
      simp only [List.set_cons_zero, List.set_cons_succ]
      refine g_take (i := 5) (d := 59) (v := ?_) [5] rfl rfl (by kernel_rfl) (by kernel_rfl) (by kernel_rfl) (by kernel_rfl) (by kernel_rfl) (by kernel_rfl) (fun _ _ _ h => h) (by decide) (by kernel_rfl) (Or.inl ⟨by rfl, ?_⟩) (by assumption) ?_
      rotate_left
      · (intro w hSw; (try dsimp only at hSw); go_simp; (try with_reducible rfl))
      simp only [List.set_cons_zero, List.set_cons_succ]
      refine g_take (i := 6) (d := 60) (v := ?_) [6] rfl rfl (by kernel_rfl) (by kernel_rfl) (by kernel_rfl) (by kernel_rfl) (by kernel_rfl) (by kernel_rfl) (fun _ _ _ h => h) (by decide) (by kernel_rfl) (Or.inl ⟨by rfl, ?_⟩) (by assumption) ?_
      rotate_left
      · (intro w hSw; (try dsimp only at hSw); go_simp; (try with_reducible rfl))
      simp only [List.set_cons_zero, List.set_cons_succ]
      refine g_take (i := 7) (d := 61) (v := ?_) [7] rfl rfl (by kernel_rfl) (by kernel_rfl) (by kernel_rfl) (by kernel_rfl) (by kernel_rfl) (by kernel_rfl) (fun _ _ _ h => h) (by decide) (by kernel_rfl) (Or.inl ⟨by rfl, ?_⟩) (by assumption) ?_
      rotate_left
      · (intro w hSw; (try dsimp only at hSw); go_simp; (try with_reducible rfl))
      simp only [List.set_cons_zero, List.set_cons_succ]
      refine g_take (i := 8) (d := 62) (v := ?_) [8] rfl rfl (by kernel_rfl) (by kernel_rfl) (by kernel_rfl) (by kernel_rfl) (by kernel_rfl) (by kernel_rfl) (fun _ _ _ h => h) (by decide) (by kernel_rfl) (Or.inl ⟨by rfl, ?_⟩) (by assumption) ?_
      rotate_left
      · (intro w hSw; (try dsimp only at hSw); go_simp; (try with_reducible rfl))
      simp only [List.set_cons_zero, List.set_cons_succ]
      refine g_take (i := 9) (d := 63) (v := ?_) [9] rfl rfl (by kernel_rfl) (by kernel_rfl) (by kernel_rfl) (by kernel_rfl) (by kernel_rfl) (by kernel_rfl) (fun _ _ _ h => h) (by decide) (by kernel_rfl) (Or.inl ⟨by rfl, ?_⟩) (by assumption) ?_
      rotate_left
      · (intro w hSw; (try dsimp only at hSw); go_simp; (try with_reducible rfl))
      simp only [List.set_cons_zero, List.set_cons_succ]
      refine g_take (i := 10) (d := 64) (v := ?_) [10] rfl rfl (by kernel_rfl) (by kernel_rfl) (by kernel_rfl) (by kernel_rfl) (by kernel_rfl) (by kernel_rfl) (fun _ _ _ h => h) (by decide) (by kernel_rfl) (Or.inl ⟨by rfl, ?_⟩) (by assumption) ?_
      rotate_left
      · (intro w hSw; (try dsimp only at hSw); go_simp; (try with_reducible rfl))
      simp only [List.set_cons_zero, List.set_cons_succ]
      refine g_take (i := 14) (d := 68) (v := ?_) [15, 14] rfl rfl (by kernel_rfl) (by kernel_rfl) (by kernel_rfl) (by kernel_rfl) (by kernel_rfl) (by kernel_rfl) (fun _ _ _ h => h) (by decide) (by kernel_rfl) (Or.inl ⟨by rfl, ?_⟩) (by assumption) ?_
      rotate_left
      · (intro w hSw; (try dsimp only at hSw); go_simp; (try with_reducible rfl))
      simp only [List.set_cons_zero, List.set_cons_succ]
      refine g_step (i := 11) (by kernel_rfl) rfl (fun K hK => ?_)
      go_simp
      (first | (go_at_call 139; refine (impl_mod _ _ _ (by omega) (by omega) (by omega) (by omega)).mono ?_; rintro e w' ⟨rfl, rfl⟩; rw [← HV2.out]) | (refine ap_int_step rfl rfl rfl (hO.keep (by (repeat (first | assumption | with_reducible exact Bl.refl _ | with_reducible refine Bl.drewN ?_ _ | with_reducible refine Bl.drew ?_ | with_reducible refine Bl.alloc ?_ _ | (with_reducible refine Bl.call ?_ (by assumption)))))) rfl (rd_new1 _ _ _).drew (by omega) (by have := hH.2.2.2.2.2; simp; omega) ?_; intro A2 c2 w2 hown2 hg2 hat2; have hX := hH.app (by exact (by (repeat (first | assumption | with_reducible exact Bl.refl _ | with_reducible refine Bl.drewN ?_ _ | with_reducible refine Bl.drew ?_ | with_reducible refine Bl.alloc ?_ _ | (with_reducible refine Bl.call ?_ (by assumption)))))) hg2; have c6n := hX.1.cell 6 _ rfl; have c6f := hX.1.frozen 6; have crn := hX.2.cells q2))
      go_wp2_with fail
      refine hK.out _ _ ?_ (fun hHeld => ?_)
      · (try dsimp only); (first | exact ⟨c6n, crn⟩ | exact ⟨c6, cr⟩ | exact ⟨Bl.cells (by (repeat (first | assumption | with_reducible exact Bl.refl _ | with_reducible refine Bl.drewN ?_ _ | with_reducible refine Bl.drew ?_ | with_reducible refine Bl.alloc ?_ _ | (with_reducible refine Bl.call ?_ (by assumption))))) c6, Bl.cells (by (repeat (first | assumption | with_reducible exact Bl.refl _ | with_reducible refine Bl.drewN ?_ _ | with_reducible refine Bl.drew ?_ | with_reducible refine Bl.alloc ?_ _ | (with_reducible refine Bl.call ?_ (by assumption))))) cr⟩)
      clear hK K
      (try simp only [List.set_cons_succ]); (try simp only [List.set_cons_zero])
      refine g_step (i := 12) (by kernel_rfl) rfl (fun K hK => ?_)
      go_simp
      refine hK.out _ _ ?_ (fun hHeld => ?_)
      · (try dsimp only); (first | exact ⟨c6n, crn⟩ | exact ⟨c6, cr⟩ | exact ⟨Bl.cells (by (repeat (first | assumption | with_reducible exact Bl.refl _ | with_reducible refine Bl.drewN ?_ _ | with_reducible refine Bl.drew ?_ | with_reducible refine Bl.alloc ?_ _ | (with_reducible refine Bl.call ?_ (by assumption))))) c6, Bl.cells (by (repeat (first | assumption | with_reducible exact Bl.refl _ | with_reducible refine Bl.drewN ?_ _ | with_reducible refine Bl.drew ?_ | with_reducible refine Bl.alloc ?_ _ | (with_reducible refine Bl.call ?_ (by assumption))))) cr⟩)
      clear hK K
      (try simp only [Act.put]); (try simp only [List.setIfInBounds_toArray]); (try simp only [List.set_cons_succ]); (try simp only [List.set_cons_zero])
      refine g_step (i := 13) (by kernel_rfl) rfl (fun K hK => ?_)
      (first | (go_at_call 139; refine (impl_mod _ _ _ (by omega) (by omega) (by omega) (by omega)).mono ?_; rintro e w' ⟨rfl, rfl⟩; rw [← HV2.out]) | (refine ap_int_step rfl rfl rfl (hO.keep (by (repeat (first | assumption | with_reducible exact Bl.refl _ | with_reducible refine Bl.drewN ?_ _ | with_reducible refine Bl.drew ?_ | with_reducible refine Bl.alloc ?_ _ | (with_reducible refine Bl.call ?_ (by assumption)))))) rfl (rd_new1 _ _ _).drew (by omega) (by have := hH.2.2.2.2.2; simp; omega) ?_; intro A2 c2 w2 hown2 hg2 hat2; have hX := hH.app (by exact (by (repeat (first | assumption | with_reducible exact Bl.refl _ | with_reducible refine Bl.drewN ?_ _ | with_reducible refine Bl.drew ?_ | with_reducible refine Bl.alloc ?_ _ | (with_reducible refine Bl.call ?_ (by assumption)))))) hg2; have c6n := hX.1.cell 6 _ rfl; have c6f := hX.1.frozen 6; have crn := hX.2.cells q2))
      refine hK.out _ _ ?_ (fun hHeld => ?_)
      · (try dsimp only); (first | exact ⟨c6n, crn⟩ | exact ⟨c6, cr⟩ | exact ⟨Bl.cells (by (repeat (first | assumption | with_reducible exact Bl.refl _ | with_reducible refine Bl.drewN ?_ _ | with_reducible refine Bl.drew ?_ | with_reducible refine Bl.alloc ?_ _ | (with_reducible refine Bl.call ?_ (by assumption))))) c6, Bl.cells (by (repeat (first | assumption | with_reducible exact Bl.refl _ | with_reducible refine Bl.drewN ?_ _ | with_reducible refine Bl.drew ?_ | with_reducible refine Bl.alloc ?_ _ | (with_reducible refine Bl.call ?_ (by assumption))))) cr⟩)
      clear hK K
      (try simp only [Act.put]); (try simp only [List.setIfInBounds_toArray]); (try simp only [List.set_cons_succ]); (try simp only [List.set_cons_zero])
      refine g_take (i := 15) (d := 69) (v := ?_) [15] rfl rfl (by kernel_rfl) (by kernel_rfl) (by kernel_rfl) (by kernel_rfl) (by kernel_rfl) (by kernel_rfl) (fun _ _ _ h => h) (by decide) (by kernel_rfl) (Or.inl ⟨by rfl, ?_⟩) (by assumption) ?_
      rotate_left
      · (intro w hSw; (try dsimp only at hSw); go_simp; (try with_reducible rfl))
      simp only [List.set_cons_zero, List.set_cons_succ]
      refine g_last (by kernel_rfl) rfl (by simp) (fun K hK => ?_)
      go_simp
      refine hK.out _ _ ?_
      clear hK K
      refine g_done (by kernel_rfl) ?_ _
      go_wp2
      go_roundw
      case rel => exact ⟨3, A2, c2, by omega, rfl, hH.step (by exact (by (repeat (first | assumption | with_reducible exact Bl.refl _ | with_reducible refine Bl.drewN ?_ _ | with_reducible refine Bl.drew ?_ | with_reducible refine Bl.alloc ?_ _ | (with_reducible refine Bl.call ?_ (by assumption)))))) hg2 hown2⟩
      case measure => simp [intOf]
    · have hB := hH.2.1
      have hO := hH.2.2.2.1
      have hW := hH.2.2.2.2.1
      have hVb := hH.2.2.1
      rw [HV.out] at hVb
      have cv := hVb.cell 3 _ rfl
      have c6 := hB.cell 6 _ rfl
      have cr := hW.cells q3
      clear hVb
      have hw4 : IntKind.i64.wrap 7 = 7 := by rfl
      have hws : IntKind.i64.wrap (r3 - r7) = r3 - r7 := IntWalk.i64_in _ (by omega)
      trace "a"
      go_upto_region 6 with fail
      trace "bb"
      refine region_G (fun w' => w'.cell? ⟨w.heap.size + 1, 6, none⟩ = some (.slice B 3 cB) ∧ w'.cell? ⟨ad.block, ad.off + (7), none⟩ = some (.int .i64 r7)) 16 (by kernel_rfl) ?_ (fun hHeld => ?_)
      · (try dsimp only); (first | exact ⟨c6n, crn⟩ | exact ⟨c6, cr⟩ | exact ⟨Bl.cells (by (repeat (first | assumption | with_reducible exact Bl.refl _ | with_reducible refine Bl.drewN ?_ _ | with_reducible refine Bl.drew ?_ | with_reducible refine Bl.alloc ?_ _ | (with_reducible refine Bl.call ?_ (by assumption))))) c6, Bl.cells (by (repeat (first | assumption | with_reducible exact Bl.refl _ | with_reducible refine Bl.drewN ?_ _ | with_reducible refine Bl.drew ?_ | with_reducible refine Bl.alloc ?_ _ | (with_reducible refine Bl.call ?_ (by assumption))))) cr⟩)
      refine g_take (i := 0) (d := 54) (v := ?_) [0] rfl rfl (by kernel_rfl) (by kernel_rfl) (by kernel_rfl) (by kernel_rfl) (by kernel_rfl) (by kernel_rfl) (fun _ _ _ h => h) (by decide) (by kernel_rfl) (Or.inl ⟨by rfl, ?_⟩) (by assumption) ?_
      rotate_left
      · (intro w hSw; (try dsimp only at hSw); go_simp; (try with_reducible rfl))
      simp only [List.set_cons_zero, List.set_cons_succ]
      refine g_take (i := 1) (d := 55) (v := ?_) [1] rfl rfl (by kernel_rfl) (by kernel_rfl) (by kernel_rfl) (by kernel_rfl) (by kernel_rfl) (by kernel_rfl) (fun _ _ _ h => h) (by decide) (by kernel_rfl) (Or.inl ⟨by rfl, ?_⟩) (by assumption) ?_
      rotate_left
      · (intro w hSw; (try dsimp only at hSw); go_simp; (try with_reducible rfl))
      simp only [List.set_cons_zero, List.set_cons_succ]
      refine g_take (i := 2) (d := 56) (v := ?_) [2] rfl rfl (by kernel_rfl) (by kernel_rfl) (by kernel_rfl) (by kernel_rfl) (by kernel_rfl) (by kernel_rfl) (fun _ _ _ h => h) (by decide) (by kernel_rfl) (Or.inl ⟨by rfl, ?_⟩) (by assumption) ?_
      rotate_left
      · (intro w hSw; (try dsimp only at hSw); go_simp; (try with_reducible rfl))
      simp only [List.set_cons_zero, List.set_cons_succ]
      refine g_take (i := 3) (d := 57) (v := ?_) [3] rfl rfl (by kernel_rfl) (by kernel_rfl) (by kernel_rfl) (by kernel_rfl) (by kernel_rfl) (by kernel_rfl) (fun _ _ _ h => h) (by decide) (by kernel_rfl) (Or.inl ⟨by rfl, ?_⟩) (by assumption) ?_
      rotate_left
      · (intro w hSw; (try dsimp only at hSw); go_simp; (try with_reducible rfl))
      simp only [List.set_cons_zero, List.set_cons_succ]
      refine g_take (i := 4) (d := 58) (v := ?_) [4] rfl rfl (by kernel_rfl) (by kernel_rfl) (by kernel_rfl) (by kernel_rfl) (by kernel_rfl) (by kernel_rfl) (fun _ _ _ h => h) (by decide) (by kernel_rfl) (Or.inl ⟨by rfl, ?_⟩) (by assumption) ?_
      rotate_left
      · (intro w hSw; (try dsimp only at hSw); go_simp; (try with_reducible rfl))
      simp only [List.set_cons_zero, List.set_cons_succ]
      refine g_take (i := 5) (d := 59) (v := ?_) [5] rfl rfl (by kernel_rfl) (by kernel_rfl) (by kernel_rfl) (by kernel_rfl) (by kernel_rfl) (by kernel_rfl) (fun _ _ _ h => h) (by decide) (by kernel_rfl) (Or.inl ⟨by rfl, ?_⟩) (by assumption) ?_
      rotate_left
      · (intro w hSw; (try dsimp only at hSw); go_simp; (try with_reducible rfl))
      simp only [List.set_cons_zero, List.set_cons_succ]
      refine g_take (i := 6) (d := 60) (v := ?_) [6] rfl rfl (by kernel_rfl) (by kernel_rfl) (by kernel_rfl) (by kernel_rfl) (by kernel_rfl) (by kernel_rfl) (fun _ _ _ h => h) (by decide) (by kernel_rfl) (Or.inl ⟨by rfl, ?_⟩) (by assumption) ?_
      rotate_left
      · (intro w hSw; (try dsimp only at hSw); go_simp; (try with_reducible rfl))
      simp only [List.set_cons_zero, List.set_cons_succ]
      refine g_take (i := 7) (d := 61) (v := ?_) [7] rfl rfl (by kernel_rfl) (by kernel_rfl) (by kernel_rfl) (by kernel_rfl) (by kernel_rfl) (by kernel_rfl) (fun _ _ _ h => h) (by decide) (by kernel_rfl) (Or.inl ⟨by rfl, ?_⟩) (by assumption) ?_
      rotate_left
      · (intro w hSw; (try dsimp only at hSw); go_simp; (try with_reducible rfl))
      simp only [List.set_cons_zero, List.set_cons_succ]
      refine g_take (i := 8) (d := 62) (v := ?_) [8] rfl rfl (by kernel_rfl) (by kernel_rfl) (by kernel_rfl) (by kernel_rfl) (by kernel_rfl) (by kernel_rfl) (fun _ _ _ h => h) (by decide) (by kernel_rfl) (Or.inl ⟨by rfl, ?_⟩) (by assumption) ?_
      rotate_left
      · (intro w hSw; (try dsimp only at hSw); go_simp; (try with_reducible rfl))
      simp only [List.set_cons_zero, List.set_cons_succ]
      refine g_take (i := 9) (d := 63) (v := ?_) [9] rfl rfl (by kernel_rfl) (by kernel_rfl) (by kernel_rfl) (by kernel_rfl) (by kernel_rfl) (by kernel_rfl) (fun _ _ _ h => h) (by decide) (by kernel_rfl) (Or.inl ⟨by rfl, ?_⟩) (by assumption) ?_
      rotate_left
      · (intro w hSw; (try dsimp only at hSw); go_simp; (try with_reducible rfl))
      simp only [List.set_cons_zero, List.set_cons_succ]
      refine g_take (i := 10) (d := 64) (v := ?_) [10] rfl rfl (by kernel_rfl) (by kernel_rfl) (by kernel_rfl) (by kernel_rfl) (by kernel_rfl) (by kernel_rfl) (fun _ _ _ h => h) (by decide) (by kernel_rfl) (Or.inl ⟨by rfl, ?_⟩) (by assumption) ?_
      rotate_left
      · (intro w hSw; (try dsimp only at hSw); go_simp; (try with_reducible rfl))
      simp only [List.set_cons_zero, List.set_cons_succ]
      refine g_take (i := 14) (d := 68) (v := ?_) [15, 14] rfl rfl (by kernel_rfl) (by kernel_rfl) (by kernel_rfl) (by kernel_rfl) (by kernel_rfl) (by kernel_rfl) (fun _ _ _ h => h) (by decide) (by kernel_rfl) (Or.inl ⟨by rfl, ?_⟩) (by assumption) ?_
      rotate_left
      · (intro w hSw; (try dsimp only at hSw); go_simp; (try with_reducible rfl))
      simp only [List.set_cons_zero, List.set_cons_succ]
      refine g_step (i := 11) (by kernel_rfl) rfl (fun K hK => ?_)
      go_simp
      (first | (go_at_call 139; refine (impl_mod _ _ _ (by omega) (by omega) (by omega) (by omega)).mono ?_; rintro e w' ⟨rfl, rfl⟩; rw [← HV3.out]) | (refine ap_int_step rfl rfl rfl (hO.keep (by (repeat (first | assumption | with_reducible exact Bl.refl _ | with_reducible refine Bl.drewN ?_ _ | with_reducible refine Bl.drew ?_ | with_reducible refine Bl.alloc ?_ _ | (with_reducible refine Bl.call ?_ (by assumption)))))) rfl (rd_new1 _ _ _).drew (by omega) (by have := hH.2.2.2.2.2; simp; omega) ?_; intro A2 c2 w2 hown2 hg2 hat2; have hX := hH.app (by exact (by (repeat (first | assumption | with_reducible exact Bl.refl _ | with_reducible refine Bl.drewN ?_ _ | with_reducible refine Bl.drew ?_ | with_reducible refine Bl.alloc ?_ _ | (with_reducible refine Bl.call ?_ (by assumption)))))) hg2; have c6n := hX.1.cell 6 _ rfl; have c6f := hX.1.frozen 6; have crn := hX.2.cells q3))
      go_wp2_with fail
      refine hK.out _ _ ?_ (fun hHeld => ?_)
      · (try dsimp only); (first | exact ⟨c6n, crn⟩ | exact ⟨c6, cr⟩ | exact ⟨Bl.cells (by (repeat (first | assumption | with_reducible exact Bl.refl _ | with_reducible refine Bl.drewN ?_ _ | with_reducible refine Bl.drew ?_ | with_reducible refine Bl.alloc ?_ _ | (with_reducible refine Bl.call ?_ (by assumption))))) c6, Bl.cells (by (repeat (first | assumption | with_reducible exact Bl.refl _ | with_reducible refine Bl.drewN ?_ _ | with_reducible refine Bl.drew ?_ | with_reducible refine Bl.alloc ?_ _ | (with_reducible refine Bl.call ?_ (by assumption))))) cr⟩)
      clear hK K
      (try simp only [List.set_cons_succ]); (try simp only [List.set_cons_zero])
      refine g_step (i := 12) (by kernel_rfl) rfl (fun K hK => ?_)
      go_simp
      refine hK.out _ _ ?_ (fun hHeld => ?_)
      · (try dsimp only); (first | exact ⟨c6n, crn⟩ | exact ⟨c6, cr⟩ | exact ⟨Bl.cells (by (repeat (first | assumption | with_reducible exact Bl.refl _ | with_reducible refine Bl.drewN ?_ _ | with_reducible refine Bl.drew ?_ | with_reducible refine Bl.alloc ?_ _ | (with_reducible refine Bl.call ?_ (by assumption))))) c6, Bl.cells (by (repeat (first | assumption | with_reducible exact Bl.refl _ | with_reducible refine Bl.drewN ?_ _ | with_reducible refine Bl.drew ?_ | with_reducible refine Bl.alloc ?_ _ | (with_reducible refine Bl.call ?_ (by assumption))))) cr⟩)
      clear hK K
      (try simp only [Act.put]); (try simp only [List.setIfInBounds_toArray]); (try simp only [List.set_cons_succ]); (try simp only [List.set_cons_zero])
      refine g_step (i := 13) (by kernel_rfl) rfl (fun K hK => ?_)
      (first | (go_at_call 139; refine (impl_mod _ _ _ (by omega) (by omega) (by omega) (by omega)).mono ?_; rintro e w' ⟨rfl, rfl⟩; rw [← HV3.out]) | (refine ap_int_step rfl rfl rfl (hO.keep (by (repeat (first | assumption | with_reducible exact Bl.refl _ | with_reducible refine Bl.drewN ?_ _ | with_reducible refine Bl.drew ?_ | with_reducible refine Bl.alloc ?_ _ | (with_reducible refine Bl.call ?_ (by assumption)))))) rfl (rd_new1 _ _ _).drew (by omega) (by have := hH.2.2.2.2.2; simp; omega) ?_; intro A2 c2 w2 hown2 hg2 hat2; have hX := hH.app (by exact (by (repeat (first | assumption | with_reducible exact Bl.refl _ | with_reducible refine Bl.drewN ?_ _ | with_reducible refine Bl.drew ?_ | with_reducible refine Bl.alloc ?_ _ | (with_reducible refine Bl.call ?_ (by assumption)))))) hg2; have c6n := hX.1.cell 6 _ rfl; have c6f := hX.1.frozen 6; have crn := hX.2.cells q3))
      refine hK.out _ _ ?_ (fun hHeld => ?_)
      · (try dsimp only); (first | exact ⟨c6n, crn⟩ | exact ⟨c6, cr⟩ | exact ⟨Bl.cells (by (repeat (first | assumption | with_reducible exact Bl.refl _ | with_reducible refine Bl.drewN ?_ _ | with_reducible refine Bl.drew ?_ | with_reducible refine Bl.alloc ?_ _ | (with_reducible refine Bl.call ?_ (by assumption))))) c6, Bl.cells (by (repeat (first | assumption | with_reducible exact Bl.refl _ | with_reducible refine Bl.drewN ?_ _ | with_reducible refine Bl.drew ?_ | with_reducible refine Bl.alloc ?_ _ | (with_reducible refine Bl.call ?_ (by assumption))))) cr⟩)
      clear hK K
      (try simp only [Act.put]); (try simp only [List.setIfInBounds_toArray]); (try simp only [List.set_cons_succ]); (try simp only [List.set_cons_zero])
      refine g_take (i := 15) (d := 69) (v := ?_) [15] rfl rfl (by kernel_rfl) (by kernel_rfl) (by kernel_rfl) (by kernel_rfl) (by kernel_rfl) (by kernel_rfl) (fun _ _ _ h => h) (by decide) (by kernel_rfl) (Or.inl ⟨by rfl, ?_⟩) (by assumption) ?_
      rotate_left
      · (intro w hSw; (try dsimp only at hSw); go_simp; (try with_reducible rfl))
      simp only [List.set_cons_zero, List.set_cons_succ]
      refine g_last (by kernel_rfl) rfl (by simp) (fun K hK => ?_)
      go_simp
      refine hK.out _ _ ?_
      clear hK K
      refine g_done (by kernel_rfl) ?_ _
      go_wp2
      go_roundw
      case rel => exact ⟨4, A2, c2, by omega, rfl, hH.step (by exact (by (repeat (first | assumption | with_reducible exact Bl.refl _ | with_reducible refine Bl.drewN ?_ _ | with_reducible refine Bl.drew ?_ | with_reducible refine Bl.alloc ?_ _ | (with_reducible refine Bl.call ?_ (by assumption)))))) hg2 hown2⟩
      case measure => simp [intOf]
    · have hB := hH.2.1
      have hO := hH.2.2.2.1
      have hW := hH.2.2.2.2.1
      have hVb := hH.2.2.1
      rw [HV.out] at hVb
      have cv := hVb.cell 4 _ rfl
      have c6 := hB.cell 6 _ rfl
      have cr := hW.cells q4
      clear hVb
      have hw4 : IntKind.i64.wrap 8 = 8 := by rfl
      have hws : IntKind.i64.wrap ((r2 * r3) - r8) = (r2 * r3) - r8 := IntWalk.i64_in _ (by omega)
      trace "a"
      go_upto_region 6 with fail
      trace "bb"
      refine region_G (fun w' => w'.cell? ⟨w.heap.size + 1, 6, none⟩ = some (.slice B 4 cB) ∧ w'.cell? ⟨ad.block, ad.off + (8), none⟩ = some (.int .i64 r8)) 16 (by kernel_rfl) ?_ (fun hHeld => ?_)
      · (try dsimp only); (first | exact ⟨c6n, crn⟩ | exact ⟨c6, cr⟩ | exact ⟨Bl.cells (by (repeat (first | assumption | with_reducible exact Bl.refl _ | with_reducible refine Bl.drewN ?_ _ | with_reducible refine Bl.drew ?_ | with_reducible refine Bl.alloc ?_ _ | (with_reducible refine Bl.call ?_ (by assumption))))) c6, Bl.cells (by (repeat (first | assumption | with_reducible exact Bl.refl _ | with_reducible refine Bl.drewN ?_ _ | with_reducible refine Bl.drew ?_ | with_reducible refine Bl.alloc ?_ _ | (with_reducible refine Bl.call ?_ (by assumption))))) cr⟩)
      refine g_take (i := 0) (d := 54) (v := ?_) [0] rfl rfl (by kernel_rfl) (by kernel_rfl) (by kernel_rfl) (by kernel_rfl) (by kernel_rfl) (by kernel_rfl) (fun _ _ _ h => h) (by decide) (by kernel_rfl) (Or.inl ⟨by rfl, ?_⟩) (by assumption) ?_
      rotate_left
      · (intro w hSw; (try dsimp only at hSw); go_simp; (try with_reducible rfl))
      simp only [List.set_cons_zero, List.set_cons_succ]
      refine g_take (i := 1) (d := 55) (v := ?_) [1] rfl rfl (by kernel_rfl) (by kernel_rfl) (by kernel_rfl) (by kernel_rfl) (by kernel_rfl) (by kernel_rfl) (fun _ _ _ h => h) (by decide) (by kernel_rfl) (Or.inl ⟨by rfl, ?_⟩) (by assumption) ?_
      rotate_left
      · (intro w hSw; (try dsimp only at hSw); go_simp; (try with_reducible rfl))
      simp only [List.set_cons_zero, List.set_cons_succ]
      refine g_take (i := 2) (d := 56) (v := ?_) [2] rfl rfl (by kernel_rfl) (by kernel_rfl) (by kernel_rfl) (by kernel_rfl) (by kernel_rfl) (by kernel_rfl) (fun _ _ _ h => h) (by decide) (by kernel_rfl) (Or.inl ⟨by rfl, ?_⟩) (by assumption) ?_
      rotate_left
      · (intro w hSw; (try dsimp only at hSw); go_simp; (try with_reducible rfl))
      simp only [List.set_cons_zero, List.set_cons_succ]
      refine g_take (i := 3) (d := 57) (v := ?_) [3] rfl rfl (by kernel_rfl) (by kernel_rfl) (by kernel_rfl) (by kernel_rfl) (by kernel_rfl) (by kernel_rfl) (fun _ _ _ h => h) (by decide) (by kernel_rfl) (Or.inl ⟨by rfl, ?_⟩) (by assumption) ?_
      rotate_left
      · (intro w hSw; (try dsimp only at hSw); go_simp; (try with_reducible rfl))
      simp only [List.set_cons_zero, List.set_cons_succ]
      refine g_take (i := 4) (d := 58) (v := ?_) [4] rfl rfl (by kernel_rfl) (by kernel_rfl) (by kernel_rfl) (by kernel_rfl) (by kernel_rfl) (by kernel_rfl) (fun _ _ _ h => h) (by decide) (by kernel_rfl) (Or.inl ⟨by rfl, ?_⟩) (by assumption) ?_
      rotate_left
      · (intro w hSw; (try dsimp only at hSw); go_simp; (try with_reducible rfl))
      simp only [List.set_cons_zero, List.set_cons_succ]
      refine g_take (i := 5) (d := 59) (v := ?_) [5] rfl rfl (by kernel_rfl) (by kernel_rfl) (by kernel_rfl) (by kernel_rfl) (by kernel_rfl) (by kernel_rfl) (fun _ _ _ h => h) (by decide) (by kernel_rfl) (Or.inl ⟨by rfl, ?_⟩) (by assumption) ?_
      rotate_left
      · (intro w hSw; (try dsimp only at hSw); go_simp; (try with_reducible rfl))
      simp only [List.set_cons_zero, List.set_cons_succ]
      refine g_take (i := 6) (d := 60) (v := ?_) [6] rfl rfl (by kernel_rfl) (by kernel_rfl) (by kernel_rfl) (by kernel_rfl) (by kernel_rfl) (by kernel_rfl) (fun _ _ _ h => h) (by decide) (by kernel_rfl) (Or.inl ⟨by rfl, ?_⟩) (by assumption) ?_
      rotate_left
      · (intro w hSw; (try dsimp only at hSw); go_simp; (try with_reducible rfl))
      simp only [List.set_cons_zero, List.set_cons_succ]
      refine g_take (i := 7) (d := 61) (v := ?_) [7] rfl rfl (by kernel_rfl) (by kernel_rfl) (by kernel_rfl) (by kernel_rfl) (by kernel_rfl) (by kernel_rfl) (fun _ _ _ h => h) (by decide) (by kernel_rfl) (Or.inl ⟨by rfl, ?_⟩) (by assumption) ?_
      rotate_left
      · (intro w hSw; (try dsimp only at hSw); go_simp; (try with_reducible rfl))
      simp only [List.set_cons_zero, List.set_cons_succ]
      refine g_take (i := 8) (d := 62) (v := ?_) [8] rfl rfl (by kernel_rfl) (by kernel_rfl) (by kernel_rfl) (by kernel_rfl) (by kernel_rfl) (by kernel_rfl) (fun _ _ _ h => h) (by decide) (by kernel_rfl) (Or.inl ⟨by rfl, ?_⟩) (by assumption) ?_
      rotate_left
      · (intro w hSw; (try dsimp only at hSw); go_simp; (try with_reducible rfl))
      simp only [List.set_cons_zero, List.set_cons_succ]
      refine g_take (i := 9) (d := 63) (v := ?_) [9] rfl rfl (by kernel_rfl) (by kernel_rfl) (by kernel_rfl) (by kernel_rfl) (by kernel_rfl) (by kernel_rfl) (fun _ _ _ h => h) (by decide) (by kernel_rfl) (Or.inl ⟨by rfl, ?_⟩) (by assumption) ?_
      rotate_left
      · (intro w hSw; (try dsimp only at hSw); go_simp; (try with_reducible rfl))
      simp only [List.set_cons_zero, List.set_cons_succ]
      refine g_take (i := 10) (d := 64) (v := ?_) [10] rfl rfl (by kernel_rfl) (by kernel_rfl) (by kernel_rfl) (by kernel_rfl) (by kernel_rfl) (by kernel_rfl) (fun _ _ _ h => h) (by decide) (by kernel_rfl) (Or.inl ⟨by rfl, ?_⟩) (by assumption) ?_
      rotate_left
      · (intro w hSw; (try dsimp only at hSw); go_simp; (try with_reducible rfl))
      simp only [List.set_cons_zero, List.set_cons_succ]
      refine g_take (i := 14) (d := 68) (v := ?_) [15, 14] rfl rfl (by kernel_rfl) (by kernel_rfl) (by kernel_rfl) (by kernel_rfl) (by kernel_rfl) (by kernel_rfl) (fun _ _ _ h => h) (by decide) (by kernel_rfl) (Or.inl ⟨by rfl, ?_⟩) (by assumption) ?_
      rotate_left
      · (intro w hSw; (try dsimp only at hSw); go_simp; (try with_reducible rfl))
      simp only [List.set_cons_zero, List.set_cons_succ]
      refine g_step (i := 11) (by kernel_rfl) rfl (fun K hK => ?_)
      go_simp
      (first | (go_at_call 139; refine (impl_mod _ _ _ (by omega) (by omega) (by omega) (by omega)).mono ?_; rintro e w' ⟨rfl, rfl⟩; rw [← HV4.out]) | (refine ap_int_step rfl rfl rfl (hO.keep (by (repeat (first | assumption | with_reducible exact Bl.refl _ | with_reducible refine Bl.drewN ?_ _ | with_reducible refine Bl.drew ?_ | with_reducible refine Bl.alloc ?_ _ | (with_reducible refine Bl.call ?_ (by assumption)))))) rfl (rd_new1 _ _ _).drew (by omega) (by have := hH.2.2.2.2.2; simp; omega) ?_; intro A2 c2 w2 hown2 hg2 hat2; have hX := hH.app (by exact (by (repeat (first | assumption | with_reducible exact Bl.refl _ | with_reducible refine Bl.drewN ?_ _ | with_reducible refine Bl.drew ?_ | with_reducible refine Bl.alloc ?_ _ | (with_reducible refine Bl.call ?_ (by assumption)))))) hg2; have c6n := hX.1.cell 6 _ rfl; have c6f := hX.1.frozen 6; have crn := hX.2.cells q4))
      go_wp2_with fail
      refine hK.out _ _ ?_ (fun hHeld => ?_)
      · (try dsimp only); (first | exact ⟨c6n, crn⟩ | exact ⟨c6, cr⟩ | exact ⟨Bl.cells (by (repeat (first | assumption | with_reducible exact Bl.refl _ | with_reducible refine Bl.drewN ?_ _ | with_reducible refine Bl.drew ?_ | with_reducible refine Bl.alloc ?_ _ | (with_reducible refine Bl.call ?_ (by assumption))))) c6, Bl.cells (by (repeat (first | assumption | with_reducible exact Bl.refl _ | with_reducible refine Bl.drewN ?_ _ | with_reducible refine Bl.drew ?_ | with_reducible refine Bl.alloc ?_ _ | (with_reducible refine Bl.call ?_ (by assumption))))) cr⟩)
      clear hK K
      (try simp only [List.set_cons_succ]); (try simp only [List.set_cons_zero])
      refine g_step (i := 12) (by kernel_rfl) rfl (fun K hK => ?_)
      go_simp
      refine hK.out _ _ ?_ (fun hHeld => ?_)
      · (try dsimp only); (first | exact ⟨c6n, crn⟩ | exact ⟨c6, cr⟩ | exact ⟨Bl.cells (by (repeat (first | assumption | with_reducible exact Bl.refl _ | with_reducible refine Bl.drewN ?_ _ | with_reducible refine Bl.drew ?_ | with_reducible refine Bl.alloc ?_ _ | (with_reducible refine Bl.call ?_ (by assumption))))) c6, Bl.cells (by (repeat (first | assumption | with_reducible exact Bl.refl _ | with_reducible refine Bl.drewN ?_ _ | with_reducible refine Bl.drew ?_ | with_reducible refine Bl.alloc ?_ _ | (with_reducible refine Bl.call ?_ (by assumption))))) cr⟩)
      clear hK K
      (try simp only [Act.put]); (try simp only [List.setIfInBounds_toArray]); (try simp only [List.set_cons_succ]); (try simp only [List.set_cons_zero])
      refine g_step (i := 13) (by kernel_rfl) rfl (fun K hK => ?_)
      (first | (go_at_call 139; refine (impl_mod _ _ _ (by omega) (by omega) (by omega) (by omega)).mono ?_; rintro e w' ⟨rfl, rfl⟩; rw [← HV4.out]) | (refine ap_int_step rfl rfl rfl (hO.keep (by (repeat (first | assumption | with_reducible exact Bl.refl _ | with_reducible refine Bl.drewN ?_ _ | with_reducible refine Bl.drew ?_ | with_reducible refine Bl.alloc ?_ _ | (with_reducible refine Bl.call ?_ (by assumption)))))) rfl (rd_new1 _ _ _).drew (by omega) (by have := hH.2.2.2.2.2; simp; omega) ?_; intro A2 c2 w2 hown2 hg2 hat2; have hX := hH.app (by exact (by (repeat (first | assumption | with_reducible exact Bl.refl _ | with_reducible refine Bl.drewN ?_ _ | with_reducible refine Bl.drew ?_ | with_reducible refine Bl.alloc ?_ _ | (with_reducible refine Bl.call ?_ (by assumption)))))) hg2; have c6n := hX.1.cell 6 _ rfl; have c6f := hX.1.frozen 6; have crn := hX.2.cells q4))
      refine hK.out _ _ ?_ (fun hHeld => ?_)
      · (try dsimp only); (first | exact ⟨c6n, crn⟩ | exact ⟨c6, cr⟩ | exact ⟨Bl.cells (by (repeat (first | assumption | with_reducible exact Bl.refl _ | with_reducible refine Bl.drewN ?_ _ | with_reducible refine Bl.drew ?_ | with_reducible refine Bl.alloc ?_ _ | (with_reducible refine Bl.call ?_ (by assumption))))) c6, Bl.cells (by (repeat (first | assumption | with_reducible exact Bl.refl _ | with_reducible refine Bl.drewN ?_ _ | with_reducible refine Bl.drew ?_ | with_reducible refine Bl.alloc ?_ _ | (with_reducible refine Bl.call ?_ (by assumption))))) cr⟩)
      clear hK K
      (try simp only [Act.put]); (try simp only [List.setIfInBounds_toArray]); (try simp only [List.set_cons_succ]); (try simp only [List.set_cons_zero])
      refine g_take (i := 15) (d := 69) (v := ?_) [15] rfl rfl (by kernel_rfl) (by kernel_rfl) (by kernel_rfl) (by kernel_rfl) (by kernel_rfl) (by kernel_rfl) (fun _ _ _ h => h) (by decide) (by kernel_rfl) (Or.inl ⟨by rfl, ?_⟩) (by assumption) ?_
      rotate_left
      · (intro w hSw; (try dsimp only at hSw); go_simp; (try with_reducible rfl))
      simp only [List.set_cons_zero, List.set_cons_succ]
      refine g_last (by kernel_rfl) rfl (by simp) (fun K hK => ?_)
      go_simp
      refine hK.out _ _ ?_
      clear hK K
      refine g_done (by kernel_rfl) ?_ _
      go_wp2
      go_roundw
      case rel => exact ⟨5, A2, c2, by omega, rfl, hH.step (by exact (by (repeat (first | assumption | with_reducible exact Bl.refl _ | with_reducible refine Bl.drewN ?_ _ | with_reducible refine Bl.drew ?_ | with_reducible refine Bl.alloc ?_ _ | (with_reducible refine Bl.call ?_ (by assumption)))))) hg2 hown2⟩
      case measure => simp [intOf]
    · have hB := hH.2.1
      have hZ := hH.1
      have hO := hH.2.2.2.1
      have hW := hH.2.2.2.2.1
      have e0 := hB.cell 0 _ rfl
      have z0 := hZ.cell 0 _ rfl
      have e1 := hB.cell 1 _ rfl
      have z1 := hZ.cell 1 _ rfl
      have e2 := hB.cell 2 _ rfl
      have z2 := hZ.cell 2 _ rfl
      have e3 := hB.cell 3 _ rfl
      have z3 := hZ.cell 3 _ rfl
      have e4 := hB.cell 4 _ rfl
      have z4 := hZ.cell 4 _ rfl
      have e5 := hB.cell 5 _ rfl
      have z5 := hZ.cell 5 _ rfl
      have e6 := hB.cell 6 _ rfl
      have z6 := hZ.cell 6 _ rfl
      have zf := hZ.frozen
      have hS : RdI wr (some ⟨ad.block, ad.off + 4, none⟩) 5 (c - 4) [r4, r5, r6, r7, r8] := (hl.mid 5 (by omega) (by omega) (by omega)).keep hW
      have hq := hO.blk
      have hRs : RdI wr B 5 cB (sh1 p r0 r1 r2 r3 r4 r5 r6 r7 r8) := by
        rw [hR.out, ← HV0.out, ← HV1.out, ← HV2.out, ← HV3.out, ← HV4.out]
        exact hO.rd
      have hws := hW.sz
      clear hH hB hZ hO q0 q1 q2 q3 q4
      go_wp2
      refine bodyPost_ret (v := .agg #[.int .i64 p, .int .i64 x, .int .i64 y, .int .i64 r0, .int .i64 r1, .slice (some ⟨ad.block, ad.off + 4, none⟩) 5 (c - 4), .slice B 5 cB]) (by simp only [results, Try.results101]; go_simp) rfl ⟨_, _, _, _, rfl, ?_, ?_, ?_⟩
      · have hne : ∀ a, (some ⟨ad.block, ad.off + 4, none⟩ : Option Addr) = some a → a.block ≠ w.heap.size := by
          rintro a rfl'
          injection rfl' with e
          rw [← e]
          show ad.block ≠ w.heap.size
          omega
        iterate 7 (refine RdI.far hne _ _ ?_)
        exact hS
      · have hne : ∀ a, B = some a → a.block ≠ w.heap.size := by
          intro a ha
          have := (hq a.block (by rw [ha]; rfl)).1
          omega
        iterate 7 (refine RdI.far hne _ _ ?_)
        exact hRs
      · iterate 7 (refine Bl.setCell ?_ (Nat.le_refl w.heap.size) _)
        exact hW

end Go.Proofs.Ytglgaicbcackbaa
