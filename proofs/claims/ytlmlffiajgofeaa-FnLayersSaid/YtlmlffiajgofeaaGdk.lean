/- Contracts of the draws of the law on layers.
   Conditions: the text is one of bytes. -/
import Derived.Test.YtlmlffiajgofeaaGdm
import Derived.Test.YtlmlffiajgofeaaFcc
namespace Go.Proofs.Ytlmlffiajgofeaa
open Go.RowKit
set_option linter.unusedVariables false
theorem spec_gdMake (k : Int) (hk : 0 ≤ k ∧ k ≤ 6) (wd : Nat) (hwd : 1 ≤ wd ∧ wd ≤ 5) (w : World) : Calls Try.prog 115 #[.int .i64 k, .int .i64 wd] w (MakP w) := by
  rcases (by omega : k = 0 ∨ k = 1 ∨ k = 2 ∨ k = 3 ∨ k = 4 ∨ k = 5 ∨ k = 6) with rfl | rfl | rfl | rfl | rfl | rfl | rfl
  · exact spec_gdMake0 wd hwd w
  · exact spec_gdMake1 wd hwd w
  · exact spec_gdMake2 wd hwd w
  · exact spec_gdMake3 wd hwd w
  · exact spec_gdMake4 wd hwd w
  · exact spec_gdMake5 wd hwd w
  · exact spec_gdMake6 wd hwd w
/-- A gadget and that there is one. -/
def KndP (w : World) (e : Ending) (w' : World) : Prop := ∃ a b A n c gl S m d ol, e = .returned (.tuple #[.agg #[.int .i64 a, .int .i64 b, .slice A n c, .slice S m d], .bool true]) ∧ ((0 ≤ a ∧ a ≤ 30) ∧ (0 ≤ b ∧ b ≤ 30) ∧ n ≤ 301 ∧ m ≤ 41) ∧ RdC w' A n c gl S m d ol ∧ Bl w w' ∧ ((∀ k, A.map (·.block) = some k → w.heap.size ≤ k) ∧ ∀ k, S.map (·.block) = some k → w.heap.size ≤ k)
theorem RdC.set4 {w : World} {A S : Option Addr} {n c m d r : Nat} {gl : List Gt} {ol : List Int} (h : RdC w A n c gl S m d ol) (hA : ∀ k, A.map (·.block) = some k → k ≠ r) (hS : ∀ k, S.map (·.block) = some k → k ≠ r) (v0 v1 v2 v3 : Value) :
    RdC ((((w.setCell ⟨r, 0, none⟩ v0).setCell ⟨r, 1, none⟩ v1).setCell ⟨r, 2, none⟩ v2).setCell ⟨r, 3, none⟩ v3) A n c gl S m d ol := by
  have hg : w.grownBy ((((w.setCell ⟨r, 0, none⟩ v0).setCell ⟨r, 1, none⟩ v1).setCell ⟨r, 2, none⟩ v2).setCell ⟨r, 3, none⟩ v3) (some r) :=
    grownBy_trans (grownBy_trans (grownBy_trans (grownBy_setCell w r 0 v0) (grownBy_setCell _ r 1 v1)) (grownBy_setCell _ r 2 v2)) (grownBy_setCell _ r 3 v3)
  exact ⟨h.g.grown hg (fun a e e2 => hA a.block (by rw [e]; rfl) (by injection e2)), h.o.grown hg (fun a e e2 => hS a.block (by rw [e]; rfl) (by injection e2))⟩
theorem RdC.moved {w w' : World} {A S : Option Addr} {n c m d g : Nat} {gl : List Gt} {ol : List Int} (h : RdC w A n c gl S m d ol) (hg : w.grownBy w' (some g)) (hA : ∀ k, A.map (·.block) = some k → k ≠ g) (hS : ∀ k, S.map (·.block) = some k → k ≠ g) : RdC w' A n c gl S m d ol :=
  ⟨h.g.grown hg (fun a e e2 => hA a.block (by rw [e]; rfl) (by injection e2)), h.o.grown hg (fun a e e2 => hS a.block (by rw [e]; rfl) (by injection e2))⟩
/-- A drawn circuit in block x, whatever made it. -/
structure Rn (w0 w : World) (g kk x : Nat) (a b : Int) (A : Option Addr) (n c : Nat) (gl : List Gt) (B : Option Addr) (m d : Nat) (ol : List Int) : Prop where
  blk : Blk w x 26 #[.int .i64 a, .int .i64 b, .slice A n c, .slice B m d]
  rd : RdC w A n c gl B m d ol
  cur : Cur w g kk
  res : Blk w w0.heap.size 26 #[.int .i64 0, .int .i64 0, .slice none 0 0, .slice none 0 0]
  bl : Bl w0 w
  la : ∀ k, A.map (·.block) = some k → w0.heap.size + 2 ≤ k ∧ k ≠ x
  lb : ∀ k, B.map (·.block) = some k → w0.heap.size + 2 ≤ k ∧ k ≠ x
  lo : w0.heap.size + 2 ≤ x
  hg : g = w0.heap.size + 1
section
variable {w0 w w' : World} {g kk x : Nat} {a b : Int} {A : Option Addr} {n c : Nat} {gl : List Gt} {B : Option Addr} {m d : Nat} {ol : List Int}
theorem Rn.keep (h : Rn w0 w g kk x a b A n c gl B m d ol) (hb : Bl w w') : Rn w0 w' g kk x a b A n c gl B m d ol :=
  ⟨h.blk.keep hb, h.rd.keep hb, h.cur.keep hb, h.res.keep hb, h.bl.call hb, h.la, h.lb, h.lo, h.hg⟩
theorem Rn.moved {k2 : Nat} (h : Rn w0 w g kk x a b A n c gl B m d ol) (hG : w.grownBy w' (some g)) (hC : Cur w' g k2) : Rn w0 w' g k2 x a b A n c gl B m d ol := by
  have h1 := h.hg; have h2 := h.lo
  exact ⟨h.blk.grown hG (by intro e; injection e with e; omega), h.rd.moved hG (fun k hk => by have := (h.la k hk).1; omega) (fun k hk => by have := (h.lb k hk).1; omega), hC, h.res.grown hG (by intro e; injection e with e; omega),
    h.bl.grown hG (fun k hk => by injection hk with hk; omega), h.la, h.lb, h.lo, h.hg⟩
/-- Another circuit is stored. -/
theorem Rn.put {a' b' : Int} {A' : Option Addr} {n' c' : Nat} {gl' : List Gt} {B' : Option Addr} {m' d' : Nat} {ol' : List Int} (h : Rn w0 w g kk x a b A n c gl B m d ol) (hr : RdC w A' n' c' gl' B' m' d' ol') (hA : ∀ k, A'.map (·.block) = some k → w0.heap.size + 2 ≤ k ∧ k ≠ x) (hB : ∀ k, B'.map (·.block) = some k → w0.heap.size + 2 ≤ k ∧ k ≠ x) :
    Rn w0 ((((w.setCell ⟨x, 0, none⟩ (.int .i64 a')).setCell ⟨x, 1, none⟩ (.int .i64 b')).setCell ⟨x, 2, none⟩ (.slice A' n' c')).setCell ⟨x, 3, none⟩ (.slice B' m' d')) g kk x a' b' A' n' c' gl' B' m' d' ol' := by
  have h1 := h.hg; have h2 := h.lo
  refine ⟨(((h.blk.set_ 0 _).set_ 1 _).set_ 2 _).set_ 3 _, hr.set4 (fun k hk => (hA k hk).2) (fun k hk => (hB k hk).2) _ _ _ _, ((((h.cur.farSet _ _ _ (by omega)).farSet _ _ _ (by omega)).farSet _ _ _ (by omega)).farSet _ _ _ (by omega)), ?_,
    (((h.bl.setCell (p := ⟨x, 0, none⟩) (by dsimp only; omega) _).setCell (p := ⟨x, 1, none⟩) (by dsimp only; omega) _).setCell (p := ⟨x, 2, none⟩) (by dsimp only; omega) _).setCell (p := ⟨x, 3, none⟩) (by dsimp only; omega) _, hA, hB, h.lo, h.hg⟩
  have hne : w0.heap.size ≠ x := by omega
  exact (((h.res.far (p := ⟨x, 0, none⟩) hne _).far (p := ⟨x, 1, none⟩) hne _).far (p := ⟨x, 2, none⟩) hne _).far (p := ⟨x, 3, none⟩) hne _
end
/-- A drawn circuit and a number. -/
def DrwP (w : World) (e : Ending) (w' : World) : Prop := ∃ a b A n c gl B m d ol v, e = .returned (.tuple #[.agg #[.int .i64 a, .int .i64 b, .slice A n c, .slice B m d], .int .i64 v]) ∧ RdC w' A n c gl B m d ol ∧ Bl w w' ∧ 0 ≤ v ∧ v ≤ 301
theorem Rn.fin {w0 w : World} {g kk x : Nat} {a b : Int} {A : Option Addr} {n c : Nat} {gl : List Gt} {B : Option Addr} {m d : Nat} {ol : List Int} (h : Rn w0 w g kk x a b A n c gl B m d ol) (v : Int) (hv : 0 ≤ v ∧ v ≤ 301) (u0 u1 u2 u3 : Value) :
    DrwP w0 (.returned (.tuple #[.agg #[.int .i64 a, .int .i64 b, .slice A n c, .slice B m d], .int .i64 v])) ((((w.setCell ⟨w0.heap.size, 0, none⟩ u0).setCell ⟨w0.heap.size, 1, none⟩ u1).setCell ⟨w0.heap.size, 2, none⟩ u2).setCell ⟨w0.heap.size, 3, none⟩ u3) :=
  ⟨a, b, A, n, c, gl, B, m, d, ol, v, rfl, h.rd.set4 (fun k hk => by have := (h.la k hk).1; omega) (fun k hk => by have := (h.lb k hk).1; omega) _ _ _ _,
    (((h.bl.setCell (p := ⟨w0.heap.size, 0, none⟩) (Nat.le_refl _) _).setCell (p := ⟨w0.heap.size, 1, none⟩) (Nat.le_refl _) _).setCell (p := ⟨w0.heap.size, 2, none⟩) (Nat.le_refl _) _).setCell (p := ⟨w0.heap.size, 3, none⟩) (Nat.le_refl _) _, hv⟩
theorem seven_bd {q : Int} (h : Value.int .i64 q ∈ #[Value.int .i64 1, .int .i64 2, .int .i64 3, .int .i64 7, .int .i64 300, .int .i64 301, .int .i64 0].toList) : 0 ≤ q ∧ q ≤ 301 := by
  simp at h; omega
theorem gd_width (wd : Nat) (hwd : 1 ≤ wd ∧ wd ≤ 5) (w : World) : Calls Try.prog 114 #[.int .i64 wd] w fun e w' => e = .returned (.bool true) ∧ w = w' := by
  go_enter Try.func114, Try.ntmps114
  go_wp2_with (go_at_call 79; refine (spec_l1In _ _ _ _).mono ?_; rintro e w1 ⟨rfl, rfl⟩)
  go_ret
  exact ⟨ret_bool (inR_iff.2 (by omega)), rfl⟩
set_option maxRecDepth 20000 in
set_option maxHeartbeats 4000000 in
theorem spec_gdKind (k : Int) (hk : 0 ≤ k ∧ k ≤ 6) (wd : Nat) (hwd : 1 ≤ wd ∧ wd ≤ 5) (w : World) : Calls Try.prog 75 #[.int .i64 k, .int .i64 wd] w (KndP w) := by
  have hR := Blk.new w 26 #[.int .i64 0, .int .i64 0, .slice none 0 0, .slice none 0 0] (g := w.heap.size)
  have hs0 : (w.alloc (.cells #[.int .i64 0, .int .i64 0, .slice none 0 0, .slice none 0 0] 26)).heap.size = w.heap.size + 1 := by simp
  have hW := (Bl.refl w).alloc (.cells #[.int .i64 0, .int .i64 0, .slice none 0 0, .slice none 0 0] 26)
  have hin : inR k 0 6 = true := inR_iff.2 hk
  have i5 : ¬ (5 : Int) < wd := by omega
  by_cases h6 : k = 6
  · subst h6
    go_enter Try.func75, Try.ntmps75
    go_wp2_with fail
    refine (gd_width wd hwd _).mono ?_
    rintro e w1 ⟨rfl, rfl⟩
    go_wp2_with fail
    refine (spec_l1In _ _ _ _).mono ?_
    rintro e w1 ⟨rfl, rfl⟩
    rw [hin]
    go_wp2_with fail
    refine (spec_gdMake _ hk wd hwd _).mono ?_
    rintro e w2 ⟨a, b, A, n, c, gl, S, m, d, ol, rfl, hbd, hC, hb2, hA, hS⟩
    rw [hs0] at hA hS
    replace hR := hR.keep hb2
    replace hW := hW.call hb2
    have hR_l := hR.lt; have hR_f := hR.frozen; have hR_0 := hR.cell 0 _ rfl; have hR_1 := hR.cell 1 _ rfl; have hR_2 := hR.cell 2 _ rfl; have hR_3 := hR.cell 3 _ rfl
    have hfin := hC.set4 (r := w.heap.size) (fun k hk => by have := hA k hk; omega) (fun k hk => by have := hS k hk; omega)
    go_wp2_with fail
    exact bodyPost_ret (v := .tuple #[.agg #[.int .i64 a, .int .i64 b, .slice A n c, .slice S m d], .bool true]) (by simp only [results, Try.results75]; go_simp) rfl ⟨a, b, A, n, c, gl, S, m, d, ol, rfl, hbd, hfin _ _ _ _, (((hW.setCell (p := ⟨w.heap.size, 0, none⟩) (Nat.le_refl _) _).setCell (p := ⟨w.heap.size, 1, none⟩) (Nat.le_refl _) _).setCell (p := ⟨w.heap.size, 2, none⟩) (Nat.le_refl _) _).setCell (p := ⟨w.heap.size, 3, none⟩) (Nat.le_refl _) _, fun k hk => by have := hA k hk; omega, fun k hk => by have := hS k hk; omega⟩
  · have h6' : (k == 6) = false := by simpa using h6
    go_enter Try.func75, Try.ntmps75
    go_wp2_with fail
    refine (gd_width wd hwd _).mono ?_
    rintro e w1 ⟨rfl, rfl⟩
    go_wp2_with fail
    refine (spec_l1In _ _ _ _).mono ?_
    rintro e w1 ⟨rfl, rfl⟩
    rw [hin]
    go_wp2_with fail
    refine (spec_gdMake _ hk wd hwd _).mono ?_
    rintro e w2 ⟨a, b, A, n, c, gl, S, m, d, ol, rfl, hbd, hC, hb2, hA, hS⟩
    rw [hs0] at hA hS
    replace hR := hR.keep hb2
    replace hW := hW.call hb2
    have hR_l := hR.lt; have hR_f := hR.frozen; have hR_0 := hR.cell 0 _ rfl; have hR_1 := hR.cell 1 _ rfl; have hR_2 := hR.cell 2 _ rfl; have hR_3 := hR.cell 3 _ rfl
    have hfin := hC.set4 (r := w.heap.size) (fun k hk => by have := hA k hk; omega) (fun k hk => by have := hS k hk; omega)
    go_wp2_with fail
    exact bodyPost_ret (v := .tuple #[.agg #[.int .i64 a, .int .i64 b, .slice A n c, .slice S m d], .bool true]) (by simp only [results, Try.results75]; go_simp) rfl ⟨a, b, A, n, c, gl, S, m, d, ol, rfl, hbd, hfin _ _ _ _, (((hW.setCell (p := ⟨w.heap.size, 0, none⟩) (Nat.le_refl _) _).setCell (p := ⟨w.heap.size, 1, none⟩) (Nat.le_refl _) _).setCell (p := ⟨w.heap.size, 2, none⟩) (Nat.le_refl _) _).setCell (p := ⟨w.heap.size, 3, none⟩) (Nat.le_refl _) _, fun k hk => by have := hA k hk; omega, fun k hk => by have := hS k hk; omega⟩
set_option maxHeartbeats 2000000 in
theorem spec_DrawLiveCounts (w : World) (Ac : Option Addr) (nc cc : Nat) (lc : List Int) (h : RdB w Ac nc cc lc) : Calls Try.prog 32 #[.slice Ac nc cc] w (DrcP w) := by
  have hR := Blk.new w 26 #[.int .i64 0, .int .i64 0, .slice none 0 0, .slice none 0 0] (g := w.heap.size)
  have hs0 : (w.alloc (.cells #[.int .i64 0, .int .i64 0, .slice none 0 0, .slice none 0 0] 26)).heap.size = w.heap.size + 1 := by simp
  have hW := ((Bl.refl w).alloc (.cells #[.int .i64 0, .int .i64 0, .slice none 0 0, .slice none 0 0] 26))
  have h0 := h.keep hW
  clear h
  go_enter Try.func32, Try.ntmps32
  go_wp2_with fail
  refine (spec_DrawLastUses _ Ac nc cc lc h0).mono ?_
  rintro e w2 ⟨a, b, A, n, c, gl, B, m, d, ol, rfl, hbd, hO, hb2⟩
  rw [hs0] at hO
  replace hR := hR.keep hb2
  replace hW := hW.call hb2
  have hl : w.heap.size < w.heap.size + 1 := by omega
  clear h0 hb2 hs0
  have hR_l := hR.lt; have hR_f := hR.frozen; have hR_0 := hR.cell 0 _ rfl; have hR_1 := hR.cell 1 _ rfl; have hR_2 := hR.cell 2 _ rfl; have hR_3 := hR.cell 3 _ rfl
  go_wp2_with fail
  refine bodyPost_ret (v := .agg #[.int .i64 a, .int .i64 b, .slice A n c, .slice B m d]) (by simp only [results, Try.results32]; go_simp) rfl (drcP hbd (OwnC.mono ((((hO.low hl _).low hl _).low hl _).low hl _) (by omega)) ((((hW.setCell (p := ⟨w.heap.size, 0, none⟩) (Nat.le_refl _) _).setCell (p := ⟨w.heap.size, 1, none⟩) (Nat.le_refl _) _).setCell (p := ⟨w.heap.size, 2, none⟩) (Nat.le_refl _) _).setCell (p := ⟨w.heap.size, 3, none⟩) (Nat.le_refl _) _))
set_option maxRecDepth 20000 in
set_option maxHeartbeats 4000000 in
theorem spec_DrawRowChunks (w : World) (Ac : Option Addr) (nc cc : Nat) (lc : List Int) (h : RdB w Ac nc cc lc) : Calls Try.prog 24 #[.slice Ac nc cc] w (DrwP w) := by
  have hR := Blk.new w 26 #[.int .i64 0, .int .i64 0, .slice none 0 0, .slice none 0 0] (g := w.heap.size)
  have hs0 : (w.alloc (.cells #[.int .i64 0, .int .i64 0, .slice none 0 0, .slice none 0 0] 26)).heap.size = w.heap.size + 1 := by simp
  have hC := Cur.new (w.alloc (.cells #[.int .i64 0, .int .i64 0, .slice none 0 0, .slice none 0 0] 26)) (h.keep ((Bl.refl w).alloc _)) (g := w.heap.size + 1)
  replace hR := hR.alloc (.cells #[.slice Ac nc cc, .int .i64 0, .int .u64 0] 71)
  have hW := ((Bl.refl w).alloc (.cells #[.int .i64 0, .int .i64 0, .slice none 0 0, .slice none 0 0] 26)).alloc (.cells #[.slice Ac nc cc, .int .i64 0, .int .u64 0] 71)
  have hs1 : ((w.alloc (.cells #[.int .i64 0, .int .i64 0, .slice none 0 0, .slice none 0 0] 26)).alloc (.cells #[.slice Ac nc cc, .int .i64 0, .int .u64 0] 71)).heap.size = w.heap.size + 2 := by simp
  clear h
  go_enter Try.func24, Try.ntmps24
  go_wp2_with fail
  refine (cur_anyCircuit _ _ _ hC (by omega)).mono ?_
  rintro e w2 ⟨a, b, A, n, c, gl, B, m, d, ol, rfl, ha, hb, hn, hm, hO, hC2, hG⟩
  rw [hs1] at hO
  have hs2 : w.heap.size + 2 ≤ w2.heap.size := by have := hG.size; omega
  have hN : Rn w (w2.alloc (.cells #[.int .i64 a, .int .i64 b, .slice A n c, .slice B m d] 26)) (w.heap.size + 1) (0 + 300) w2.heap.size a b A n c gl B m d ol :=
    ⟨Blk.new w2 _ _, hO.rd.keep ((Bl.refl w2).alloc _), hC2.keep ((Bl.refl w2).alloc _), (hR.grown hG (by intro e; injection e with e; omega)).alloc _, (hW.grown hG (by intro k hk; injection hk with hk; omega)).alloc _,
      fun k hk => by have := hO.1.blk k hk; omega, fun k hk => by have := hO.2.1.blk k hk; omega, hs2, rfl⟩
  have hxl : w2.heap.size < (w2.alloc (.cells #[.int .i64 a, .int .i64 b, .slice A n c, .slice B m d] 26)).heap.size := by simp
  clear hC2 hO hR hW hG hC hs0 hs1 hs2
  have hX := hN.blk
  have hX_l := hX.lt; have hX_f := hX.frozen; have hX_0 := hX.cell 0 _ rfl; have hX_1 := hX.cell 1 _ rfl; have hX_2 := hX.cell 2 _ rfl; have hX_3 := hX.cell 3 _ rfl
  go_wp2_with fail
  (try clear hX_l hX_f hX_0 hX_1 hX_2 hX_3)
  clear hX
  generalize w2.alloc (.cells #[.int .i64 a, .int .i64 b, .slice A n c, .slice B m d] 26) = w3 at hN hxl ⊢
  generalize w2.heap.size = x at hN hxl ⊢
  obtain ⟨g, hg⟩ : ∃ g, w.heap.size + 1 = g := ⟨_, rfl⟩
  rw [hg] at hN ⊢
  clear hg
  refine (cur_one _ g _ hN.cur (by omega) 3 (by omega)).mono ?_
  rintro e w6 ⟨s, rfl, hC6, hG6⟩
  replace hN := hN.moved hG6 hC6
  replace hxl : x < w6.heap.size := Nat.lt_of_lt_of_le hxl hG6.size
  clear hC6 hG6
  obtain ⟨kk, hkk⟩ : ∃ kk, 0 + 300 + 2 = kk := ⟨_, rfl⟩
  rw [hkk] at hN
  have hkb : kk ≤ 302 := by omega
  clear hkk
  cases s
  · have hX := hN.blk
    have hX_l := hX.lt; have hX_f := hX.frozen; have hX_0 := hX.cell 0 _ rfl; have hX_1 := hX.cell 1 _ rfl; have hX_2 := hX.cell 2 _ rfl; have hX_3 := hX.cell 3 _ rfl
    go_wp2_with fail
    refine region_F (fun _ => True) (fun w' => w'.cell? ⟨x, 0, none⟩ = some (.int .i64 a) ∧ w'.cell? ⟨x, 1, none⟩ = some (.int .i64 b) ∧ w'.cell? ⟨x, 2, none⟩ = some (.slice A n c) ∧ w'.cell? ⟨x, 3, none⟩ = some (.slice B m d)) 4 (by kernel_rfl) ?_ (fun hHeld => ?_)
    · (try dsimp only); have q := hN.blk; exact ⟨trivial, q.cell 0 _ rfl, q.cell 1 _ rfl, q.cell 2 _ rfl, q.cell 3 _ rfl⟩
    refine f_takeC (i := 0) (d := 22) (v := ?_) [0] rfl rfl (by kernel_rfl) (by kernel_rfl) (by kernel_rfl) (by kernel_rfl) (by kernel_rfl) (by kernel_rfl) (fun _ _ _ h => h) (by decide) (Or.inl ⟨by rfl, ?_⟩) hHeld ?_
    rotate_left
    · (intro w hSw; (try dsimp only at hSw); go_simp; (try with_reducible rfl))
    simp only [List.set_cons_zero, List.set_cons_succ]
    refine f_takeC (i := 1) (d := 23) (v := ?_) [3, 1] rfl rfl (by kernel_rfl) (by kernel_rfl) (by kernel_rfl) (by kernel_rfl) (by kernel_rfl) (by kernel_rfl) (fun _ _ _ h => h) (by decide) (Or.inl ⟨by rfl, ?_⟩) hHeld ?_
    rotate_left
    · (intro w hSw; (try dsimp only at hSw); go_simp; (try with_reducible rfl))
    simp only [List.set_cons_zero, List.set_cons_succ]
    refine f_step (i := 2) (by kernel_rfl) rfl (fun K hK => ?_)
    go_simp
    refine hK.out _ _ ?_ (fun hHeld => ?_)
    · (try dsimp only); have q := hN.blk.alloc (.cells #[.int .i64 1, .int .i64 2, .int .i64 3, .int .i64 7, .int .i64 300, .int .i64 301, .int .i64 0] 3); exact ⟨trivial, q.cell 0 _ rfl, q.cell 1 _ rfl, q.cell 2 _ rfl, q.cell 3 _ rfl⟩
    clear hK K
    (try simp only [Act.put]); (try simp only [List.setIfInBounds_toArray]); (try simp only [List.set_cons_succ]); (try simp only [List.set_cons_zero])
    refine f_step (i := 3) (by kernel_rfl) rfl (fun K hK => ?_)
    go_simp
    go_at_call 77; refine (cur_among_v _ g _ (hN.cur.keep (Bl.refl _).drew) (by omega) #[.int .i64 1, .int .i64 2, .int .i64 3, .int .i64 7, .int .i64 300, .int .i64 301, .int .i64 0] 3 rfl 7 rfl (by simp) rfl).mono ?_; rintro e v3 ⟨v, rfl, hv, hC3, hG3⟩; have hvb := seven_bd hv; clear hv; have hN3 := (hN.keep (Bl.refl _).drew).moved hG3 hC3; have hR := hN3.res; have hR_l := hR.lt; have hR_f := hR.frozen; have hR_0 := hR.cell 0 _ rfl; have hR_1 := hR.cell 1 _ rfl; have hR_2 := hR.cell 2 _ rfl; have hR_3 := hR.cell 3 _ rfl
    go_wp2_with fail
    refine hK.out _ _ ?_ (fun hHeld => ?_)
    · (try dsimp only); have q := hN3.blk; exact ⟨trivial, q.cell 0 _ rfl, q.cell 1 _ rfl, q.cell 2 _ rfl, q.cell 3 _ rfl⟩
    clear hK K
    (try simp only [Act.put]); (try simp only [List.setIfInBounds_toArray]); (try simp only [List.set_cons_succ]); (try simp only [List.set_cons_zero])
    refine f_last (i := 4) (by kernel_rfl) rfl (by simp) (fun K hK => ?_)
    go_simp
    refine hK.out _ _ ?_ (fun hHeld => ?_)
    · exact trivial
    clear hK K
    (try simp only [Act.put]); (try simp only [List.setIfInBounds_toArray]); (try simp only [List.set_cons_succ]); (try simp only [List.set_cons_zero])
    refine f_takeS (i := 5) (d := 3) (v := ?_) rfl rfl (by kernel_rfl) (by kernel_rfl) (by kernel_rfl) (by kernel_rfl) (fun _ _ _ h => h) (by decide) (Or.inl ⟨by rfl, ?_⟩) hHeld (fun h => by simp at h) ?_
    rotate_left
    · (intro w hSw; (try dsimp only at hSw); go_simp; (try with_reducible rfl))
    simp only [List.set_cons_zero, List.set_cons_succ]
    refine f_done (by kernel_rfl) ?_ _
    go_wp2_with fail
    refine bodyPost_ret (v := .tuple #[.agg #[.int .i64 a, .int .i64 b, .slice A n c, .slice B m d], .int .i64 v]) (by simp only [results, Try.results24]; go_simp) rfl (hN3.fin v hvb _ _ _ _)
  · go_wp2_with fail
    refine (cur_pick _ g _ hN.cur (by omega) 7 (by omega)).mono ?_
    rintro e w7 ⟨p, rfl, p0, p1, hC7, hG7⟩
    replace hN := hN.moved hG7 hC7
    replace hxl : x < w7.heap.size := Nat.lt_of_lt_of_le hxl hG7.size
    clear hC7 hG7
    go_wp2_with fail
    refine (cur_pick _ g _ hN.cur (by omega) 5 (by omega)).mono ?_
    rintro e w8 ⟨q, rfl, q0, q1, hC8, hG8⟩
    replace hN := hN.moved hG8 hC8
    replace hxl : x < w8.heap.size := Nat.lt_of_lt_of_le hxl hG8.size
    clear hC8 hG8
    obtain ⟨wd, hwd⟩ : ∃ wd : Nat, 1 + q = (wd : Int) := ⟨(1 + q).toNat, by omega⟩
    have hwb : 1 ≤ wd ∧ wd ≤ 5 := by omega
    have hwr : IntKind.i64.wrap (1 + q) = (wd : Int) := by rw [IntWalk.i64_in _ (by omega)]; omega
    go_wp2_with fail
    try rw [hwd]
    clear hwr
    refine (spec_gdKind p (by omega) wd hwb _).mono ?_
    rintro e w9 ⟨a', b', A', n', c', gl', B', m', d', ol', rfl, hbd, hC9, hb9, hA9, hB9⟩
    have hlo := hN.lo
    have hM := (hN.keep hb9).put (a' := a') (b' := b') hC9 (fun k hk => by have := hA9 k hk; have := hN.bl.sz; omega) (fun k hk => by have := hB9 k hk; omega)
    have hX := (hN.keep hb9).blk
    have hX_l := hX.lt; have hX_f := hX.frozen; have hX_0 := hX.cell 0 _ rfl; have hX_1 := hX.cell 1 _ rfl; have hX_2 := hX.cell 2 _ rfl; have hX_3 := hX.cell 3 _ rfl
    go_wp2_with fail
    clear hX hX_l hX_f hX_0 hX_1 hX_2 hX_3
    clear hN hC9 hA9 hB9 hbd hwd q0 q1
    have hN := hM
    clear hM
    generalize ((((w9.setCell ⟨x, 0, none⟩ (.int .i64 a')).setCell ⟨x, 1, none⟩ (.int .i64 b')).setCell ⟨x, 2, none⟩ (.slice A' n' c')).setCell ⟨x, 3, none⟩ (.slice B' m' d')) = w10 at hN ⊢
    have hX := hN.blk
    have hX_l := hX.lt; have hX_f := hX.frozen; have hX_0 := hX.cell 0 _ rfl; have hX_1 := hX.cell 1 _ rfl; have hX_2 := hX.cell 2 _ rfl; have hX_3 := hX.cell 3 _ rfl
    go_wp2_with fail
    refine region_F (fun _ => True) (fun w' => w'.cell? ⟨x, 0, none⟩ = some (.int .i64 a') ∧ w'.cell? ⟨x, 1, none⟩ = some (.int .i64 b') ∧ w'.cell? ⟨x, 2, none⟩ = some (.slice A' n' c') ∧ w'.cell? ⟨x, 3, none⟩ = some (.slice B' m' d')) 4 (by kernel_rfl) ?_ (fun hHeld => ?_)
    · (try dsimp only); have q := hN.blk; exact ⟨trivial, q.cell 0 _ rfl, q.cell 1 _ rfl, q.cell 2 _ rfl, q.cell 3 _ rfl⟩
    refine f_takeC (i := 0) (d := 22) (v := ?_) [0] rfl rfl (by kernel_rfl) (by kernel_rfl) (by kernel_rfl) (by kernel_rfl) (by kernel_rfl) (by kernel_rfl) (fun _ _ _ h => h) (by decide) (Or.inl ⟨by rfl, ?_⟩) hHeld ?_
    rotate_left
    · (intro w hSw; (try dsimp only at hSw); go_simp; (try with_reducible rfl))
    simp only [List.set_cons_zero, List.set_cons_succ]
    refine f_takeC (i := 1) (d := 23) (v := ?_) [3, 1] rfl rfl (by kernel_rfl) (by kernel_rfl) (by kernel_rfl) (by kernel_rfl) (by kernel_rfl) (by kernel_rfl) (fun _ _ _ h => h) (by decide) (Or.inl ⟨by rfl, ?_⟩) hHeld ?_
    rotate_left
    · (intro w hSw; (try dsimp only at hSw); go_simp; (try with_reducible rfl))
    simp only [List.set_cons_zero, List.set_cons_succ]
    refine f_step (i := 2) (by kernel_rfl) rfl (fun K hK => ?_)
    go_simp
    refine hK.out _ _ ?_ (fun hHeld => ?_)
    · (try dsimp only); have q := hN.blk.alloc (.cells #[.int .i64 1, .int .i64 2, .int .i64 3, .int .i64 7, .int .i64 300, .int .i64 301, .int .i64 0] 3); exact ⟨trivial, q.cell 0 _ rfl, q.cell 1 _ rfl, q.cell 2 _ rfl, q.cell 3 _ rfl⟩
    clear hK K
    (try simp only [Act.put]); (try simp only [List.setIfInBounds_toArray]); (try simp only [List.set_cons_succ]); (try simp only [List.set_cons_zero])
    refine f_step (i := 3) (by kernel_rfl) rfl (fun K hK => ?_)
    go_simp
    go_at_call 77; refine (cur_among_v _ g _ (hN.cur.keep (Bl.refl _).drew) (by omega) #[.int .i64 1, .int .i64 2, .int .i64 3, .int .i64 7, .int .i64 300, .int .i64 301, .int .i64 0] 3 rfl 7 rfl (by simp) rfl).mono ?_; rintro e v3 ⟨v, rfl, hv, hC3, hG3⟩; have hvb := seven_bd hv; clear hv; have hN3 := (hN.keep (Bl.refl _).drew).moved hG3 hC3; have hR := hN3.res; have hR_l := hR.lt; have hR_f := hR.frozen; have hR_0 := hR.cell 0 _ rfl; have hR_1 := hR.cell 1 _ rfl; have hR_2 := hR.cell 2 _ rfl; have hR_3 := hR.cell 3 _ rfl
    go_wp2_with fail
    refine hK.out _ _ ?_ (fun hHeld => ?_)
    · (try dsimp only); have q := hN3.blk; exact ⟨trivial, q.cell 0 _ rfl, q.cell 1 _ rfl, q.cell 2 _ rfl, q.cell 3 _ rfl⟩
    clear hK K
    (try simp only [Act.put]); (try simp only [List.setIfInBounds_toArray]); (try simp only [List.set_cons_succ]); (try simp only [List.set_cons_zero])
    refine f_last (i := 4) (by kernel_rfl) rfl (by simp) (fun K hK => ?_)
    go_simp
    refine hK.out _ _ ?_ (fun hHeld => ?_)
    · exact trivial
    clear hK K
    (try simp only [Act.put]); (try simp only [List.setIfInBounds_toArray]); (try simp only [List.set_cons_succ]); (try simp only [List.set_cons_zero])
    refine f_takeS (i := 5) (d := 3) (v := ?_) rfl rfl (by kernel_rfl) (by kernel_rfl) (by kernel_rfl) (by kernel_rfl) (fun _ _ _ h => h) (by decide) (Or.inl ⟨by rfl, ?_⟩) hHeld (fun h => by simp at h) ?_
    rotate_left
    · (intro w hSw; (try dsimp only at hSw); go_simp; (try with_reducible rfl))
    simp only [List.set_cons_zero, List.set_cons_succ]
    refine f_done (by kernel_rfl) ?_ _
    go_wp2_with fail
    refine bodyPost_ret (v := .tuple #[.agg #[.int .i64 a', .int .i64 b', .slice A' n' c', .slice B' m' d'], .int .i64 v]) (by simp only [results, Try.results24]; go_simp) rfl (hN3.fin v hvb _ _ _ _)
end Go.Proofs.Ytlmlffiajgofeaa
