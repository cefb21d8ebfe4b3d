/- Contracts of the draws of primes, elements of a field, parties, and what the views are given.
   Conditions: the cursor lies in a block of its own; the bytes are bytes. -/
import Derived.Test.YtlmlffiajgofeaaCur
import Derived.Laws.CopyOwn
namespace Go.Proofs.Ytlmlffiajgofeaa
open Go.RowKit
set_option linter.unusedVariables false
def isIv (u : Value) : Bool := match u with
  | .int .i64 _ => true
  | _ => false
theorem ints_of_isIv (cs : List Value) (h : cs.all isIv = true) : ∃ l, cs = ints l := by
  induction cs with
  | nil => exact ⟨[], rfl⟩
  | cons u cs ih =>
    rw [List.all_cons, Bool.and_eq_true] at h
    obtain ⟨l, rfl⟩ := ih h.2
    have h1 := h.1
    unfold isIv at h1
    split at h1
    · rename_i z
      exact ⟨z :: l, rfl⟩
    · cases h1
theorem mem_ints {l : List Int} {x : Int} (h : x ∈ l) : Value.int .i64 x ∈ ints l := by
  unfold ints
  exact List.mem_map.2 ⟨x, h, rfl⟩
theorem cur_among_v (w : World) (g k : Nat) (h : Cur w g k) (hk : k < 900000000) (cs : Array Value) (t : TypeId) (hcs : cs.toList.all isIv = true) (n : Nat) (hn : n = cs.size) (h1 : 1 ≤ cs.size ∧ cs.size ≤ 60000) {b : Nat} (hb : w.heap.size = b) :
    Calls Try.prog 77 #[.pointer (some ⟨g, 0, none⟩), .slice (some ⟨b, 0, none⟩) n n] (w.alloc (.cells cs t)) fun e w' => ∃ x, e = .returned (.int .i64 x) ∧ Value.int .i64 x ∈ cs.toList ∧ Cur w' g (k + 2) ∧ w.grownBy w' (some g) := by
  subst hn
  obtain ⟨l, hl⟩ := ints_of_isIv _ hcs
  have hr : RdI (w.alloc (.cells cs t)) (some ⟨b, 0, none⟩) cs.size cs.size l := by
    have := rd_new w cs t (by simp [maxLen]; omega) hb
    rw [hl] at this
    exact this
  have hlt := h.lt
  refine (cur_among _ g k (h.keep ((Bl.refl w).alloc _)) hk _ _ _ l hr (by omega) (fun _ a ha => by injection ha with ha; subst ha; dsimp only; omega)).mono ?_
  rintro e w' ⟨x, rfl, hx, hC, hG⟩
  exact ⟨x, rfl, by rw [hl]; exact mem_ints hx, hC, Lib.grownBy_trans (World.grownBy_alloc w _ _) hG⟩
theorem Rd.keptV {w w' : World} {size n c : Nat} {A : Option Addr} {xs : List Value} {row : Option Nat} (h : Rd w size A n c xs) (hg : w.grownBy w' row) (hne : 0 < n → ∀ a, A = some a → some a.block ≠ row) : Rd w' size A n c xs :=
  ⟨h.len, h.cap, h.max, fun hn => by
    obtain ⟨ad, e, hl, hc⟩ := h.at0 hn
    refine ⟨ad, e, Nat.lt_of_lt_of_le hl hg.size, fun j u hu => ?_⟩
    have hb := hg.block _ hl (hne hn ad e)
    rw [World.cell?_of_block (w := w) (w' := w') (a := ad.add j) (by rw [block_of_add]; exact hb)]
    exact hc j u hu⟩
theorem Cur.grownV {w w' : World} {g k : Nat} {row : Option Nat} (h : Cur w g k) (hg : w.grownBy w' row) (hr : ∀ b, row = some b → g < b) : Cur w' g k := by
  obtain ⟨A, n, c, l, i, s, h1, h2, h3⟩ := h
  refine ⟨A, n, c, l, i, s, ⟨h1.blk.grown hg (by intro e; have := hr g e.symm; omega), ⟨h1.rd.1.keptV hg (fun hn a ha e => ?_), h1.rd.2⟩, h1.far⟩, h2, h3⟩
  have h4 := h1.far hn a ha
  have h5 := hr _ e.symm
  omega
theorem grown_overV {w w' w2 : World} {row row2 : Option Nat} (h : w.grownBy w' row) (hg : w'.grownBy w2 row2) (hr : ∀ b, row2 = some b → w.heap.size ≤ b) : w.grownBy w2 row := by
  refine ⟨hg.os.trans h.os, hg.tape.trans h.tape, hg.output.trans h.output, Nat.le_trans h.size hg.size, fun k hk hr2 => ?_⟩
  rw [hg.block k (Nat.lt_of_lt_of_le hk h.size) (by intro e; have := hr k e.symm; omega)]
  exact h.block k hk hr2
theorem OwnI.grownC {base n c g : Nat} {w w' : World} {A : Option Addr} {l : List Int} (h : OwnI base w A n c l) (hg : w.grownBy w' (some g)) (hb : g < base) : OwnI base w' A n c l :=
  World.ownsRow.kept (row := some g) h hg (by
    rw [ownBlock_slice]
    rcases hA : A.map (·.block) with _ | k
    · exact .inl hA
    · have := (h.blk k hA).1
      exact .inr (by intro e; rw [hA] at e; injection e with e; omega))
theorem results_tmpV4 {fn : Func} {t u v x : Tmp} (h : fn.results = #[.tmp t, .tmp u, .tmp v, .tmp x]) (tmps : Array Value) (P : Program) (w : World) :
    (results fn tmps).run P w = .ok (.tuple #[tmps.getD t undef, tmps.getD u undef, tmps.getD v undef, tmps.getD x undef]) w := by
  simp [results, h]
theorem results_tmpV5 {fn : Func} {t u v x y : Tmp} (h : fn.results = #[.tmp t, .tmp u, .tmp v, .tmp x, .tmp y]) (tmps : Array Value) (P : Program) (w : World) :
    (results fn tmps).run P w = .ok (.tuple #[tmps.getD t undef, tmps.getD u undef, tmps.getD v undef, tmps.getD x undef, tmps.getD y undef]) w := by
  simp [results, h]
theorem spec_l1MostV (a b : Int) (w : World) : Calls Try.prog 59 #[.int .i64 a, .int .i64 b] w fun e w' => e = .returned (.int .i64 (max a b)) ∧ w = w' := by
  by_cases h : b < a
  · have hm := Lib.hid (show max a b = a by omega)
    go_enter Try.func59, Try.ntmps59
    go_wp2
    go_ret
    exact ⟨by rw [hm.out]; rfl, rfl⟩
  · have hm := Lib.hid (show max a b = b by omega)
    go_enter Try.func59, Try.ntmps59
    go_wp2
    go_ret
    exact ⟨by rw [hm.out]; rfl, rfl⟩
end Go.Proofs.Ytlmlffiajgofeaa
