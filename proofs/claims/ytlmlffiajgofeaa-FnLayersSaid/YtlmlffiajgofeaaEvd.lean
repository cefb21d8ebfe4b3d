/- Contracts of what EvalInCells asks of its inputs, and of its small lists.
   Conditions: none beyond the sizes. -/
import Derived.Test.YtlmlffiajgofeaaCig
import Derived.Test.YtlmlffiajgofeaaAlb
import Derived.Test.YtlmlffiajgofeaaFld
import Derived.Test.YtlmlffiajgofeaaCil
import Derived.Test.YtlmlffiajgofeaaDig
namespace Go.Proofs.Ytlmlffiajgofeaa
open Go.RowKit
set_option linter.unusedVariables false
def bitsB (l : List Int) (q : Int) : Bool := decide ((l.length : Int) ≤ q) && allR l 0 1
theorem spec_btGood (A : Option Addr) (n c : Nat) (l : List Int) (q : Int) (w : World) (h : RdI w A n c l) :
    Calls Try.prog 123 #[.slice A n c, .int .i64 q] w fun e w' => e = .returned (.bool (bitsB l q)) ∧ w = w' := by
  obtain ⟨hle1, hle2⟩ := h.le
  have hl := h.length
  by_cases hq : (n : Int) ≤ q
  · have hR := Lib.hid (show bitsB l q = allR l 0 1 by unfold bitsB; rw [hl, decide_eq_true hq]; rfl)
    go_enter Try.func123, Try.ntmps123
    go_wp2_with (go_at_call 103; refine (spec_l1All A n c l 0 1 _ h).mono ?_; rintro e w' ⟨rfl, rfl⟩)
    go_ret
    exact ⟨by rw [hR.out]; rfl, rfl⟩
  · have hR := Lib.hid (show bitsB l q = false by unfold bitsB; rw [hl, decide_eq_false hq]; rfl)
    go_enter Try.func123, Try.ntmps123
    go_wp2
    go_ret
    exact ⟨by rw [hR.out]; rfl, rfl⟩
theorem enters_isBit : Enters 129 := fun _ _ => by kernel_rfl
theorem impl_AreBits (A : Option Addr) (n c : Nat) (l : List Int) (w : World) (h : RdI w A n c l) :
    Calls Try.prog 105 #[.slice A n c] w fun e w' => e = .returned (.bool (bitsB l 64)) ∧ Bl w w' := by
  obtain ⟨hle1, hle2⟩ := h.le
  have hl := h.length
  by_cases hq : (n : Int) ≤ 64
  · have hR := Lib.hid (show bitsB l 64 = allF (fun x => inR x 0 1) l by unfold bitsB; rw [hl, decide_eq_true hq]; rfl)
    go_enter Try.func105, Try.ntmps105
    go_wp2_with (go_at_call 99; refine (impl_areAllb A n c l 129 #[] (fun x => inR x 0 1) _ enters_isBit (fun x W' _ => (impl_isBit x W').mono fun e w' ⟨h1, h2⟩ => ⟨h1, h2 ▸ Bl.refl _⟩) h).mono ?_; rintro e w2 ⟨rfl, hb2⟩)
    go_ret
    exact ⟨by rw [hR.out]; rfl, hb2⟩
  · have hR := Lib.hid (show bitsB l 64 = false by unfold bitsB; rw [hl, decide_eq_false hq]; rfl)
    go_enter Try.func105, Try.ntmps105
    go_wp2
    go_ret
    exact ⟨by rw [hR.out]; rfl, Bl.refl _⟩
def askB (a b : Int) (gl : List Gt) (ol la lb : List Int) : Bool := goodC a b gl ol && allR la 0 1 && allR lb 0 1 && decide ((la.length : Int) = a) && decide ((lb.length : Int) = b)
set_option maxHeartbeats 4000000 in
theorem impl_areInputs (a b : Int) (Ag Ao : Option Addr) (n cg m co : Nat) (gl : List Gt) (ol : List Int) (Aa Ab : Option Addr) (na ca nb cb : Nat) (la lb : List Int) (w : World) (hg : RdG w Ag n cg gl) (ho : RdI w Ao m co ol) (ha : RdI w Aa na ca la) (hb : RdI w Ab nb cb lb) :
    Calls Try.prog 61 #[.agg #[.int .i64 a, .int .i64 b, .slice Ag n cg, .slice Ao m co], .slice Aa na ca, .slice Ab nb cb] w fun e w' => e = .returned (.bool (askB a b gl ol la lb)) ∧ Bl w w' := by
  have hW := (Bl.refl w).alloc (.cells #[.int .i64 a, .int .i64 b, .slice Ag n cg, .slice Ao m co] 26)
  have hB := Blk.new w 26 #[.int .i64 a, .int .i64 b, .slice Ag n cg, .slice Ao m co]
  have hG := Lib.hid (impl_IsCircuit a b Ag Ao n cg m co gl ol (w.alloc (.cells #[.int .i64 a, .int .i64 b, .slice Ag n cg, .slice Ao m co] 26)) (hg.keep hW) (ho.keep hW))
  have hna := ha.length
  have hnb := hb.length
  obtain ⟨hle1, hle2⟩ := ha.le
  obtain ⟨hle3, hle4⟩ := hb.le
  have t1 := True.intro
  have t2 := True.intro
  obtain ⟨X, hX⟩ : ∃ X, bitsB la 64 = X := ⟨_, rfl⟩
  obtain ⟨Y, hY⟩ : ∃ Y, bitsB lb 64 = Y := ⟨_, rfl⟩
  have Hla := Lib.hid hX
  have Hlb := Lib.hid hY
  have hfin : askB a b gl ol la lb = (goodC a b gl ol && X && Y && decide ((na : Int) = a) && decide ((nb : Int) = b)) := by
    rw [← hX, ← hY]
    unfold askB bitsB
    rw [hna, hnb]
    rcases hgd : goodC a b gl ol
    · rfl
    · have hf := goodC_facts hgd
      by_cases ea : (na : Int) = a
      · by_cases eb : (nb : Int) = b
        · rw [decide_eq_true (show (na : Int) ≤ 64 by omega), decide_eq_true (show (nb : Int) ≤ 64 by omega)]; simp
        · rw [decide_eq_false eb]; simp
      · rw [decide_eq_false ea]; simp
  have HF := Lib.hid hfin
  clear hfin hX hY
  generalize goodC a b gl ol = Gd at *
  cases Gd
  · go_enter Try.func61, Try.ntmps61
    go_wp2_with (go_at_call 50; refine hG.out.mono ?_; rintro e w1 ⟨rfl, hb1⟩; replace hW := hW.call hb1)
    go_ret
    exact ⟨by rw [HF.out]; rfl, hW⟩
  · cases X
    · go_enter Try.func61, Try.ntmps61
      go_wp2_with (first | (go_at_call 50; refine hG.out.mono ?_; rintro e w1 ⟨rfl, hb1⟩; replace hB := hB.keep hb1; replace hW := hW.call hb1; clear hb1; have hB_l := hB.lt; have hB_0 := hB.cell 0 _ rfl; have hB_1 := hB.cell 1 _ rfl; have hB_2 := hB.cell 2 _ rfl; have hB_3 := hB.cell 3 _ rfl) | (have tk := t1; clear tk t1; go_at_call 105; refine (impl_AreBits _ _ _ la _ ?_).mono ?_; (· (refine RdI.keep ha ?_; (· ((repeat (first | assumption | with_reducible exact Bl.refl _ | with_reducible refine Bl.drewN ?_ _ | with_reducible refine Bl.drew ?_ | with_reducible refine Bl.alloc ?_ _ | (with_reducible refine Bl.call ?_ (by assumption)))); done)))); rintro e w2 ⟨rfl, hb2⟩; rw [show bitsB la 64 = _ from Hla.out]; replace hB : Blk w2 w.heap.size 26 #[.int .i64 a, .int .i64 b, .slice Ag n cg, .slice Ao m co] := hB.keep (by (repeat (first | assumption | with_reducible exact Bl.refl _ | with_reducible refine Bl.drewN ?_ _ | with_reducible refine Bl.drew ?_ | with_reducible refine Bl.alloc ?_ _ | (with_reducible refine Bl.call ?_ (by assumption))))); replace hW : Bl w w2 := (by (repeat (first | assumption | with_reducible exact Bl.refl _ | with_reducible refine Bl.drewN ?_ _ | with_reducible refine Bl.drew ?_ | with_reducible refine Bl.alloc ?_ _ | (with_reducible refine Bl.call ?_ (by assumption))))); clear hb2 hB_l hB_0 hB_1 hB_2 hB_3; have hB_l := hB.lt; have hB_0 := hB.cell 0 _ rfl; have hB_1 := hB.cell 1 _ rfl; have hB_2 := hB.cell 2 _ rfl; have hB_3 := hB.cell 3 _ rfl))
      go_ret
      exact ⟨by rw [HF.out]; rfl, hW⟩
    · cases Y
      · go_enter Try.func61, Try.ntmps61
        go_wp2_with (first | (go_at_call 50; refine hG.out.mono ?_; rintro e w1 ⟨rfl, hb1⟩; replace hB := hB.keep hb1; replace hW := hW.call hb1; clear hb1; have hB_l := hB.lt; have hB_0 := hB.cell 0 _ rfl; have hB_1 := hB.cell 1 _ rfl; have hB_2 := hB.cell 2 _ rfl; have hB_3 := hB.cell 3 _ rfl) | (have tk := t1; clear tk t1; go_at_call 105; refine (impl_AreBits _ _ _ la _ ?_).mono ?_; (· (refine RdI.keep ha ?_; (· ((repeat (first | assumption | with_reducible exact Bl.refl _ | with_reducible refine Bl.drewN ?_ _ | with_reducible refine Bl.drew ?_ | with_reducible refine Bl.alloc ?_ _ | (with_reducible refine Bl.call ?_ (by assumption)))); done)))); rintro e w2 ⟨rfl, hb2⟩; rw [show bitsB la 64 = _ from Hla.out]; replace hB : Blk w2 w.heap.size 26 #[.int .i64 a, .int .i64 b, .slice Ag n cg, .slice Ao m co] := hB.keep (by (repeat (first | assumption | with_reducible exact Bl.refl _ | with_reducible refine Bl.drewN ?_ _ | with_reducible refine Bl.drew ?_ | with_reducible refine Bl.alloc ?_ _ | (with_reducible refine Bl.call ?_ (by assumption))))); replace hW : Bl w w2 := (by (repeat (first | assumption | with_reducible exact Bl.refl _ | with_reducible refine Bl.drewN ?_ _ | with_reducible refine Bl.drew ?_ | with_reducible refine Bl.alloc ?_ _ | (with_reducible refine Bl.call ?_ (by assumption))))); clear hb2 hB_l hB_0 hB_1 hB_2 hB_3; have hB_l := hB.lt; have hB_0 := hB.cell 0 _ rfl; have hB_1 := hB.cell 1 _ rfl; have hB_2 := hB.cell 2 _ rfl; have hB_3 := hB.cell 3 _ rfl) | (have tk := t2; clear tk t2; go_at_call 105; refine (impl_AreBits _ _ _ lb _ ?_).mono ?_; (· (refine RdI.keep hb ?_; (· ((repeat (first | assumption | with_reducible exact Bl.refl _ | with_reducible refine Bl.drewN ?_ _ | with_reducible refine Bl.drew ?_ | with_reducible refine Bl.alloc ?_ _ | (with_reducible refine Bl.call ?_ (by assumption)))); done)))); rintro e w2 ⟨rfl, hb2⟩; rw [show bitsB lb 64 = _ from Hlb.out]; replace hB : Blk w2 w.heap.size 26 #[.int .i64 a, .int .i64 b, .slice Ag n cg, .slice Ao m co] := hB.keep (by (repeat (first | assumption | with_reducible exact Bl.refl _ | with_reducible refine Bl.drewN ?_ _ | with_reducible refine Bl.drew ?_ | with_reducible refine Bl.alloc ?_ _ | (with_reducible refine Bl.call ?_ (by assumption))))); replace hW : Bl w w2 := (by (repeat (first | assumption | with_reducible exact Bl.refl _ | with_reducible refine Bl.drewN ?_ _ | with_reducible refine Bl.drew ?_ | with_reducible refine Bl.alloc ?_ _ | (with_reducible refine Bl.call ?_ (by assumption))))); clear hb2 hB_l hB_0 hB_1 hB_2 hB_3; have hB_l := hB.lt; have hB_0 := hB.cell 0 _ rfl; have hB_1 := hB.cell 1 _ rfl; have hB_2 := hB.cell 2 _ rfl; have hB_3 := hB.cell 3 _ rfl))
        go_ret
        exact ⟨by rw [HF.out]; rfl, hW⟩
      · rcases ea : decide ((na : Int) = a)
        · rw [ea] at HF
          have ea2 : ¬ (na : Int) = a := of_decide_eq_false ea
          go_enter Try.func61, Try.ntmps61
          go_wp2_with (first | (go_at_call 50; refine hG.out.mono ?_; rintro e w1 ⟨rfl, hb1⟩; replace hB := hB.keep hb1; replace hW := hW.call hb1; clear hb1; have hB_l := hB.lt; have hB_0 := hB.cell 0 _ rfl; have hB_1 := hB.cell 1 _ rfl; have hB_2 := hB.cell 2 _ rfl; have hB_3 := hB.cell 3 _ rfl) | (have tk := t1; clear tk t1; go_at_call 105; refine (impl_AreBits _ _ _ la _ ?_).mono ?_; (· (refine RdI.keep ha ?_; (· ((repeat (first | assumption | with_reducible exact Bl.refl _ | with_reducible refine Bl.drewN ?_ _ | with_reducible refine Bl.drew ?_ | with_reducible refine Bl.alloc ?_ _ | (with_reducible refine Bl.call ?_ (by assumption)))); done)))); rintro e w2 ⟨rfl, hb2⟩; rw [show bitsB la 64 = _ from Hla.out]; replace hB : Blk w2 w.heap.size 26 #[.int .i64 a, .int .i64 b, .slice Ag n cg, .slice Ao m co] := hB.keep (by (repeat (first | assumption | with_reducible exact Bl.refl _ | with_reducible refine Bl.drewN ?_ _ | with_reducible refine Bl.drew ?_ | with_reducible refine Bl.alloc ?_ _ | (with_reducible refine Bl.call ?_ (by assumption))))); replace hW : Bl w w2 := (by (repeat (first | assumption | with_reducible exact Bl.refl _ | with_reducible refine Bl.drewN ?_ _ | with_reducible refine Bl.drew ?_ | with_reducible refine Bl.alloc ?_ _ | (with_reducible refine Bl.call ?_ (by assumption))))); clear hb2 hB_l hB_0 hB_1 hB_2 hB_3; have hB_l := hB.lt; have hB_0 := hB.cell 0 _ rfl; have hB_1 := hB.cell 1 _ rfl; have hB_2 := hB.cell 2 _ rfl; have hB_3 := hB.cell 3 _ rfl) | (have tk := t2; clear tk t2; go_at_call 105; refine (impl_AreBits _ _ _ lb _ ?_).mono ?_; (· (refine RdI.keep hb ?_; (· ((repeat (first | assumption | with_reducible exact Bl.refl _ | with_reducible refine Bl.drewN ?_ _ | with_reducible refine Bl.drew ?_ | with_reducible refine Bl.alloc ?_ _ | (with_reducible refine Bl.call ?_ (by assumption)))); done)))); rintro e w2 ⟨rfl, hb2⟩; rw [show bitsB lb 64 = _ from Hlb.out]; replace hB : Blk w2 w.heap.size 26 #[.int .i64 a, .int .i64 b, .slice Ag n cg, .slice Ao m co] := hB.keep (by (repeat (first | assumption | with_reducible exact Bl.refl _ | with_reducible refine Bl.drewN ?_ _ | with_reducible refine Bl.drew ?_ | with_reducible refine Bl.alloc ?_ _ | (with_reducible refine Bl.call ?_ (by assumption))))); replace hW : Bl w w2 := (by (repeat (first | assumption | with_reducible exact Bl.refl _ | with_reducible refine Bl.drewN ?_ _ | with_reducible refine Bl.drew ?_ | with_reducible refine Bl.alloc ?_ _ | (with_reducible refine Bl.call ?_ (by assumption))))); clear hb2 hB_l hB_0 hB_1 hB_2 hB_3; have hB_l := hB.lt; have hB_0 := hB.cell 0 _ rfl; have hB_1 := hB.cell 1 _ rfl; have hB_2 := hB.cell 2 _ rfl; have hB_3 := hB.cell 3 _ rfl))
          go_ret
          exact ⟨by rw [HF.out]; rfl, hW⟩
        · rw [ea] at HF
          have ea2 : (na : Int) = a := of_decide_eq_true ea
          clear ea
          rcases eb : decide ((nb : Int) = b)
          · rw [eb] at HF
            have eb2 : ¬ (nb : Int) = b := of_decide_eq_false eb
            clear eb
            go_enter Try.func61, Try.ntmps61
            go_wp2_with (first | (go_at_call 50; refine hG.out.mono ?_; rintro e w1 ⟨rfl, hb1⟩; replace hB := hB.keep hb1; replace hW := hW.call hb1; clear hb1; have hB_l := hB.lt; have hB_0 := hB.cell 0 _ rfl; have hB_1 := hB.cell 1 _ rfl; have hB_2 := hB.cell 2 _ rfl; have hB_3 := hB.cell 3 _ rfl) | (have tk := t1; clear tk t1; go_at_call 105; refine (impl_AreBits _ _ _ la _ ?_).mono ?_; (· (refine RdI.keep ha ?_; (· ((repeat (first | assumption | with_reducible exact Bl.refl _ | with_reducible refine Bl.drewN ?_ _ | with_reducible refine Bl.drew ?_ | with_reducible refine Bl.alloc ?_ _ | (with_reducible refine Bl.call ?_ (by assumption)))); done)))); rintro e w2 ⟨rfl, hb2⟩; rw [show bitsB la 64 = _ from Hla.out]; replace hB : Blk w2 w.heap.size 26 #[.int .i64 a, .int .i64 b, .slice Ag n cg, .slice Ao m co] := hB.keep (by (repeat (first | assumption | with_reducible exact Bl.refl _ | with_reducible refine Bl.drewN ?_ _ | with_reducible refine Bl.drew ?_ | with_reducible refine Bl.alloc ?_ _ | (with_reducible refine Bl.call ?_ (by assumption))))); replace hW : Bl w w2 := (by (repeat (first | assumption | with_reducible exact Bl.refl _ | with_reducible refine Bl.drewN ?_ _ | with_reducible refine Bl.drew ?_ | with_reducible refine Bl.alloc ?_ _ | (with_reducible refine Bl.call ?_ (by assumption))))); clear hb2 hB_l hB_0 hB_1 hB_2 hB_3; have hB_l := hB.lt; have hB_0 := hB.cell 0 _ rfl; have hB_1 := hB.cell 1 _ rfl; have hB_2 := hB.cell 2 _ rfl; have hB_3 := hB.cell 3 _ rfl) | (have tk := t2; clear tk t2; go_at_call 105; refine (impl_AreBits _ _ _ lb _ ?_).mono ?_; (· (refine RdI.keep hb ?_; (· ((repeat (first | assumption | with_reducible exact Bl.refl _ | with_reducible refine Bl.drewN ?_ _ | with_reducible refine Bl.drew ?_ | with_reducible refine Bl.alloc ?_ _ | (with_reducible refine Bl.call ?_ (by assumption)))); done)))); rintro e w2 ⟨rfl, hb2⟩; rw [show bitsB lb 64 = _ from Hlb.out]; replace hB : Blk w2 w.heap.size 26 #[.int .i64 a, .int .i64 b, .slice Ag n cg, .slice Ao m co] := hB.keep (by (repeat (first | assumption | with_reducible exact Bl.refl _ | with_reducible refine Bl.drewN ?_ _ | with_reducible refine Bl.drew ?_ | with_reducible refine Bl.alloc ?_ _ | (with_reducible refine Bl.call ?_ (by assumption))))); replace hW : Bl w w2 := (by (repeat (first | assumption | with_reducible exact Bl.refl _ | with_reducible refine Bl.drewN ?_ _ | with_reducible refine Bl.drew ?_ | with_reducible refine Bl.alloc ?_ _ | (with_reducible refine Bl.call ?_ (by assumption))))); clear hb2 hB_l hB_0 hB_1 hB_2 hB_3; have hB_l := hB.lt; have hB_0 := hB.cell 0 _ rfl; have hB_1 := hB.cell 1 _ rfl; have hB_2 := hB.cell 2 _ rfl; have hB_3 := hB.cell 3 _ rfl))
            go_ret
            first | exact ⟨ret_bool (show ((nb : Int) == b) = askB a b gl ol la lb by rw [HF.out]; simp [eb2]), hW⟩ | exact ⟨by rw [HF.out]; rfl, hW⟩
          · rw [eb] at HF
            have eb2 : (nb : Int) = b := of_decide_eq_true eb
            clear eb
            go_enter Try.func61, Try.ntmps61
            go_wp2_with (first | (go_at_call 50; refine hG.out.mono ?_; rintro e w1 ⟨rfl, hb1⟩; replace hB := hB.keep hb1; replace hW := hW.call hb1; clear hb1; have hB_l := hB.lt; have hB_0 := hB.cell 0 _ rfl; have hB_1 := hB.cell 1 _ rfl; have hB_2 := hB.cell 2 _ rfl; have hB_3 := hB.cell 3 _ rfl) | (have tk := t1; clear tk t1; go_at_call 105; refine (impl_AreBits _ _ _ la _ ?_).mono ?_; (· (refine RdI.keep ha ?_; (· ((repeat (first | assumption | with_reducible exact Bl.refl _ | with_reducible refine Bl.drewN ?_ _ | with_reducible refine Bl.drew ?_ | with_reducible refine Bl.alloc ?_ _ | (with_reducible refine Bl.call ?_ (by assumption)))); done)))); rintro e w2 ⟨rfl, hb2⟩; rw [show bitsB la 64 = _ from Hla.out]; replace hB : Blk w2 w.heap.size 26 #[.int .i64 a, .int .i64 b, .slice Ag n cg, .slice Ao m co] := hB.keep (by (repeat (first | assumption | with_reducible exact Bl.refl _ | with_reducible refine Bl.drewN ?_ _ | with_reducible refine Bl.drew ?_ | with_reducible refine Bl.alloc ?_ _ | (with_reducible refine Bl.call ?_ (by assumption))))); replace hW : Bl w w2 := (by (repeat (first | assumption | with_reducible exact Bl.refl _ | with_reducible refine Bl.drewN ?_ _ | with_reducible refine Bl.drew ?_ | with_reducible refine Bl.alloc ?_ _ | (with_reducible refine Bl.call ?_ (by assumption))))); clear hb2 hB_l hB_0 hB_1 hB_2 hB_3; have hB_l := hB.lt; have hB_0 := hB.cell 0 _ rfl; have hB_1 := hB.cell 1 _ rfl; have hB_2 := hB.cell 2 _ rfl; have hB_3 := hB.cell 3 _ rfl) | (have tk := t2; clear tk t2; go_at_call 105; refine (impl_AreBits _ _ _ lb _ ?_).mono ?_; (· (refine RdI.keep hb ?_; (· ((repeat (first | assumption | with_reducible exact Bl.refl _ | with_reducible refine Bl.drewN ?_ _ | with_reducible refine Bl.drew ?_ | with_reducible refine Bl.alloc ?_ _ | (with_reducible refine Bl.call ?_ (by assumption)))); done)))); rintro e w2 ⟨rfl, hb2⟩; rw [show bitsB lb 64 = _ from Hlb.out]; replace hB : Blk w2 w.heap.size 26 #[.int .i64 a, .int .i64 b, .slice Ag n cg, .slice Ao m co] := hB.keep (by (repeat (first | assumption | with_reducible exact Bl.refl _ | with_reducible refine Bl.drewN ?_ _ | with_reducible refine Bl.drew ?_ | with_reducible refine Bl.alloc ?_ _ | (with_reducible refine Bl.call ?_ (by assumption))))); replace hW : Bl w w2 := (by (repeat (first | assumption | with_reducible exact Bl.refl _ | with_reducible refine Bl.drewN ?_ _ | with_reducible refine Bl.drew ?_ | with_reducible refine Bl.alloc ?_ _ | (with_reducible refine Bl.call ?_ (by assumption))))); clear hb2 hB_l hB_0 hB_1 hB_2 hB_3; have hB_l := hB.lt; have hB_0 := hB.cell 0 _ rfl; have hB_1 := hB.cell 1 _ rfl; have hB_2 := hB.cell 2 _ rfl; have hB_3 := hB.cell 3 _ rfl))
            go_ret
            first | exact ⟨ret_bool (show ((nb : Int) == b) = askB a b gl ol la lb by rw [HF.out]; simp [eb2]), hW⟩ | exact ⟨by rw [HF.out]; rfl, hW⟩
set_option maxHeartbeats 4000000 in
theorem spec_ciAsked (a b : Int) (Ag Ao : Option Addr) (n cg m co : Nat) (gl : List Gt) (ol : List Int) (Aa Ab : Option Addr) (na ca nb cb : Nat) (la lb : List Int) (w : World) (hg : RdG w Ag n cg gl) (ho : RdI w Ao m co ol) (ha : RdI w Aa na ca la) (hb : RdI w Ab nb cb lb) :
    Calls Try.prog 88 #[.agg #[.int .i64 a, .int .i64 b, .slice Ag n cg, .slice Ao m co], .slice Aa na ca, .slice Ab nb cb] w fun e w' => e = .returned (.bool (askB a b gl ol la lb)) ∧ Bl w w' := by
  have hW := (Bl.refl w).alloc (.cells #[.int .i64 a, .int .i64 b, .slice Ag n cg, .slice Ao m co] 26)
  have hB := Blk.new w 26 #[.int .i64 a, .int .i64 b, .slice Ag n cg, .slice Ao m co]
  have hG := Lib.hid (spec_ciGood a b Ag Ao n cg m co gl ol (w.alloc (.cells #[.int .i64 a, .int .i64 b, .slice Ag n cg, .slice Ao m co] 26)) (hg.keep hW) (ho.keep hW))
  have hna := ha.length
  have hnb := hb.length
  obtain ⟨hle1, hle2⟩ := ha.le
  obtain ⟨hle3, hle4⟩ := hb.le
  have t1 := True.intro
  have t2 := True.intro
  obtain ⟨X, hX⟩ : ∃ X, bitsB la 20 = X := ⟨_, rfl⟩
  obtain ⟨Y, hY⟩ : ∃ Y, bitsB lb 20 = Y := ⟨_, rfl⟩
  have Hla := Lib.hid hX
  have Hlb := Lib.hid hY
  have hfin : askB a b gl ol la lb = (goodC a b gl ol && X && Y && decide ((na : Int) = a) && decide ((nb : Int) = b)) := by
    rw [← hX, ← hY]
    unfold askB bitsB
    rw [hna, hnb]
    rcases hgd : goodC a b gl ol
    · rfl
    · have hf := goodC_facts hgd
      by_cases ea : (na : Int) = a
      · by_cases eb : (nb : Int) = b
        · rw [decide_eq_true (show (na : Int) ≤ 20 by omega), decide_eq_true (show (nb : Int) ≤ 20 by omega)]; simp
        · rw [decide_eq_false eb]; simp
      · rw [decide_eq_false ea]; simp
  have HF := Lib.hid hfin
  clear hfin hX hY
  generalize goodC a b gl ol = Gd at *
  cases Gd
  · go_enter Try.func88, Try.ntmps88
    go_wp2_with (go_at_call 53; refine hG.out.mono ?_; rintro e w1 ⟨rfl, hb1⟩; replace hW := hW.call hb1)
    go_ret
    exact ⟨by rw [HF.out]; rfl, hW⟩
  · cases X
    · go_enter Try.func88, Try.ntmps88
      go_wp2_with (first | (go_at_call 53; refine hG.out.mono ?_; rintro e w1 ⟨rfl, hb1⟩; replace hB := hB.keep hb1; replace hW := hW.call hb1; clear hb1; have hB_l := hB.lt; have hB_0 := hB.cell 0 _ rfl; have hB_1 := hB.cell 1 _ rfl; have hB_2 := hB.cell 2 _ rfl; have hB_3 := hB.cell 3 _ rfl) | (have tk := t1; clear tk t1; go_at_call 123; refine (spec_btGood _ _ _ la 20 _ ?_).mono ?_; (· (refine RdI.keep ha ?_; (· ((repeat (first | assumption | with_reducible exact Bl.refl _ | with_reducible refine Bl.drewN ?_ _ | with_reducible refine Bl.drew ?_ | with_reducible refine Bl.alloc ?_ _ | (with_reducible refine Bl.call ?_ (by assumption)))); done)))); rintro e w2 ⟨rfl, rfl⟩; rw [show bitsB la 20 = _ from Hla.out]; skip))
      go_ret
      exact ⟨by rw [HF.out]; rfl, hW⟩
    · cases Y
      · go_enter Try.func88, Try.ntmps88
        go_wp2_with (first | (go_at_call 53; refine hG.out.mono ?_; rintro e w1 ⟨rfl, hb1⟩; replace hB := hB.keep hb1; replace hW := hW.call hb1; clear hb1; have hB_l := hB.lt; have hB_0 := hB.cell 0 _ rfl; have hB_1 := hB.cell 1 _ rfl; have hB_2 := hB.cell 2 _ rfl; have hB_3 := hB.cell 3 _ rfl) | (have tk := t1; clear tk t1; go_at_call 123; refine (spec_btGood _ _ _ la 20 _ ?_).mono ?_; (· (refine RdI.keep ha ?_; (· ((repeat (first | assumption | with_reducible exact Bl.refl _ | with_reducible refine Bl.drewN ?_ _ | with_reducible refine Bl.drew ?_ | with_reducible refine Bl.alloc ?_ _ | (with_reducible refine Bl.call ?_ (by assumption)))); done)))); rintro e w2 ⟨rfl, rfl⟩; rw [show bitsB la 20 = _ from Hla.out]; skip) | (have tk := t2; clear tk t2; go_at_call 123; refine (spec_btGood _ _ _ lb 20 _ ?_).mono ?_; (· (refine RdI.keep hb ?_; (· ((repeat (first | assumption | with_reducible exact Bl.refl _ | with_reducible refine Bl.drewN ?_ _ | with_reducible refine Bl.drew ?_ | with_reducible refine Bl.alloc ?_ _ | (with_reducible refine Bl.call ?_ (by assumption)))); done)))); rintro e w2 ⟨rfl, rfl⟩; rw [show bitsB lb 20 = _ from Hlb.out]; skip))
        go_ret
        exact ⟨by rw [HF.out]; rfl, hW⟩
      · rcases ea : decide ((na : Int) = a)
        · rw [ea] at HF
          have ea2 : ¬ (na : Int) = a := of_decide_eq_false ea
          go_enter Try.func88, Try.ntmps88
          go_wp2_with (first | (go_at_call 53; refine hG.out.mono ?_; rintro e w1 ⟨rfl, hb1⟩; replace hB := hB.keep hb1; replace hW := hW.call hb1; clear hb1; have hB_l := hB.lt; have hB_0 := hB.cell 0 _ rfl; have hB_1 := hB.cell 1 _ rfl; have hB_2 := hB.cell 2 _ rfl; have hB_3 := hB.cell 3 _ rfl) | (have tk := t1; clear tk t1; go_at_call 123; refine (spec_btGood _ _ _ la 20 _ ?_).mono ?_; (· (refine RdI.keep ha ?_; (· ((repeat (first | assumption | with_reducible exact Bl.refl _ | with_reducible refine Bl.drewN ?_ _ | with_reducible refine Bl.drew ?_ | with_reducible refine Bl.alloc ?_ _ | (with_reducible refine Bl.call ?_ (by assumption)))); done)))); rintro e w2 ⟨rfl, rfl⟩; rw [show bitsB la 20 = _ from Hla.out]; skip) | (have tk := t2; clear tk t2; go_at_call 123; refine (spec_btGood _ _ _ lb 20 _ ?_).mono ?_; (· (refine RdI.keep hb ?_; (· ((repeat (first | assumption | with_reducible exact Bl.refl _ | with_reducible refine Bl.drewN ?_ _ | with_reducible refine Bl.drew ?_ | with_reducible refine Bl.alloc ?_ _ | (with_reducible refine Bl.call ?_ (by assumption)))); done)))); rintro e w2 ⟨rfl, rfl⟩; rw [show bitsB lb 20 = _ from Hlb.out]; skip))
          go_ret
          exact ⟨by rw [HF.out]; rfl, hW⟩
        · rw [ea] at HF
          have ea2 : (na : Int) = a := of_decide_eq_true ea
          clear ea
          rcases eb : decide ((nb : Int) = b)
          · rw [eb] at HF
            have eb2 : ¬ (nb : Int) = b := of_decide_eq_false eb
            clear eb
            go_enter Try.func88, Try.ntmps88
            go_wp2_with (first | (go_at_call 53; refine hG.out.mono ?_; rintro e w1 ⟨rfl, hb1⟩; replace hB := hB.keep hb1; replace hW := hW.call hb1; clear hb1; have hB_l := hB.lt; have hB_0 := hB.cell 0 _ rfl; have hB_1 := hB.cell 1 _ rfl; have hB_2 := hB.cell 2 _ rfl; have hB_3 := hB.cell 3 _ rfl) | (have tk := t1; clear tk t1; go_at_call 123; refine (spec_btGood _ _ _ la 20 _ ?_).mono ?_; (· (refine RdI.keep ha ?_; (· ((repeat (first | assumption | with_reducible exact Bl.refl _ | with_reducible refine Bl.drewN ?_ _ | with_reducible refine Bl.drew ?_ | with_reducible refine Bl.alloc ?_ _ | (with_reducible refine Bl.call ?_ (by assumption)))); done)))); rintro e w2 ⟨rfl, rfl⟩; rw [show bitsB la 20 = _ from Hla.out]; skip) | (have tk := t2; clear tk t2; go_at_call 123; refine (spec_btGood _ _ _ lb 20 _ ?_).mono ?_; (· (refine RdI.keep hb ?_; (· ((repeat (first | assumption | with_reducible exact Bl.refl _ | with_reducible refine Bl.drewN ?_ _ | with_reducible refine Bl.drew ?_ | with_reducible refine Bl.alloc ?_ _ | (with_reducible refine Bl.call ?_ (by assumption)))); done)))); rintro e w2 ⟨rfl, rfl⟩; rw [show bitsB lb 20 = _ from Hlb.out]; skip))
            go_ret
            first | exact ⟨ret_bool (show ((nb : Int) == b) = askB a b gl ol la lb by rw [HF.out]; simp [eb2]), hW⟩ | exact ⟨by rw [HF.out]; rfl, hW⟩
          · rw [eb] at HF
            have eb2 : (nb : Int) = b := of_decide_eq_true eb
            clear eb
            go_enter Try.func88, Try.ntmps88
            go_wp2_with (first | (go_at_call 53; refine hG.out.mono ?_; rintro e w1 ⟨rfl, hb1⟩; replace hB := hB.keep hb1; replace hW := hW.call hb1; clear hb1; have hB_l := hB.lt; have hB_0 := hB.cell 0 _ rfl; have hB_1 := hB.cell 1 _ rfl; have hB_2 := hB.cell 2 _ rfl; have hB_3 := hB.cell 3 _ rfl) | (have tk := t1; clear tk t1; go_at_call 123; refine (spec_btGood _ _ _ la 20 _ ?_).mono ?_; (· (refine RdI.keep ha ?_; (· ((repeat (first | assumption | with_reducible exact Bl.refl _ | with_reducible refine Bl.drewN ?_ _ | with_reducible refine Bl.drew ?_ | with_reducible refine Bl.alloc ?_ _ | (with_reducible refine Bl.call ?_ (by assumption)))); done)))); rintro e w2 ⟨rfl, rfl⟩; rw [show bitsB la 20 = _ from Hla.out]; skip) | (have tk := t2; clear tk t2; go_at_call 123; refine (spec_btGood _ _ _ lb 20 _ ?_).mono ?_; (· (refine RdI.keep hb ?_; (· ((repeat (first | assumption | with_reducible exact Bl.refl _ | with_reducible refine Bl.drewN ?_ _ | with_reducible refine Bl.drew ?_ | with_reducible refine Bl.alloc ?_ _ | (with_reducible refine Bl.call ?_ (by assumption)))); done)))); rintro e w2 ⟨rfl, rfl⟩; rw [show bitsB lb 20 = _ from Hlb.out]; skip))
            go_ret
            first | exact ⟨ret_bool (show ((nb : Int) == b) = askB a b gl ol la lb by rw [HF.out]; simp [eb2]), hW⟩ | exact ⟨by rw [HF.out]; rfl, hW⟩
theorem impl_with (A B : Option Addr) (n c m d : Nat) (l l' : List Int) (w : World) (h : RdI w A n c l) (h' : RdI w B m d l') (hn : n ≤ 1000000000000) (hm : m ≤ 1000000000000) :
    Calls Try.prog 87 #[.slice A n c, .slice B m d] w fun e w' => ∃ A' c', e = .returned (.slice A' (n + m) c') ∧ OwnI w.heap.size w' A' (n + m) c' (l ++ l') ∧ Bl w w' := by
  go_enter Try.func87, Try.ntmps87
  go_wp2_with (first
    | (go_at_call 122; refine (slices_Clone A n c l w h (by omega)).mono ?_; rintro e w1 ⟨A1, c1, rfl, hown1, hb1⟩)
    | (at_builtin; refine ap_int rfl rfl rfl hown1 rfl (h'.keep hb1) (by omega) hb1.size ?_; intro A2 c2 w2 hown2 hg2 hat2))
  go_ret
  exact ⟨A2, c2, rfl, hown2, hb1.grown hg2 (fun k hk => (hown1.blk k hk).1)⟩
theorem spec_ciJoin (A B : Option Addr) (n c m d : Nat) (l l' : List Int) (w : World) (h : RdI w A n c l) (h' : RdI w B m d l') (hn : n ≤ 1000000000000) (hm : m ≤ 1000000000000) :
    Calls Try.prog 90 #[.slice A n c, .slice B m d] w fun e w' => ∃ A' c', e = .returned (.slice A' (n + m) c') ∧ OwnI w.heap.size w' A' (n + m) c' (l ++ l') ∧ Bl w w' := by
  go_enter Try.func90, Try.ntmps90
  go_wp2_with (first
    | (go_at_call 125; refine (spec_l1Own A n c l w h (by omega)).mono ?_; rintro e w1 ⟨A1, c1, rfl, hown1, hb1⟩)
    | (at_builtin; refine ap_int rfl rfl rfl hown1 rfl (h'.keep hb1) (by omega) hb1.size ?_; intro A2 c2 w2 hown2 hg2 hat2))
  go_ret
  exact ⟨A2, c2, rfl, hown2, hb1.grown hg2 (fun k hk => (hown1.blk k hk).1)⟩
end Go.Proofs.Ytlmlffiajgofeaa
