/- append of numbers as one step of a drawn region.
   Conditions: none. -/
import Derived.Test.YtjggecbaladiiaaGreatDoorBase
namespace Go.Proofs.YtjggecbaladiiaaGreatDoor
open Go.RowKit
set_option linter.unusedVariables false
theorem OwnI.drew {base n c : Nat} {w : World} {A : Option Addr} {l : List Int} (h : OwnI base w A n c l) : OwnI base w.drew A n c l := h
theorem RdI.drew {n c : Nat} {w : World} {A : Option Addr} {l : List Int} (h : RdI w A n c l) : RdI w.drew A n c l := ⟨h.len, h.cap, h.max, h.at0⟩
theorem ap_int_step {ops : Array Oper} {o : Oper} {a : Act} {w : World} {K : Act → World → Prop} {Q : Exit → Act → World → Prop} {E : Prop} (hgd : o.guard = none) {s x : Operand} (ho : o.op = .call { callee := .builtin .append, args := #[s, x], argTypes := #[27, 27] })
    {base n c m d : Nat} {A B : Option Addr} {l l' : List Int} (hs : a.eval s = .slice A n c) (hown : OwnI base w A n c l) (hx : a.eval x = .slice B m d) (hr : RdI w B m d l')
    (hb : n + m ≤ 17592186044415) (hbase : base ≤ w.heap.size)
    (h : ∀ A' c' w', OwnI base w' A' (n + m) c' (l ++ l') → w.grownBy w' (A.map (·.block)) → (A'.map (·.block) = A.map (·.block) ∨ A'.map (·.block) = some w.heap.size) →
      K (a.put o.dst (.slice A' (n + m) c')) w') : if Region.wanted o (yielded ops a.tmps) = true then Oper.wp Tryz.prog o a w K Q else E := by
  obtain ⟨i0, hi, hz0, hz1, hz2⟩ := info_parts int_info
  obtain ⟨A', c', w', hrun, h2, h3, h4⟩ := run_append_any (P := Tryz.prog) w base 27 o.type 3 i0 _ 1 8 Tryz.underlying27 hi hz0 hz1 hz2 rfl (by decide)
    (.slice A n c) n (ints l) hown B m d (ints l') hr (ints_one l') (by simp only [maxLen]; omega) (by omega) hbase
  rw [ownBlock_slice] at h3 h4
  have hw : Region.wanted o (yielded ops a.tmps) = true := by simp [Region.wanted, hgd]
  rw [if_pos hw]
  unfold Oper.wp execOp
  simp only [ho, resolve, invoke, builtin, Sem.run_bind, Sem.run_pure, Result.andThen_ok, List.map_toArray, List.map_cons, List.map_nil, hs, hx, hrun]
  refine h A' c' w' ?_ h3 h4
  unfold OwnI
  rw [ints_append]
  exact h2
end Go.Proofs.YtjggecbaladiiaaGreatDoor
