/- Circuits as arguments of a law: copied, measured, compared, marked, opened.
   Conditions: none. -/
import Derived.Test.YtjggecbaladiiaaGreatDoorGts
import Derived.Test.YtjggecbaladiiaaGreatDoorToi
import Derived.Test.YtjggecbaladiiaaGreatDoorOpn
namespace Go.Proofs.YtjggecbaladiiaaGreatDoor
open Go.ChangeShapes Go.WideShapes Go.ChangeAt Go.RowKit Go.Deep
set_option linter.unusedVariables false
/-- A circuit reads as these gates and outs. -/
structure RdC (w : World) (A : Option Addr) (n c : Nat) (gl : List Gt) (B : Option Addr) (m d : Nat) (ol : List Int) : Prop where
  g : RdG w A n c gl
  o : RdI w B m d ol
theorem RdC.keep {w w' : World} {A B : Option Addr} {n c m d : Nat} {gl : List Gt} {ol : List Int} (h : RdC w A n c gl B m d ol) (hb : Bl w w') : RdC w' A n c gl B m d ol := ⟨h.g.keep hb, h.o.keep hb⟩
theorem ne_of_lt_le {A : Option Addr} {b : Nat} {B : Option Addr} (h1 : ∀ k, A.map (·.block) = some k → k < b) (h2 : ∀ k, B.map (·.block) = some k → b ≤ k) : ∀ a, A = some a → some a.block ≠ B.map (·.block) := by
  rintro a rfl he
  have e1 := h1 a.block rfl
  have e2 := h2 a.block he.symm
  omega
theorem RdG.grown {w w' : World} {n c : Nat} {A : Option Addr} {l : List Gt} {row : Option Nat} (h : RdG w A n c l) (hg : w.grownBy w' row) (hne : ∀ a, A = some a → some a.block ≠ row) : RdG w' A n c l :=
  ⟨⟨h.1.len, h.1.cap, h.1.max, fun hn => by
    obtain ⟨ad, e, hl, hc⟩ := h.1.at0 hn
    exact ⟨ad, e, Nat.lt_of_lt_of_le hl hg.size, fun j u hu => hg.cell (hc j u hu) (by rw [block_of_add]; exact hne ad e)⟩⟩, h.2⟩
theorem OwnI.grown {w w' : World} {base n c : Nat} {A : Option Addr} {l : List Int} {row : Option Nat} (h : OwnI base w A n c l) (hg : w.grownBy w' row) (hne : ∀ a, A = some a → some a.block ≠ row) : OwnI base w' A n c l := by
  refine World.ownsRow.kept h hg ?_
  rw [ownBlock_slice]
  cases A with
  | none => exact .inl rfl
  | some a => exact .inr (hne a rfl)
theorem OwnG.grown {w w' : World} {base n c : Nat} {A : Option Addr} {l : List Gt} {row : Option Nat} (h : OwnG base w A n c l) (hg : w.grownBy w' row) (hne : ∀ a, A = some a → some a.block ≠ row) : OwnG base w' A n c l := by
  refine ⟨OwnV.grown h.1 hg ?_, h.2⟩
  cases A with
  | none => exact .inl rfl
  | some a => exact .inr (hne a rfl)
theorem OwnG.mono {base base' n c : Nat} {w : World} {A : Option Addr} {l : List Gt} (h : OwnG base' w A n c l) (hb : base ≤ base') : OwnG base w A n c l := ⟨OwnV.mono h.1 hb, h.2⟩
theorem OwnG.low {base n c g i : Nat} {w : World} {A : Option Addr} {l : List Gt} (h : OwnG base w A n c l) (hg : g < base) (u : Value) : OwnG base (w.setCell ⟨g, i, none⟩ u) A n c l :=
  h.grown (grownBy_setCell w g i u) (by rintro a rfl he; injection he with he; have := (h.blk a.block rfl).1; omega)
theorem OwnI.low {base n c g i : Nat} {w : World} {A : Option Addr} {l : List Int} (h : OwnI base w A n c l) (hg : g < base) (u : Value) : OwnI base (w.setCell ⟨g, i, none⟩ u) A n c l :=
  h.grown (grownBy_setCell w g i u) (by rintro a rfl he; injection he with he; have := (h.blk a.block rfl).1; omega)
/-- What toCircuit leaves: both lists in blocks of their own, the second behind the first. -/
def OwnC (base : Nat) (w : World) (A : Option Addr) (n c : Nat) (gl : List Gt) (B : Option Addr) (m d : Nat) (ol : List Int) : Prop :=
  OwnG base w A n c gl ∧ OwnI base w B m d ol ∧ ∀ a, A = some a → some a.block ≠ B.map (·.block)
theorem OwnC.rd {base : Nat} {w : World} {A B : Option Addr} {n c m d : Nat} {gl : List Gt} {ol : List Int} (h : OwnC base w A n c gl B m d ol) : RdC w A n c gl B m d ol := ⟨h.1.rd, h.2.1.rd⟩
theorem OwnC.keep {base : Nat} {w w' : World} {A B : Option Addr} {n c m d : Nat} {gl : List Gt} {ol : List Int} (h : OwnC base w A n c gl B m d ol) (hb : Bl w w') : OwnC base w' A n c gl B m d ol := ⟨h.1.keep hb, h.2.1.keep hb, h.2.2⟩
theorem OwnC.grown {base : Nat} {w w' : World} {A B : Option Addr} {n c m d : Nat} {gl : List Gt} {ol : List Int} {row : Option Nat} (h : OwnC base w A n c gl B m d ol) (hg : w.grownBy w' row)
    (h1 : ∀ a, A = some a → some a.block ≠ row) (h2 : ∀ a, B = some a → some a.block ≠ row) : OwnC base w' A n c gl B m d ol := ⟨h.1.grown hg h1, h.2.1.grown hg h2, h.2.2⟩
end Go.Proofs.YtjggecbaladiiaaGreatDoor
