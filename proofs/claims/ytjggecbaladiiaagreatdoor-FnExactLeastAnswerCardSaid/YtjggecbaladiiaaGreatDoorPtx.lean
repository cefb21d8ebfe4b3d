/- Texts as lists of bytes, so that the kernel computes with them quickly.
   Conditions: none. -/
import Derived.Test.YtjggecbaladiiaaGreatDoorPrj
namespace Go.Proofs.YtjggecbaladiiaaGreatDoor
open Go.RowKit
set_option linter.unusedVariables false
def toB (l : List UInt8) : ByteArray := ⟨l.toArray⟩
theorem toB_app (a b : List UInt8) : toB a ++ toB b = toB (a ++ b) := by
  apply ByteArray.ext
  rw [ByteArray.data_append]
  simp [toB]
theorem toB_size (a : List UInt8) : (toB a).size = a.length := by
  show a.toArray.size = _
  simp
theorem toB_inj {a b : List UInt8} : toB a = toB b ↔ a = b := by
  constructor
  · intro h
    have := congrArg (fun s => s.data.toList) h
    simpa [toB] using this
  · rintro rfl; rfl
theorem toB_to (s : ByteArray) : toB s.data.toList = s := by
  apply ByteArray.ext
  simp [toB]
theorem toB_ext (l : List UInt8) (m k : Nat) : (toB l).extract m k = toB ((l.take k).drop m) := by
  apply ByteArray.ext
  rw [ByteArray.data_extract]
  apply Array.ext'
  simp [toB, List.drop_take]
theorem toB_get (l : List UInt8) (k : Nat) (h : k < (toB l).size) : (toB l)[k]'h = l[k]'(by rwa [toB_size] at h) := by
  rfl
def spA (b : UInt8) : List UInt8 → List UInt8 → List (List UInt8)
  | [], cur => [cur]
  | x :: r, cur => if x = b then cur :: spA b r [] else spA b r (cur ++ [x])
theorem spR_list (b : UInt8) (l : List UInt8) : ∀ (d k m : Nat), d = l.length - k → k ≤ l.length → m ≤ k → spR b (toB l) d m k = (spA b (l.drop k) ((l.take k).drop m)).map toB
  | 0, k, m, hd, hk, hm => by
    obtain rfl : k = l.length := by omega
    rw [spR, List.drop_length, spA, toB_size, toB_ext]
    rfl
  | d + 1, k, m, hd, hk, hm => by
    have hlt : k < l.length := by omega
    rw [spR, dif_pos (by rw [toB_size]; exact hlt), toB_get, List.drop_eq_getElem_cons hlt, spA]
    by_cases h : l[k] = b
    · rw [if_pos h, if_pos h, spR_list b l d (k + 1) (k + 1) (by omega) (by omega) (by omega), toB_ext, List.map_cons]
      congr 3
      rw [List.drop_eq_nil_of_le (by simp; omega)]
    · rw [if_neg h, if_neg h, spR_list b l d (k + 1) m (by omega) (by omega) (by omega)]
      congr 2
      rw [List.take_add_one, List.getElem?_eq_getElem hlt, List.drop_append_of_le_length (by simp; omega)]
      rfl
theorem spS_list (b : UInt8) (l : List UInt8) : spS b (toB l) = (spA b l []).map toB := by
  unfold spS
  rw [toB_size, spR_list b l l.length 0 0 (by omega) (by omega) (by omega)]
  simp
def dgl (n : Int) : List UInt8 := [UInt8.ofNat (48 + n.toNat)]
theorem dg_list (n : Int) : dg n = toB (dgl n) := rfl
def bl (s : ByteArray) : List UInt8 := s.data.toList
theorem bl_to (s : ByteArray) : s = toB (bl s) := (toB_to s).symm
def txOl (x : Ln) : Option (List UInt8) :=
  match x with
  | ⟨k, nm, op, ps, pt, wd, vl⟩ => if nm.size ≤ 1000 ∧ op.size ≤ 1000 ∧ (ps.all fun p => decide (p.size ≤ 1000)) = true then
    match ps with
    | [] => if k = 1 ∧ 0 ≤ pt ∧ pt ≤ 9 ∧ 0 ≤ wd ∧ wd ≤ 9 then some ((((([105, 110, 112, 117, 116, 32] ++ dgl pt) ++ [32]) ++ bl nm) ++ [32]) ++ dgl wd) else if k = 2 ∧ 0 ≤ wd ∧ wd ≤ 9 ∧ 0 ≤ vl ∧ vl ≤ 9 then some ((((([99, 111, 110, 115, 116, 32] ++ bl nm) ++ [32]) ++ dgl wd) ++ [32]) ++ dgl vl) else none
    | [p] => if k = 4 then some ((([110, 111, 116, 32] ++ bl nm) ++ [32]) ++ bl p) else if k = 6 then some ([111, 117, 116, 32] ++ bl p) else none
    | [p, q] => if k = 3 then some ((((((([108, 101, 116, 32] ++ bl nm) ++ [32]) ++ bl p) ++ [32]) ++ bl op) ++ [32]) ++ bl q) else none
    | [p, q, r] => if k = 5 then some ((((((([112, 105, 99, 107, 32] ++ bl nm) ++ [32]) ++ bl p) ++ [32]) ++ bl q) ++ [32]) ++ bl r) else none
    | _ => none
    else none
theorem txO_list (x : Ln) : txO x = (txOl x).map toB := by
  obtain ⟨k, nm, op, ps, pt, wd, vl⟩ := x
  have lits : ∀ l : List UInt8, (⟨l.toArray⟩ : ByteArray) = toB l := fun _ => rfl
  rcases ps with _ | ⟨p, _ | ⟨q, _ | ⟨r, _ | ⟨z, t⟩⟩⟩⟩
  all_goals
    unfold txO txOl
    dsimp only
  · split
    · split
      · rw [Option.map_some, ← toB_app, ← toB_app, ← toB_app, ← toB_app, ← toB_app, ← bl_to]; rfl
      · split
        · rw [Option.map_some, ← toB_app, ← toB_app, ← toB_app, ← toB_app, ← toB_app, ← bl_to]; rfl
        · rfl
    · rfl
  · split
    · split
      · rw [Option.map_some, ← toB_app, ← toB_app, ← toB_app, ← bl_to, ← bl_to]; rfl
      · split
        · rw [Option.map_some, ← toB_app, ← bl_to]; rfl
        · rfl
    · rfl
  · split
    · split
      · rw [Option.map_some, ← toB_app, ← toB_app, ← toB_app, ← toB_app, ← toB_app, ← toB_app, ← toB_app, ← bl_to, ← bl_to, ← bl_to, ← bl_to]; rfl
      · rfl
    · rfl
  · split
    · split
      · rw [Option.map_some, ← toB_app, ← toB_app, ← toB_app, ← toB_app, ← toB_app, ← toB_app, ← toB_app, ← bl_to, ← bl_to, ← bl_to, ← bl_to]; rfl
      · rfl
    · rfl
  · split <;> rfl
def txRl : List UInt8 → List Ln → Option (List UInt8)
  | s, [] => some s
  | s, x :: t => match txOl x with
    | none => none
    | some u => txRl (s ++ u ++ [10]) t
theorem txR_list : ∀ (L : List Ln) (s : List UInt8), txR (toB s) L = (txRl s L).map toB
  | [], s => rfl
  | x :: t, s => by
    rw [txR, txRl, txO_list]
    rcases txOl x with _ | u
    · rfl
    · rw [Option.map_some]
      dsimp only
      rw [show NL = toB [10] from rfl, toB_app, toB_app, txR_list t]
def linesL : List (List UInt8) → Option (List Ln)
  | [] => some []
  | t :: r => match lnW ((spA 32 t []).map toB) with
    | none => none
    | some x => match linesL r with
      | none => none
      | some l => some (x :: l)
theorem linesO_list : ∀ ps : List (List UInt8), linesO (ps.map toB) = linesL ps
  | [] => rfl
  | t :: r => by rw [List.map_cons, linesO, linesL, spS_list, linesO_list r]; rfl
end Go.Proofs.YtjggecbaladiiaaGreatDoor
