/- The reference's texts of the dozen, and that they are programs.
   Conditions: none. -/
import Derived.Test.YtjggecbaladiiaaGreatDoorPtx
import Derived.Test.YtjggecbaladiiaaGreatDoorPrd
namespace Go.Proofs.YtjggecbaladiiaaGreatDoor
open Go.RowKit
set_option linter.unusedVariables false
/-- The names of the inputs of both parties, the texts of the other lines. -/
def inA : Nat → List ByteArray
  | 0 => [⟨#[120]⟩]
  | 1 => [⟨#[120]⟩]
  | 2 => [⟨#[120]⟩]
  | 3 => [⟨#[120]⟩]
  | 4 => [⟨#[120]⟩]
  | 5 => [⟨#[120]⟩, ⟨#[121]⟩]
  | 6 => [⟨#[120]⟩]
  | 7 => [⟨#[120]⟩]
  | 8 => [⟨#[120]⟩, ⟨#[121]⟩]
  | 9 => [⟨#[120]⟩]
  | 10 => [⟨#[120]⟩, ⟨#[121]⟩]
  | _ => [⟨#[120]⟩]
def inB : Nat → List ByteArray
  | 0 => [⟨#[121]⟩]
  | 1 => [⟨#[121]⟩]
  | 2 => [⟨#[121]⟩]
  | 3 => [⟨#[121]⟩]
  | 4 => [⟨#[121]⟩]
  | 5 => [⟨#[117]⟩]
  | 6 => [⟨#[121]⟩]
  | 7 => [⟨#[121]⟩]
  | 8 => [⟨#[117]⟩]
  | 9 => [⟨#[121]⟩]
  | 10 => [⟨#[115]⟩]
  | _ => [⟨#[115]⟩]
def pgTx : Nat → List ByteArray
  | 0 => [⟨#[108, 101, 116, 32, 114, 32, 121, 32, 60, 32, 120]⟩, ⟨#[111, 117, 116, 32, 114]⟩]
  | 1 => [⟨#[108, 101, 116, 32, 114, 32, 120, 32, 61, 32, 121]⟩, ⟨#[111, 117, 116, 32, 114]⟩]
  | 2 => [⟨#[108, 101, 116, 32, 115, 32, 120, 32, 60, 32, 121]⟩, ⟨#[112, 105, 99, 107, 32, 114, 32, 115, 32, 121, 32, 120]⟩, ⟨#[111, 117, 116, 32, 114]⟩]
  | 3 => [⟨#[108, 101, 116, 32, 115, 32, 120, 32, 60, 32, 121]⟩, ⟨#[112, 105, 99, 107, 32, 114, 32, 115, 32, 120, 32, 121]⟩, ⟨#[111, 117, 116, 32, 114]⟩]
  | 4 => [⟨#[108, 101, 116, 32, 115, 32, 120, 32, 60, 32, 121]⟩, ⟨#[108, 101, 116, 32, 100, 32, 120, 32, 45, 32, 121]⟩, ⟨#[108, 101, 116, 32, 101, 32, 121, 32, 45, 32, 120]⟩, ⟨#[112, 105, 99, 107, 32, 114, 32, 115, 32, 101, 32, 100]⟩, ⟨#[111, 117, 116, 32, 114]⟩]
  | 5 => [⟨#[108, 101, 116, 32, 97, 32, 120, 32, 60, 32, 121]⟩, ⟨#[112, 105, 99, 107, 32, 108, 111, 32, 97, 32, 120, 32, 121]⟩, ⟨#[112, 105, 99, 107, 32, 104, 105, 32, 97, 32, 121, 32, 120]⟩, ⟨#[108, 101, 116, 32, 98, 32, 117, 32, 60, 32, 108, 111]⟩, ⟨#[108, 101, 116, 32, 99, 32, 104, 105, 32, 60, 32, 117]⟩, ⟨#[112, 105, 99, 107, 32, 100, 32, 99, 32, 104, 105, 32, 117]⟩, ⟨#[112, 105, 99, 107, 32, 114, 32, 98, 32, 108, 111, 32, 100]⟩, ⟨#[111, 117, 116, 32, 114]⟩]
  | 6 => [⟨#[108, 101, 116, 32, 114, 32, 120, 32, 38, 32, 121]⟩, ⟨#[99, 111, 110, 115, 116, 32, 122, 101, 114, 111, 32, 87, 32, 48]⟩, ⟨#[108, 101, 116, 32, 110, 32, 114, 32, 61, 32, 122, 101, 114, 111]⟩, ⟨#[110, 111, 116, 32, 115, 111, 109, 101, 32, 110]⟩, ⟨#[111, 117, 116, 32, 114]⟩, ⟨#[111, 117, 116, 32, 115, 111, 109, 101]⟩]
  | 7 => [⟨#[108, 101, 116, 32, 115, 32, 120, 32, 60, 32, 121]⟩, ⟨#[112, 105, 99, 107, 32, 114, 32, 115, 32, 120, 32, 121]⟩, ⟨#[111, 117, 116, 32, 115]⟩, ⟨#[111, 117, 116, 32, 114]⟩]
  | 8 => [⟨#[108, 101, 116, 32, 97, 32, 120, 32, 38, 32, 121]⟩, ⟨#[108, 101, 116, 32, 98, 32, 120, 32, 38, 32, 117]⟩, ⟨#[108, 101, 116, 32, 99, 32, 121, 32, 38, 32, 117]⟩, ⟨#[108, 101, 116, 32, 100, 32, 97, 32, 124, 32, 98]⟩, ⟨#[108, 101, 116, 32, 114, 32, 100, 32, 124, 32, 99]⟩, ⟨#[111, 117, 116, 32, 114]⟩]
  | 9 => [⟨#[108, 101, 116, 32, 114, 32, 120, 32, 42, 32, 121]⟩, ⟨#[111, 117, 116, 32, 114]⟩]
  | 10 => [⟨#[112, 105, 99, 107, 32, 97, 32, 115, 32, 121, 32, 120]⟩, ⟨#[112, 105, 99, 107, 32, 98, 32, 115, 32, 120, 32, 121]⟩, ⟨#[111, 117, 116, 32, 97]⟩, ⟨#[111, 117, 116, 32, 98]⟩]
  | _ => [⟨#[99, 111, 110, 115, 116, 32, 122, 101, 114, 111, 32, 87, 32, 48]⟩, ⟨#[99, 111, 110, 115, 116, 32, 111, 110, 101, 32, 87, 32, 49]⟩, ⟨#[112, 105, 99, 107, 32, 100, 32, 115, 32, 111, 110, 101, 32, 122, 101, 114, 111]⟩, ⟨#[108, 101, 116, 32, 114, 32, 120, 32, 43, 32, 100]⟩, ⟨#[111, 117, 116, 32, 114]⟩]

def wdW (w : Int) (x : ByteArray) : ByteArray := if x = ⟨#[87]⟩ then dg w else x
def txW (w : Int) : ByteArray → List ByteArray → ByteArray
  | s, [] => s
  | s, x :: r => txW w (s ++ (wdW w x ++ ⟨#[32]⟩)) r
def txN (w : Int) : ByteArray → List ByteArray → ByteArray
  | s, [] => s
  | s, t :: r => txN w ((txW w s (spS 32 t)).extract 0 ((txW w s (spS 32 t)).size - 1) ++ ⟨#[10]⟩) r
def wdI (k : Nat) (w : Int) (x : ByteArray) : Int := if k = 8 ∨ x = ⟨#[115]⟩ then 1 else w
def txI (k : Nat) (w p : Int) : ByteArray → List ByteArray → ByteArray
  | s, [] => s
  | s, x :: r => txI k w p (s ++ ((((((⟨#[105, 110, 112, 117, 116, 32]⟩ ++ dg p) ++ ⟨#[32]⟩) ++ x) ++ ⟨#[32]⟩) ++ dg (wdI k w x)) ++ ⟨#[10]⟩)) r
def pgT (k : Nat) (w : Int) : ByteArray := txN w (txI k w 1 (txI k w 0 ⟨#[]⟩ (inA k)) (inB k)) (pgTx k)
/-- The same on lists. -/
def wdWl (w : Int) (x : List UInt8) : List UInt8 := if x = [87] then dgl w else x
theorem wdW_list (w : Int) (x : List UInt8) : wdW w (toB x) = toB (wdWl w x) := by
  unfold wdW wdWl
  rw [show (⟨#[87]⟩ : ByteArray) = toB [87] from rfl]
  by_cases h : x = [87]
  · rw [if_pos h, if_pos (by rw [h])]; rfl
  · rw [if_neg h, if_neg (fun e => h (toB_inj.1 e))]
def txWl (w : Int) : List UInt8 → List (List UInt8) → List UInt8
  | s, [] => s
  | s, x :: r => txWl w (s ++ (wdWl w x ++ [32])) r
theorem txW_list (w : Int) : ∀ (l : List (List UInt8)) (s : List UInt8), txW w (toB s) (l.map toB) = toB (txWl w s l)
  | [], s => rfl
  | x :: r, s => by
    rw [List.map_cons, txW, wdW_list, show (⟨#[32]⟩ : ByteArray) = toB [32] from rfl, toB_app, toB_app, txW_list w r]
    rfl
def txNl (w : Int) : List UInt8 → List (List UInt8) → List UInt8
  | s, [] => s
  | s, t :: r => txNl w ((txWl w s (spA 32 t [])).take ((txWl w s (spA 32 t [])).length - 1) ++ [10]) r
theorem txN_list (w : Int) : ∀ (l : List (List UInt8)) (s : List UInt8), txN w (toB s) (l.map toB) = toB (txNl w s l)
  | [], s => rfl
  | x :: r, s => by
    rw [List.map_cons, txN, spS_list, txW_list, toB_size, toB_ext, List.drop_zero, show (⟨#[10]⟩ : ByteArray) = toB [10] from rfl, toB_app, txN_list w r]
    rfl
def wdIl (k : Nat) (w : Int) (x : List UInt8) : Int := if k = 8 ∨ x = [115] then 1 else w
theorem wdI_list (k : Nat) (w : Int) (x : List UInt8) : wdI k w (toB x) = wdIl k w x := by
  unfold wdI wdIl
  rw [show (⟨#[115]⟩ : ByteArray) = toB [115] from rfl]
  by_cases h : x = [115]
  · rw [if_pos (.inr (by rw [h])), if_pos (.inr h)]
  · by_cases h8 : k = 8
    · rw [if_pos (.inl h8), if_pos (.inl h8)]
    · rw [if_neg (fun e => e.elim h8 (fun e => h (toB_inj.1 e))), if_neg (fun e => e.elim h8 h)]
def txIl (k : Nat) (w p : Int) : List UInt8 → List (List UInt8) → List UInt8
  | s, [] => s
  | s, x :: r => txIl k w p (s ++ (((((([105, 110, 112, 117, 116, 32] ++ dgl p) ++ [32]) ++ x) ++ [32]) ++ dgl (wdIl k w x)) ++ [10])) r
theorem txI_list (k : Nat) (w p : Int) : ∀ (l : List (List UInt8)) (s : List UInt8), txI k w p (toB s) (l.map toB) = toB (txIl k w p s l)
  | [], s => rfl
  | x :: r, s => by
    rw [List.map_cons, txI, wdI_list, show (⟨#[105, 110, 112, 117, 116, 32]⟩ : ByteArray) = toB [105, 110, 112, 117, 116, 32] from rfl, show (⟨#[32]⟩ : ByteArray) = toB [32] from rfl, show (⟨#[10]⟩ : ByteArray) = toB [10] from rfl, dg_list, dg_list, toB_app, toB_app, toB_app, toB_app, toB_app, toB_app, toB_app, txI_list k w p r]
    rfl
def inAl : Nat → List (List UInt8)
  | 0 => [[120]]
  | 1 => [[120]]
  | 2 => [[120]]
  | 3 => [[120]]
  | 4 => [[120]]
  | 5 => [[120], [121]]
  | 6 => [[120]]
  | 7 => [[120]]
  | 8 => [[120], [121]]
  | 9 => [[120]]
  | 10 => [[120], [121]]
  | _ => [[120]]
def inBl : Nat → List (List UInt8)
  | 0 => [[121]]
  | 1 => [[121]]
  | 2 => [[121]]
  | 3 => [[121]]
  | 4 => [[121]]
  | 5 => [[117]]
  | 6 => [[121]]
  | 7 => [[121]]
  | 8 => [[117]]
  | 9 => [[121]]
  | 10 => [[115]]
  | _ => [[115]]
def pgTxl : Nat → List (List UInt8)
  | 0 => [[108, 101, 116, 32, 114, 32, 121, 32, 60, 32, 120], [111, 117, 116, 32, 114]]
  | 1 => [[108, 101, 116, 32, 114, 32, 120, 32, 61, 32, 121], [111, 117, 116, 32, 114]]
  | 2 => [[108, 101, 116, 32, 115, 32, 120, 32, 60, 32, 121], [112, 105, 99, 107, 32, 114, 32, 115, 32, 121, 32, 120], [111, 117, 116, 32, 114]]
  | 3 => [[108, 101, 116, 32, 115, 32, 120, 32, 60, 32, 121], [112, 105, 99, 107, 32, 114, 32, 115, 32, 120, 32, 121], [111, 117, 116, 32, 114]]
  | 4 => [[108, 101, 116, 32, 115, 32, 120, 32, 60, 32, 121], [108, 101, 116, 32, 100, 32, 120, 32, 45, 32, 121], [108, 101, 116, 32, 101, 32, 121, 32, 45, 32, 120], [112, 105, 99, 107, 32, 114, 32, 115, 32, 101, 32, 100], [111, 117, 116, 32, 114]]
  | 5 => [[108, 101, 116, 32, 97, 32, 120, 32, 60, 32, 121], [112, 105, 99, 107, 32, 108, 111, 32, 97, 32, 120, 32, 121], [112, 105, 99, 107, 32, 104, 105, 32, 97, 32, 121, 32, 120], [108, 101, 116, 32, 98, 32, 117, 32, 60, 32, 108, 111], [108, 101, 116, 32, 99, 32, 104, 105, 32, 60, 32, 117], [112, 105, 99, 107, 32, 100, 32, 99, 32, 104, 105, 32, 117], [112, 105, 99, 107, 32, 114, 32, 98, 32, 108, 111, 32, 100], [111, 117, 116, 32, 114]]
  | 6 => [[108, 101, 116, 32, 114, 32, 120, 32, 38, 32, 121], [99, 111, 110, 115, 116, 32, 122, 101, 114, 111, 32, 87, 32, 48], [108, 101, 116, 32, 110, 32, 114, 32, 61, 32, 122, 101, 114, 111], [110, 111, 116, 32, 115, 111, 109, 101, 32, 110], [111, 117, 116, 32, 114], [111, 117, 116, 32, 115, 111, 109, 101]]
  | 7 => [[108, 101, 116, 32, 115, 32, 120, 32, 60, 32, 121], [112, 105, 99, 107, 32, 114, 32, 115, 32, 120, 32, 121], [111, 117, 116, 32, 115], [111, 117, 116, 32, 114]]
  | 8 => [[108, 101, 116, 32, 97, 32, 120, 32, 38, 32, 121], [108, 101, 116, 32, 98, 32, 120, 32, 38, 32, 117], [108, 101, 116, 32, 99, 32, 121, 32, 38, 32, 117], [108, 101, 116, 32, 100, 32, 97, 32, 124, 32, 98], [108, 101, 116, 32, 114, 32, 100, 32, 124, 32, 99], [111, 117, 116, 32, 114]]
  | 9 => [[108, 101, 116, 32, 114, 32, 120, 32, 42, 32, 121], [111, 117, 116, 32, 114]]
  | 10 => [[112, 105, 99, 107, 32, 97, 32, 115, 32, 121, 32, 120], [112, 105, 99, 107, 32, 98, 32, 115, 32, 120, 32, 121], [111, 117, 116, 32, 97], [111, 117, 116, 32, 98]]
  | _ => [[99, 111, 110, 115, 116, 32, 122, 101, 114, 111, 32, 87, 32, 48], [99, 111, 110, 115, 116, 32, 111, 110, 101, 32, 87, 32, 49], [112, 105, 99, 107, 32, 100, 32, 115, 32, 111, 110, 101, 32, 122, 101, 114, 111], [108, 101, 116, 32, 114, 32, 120, 32, 43, 32, 100], [111, 117, 116, 32, 114]]

theorem in_list (k : Nat) : inA k = (inAl k).map toB ∧ inB k = (inBl k).map toB ∧ pgTx k = (pgTxl k).map toB := by
  refine ⟨?_, ?_, ?_⟩
  · unfold inA inAl; split <;> rfl
  · unfold inB inBl; split <;> rfl
  · unfold pgTx pgTxl; split <;> rfl
def pgTl (k : Nat) (w : Int) : List UInt8 := txNl w (txIl k w 1 (txIl k w 0 [] (inAl k)) (inBl k)) (pgTxl k)
theorem pgT_list (k : Nat) (w : Int) : pgT k w = toB (pgTl k w) := by
  obtain ⟨h1, h2, h3⟩ := in_list k
  unfold pgT pgTl
  rw [h1, h2, h3, show (⟨#[]⟩ : ByteArray) = toB [] from rfl, txI_list, txI_list, txN_list]
def pgOk (k : Nat) (w : Int) : Bool := decide ((pgTl k w).length ≤ 1000) && decide ((spA 10 (pgTl k w) []).length ≤ 31) && decide (0 < (spA 10 (pgTl k w) []).length) && decide (linesL (spA 10 (pgTl k w) []).dropLast = some (pgL k w)) && goodB (pgL k w) && decide (txRl [] (pgL k w) = some (pgTl k w)) && (spA 10 (pgTl k w) []).dropLast.all (fun t => decide (t.length ≤ 1000))
set_option maxHeartbeats 4000000 in
theorem pgOk_all : ∀ k, k < 12 → pgOk k 1 = true ∧ pgOk k 2 = true ∧ pgOk k 3 = true ∧ pgOk k 4 = true := by decide +kernel
theorem pgTx_small : ∀ k, k < 12 → ((inA k).length ≤ 2 ∧ (inB k).length ≤ 2 ∧ (inA k ++ inB k).all (fun t => decide (t.size ≤ 10)) = true) ∧ (pgTx k).length ≤ 10 ∧ (pgTx k).all (fun t => decide (t.size ≤ 60) && decide ((spS 32 t).length ≤ 10) && decide (0 < (spS 32 t).length) && (spS 32 t).all (fun u => decide (u.size ≤ 10))) = true := by decide +kernel
theorem pgOk_at {k : Nat} {w : Int} (hk : k < 12) (hw : inR w 1 4 = true) : ((pgT k w).size ≤ 1000 ∧ (spS 10 (pgT k w)).length ≤ 31 ∧ 0 < (spS 10 (pgT k w)).length) ∧ linesO (spS 10 (pgT k w)).dropLast = some (pgL k w) ∧ goodB (pgL k w) = true ∧ txR ⟨#[]⟩ (pgL k w) = some (pgT k w) ∧ ∀ t ∈ (spS 10 (pgT k w)).dropLast, t.size ≤ 1000 := by
  have e := pgT_list k w
  have h : pgOk k w = true := by
    have h1 := inR_iff.1 hw
    obtain ⟨a, b, c, d⟩ := pgOk_all k hk
    rcases (by omega : w = 1 ∨ w = 2 ∨ w = 3 ∨ w = 4) with rfl | rfl | rfl | rfl <;> assumption
  unfold pgOk at h
  simp only [Bool.and_eq_true, decide_eq_true_eq, List.all_eq_true] at h
  obtain ⟨⟨⟨⟨⟨⟨h1, h2⟩, h3⟩, h4⟩, h5⟩, h6⟩, h7⟩ := h
  have es := spS_list 10 (pgTl k w)
  rw [e, es, List.length_map, toB_size, ← List.map_dropLast, linesO_list, show (⟨#[]⟩ : ByteArray) = toB [] from rfl, txR_list, h6]
  refine ⟨⟨h1, h2, h3⟩, h4, h5, rfl, fun t ht => ?_⟩
  obtain ⟨u, hu, rfl⟩ := List.mem_map.1 ht
  rw [toB_size]
  exact h7 u hu
theorem txI_size (s t : ByteArray) (p d : Int) : (s ++ ((((((⟨#[105, 110, 112, 117, 116, 32]⟩ ++ dg p) ++ ⟨#[32]⟩) ++ t) ++ ⟨#[32]⟩) ++ dg d) ++ ⟨#[10]⟩)).size = s.size + t.size + 11 := by
  simp only [ByteArray.size_append, show ∀ n, (dg n).size = 1 from fun _ => rfl, show (⟨#[10]⟩ : ByteArray).size = 1 from rfl, show (⟨#[32]⟩ : ByteArray).size = 1 from rfl, show (⟨#[105, 110, 112, 117, 116, 32]⟩ : ByteArray).size = 6 from rfl]
  omega
theorem txW_step {w : Int} {s T : ByteArray} {l : List ByteArray} {j : Nat} {x : ByteArray} (hx : l[j]? = some x) (h : txW w s (l.drop j) = T) : txW w (s ++ (wdW w x ++ ⟨#[32]⟩)) (l.drop (j + 1)) = T := by
  obtain ⟨hk, rfl⟩ := List.getElem?_eq_some_iff.1 hx
  rw [List.drop_eq_getElem_cons hk, txW] at h; exact h
theorem txN_step {w : Int} {s T : ByteArray} {l : List ByteArray} {j : Nat} {t : ByteArray} (hx : l[j]? = some t) (h : txN w s (l.drop j) = T) : txN w ((txW w s (spS 32 t)).extract 0 ((txW w s (spS 32 t)).size - 1) ++ ⟨#[10]⟩) (l.drop (j + 1)) = T := by
  obtain ⟨hk, rfl⟩ := List.getElem?_eq_some_iff.1 hx
  rw [List.drop_eq_getElem_cons hk, txN] at h; exact h
theorem txI_step {k : Nat} {w p : Int} {s T : ByteArray} {l : List ByteArray} {j : Nat} {x : ByteArray} (hx : l[j]? = some x) (h : txI k w p s (l.drop j) = T) : txI k w p (s ++ ((((((⟨#[105, 110, 112, 117, 116, 32]⟩ ++ dg p) ++ ⟨#[32]⟩) ++ x) ++ ⟨#[32]⟩) ++ dg (wdI k w x)) ++ ⟨#[10]⟩)) (l.drop (j + 1)) = T := by
  obtain ⟨hk, rfl⟩ := List.getElem?_eq_some_iff.1 hx
  rw [List.drop_eq_getElem_cons hk, txI] at h; exact h
end Go.Proofs.YtjggecbaladiiaaGreatDoor
