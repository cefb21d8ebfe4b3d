/- The dozen programs as data, and calls into the library in plain words.
   Conditions: the library's tables are laid. -/
import Derived.Test.YtjggecbaladiiaaGreatDoorPra
import Derived.Test.YtjggecbaladiiaaGreatDoorShf
import Derived.Lib.SplitLaws
namespace Go.Proofs.YtjggecbaladiiaaGreatDoor
open Go.RowKit
set_option linter.unusedVariables false
def nF : Nat → ByteArray
  | 0 => ⟨#[120]⟩
  | 1 => ⟨#[120]⟩
  | 2 => ⟨#[120]⟩
  | 3 => ⟨#[120]⟩
  | 4 => ⟨#[120]⟩
  | 5 => ⟨#[120, 32, 121]⟩
  | 6 => ⟨#[120]⟩
  | 7 => ⟨#[120]⟩
  | 8 => ⟨#[120, 49, 32, 121, 49]⟩
  | 9 => ⟨#[120]⟩
  | 10 => ⟨#[120, 32, 121]⟩
  | _ => ⟨#[120]⟩
def nS : Nat → ByteArray
  | 0 => ⟨#[121]⟩
  | 1 => ⟨#[121]⟩
  | 2 => ⟨#[121]⟩
  | 3 => ⟨#[121]⟩
  | 4 => ⟨#[121]⟩
  | 5 => ⟨#[117]⟩
  | 6 => ⟨#[121]⟩
  | 7 => ⟨#[121]⟩
  | 8 => ⟨#[117, 49]⟩
  | 9 => ⟨#[121]⟩
  | 10 => ⟨#[115, 49]⟩
  | _ => ⟨#[115, 49]⟩
def nL : Nat → ByteArray
  | 0 => ⟨#[108, 101, 116, 32, 114, 32, 121, 32, 60, 32, 120]⟩
  | 1 => ⟨#[108, 101, 116, 32, 114, 32, 120, 32, 61, 32, 121]⟩
  | 2 => ⟨#[108, 101, 116, 32, 115, 32, 120, 32, 60, 32, 121, 44, 112, 105, 99, 107, 32, 114, 32, 115, 32, 121, 32, 120]⟩
  | 3 => ⟨#[108, 101, 116, 32, 115, 32, 120, 32, 60, 32, 121, 44, 112, 105, 99, 107, 32, 114, 32, 115, 32, 120, 32, 121]⟩
  | 4 => ⟨#[108, 101, 116, 32, 115, 32, 120, 32, 60, 32, 121, 44, 108, 101, 116, 32, 100, 32, 120, 32, 45, 32, 121, 44, 108, 101, 116, 32, 101, 32, 121, 32, 45, 32, 120, 44, 112, 105, 99, 107, 32, 114, 32, 115, 32, 101, 32, 100]⟩
  | 5 => ⟨#[108, 101, 116, 32, 97, 32, 120, 32, 60, 32, 121, 44, 112, 105, 99, 107, 32, 108, 111, 32, 97, 32, 120, 32, 121, 44, 112, 105, 99, 107, 32, 104, 105, 32, 97, 32, 121, 32, 120, 44, 108, 101, 116, 32, 98, 32, 117, 32, 60, 32, 108, 111, 44, 108, 101, 116, 32, 99, 32, 104, 105, 32, 60, 32, 117, 44, 112, 105, 99, 107, 32, 100, 32, 99, 32, 104, 105, 32, 117, 44, 112, 105, 99, 107, 32, 114, 32, 98, 32, 108, 111, 32, 100]⟩
  | 6 => ⟨#[108, 101, 116, 32, 114, 32, 120, 32, 38, 32, 121, 44, 99, 111, 110, 115, 116, 32, 122, 101, 114, 111, 44, 108, 101, 116, 32, 110, 32, 114, 32, 61, 32, 122, 101, 114, 111, 44, 110, 111, 116, 32, 115, 111, 109, 101, 32, 110]⟩
  | 7 => ⟨#[108, 101, 116, 32, 115, 32, 120, 32, 60, 32, 121, 44, 112, 105, 99, 107, 32, 114, 32, 115, 32, 120, 32, 121]⟩
  | 8 => ⟨#[108, 101, 116, 32, 97, 32, 120, 32, 38, 32, 121, 44, 108, 101, 116, 32, 98, 32, 120, 32, 38, 32, 117, 44, 108, 101, 116, 32, 99, 32, 121, 32, 38, 32, 117, 44, 108, 101, 116, 32, 100, 32, 97, 32, 124, 32, 98, 44, 108, 101, 116, 32, 114, 32, 100, 32, 124, 32, 99]⟩
  | 9 => ⟨#[108, 101, 116, 32, 114, 32, 120, 32, 42, 32, 121]⟩
  | 10 => ⟨#[112, 105, 99, 107, 32, 97, 32, 115, 32, 121, 32, 120, 44, 112, 105, 99, 107, 32, 98, 32, 115, 32, 120, 32, 121]⟩
  | _ => ⟨#[99, 111, 110, 115, 116, 32, 122, 101, 114, 111, 44, 99, 111, 110, 115, 116, 32, 111, 110, 101, 44, 112, 105, 99, 107, 32, 100, 32, 115, 32, 111, 110, 101, 32, 122, 101, 114, 111, 44, 108, 101, 116, 32, 114, 32, 120, 32, 43, 32, 100]⟩
def nR : Nat → ByteArray
  | 0 => ⟨#[114]⟩
  | 1 => ⟨#[114]⟩
  | 2 => ⟨#[114]⟩
  | 3 => ⟨#[114]⟩
  | 4 => ⟨#[114]⟩
  | 5 => ⟨#[114]⟩
  | 6 => ⟨#[114, 32, 115, 111, 109, 101]⟩
  | 7 => ⟨#[115, 32, 114]⟩
  | 8 => ⟨#[114]⟩
  | 9 => ⟨#[114]⟩
  | 10 => ⟨#[97, 32, 98]⟩
  | _ => ⟨#[114]⟩
def nN : Nat → ByteArray
  | 0 => ⟨#[114, 105, 99, 104, 101, 114]⟩
  | 1 => ⟨#[101, 113, 117, 97, 108]⟩
  | 2 => ⟨#[103, 114, 101, 97, 116, 101, 115, 116]⟩
  | 3 => ⟨#[108, 101, 97, 115, 116]⟩
  | 4 => ⟨#[103, 97, 112]⟩
  | 5 => ⟨#[109, 101, 100, 105, 97, 110]⟩
  | 6 => ⟨#[99, 111, 109, 109, 111, 110]⟩
  | 7 => ⟨#[97, 117, 99, 116, 105, 111, 110]⟩
  | 8 => ⟨#[118, 111, 116, 101]⟩
  | 9 => ⟨#[112, 114, 111, 100, 117, 99, 116]⟩
  | 10 => ⟨#[115, 119, 97, 112]⟩
  | _ => ⟨#[115, 116, 101, 112]⟩
/-- The dozen. -/
def pgL (k : Nat) (w : Int) : List Ln := match k with
  | 0 => [⟨1, ⟨#[120]⟩, ⟨#[]⟩, [], 0, w, 0⟩, ⟨1, ⟨#[121]⟩, ⟨#[]⟩, [], 1, w, 0⟩, ⟨3, ⟨#[114]⟩, ⟨#[60]⟩, [⟨#[121]⟩, ⟨#[120]⟩], 0, 0, 0⟩, ⟨6, ⟨#[]⟩, ⟨#[]⟩, [⟨#[114]⟩], 0, 0, 0⟩]
  | 1 => [⟨1, ⟨#[120]⟩, ⟨#[]⟩, [], 0, w, 0⟩, ⟨1, ⟨#[121]⟩, ⟨#[]⟩, [], 1, w, 0⟩, ⟨3, ⟨#[114]⟩, ⟨#[61]⟩, [⟨#[120]⟩, ⟨#[121]⟩], 0, 0, 0⟩, ⟨6, ⟨#[]⟩, ⟨#[]⟩, [⟨#[114]⟩], 0, 0, 0⟩]
  | 2 => [⟨1, ⟨#[120]⟩, ⟨#[]⟩, [], 0, w, 0⟩, ⟨1, ⟨#[121]⟩, ⟨#[]⟩, [], 1, w, 0⟩, ⟨3, ⟨#[115]⟩, ⟨#[60]⟩, [⟨#[120]⟩, ⟨#[121]⟩], 0, 0, 0⟩, ⟨5, ⟨#[114]⟩, ⟨#[]⟩, [⟨#[115]⟩, ⟨#[121]⟩, ⟨#[120]⟩], 0, 0, 0⟩, ⟨6, ⟨#[]⟩, ⟨#[]⟩, [⟨#[114]⟩], 0, 0, 0⟩]
  | 3 => [⟨1, ⟨#[120]⟩, ⟨#[]⟩, [], 0, w, 0⟩, ⟨1, ⟨#[121]⟩, ⟨#[]⟩, [], 1, w, 0⟩, ⟨3, ⟨#[115]⟩, ⟨#[60]⟩, [⟨#[120]⟩, ⟨#[121]⟩], 0, 0, 0⟩, ⟨5, ⟨#[114]⟩, ⟨#[]⟩, [⟨#[115]⟩, ⟨#[120]⟩, ⟨#[121]⟩], 0, 0, 0⟩, ⟨6, ⟨#[]⟩, ⟨#[]⟩, [⟨#[114]⟩], 0, 0, 0⟩]
  | 4 => [⟨1, ⟨#[120]⟩, ⟨#[]⟩, [], 0, w, 0⟩, ⟨1, ⟨#[121]⟩, ⟨#[]⟩, [], 1, w, 0⟩, ⟨3, ⟨#[115]⟩, ⟨#[60]⟩, [⟨#[120]⟩, ⟨#[121]⟩], 0, 0, 0⟩, ⟨3, ⟨#[100]⟩, ⟨#[45]⟩, [⟨#[120]⟩, ⟨#[121]⟩], 0, 0, 0⟩, ⟨3, ⟨#[101]⟩, ⟨#[45]⟩, [⟨#[121]⟩, ⟨#[120]⟩], 0, 0, 0⟩, ⟨5, ⟨#[114]⟩, ⟨#[]⟩, [⟨#[115]⟩, ⟨#[101]⟩, ⟨#[100]⟩], 0, 0, 0⟩, ⟨6, ⟨#[]⟩, ⟨#[]⟩, [⟨#[114]⟩], 0, 0, 0⟩]
  | 5 => [⟨1, ⟨#[120]⟩, ⟨#[]⟩, [], 0, w, 0⟩, ⟨1, ⟨#[121]⟩, ⟨#[]⟩, [], 0, w, 0⟩, ⟨1, ⟨#[117]⟩, ⟨#[]⟩, [], 1, w, 0⟩, ⟨3, ⟨#[97]⟩, ⟨#[60]⟩, [⟨#[120]⟩, ⟨#[121]⟩], 0, 0, 0⟩, ⟨5, ⟨#[108, 111]⟩, ⟨#[]⟩, [⟨#[97]⟩, ⟨#[120]⟩, ⟨#[121]⟩], 0, 0, 0⟩, ⟨5, ⟨#[104, 105]⟩, ⟨#[]⟩, [⟨#[97]⟩, ⟨#[121]⟩, ⟨#[120]⟩], 0, 0, 0⟩, ⟨3, ⟨#[98]⟩, ⟨#[60]⟩, [⟨#[117]⟩, ⟨#[108, 111]⟩], 0, 0, 0⟩, ⟨3, ⟨#[99]⟩, ⟨#[60]⟩, [⟨#[104, 105]⟩, ⟨#[117]⟩], 0, 0, 0⟩, ⟨5, ⟨#[100]⟩, ⟨#[]⟩, [⟨#[99]⟩, ⟨#[104, 105]⟩, ⟨#[117]⟩], 0, 0, 0⟩, ⟨5, ⟨#[114]⟩, ⟨#[]⟩, [⟨#[98]⟩, ⟨#[108, 111]⟩, ⟨#[100]⟩], 0, 0, 0⟩, ⟨6, ⟨#[]⟩, ⟨#[]⟩, [⟨#[114]⟩], 0, 0, 0⟩]
  | 6 => [⟨1, ⟨#[120]⟩, ⟨#[]⟩, [], 0, w, 0⟩, ⟨1, ⟨#[121]⟩, ⟨#[]⟩, [], 1, w, 0⟩, ⟨3, ⟨#[114]⟩, ⟨#[38]⟩, [⟨#[120]⟩, ⟨#[121]⟩], 0, 0, 0⟩, ⟨2, ⟨#[122, 101, 114, 111]⟩, ⟨#[]⟩, [], 0, w, 0⟩, ⟨3, ⟨#[110]⟩, ⟨#[61]⟩, [⟨#[114]⟩, ⟨#[122, 101, 114, 111]⟩], 0, 0, 0⟩, ⟨4, ⟨#[115, 111, 109, 101]⟩, ⟨#[]⟩, [⟨#[110]⟩], 0, 0, 0⟩, ⟨6, ⟨#[]⟩, ⟨#[]⟩, [⟨#[114]⟩], 0, 0, 0⟩, ⟨6, ⟨#[]⟩, ⟨#[]⟩, [⟨#[115, 111, 109, 101]⟩], 0, 0, 0⟩]
  | 7 => [⟨1, ⟨#[120]⟩, ⟨#[]⟩, [], 0, w, 0⟩, ⟨1, ⟨#[121]⟩, ⟨#[]⟩, [], 1, w, 0⟩, ⟨3, ⟨#[115]⟩, ⟨#[60]⟩, [⟨#[120]⟩, ⟨#[121]⟩], 0, 0, 0⟩, ⟨5, ⟨#[114]⟩, ⟨#[]⟩, [⟨#[115]⟩, ⟨#[120]⟩, ⟨#[121]⟩], 0, 0, 0⟩, ⟨6, ⟨#[]⟩, ⟨#[]⟩, [⟨#[115]⟩], 0, 0, 0⟩, ⟨6, ⟨#[]⟩, ⟨#[]⟩, [⟨#[114]⟩], 0, 0, 0⟩]
  | 8 => [⟨1, ⟨#[120]⟩, ⟨#[]⟩, [], 0, 1, 0⟩, ⟨1, ⟨#[121]⟩, ⟨#[]⟩, [], 0, 1, 0⟩, ⟨1, ⟨#[117]⟩, ⟨#[]⟩, [], 1, 1, 0⟩, ⟨3, ⟨#[97]⟩, ⟨#[38]⟩, [⟨#[120]⟩, ⟨#[121]⟩], 0, 0, 0⟩, ⟨3, ⟨#[98]⟩, ⟨#[38]⟩, [⟨#[120]⟩, ⟨#[117]⟩], 0, 0, 0⟩, ⟨3, ⟨#[99]⟩, ⟨#[38]⟩, [⟨#[121]⟩, ⟨#[117]⟩], 0, 0, 0⟩, ⟨3, ⟨#[100]⟩, ⟨#[124]⟩, [⟨#[97]⟩, ⟨#[98]⟩], 0, 0, 0⟩, ⟨3, ⟨#[114]⟩, ⟨#[124]⟩, [⟨#[100]⟩, ⟨#[99]⟩], 0, 0, 0⟩, ⟨6, ⟨#[]⟩, ⟨#[]⟩, [⟨#[114]⟩], 0, 0, 0⟩]
  | 9 => [⟨1, ⟨#[120]⟩, ⟨#[]⟩, [], 0, w, 0⟩, ⟨1, ⟨#[121]⟩, ⟨#[]⟩, [], 1, w, 0⟩, ⟨3, ⟨#[114]⟩, ⟨#[42]⟩, [⟨#[120]⟩, ⟨#[121]⟩], 0, 0, 0⟩, ⟨6, ⟨#[]⟩, ⟨#[]⟩, [⟨#[114]⟩], 0, 0, 0⟩]
  | 10 => [⟨1, ⟨#[120]⟩, ⟨#[]⟩, [], 0, w, 0⟩, ⟨1, ⟨#[121]⟩, ⟨#[]⟩, [], 0, w, 0⟩, ⟨1, ⟨#[115]⟩, ⟨#[]⟩, [], 1, 1, 0⟩, ⟨5, ⟨#[97]⟩, ⟨#[]⟩, [⟨#[115]⟩, ⟨#[121]⟩, ⟨#[120]⟩], 0, 0, 0⟩, ⟨5, ⟨#[98]⟩, ⟨#[]⟩, [⟨#[115]⟩, ⟨#[120]⟩, ⟨#[121]⟩], 0, 0, 0⟩, ⟨6, ⟨#[]⟩, ⟨#[]⟩, [⟨#[97]⟩], 0, 0, 0⟩, ⟨6, ⟨#[]⟩, ⟨#[]⟩, [⟨#[98]⟩], 0, 0, 0⟩]
  | _ => [⟨1, ⟨#[120]⟩, ⟨#[]⟩, [], 0, w, 0⟩, ⟨1, ⟨#[115]⟩, ⟨#[]⟩, [], 1, 1, 0⟩, ⟨2, ⟨#[122, 101, 114, 111]⟩, ⟨#[]⟩, [], 0, w, 0⟩, ⟨2, ⟨#[111, 110, 101]⟩, ⟨#[]⟩, [], 0, w, 1⟩, ⟨5, ⟨#[100]⟩, ⟨#[]⟩, [⟨#[115]⟩, ⟨#[111, 110, 101]⟩, ⟨#[122, 101, 114, 111]⟩], 0, 0, 0⟩, ⟨3, ⟨#[114]⟩, ⟨#[43]⟩, [⟨#[120]⟩, ⟨#[100]⟩], 0, 0, 0⟩, ⟨6, ⟨#[]⟩, ⟨#[]⟩, [⟨#[114]⟩], 0, 0, 0⟩]
def fdB (s : ByteArray) : List ByteArray := (Lib.fields s.data.toList).map fun l => ⟨l.toArray⟩
def spB (sep s : ByteArray) : List ByteArray := Lib.splitB sep 0 (Lib.countB s sep) s
def tsB (s p : ByteArray) : ByteArray := ⟨(Lib.trimSuffix s.data.toList p.data.toList).toArray⟩
/-- A line of an input. -/
def mkI (pt w : Int) (name : ByteArray) : Ln := ⟨1, tsB name ⟨#[49]⟩, ⟨#[]⟩, [], pt, if tsB name ⟨#[49]⟩ = name then w else 1, 0⟩
/-- A line of a result. -/
def mkO (name : ByteArray) : Ln := ⟨6, ⟨#[]⟩, ⟨#[]⟩, [name], 0, 0, 0⟩
/-- What a text between them is. -/
inductive Cl where
  | zero
  | one
  | lt (nm p op q : ByteArray)
  | nt (nm p : ByteArray)
  | pk (nm p q r : ByteArray)
  | bad
def clW : List ByteArray → Cl
  | [a, b, c, d, e] => if a = ⟨#[108, 101, 116]⟩ then .lt b c d e else if a = ⟨#[112, 105, 99, 107]⟩ then .pk b c d e else .bad
  | [a, b, c] => if a = ⟨#[110, 111, 116]⟩ then .nt b c else .bad
  | _ => .bad
def cls (t : ByteArray) : Cl := if t = ⟨#[99, 111, 110, 115, 116, 32, 122, 101, 114, 111]⟩ then .zero else if t = ⟨#[99, 111, 110, 115, 116, 32, 111, 110, 101]⟩ then .one else clW (spB ⟨#[32]⟩ t)
def Cl.ln (w : Int) : Cl → Ln
  | .zero => ⟨2, ⟨#[122, 101, 114, 111]⟩, ⟨#[]⟩, [], 0, w, 0⟩
  | .one => ⟨2, ⟨#[111, 110, 101]⟩, ⟨#[]⟩, [], 0, w, 1⟩
  | .lt nm p op q => ⟨3, nm, op, [p, q], 0, 0, 0⟩
  | .nt nm p => ⟨4, nm, ⟨#[]⟩, [p], 0, 0, 0⟩
  | .pk nm p q r => ⟨5, nm, ⟨#[]⟩, [p, q, r], 0, 0, 0⟩
  | .bad => ⟨0, ⟨#[]⟩, ⟨#[]⟩, [], 0, 0, 0⟩
def Cl.ok : Cl → Bool
  | .bad => false
  | _ => true
def pgI (k : Nat) (w : Int) : List Ln := (fdB (nF k)).map (mkI 0 w) ++ (fdB (nS k)).map (mkI 1 w) ++ (spB ⟨#[44]⟩ (nL k)).map (fun t => (cls t).ln w) ++ (fdB (nR k)).map mkO
theorem pgI_eq : ∀ k, k < 12 → ∀ w, pgI k w = pgL k w := by
  intro k hk w
  rcases (by omega : k = 0 ∨ k = 1 ∨ k = 2 ∨ k = 3 ∨ k = 4 ∨ k = 5 ∨ k = 6 ∨ k = 7 ∨ k = 8 ∨ k = 9 ∨ k = 10 ∨ k = 11) with rfl | rfl | rfl | rfl | rfl | rfl | rfl | rfl | rfl | rfl | rfl | rfl <;> kernel_rfl
def asciiB (s : ByteArray) : Bool := decide (s.size ≤ 1000) && (s.data.toList.all (fun b => decide (b.toNat < 128)) && decide ((fdB s).length ≤ 1000))
theorem asciiB_at {s : ByteArray} (h : asciiB s = true) : s.size ≤ 1000 ∧ (∀ (j : Nat) b, s.data.toList[j]? = some b → b.toNat < 128) ∧ (fdB s).length ≤ 1000 := by
  simp only [asciiB, Bool.and_eq_true, decide_eq_true_eq, List.all_eq_true] at h
  exact ⟨h.1, fun j b hb => h.2.1 b (List.mem_of_getElem? hb), h.2.2⟩
theorem pg_ascii : ∀ k, k < 12 → asciiB (nF k) = true ∧ asciiB (nS k) = true ∧ asciiB (nL k) = true ∧ asciiB (nR k) = true ∧ (spB ⟨#[44]⟩ (nL k)).all (fun t => (cls t).ok && asciiB t) = true ∧ (fdB (nF k) ++ fdB (nS k)).all asciiB = true := by
  decide +kernel
/-- The library's tables, as they lie. -/
structure Tb (w : World) : Prop where
  m : ∃ m, w.cell? ⟨3, 0, none⟩ = some (.int .i64 m)
  a : ∀ c : Nat, c < 256 → w.cell? ⟨0, c, none⟩ = some (.int .u8 (if Lib.isSp (UInt8.ofNat c) then 1 else 0))
theorem Tb.keep {w w' : World} (h : Tb w) (hb : Bl w w') : Tb w' := by
  obtain ⟨m, hm⟩ := h.m
  exact ⟨⟨m, hb.cells hm⟩, fun c hc => hb.cells (h.a c hc)⟩
theorem lib_Fields (s : ByteArray) (w : World) (hs : asciiB s = true) (ht : Tb w) :
    Calls Tryz.prog 121 #[.string s] w fun e w' => ∃ n, e = .returned (.slice (some ⟨w.heap.size, 0, none⟩) n n) ∧ RdS w' (some ⟨w.heap.size, 0, none⟩) n n (fdB s) ∧ Bl w w' := by
  obtain ⟨h1, h2, h3⟩ := asciiB_at hs
  refine (Any.strings_Fields_core Tryz.lays157 (by kernel_rfl) s w (by omega) h2 ht.a).mono ?_
  rintro e w' ⟨rfl, rfl⟩
  have hlen : (Lib.fields s.data.toList).length = (fdB s).length := by simp [fdB]
  have e : (Lib.fields s.data.toList).map (fun l => Value.string ⟨l.toArray⟩) = (fdB s).map Value.string := by simp [fdB]
  rw [e, hlen]
  have hb : (fdB s).length ≤ 1000000 := by omega
  exact ⟨_, rfl, (own_strs w (fdB s) (base := w.heap.size) rfl (Nat.le_refl _) hb).rd, (Bl.refl w).alloc _⟩
theorem lib_Split (sep s : ByteArray) (w : World) (hs : s.size ≤ 1000) (h1 : 1 ≤ sep.size) (ht : Tb w) :
    Calls Tryz.prog 119 #[.string s, .string sep] w fun e w' => ∃ n, e = .returned (.slice (some ⟨w.heap.size, 0, none⟩) n n) ∧ RdS w' (some ⟨w.heap.size, 0, none⟩) n n (spB sep s) ∧ Bl w w' := by
  obtain ⟨m, hm⟩ := ht.m
  refine (Tryz.strings_Split s sep m w (by omega) hm h1).mono ?_
  rintro e w' ⟨rfl, rfl⟩
  have hlen : (spB sep s).length = Lib.countB s sep + 1 := Lib.splitB_all sep h1 0 _ s rfl
  have hc := Lib.countB_le sep h1 s.size s (Nat.le_refl _)
  rw [← hlen]
  exact ⟨_, rfl, (own_strs w (spB sep s) (base := w.heap.size) rfl (Nat.le_refl _) (by omega)).rd, (Bl.refl w).alloc _⟩
theorem lib_TrimSuffix (s p : ByteArray) (w : World) (hs : s.size ≤ 1000) : Calls Tryz.prog 160 #[.string s, .string p] w fun e w' => e = .returned (.string (tsB s p)) ∧ w = w' := by
  refine (Tryz.strings_TrimSuffix s p w (by omega)).mono ?_
  rintro e w' ⟨rfl, rfl⟩
  exact ⟨rfl, rfl⟩
theorem lib_Clone (ad : Addr) (n c : Nat) (l : List ByteArray) (w : World) (h : RdS w (some ad) n c l) (hs : ad.spot = none) (hn : n ≤ 1000) (hn0 : 0 < n) :
    Calls Tryz.prog 164 #[.slice (some ad) n c] w fun e w' => ∃ A' c', e = .returned (.slice A' n c') ∧ OwnS w.heap.size w' A' n c' l ∧ Bl w w' := by
  obtain ⟨b, off, sp⟩ := ad
  dsimp only at hs
  subst hs
  have hl := h.length
  refine (Tryz.slices_Clone_string b off n c l w (by omega) (by omega) (fun j hj => ?_)).mono ?_
  · obtain ⟨ad, v, e, _, hv, hc⟩ := h.at_ (show j < n by omega)
    injection e with e
    subst e
    rw [List.getD_eq_getElem?_getD, hv]
    have hadd : (⟨b, off, none⟩ : Addr).add j = ⟨b, off + j, none⟩ := by unfold Addr.add; split <;> simp_all
    rwa [hadd] at hc
  · rintro e w' ⟨v', rfl, ho, _, hb⟩
    rw [List.take_of_length_le (by omega)] at ho
    rcases ho.2 with ⟨_, h0⟩ | ⟨g, cap, cur, rfl, _⟩
    · omega
    · exact ⟨_, _, rfl, ho, hb⟩
end Go.Proofs.YtjggecbaladiiaaGreatDoor
