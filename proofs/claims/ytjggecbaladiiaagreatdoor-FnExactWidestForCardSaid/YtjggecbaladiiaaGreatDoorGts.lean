/- Lists of gates: read, copied, compared, marked; circuits.
   Conditions: none. -/
import Derived.Test.YtjggecbaladiiaaGreatDoorRow
import Derived.Test.YtjggecbaladiiaaGreatDoorLst
import Derived.Test.YtjggecbaladiiaaGreatDoorHel
namespace Go.Proofs.YtjggecbaladiiaaGreatDoor
open Go.RowKit
set_option linter.unusedVariables false
theorem made_encs {α : Type} {enc : α → List Value} {size : Nat} (hs : ∀ x, (enc x).length = size) (z : α) (n : Nat) (hp : 0 < size) :
    (madeCells (enc z).toArray (n * size)).toList = encs enc (List.replicate n z) := by
  apply List.ext_getElem?
  intro i
  rcases Nat.lt_or_ge i (n * size) with h | h
  · have hk : i / size < n := (Nat.div_lt_iff_lt_mul hp).2 h
    have hj : i % size < size := Nat.mod_lt _ hp
    have e1 := encs_get hs (List.replicate n z) (i / size) (i % size) z (by simp [hk]) hj
    have e2 : i / size * size + i % size = i := by rw [Nat.mul_comm]; exact Nat.div_add_mod i size
    rw [e2] at e1
    rw [e1]
    simp [madeCells, hs, h]
    rw [List.getElem?_eq_getElem (by rw [hs]; exact hj), Option.getD_some]
  · rw [List.getElem?_eq_none (by simpa [size_madeCells] using h), List.getElem?_eq_none (by rw [encs_length hs]; simpa using h)]
theorem run_make_rowN {P : Program} (t e : TypeId) (i : TypeInfo) (z : Value) (ht : P.underlying t = some (.slice e)) (hi : P.info? e = some i) (hz : i.zero = some z)
    (kl kc : IntKind) (n c : Nat) (hnc : n ≤ c) (hbytes : i.bytes * c ≤ 281474976710656) (h63 : c ≤ 9223372036854775807) (w : World) :
    (Instr.makeSlice t (.int kl (n : Int)) (.int kc (c : Int))).run P w = .ok (.slice (some ⟨w.heap.size, 0, none⟩) n c) (w.alloc (.cells (madeCells z.cells (c * i.size)) e)) := by
  have hb : (i.bytes : Int) * (c : Int) ≤ 281474976710656 := by
    have h : ((i.bytes * c : Nat) : Int) ≤ 281474976710656 := by omega
    rwa [Int.natCast_mul] at h
  have hr := run_make (P := P) w t e i z ht hi hz kl kc n c (by omega) (by omega) hb (by omega)
  simp only [Int.toNat_natCast] at hr
  exact hr
theorem add_zero_ (a : Addr) : a.add 0 = a := by simp [Addr.add]
theorem add_succ_ (a : Addr) (j : Nat) : a.add (j + 1) = ⟨a.block, a.off + (j + 1), none⟩ := by simp [Addr.add]
/-- A gate. -/
structure Gt where
  k : Int
  a : Int
  b : Int
deriving DecidableEq
def Gt.enc (x : Gt) : List Value := [.int .i64 x.k, .int .i64 x.a, .int .i64 x.b]
theorem Gt.enc_len (x : Gt) : x.enc.length = 3 := rfl
def gts (l : List Gt) : List Value := encs Gt.enc l
def RdG (w : World) (A : Option Addr) (n c : Nat) (l : List Gt) : Prop := Rd w 3 A n c (gts l) ∧ l.length = n
def Gt.zero : Gt := ⟨0, 0, 0⟩
def OwnG (base : Nat) (w : World) (A : Option Addr) (n c : Nat) (l : List Gt) : Prop := OwnV 114 3 base w A n c (gts l) ∧ l.length = n
theorem gate_info : (Tryz.prog.info? 114).map (fun i => (i.zero, i.size, i.bytes)) = some (some (.agg #[.int .i64 0, .int .i64 0, .int .i64 0]), 3, 24) := by kernel_rfl
theorem OwnG.rd {base n c : Nat} {w : World} {A : Option Addr} {l : List Gt} (h : OwnG base w A n c l) : RdG w A n c l := ⟨h.1.rd, h.2⟩
theorem RdG.keep {n c : Nat} {w w' : World} {A : Option Addr} {l : List Gt} (h : RdG w A n c l) (hb : Bl w w') : RdG w' A n c l := ⟨h.1.keep hb, h.2⟩
theorem OwnG.keep {base n c : Nat} {w w' : World} {A : Option Addr} {l : List Gt} (h : OwnG base w A n c l) (hb : Bl w w') : OwnG base w' A n c l := ⟨h.1.keep hb, h.2⟩
theorem OwnG.blk {base n c : Nat} {w : World} {A : Option Addr} {l : List Gt} (h : OwnG base w A n c l) : ∀ k, A.map (·.block) = some k → base ≤ k ∧ k < w.heap.size := OwnV.blk h.1
theorem RdG.le {n c : Nat} {w : World} {A : Option Addr} {l : List Gt} (h : RdG w A n c l) : n ≤ c ∧ c ≤ 9223372036854775807 := ⟨h.1.cap, by have := h.1.max; unfold maxLen at this; exact this⟩
theorem RdG.at_ {n c : Nat} {w : World} {A : Option Addr} {l : List Gt} (h : RdG w A n c l) {k : Nat} (hk : k < n) :
    ∃ ad K a b, A = some ad ∧ l[k]? = some ⟨K, a, b⟩ ∧ w.cell? (ad.add (k * 3)) = some (.int .i64 K) ∧ w.cell? ⟨(ad.add (k * 3)).block, (ad.add (k * 3)).off + 1, none⟩ = some (.int .i64 a) ∧
      w.cell? ⟨(ad.add (k * 3)).block, (ad.add (k * 3)).off + 2, none⟩ = some (.int .i64 b) := by
  obtain ⟨ad, ⟨K, a, b⟩, e, _, hx, hc⟩ := Rd.elem Gt.enc_len h.1 h.2 hk
  have h0 := hc 0 _ (by omega) rfl
  rw [add_zero_] at h0
  exact ⟨ad, K, a, b, e, hx, h0, hc 1 _ (by omega) rfl, hc 2 _ (by omega) rfl⟩
theorem OwnG.at_ {base n c : Nat} {w : World} {g : Nat} {l : List Gt} (h : OwnG base w (some ⟨g, 0, none⟩) n c l) {k : Nat} (hk : k < n) :
    ∃ K a b, l[k]? = some ⟨K, a, b⟩ ∧ (∀ i, w.frozen? ⟨g, i, none⟩ = false) ∧ w.cell? ⟨g, k * 3, none⟩ = some (.int .i64 K) ∧ w.cell? ⟨g, k * 3 + 1, none⟩ = some (.int .i64 a) ∧
      w.cell? ⟨g, k * 3 + 2, none⟩ = some (.int .i64 b) := by
  obtain ⟨g', hg, _, _, hcell, hfr⟩ := h.1.form (by omega)
  injection hg with hg
  injection hg with hg
  subst hg
  have hkl : k < l.length := by rw [h.2]; exact hk
  obtain ⟨x, hx⟩ : ∃ x, l[k]? = some x := ⟨_, List.getElem?_eq_getElem hkl⟩
  obtain ⟨K, a, b⟩ := x
  have hq : ∀ j u, j < 3 → (Gt.enc ⟨K, a, b⟩)[j]? = some u → w.cell? ⟨g, k * 3 + j, none⟩ = some u := fun j u hj hu =>
    hcell _ u (by rw [gts, encs_get Gt.enc_len l k j _ hx hj]; exact hu)
  exact ⟨K, a, b, hx, hfr, hq 0 _ (by omega) rfl, hq 1 _ (by omega) rfl, hq 2 _ (by omega) rfl⟩
/-- All three cells of an element are written. -/
theorem OwnG.put {base n c : Nat} {w : World} {g : Nat} {l : List Gt} (h : OwnG base w (some ⟨g, 0, none⟩) n c l) {k : Nat} (hk : k < n) (K a b : Int) :
    OwnG base (((w.setCell ⟨g, k * 3, none⟩ (.int .i64 K)).setCell ⟨g, k * 3 + 1, none⟩ (.int .i64 a)).setCell ⟨g, k * 3 + 2, none⟩ (.int .i64 b))
      (some ⟨g, 0, none⟩) n c (l.set k ⟨K, a, b⟩) := by
  refine ⟨?_, by simpa using h.2⟩
  have h5 := ((h.1.set_ (k * 3) (.int .i64 K) (by omega)).set_ (k * 3 + 1) (.int .i64 a) (by omega)).set_ (k * 3 + 2) (.int .i64 b) (by omega)
  have he := putAt_encs Gt.enc_len l k ⟨K, a, b⟩ (by rw [h.2]; exact hk)
  unfold gts
  rw [← he]
  exact h5
theorem make_gates (n : Nat) (hn : n ≤ 7036874417766) : ∀ w : World, (Instr.makeSlice 51 (.int .i64 (n : Int)) (.int .i64 (n : Int))).run Tryz.prog w = .ok (.slice (some ⟨w.heap.size, 0, none⟩) n n) (w.alloc (.cells (madeCells (Gt.zero.enc).toArray (n * 3)) 114)) := by
  obtain ⟨i0, hi, hz0, hz1, hz2⟩ := info_parts gate_info
  intro w
  have h := run_make_rowN (P := Tryz.prog) 51 114 i0 _ Tryz.underlying51 hi hz0 .i64 .i64 n n (Nat.le_refl _) (by rw [hz2]; omega) (by omega) w
  rw [hz1] at h
  exact h
theorem own_made_gates (w : World) (n : Nat) (hn : n ≤ 7036874417766) {g : Nat} (hg : w.heap.size = g := by first | with_reducible rfl | simp) :
    OwnG w.heap.size (w.alloc (.cells (madeCells (Gt.zero.enc).toArray (n * 3)) 114)) (some ⟨g, 0, none⟩) n n (List.replicate n Gt.zero) := by
  subst hg
  refine ⟨⟨?_, .inr ⟨w.heap.size, n, _, rfl, Nat.le_refl _, heap_alloc_new w _, Nat.le_refl _, by unfold maxLen; omega, by simp [size_madeCells], ?_⟩⟩, by simp⟩
  · simp [gts, encs_length Gt.enc_len]
  · rw [made_encs Gt.enc_len _ _ (by omega), List.take_of_length_le (by rw [encs_length Gt.enc_len]; simp)]
    rfl
/-- The marks of the elements. -/
def markGt (k : Int) : Gt := ⟨k, k + 1, k + 1 + 1⟩
def markGts (k : Int) (l : List Gt) (i : Nat) : List Gt := ((List.range i).map fun j => markGt (k + 3 * (j : Nat))) ++ l.drop i
theorem markGts_zero (k : Int) (l : List Gt) : markGts k l 0 = l := by simp [markGts]
theorem markGts_step (k : Int) (l : List Gt) (i : Nat) (h : i < l.length) : (markGts k l i).set i (markGt (k + 3 * i)) = markGts k l (i + 1) := by
  unfold markGts
  rw [List.set_append_right _ _ (by simp), show i - ((List.range i).map fun j => markGt (k + 3 * (j : Nat))).length = 0 by simp, List.drop_eq_getElem_cons h, List.set_cons_zero]
  simp [List.range_succ]
end Go.Proofs.YtjggecbaladiiaaGreatDoor
