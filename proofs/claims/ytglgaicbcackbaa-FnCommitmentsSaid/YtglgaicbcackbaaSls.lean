/- Lists of sealed values: copied, compared, marked.
   Conditions: none. -/
import Derived.Test.YtglgaicbcackbaaRow
import Derived.Test.YtglgaicbcackbaaSed
import Derived.Test.YtglgaicbcackbaaLst
import Derived.Test.YtglgaicbcackbaaHel
namespace Go.Proofs.Ytglgaicbcackbaa
open Go.RowKit
set_option linter.unusedVariables false
theorem made_encs {α : Type} {enc : α → List Value} {size : Nat} (hs : ∀ x, (enc x).length = size) (z : α) (n : Nat) (hp : 0 < size) :
    (madeCells (enc z).toArray (n * size)).toList = encs enc (List.replicate n z) := by
  apply List.ext_getElem?
  intro i
  rcases Nat.lt_or_ge i (n * size) with h | h
  · have hk : i / size < n := (Nat.div_lt_iff_lt_mul hp).2 h
    have hj : i % size < size := Nat.mod_lt _ hp
    have e1 := encs_get hs (List.replicate n z) (i / size) (i % size) z (by simp [hk]) hj
    have e2 : i / size * size + i % size = i := by rw [Nat.mul_comm]; exact Nat.div_add_mod i size
    rw [e2] at e1
    rw [e1]
    simp [madeCells, hs, h]
    rw [List.getElem?_eq_getElem (by rw [hs]; exact hj), Option.getD_some]
  · rw [List.getElem?_eq_none (by simpa [size_madeCells] using h), List.getElem?_eq_none (by rw [encs_length hs]; simpa using h)]
/-- A sealed value. -/
structure Sea where
  p : Int
  m : Int
  v : Int
  b : Int
  o : Bool
def Sea.enc (x : Sea) : List Value := [.int .i64 x.p, .int .i64 x.m, .int .i64 x.v, .int .i64 x.b, .bool x.o]
theorem Sea.enc_len (x : Sea) : x.enc.length = 5 := rfl
def seas (l : List Sea) : List Value := encs Sea.enc l
def RdS (w : World) (A : Option Addr) (n c : Nat) (l : List Sea) : Prop := Rd w 5 A n c (seas l) ∧ l.length = n
def Sea.zero : Sea := ⟨0, 0, 0, 0, false⟩
def OwnS (base : Nat) (w : World) (A : Option Addr) (n c : Nat) (l : List Sea) : Prop := OwnV 38 5 base w A n c (seas l) ∧ l.length = n
theorem sea_info : (Try.prog.info? 38).map (fun i => (i.zero, i.size, i.bytes)) = some (some (.agg #[.int .i64 0, .int .i64 0, .int .i64 0, .int .i64 0, .bool false]), 5, 40) := by kernel_rfl
theorem OwnS.rd {base n c : Nat} {w : World} {A : Option Addr} {l : List Sea} (h : OwnS base w A n c l) : RdS w A n c l := ⟨h.1.rd, h.2⟩
theorem RdS.keep {n c : Nat} {w w' : World} {A : Option Addr} {l : List Sea} (h : RdS w A n c l) (hb : Bl w w') : RdS w' A n c l := ⟨h.1.keep hb, h.2⟩
theorem OwnS.keep {base n c : Nat} {w w' : World} {A : Option Addr} {l : List Sea} (h : OwnS base w A n c l) (hb : Bl w w') : OwnS base w' A n c l := ⟨h.1.keep hb, h.2⟩
theorem RdS.le {n c : Nat} {w : World} {A : Option Addr} {l : List Sea} (h : RdS w A n c l) : n ≤ c ∧ c ≤ 9223372036854775807 := ⟨h.1.cap, by have := h.1.max; unfold maxLen at this; exact this⟩
theorem add_zero_ (a : Addr) : a.add 0 = a := by simp [Addr.add]
theorem add_succ_ (a : Addr) (j : Nat) : a.add (j + 1) = ⟨a.block, a.off + (j + 1), none⟩ := by simp [Addr.add]
theorem RdS.at_ {n c : Nat} {w : World} {A : Option Addr} {l : List Sea} (h : RdS w A n c l) {k : Nat} (hk : k < n) :
    ∃ ad p m v b o, A = some ad ∧ l[k]? = some ⟨p, m, v, b, o⟩ ∧ w.cell? (ad.add (k * 5)) = some (.int .i64 p) ∧ w.cell? ⟨(ad.add (k * 5)).block, (ad.add (k * 5)).off + 1, none⟩ = some (.int .i64 m) ∧
      w.cell? ⟨(ad.add (k * 5)).block, (ad.add (k * 5)).off + 2, none⟩ = some (.int .i64 v) ∧ w.cell? ⟨(ad.add (k * 5)).block, (ad.add (k * 5)).off + 3, none⟩ = some (.int .i64 b) ∧
      w.cell? ⟨(ad.add (k * 5)).block, (ad.add (k * 5)).off + 4, none⟩ = some (.bool o) := by
  obtain ⟨ad, ⟨p, m, v, b, o⟩, e, _, hx, hc⟩ := Rd.elem Sea.enc_len h.1 h.2 hk
  have h0 := hc 0 _ (by omega) rfl
  rw [add_zero_] at h0
  exact ⟨ad, p, m, v, b, o, e, hx, h0, hc 1 _ (by omega) rfl, hc 2 _ (by omega) rfl, hc 3 _ (by omega) rfl, hc 4 _ (by omega) rfl⟩
theorem OwnS.at_ {base n c : Nat} {w : World} {g : Nat} {l : List Sea} (h : OwnS base w (some ⟨g, 0, none⟩) n c l) {k : Nat} (hk : k < n) :
    ∃ p m v b o, l[k]? = some ⟨p, m, v, b, o⟩ ∧ (∀ i, w.frozen? ⟨g, i, none⟩ = false) ∧ w.cell? ⟨g, k * 5, none⟩ = some (.int .i64 p) ∧ w.cell? ⟨g, k * 5 + 1, none⟩ = some (.int .i64 m) ∧
      w.cell? ⟨g, k * 5 + 2, none⟩ = some (.int .i64 v) ∧ w.cell? ⟨g, k * 5 + 3, none⟩ = some (.int .i64 b) ∧ w.cell? ⟨g, k * 5 + 4, none⟩ = some (.bool o) := by
  obtain ⟨g', hg, _, _, hcell, hfr⟩ := h.1.form (by omega)
  injection hg with hg
  injection hg with hg
  subst hg
  have hkl : k < l.length := by rw [h.2]; exact hk
  obtain ⟨x, hx⟩ : ∃ x, l[k]? = some x := ⟨_, List.getElem?_eq_getElem hkl⟩
  obtain ⟨p, m, v, b, o⟩ := x
  have hq : ∀ j u, j < 5 → (Sea.enc ⟨p, m, v, b, o⟩)[j]? = some u → w.cell? ⟨g, k * 5 + j, none⟩ = some u := fun j u hj hu =>
    hcell _ u (by rw [seas, encs_get Sea.enc_len l k j _ hx hj]; exact hu)
  exact ⟨p, m, v, b, o, hx, hfr, hq 0 _ (by omega) rfl, hq 1 _ (by omega) rfl, hq 2 _ (by omega) rfl, hq 3 _ (by omega) rfl, hq 4 _ (by omega) rfl⟩
/-- All five cells of an element are written. -/
theorem OwnS.put {base n c : Nat} {w : World} {g : Nat} {l : List Sea} (h : OwnS base w (some ⟨g, 0, none⟩) n c l) {k : Nat} (hk : k < n) (p m v b : Int) (o : Bool) :
    OwnS base (((((w.setCell ⟨g, k * 5, none⟩ (.int .i64 p)).setCell ⟨g, k * 5 + 1, none⟩ (.int .i64 m)).setCell ⟨g, k * 5 + 2, none⟩ (.int .i64 v)).setCell ⟨g, k * 5 + 3, none⟩ (.int .i64 b)).setCell ⟨g, k * 5 + 4, none⟩ (.bool o))
      (some ⟨g, 0, none⟩) n c (l.set k ⟨p, m, v, b, o⟩) := by
  refine ⟨?_, by simpa using h.2⟩
  have h5 := ((((h.1.set_ (k * 5) (.int .i64 p) (by omega)).set_ (k * 5 + 1) (.int .i64 m) (by omega)).set_ (k * 5 + 2) (.int .i64 v) (by omega)).set_ (k * 5 + 3) (.int .i64 b) (by omega)).set_ (k * 5 + 4) (.bool o) (by omega)
  have he := putAt_encs Sea.enc_len l k ⟨p, m, v, b, o⟩ (by rw [h.2]; exact hk)
  unfold seas
  rw [← he]
  exact h5
theorem run_make_rowN {P : Program} (t e : TypeId) (i : TypeInfo) (z : Value) (ht : P.underlying t = some (.slice e)) (hi : P.info? e = some i) (hz : i.zero = some z)
    (kl kc : IntKind) (n c : Nat) (hnc : n ≤ c) (hbytes : i.bytes * c ≤ 281474976710656) (h63 : c ≤ 9223372036854775807) (w : World) :
    (Instr.makeSlice t (.int kl (n : Int)) (.int kc (c : Int))).run P w = .ok (.slice (some ⟨w.heap.size, 0, none⟩) n c) (w.alloc (.cells (madeCells z.cells (c * i.size)) e)) := by
  have hb : (i.bytes : Int) * (c : Int) ≤ 281474976710656 := by
    have h : ((i.bytes * c : Nat) : Int) ≤ 281474976710656 := by omega
    rwa [Int.natCast_mul] at h
  have hr := run_make (P := P) w t e i z ht hi hz kl kc n c (by omega) (by omega) hb (by omega)
  simp only [Int.toNat_natCast] at hr
  exact hr
theorem make_seas (n : Nat) (hn : n ≤ 7036874417766) : ∀ w : World, (Instr.makeSlice 49 (.int .i64 (n : Int)) (.int .i64 (n : Int))).run Try.prog w = .ok (.slice (some ⟨w.heap.size, 0, none⟩) n n) (w.alloc (.cells (madeCells (Sea.zero.enc).toArray (n * 5)) 38)) := by
  obtain ⟨i0, hi, hz0, hz1, hz2⟩ := info_parts sea_info
  intro w
  have h := run_make_rowN (P := Try.prog) 49 38 i0 _ Try.underlying49 hi hz0 .i64 .i64 n n (Nat.le_refl _) (by rw [hz2]; omega) (by omega) w
  rw [hz1] at h
  exact h
theorem own_made_seas (w : World) (n : Nat) (hn : n ≤ 7036874417766) {g : Nat} (hg : w.heap.size = g := by first | with_reducible rfl | simp) :
    OwnS w.heap.size (w.alloc (.cells (madeCells (Sea.zero.enc).toArray (n * 5)) 38)) (some ⟨g, 0, none⟩) n n (List.replicate n Sea.zero) := by
  subst hg
  refine ⟨⟨?_, .inr ⟨w.heap.size, n, _, rfl, Nat.le_refl _, heap_alloc_new w _, Nat.le_refl _, by unfold maxLen; omega, by simp [size_madeCells], ?_⟩⟩, by simp⟩
  · simp [seas, encs_length Sea.enc_len]
  · rw [made_encs Sea.enc_len _ _ (by omega), List.take_of_length_le (by rw [encs_length Sea.enc_len]; simp)]
    rfl
end Go.Proofs.Ytglgaicbcackbaa
