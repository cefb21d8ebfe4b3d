/- The reference's parsing of a program.
   Conditions: the text of a valid program. -/
import Derived.Test.YtjggecbaladiiaaGreatDoorPri
import Derived.Test.YtjggecbaladiiaaGreatDoorPrg
namespace Go.Proofs.YtjggecbaladiiaaGreatDoor
open Go.RowKit
set_option linter.unusedVariables false
/-- The digit that a text is. -/
def rdD (x : ByteArray) : Int := if h : 0 < x.size then ((x[0]'h).toNat : Int) - 48 else -1
def isD (x : ByteArray) : Bool := decide (x = dg (rdD x)) && inR (rdD x) 0 9
/-- The line that words say. -/
def lnW (ws : List ByteArray) : Option Ln :=
  match ws with
  | [a, x, y, z] => if a = ⟨#[105, 110, 112, 117, 116]⟩ ∧ isD x = true ∧ isD z = true then some ⟨1, y, ⟨#[]⟩, [], rdD x, rdD z, 0⟩ else if a = ⟨#[99, 111, 110, 115, 116]⟩ ∧ isD y = true ∧ isD z = true then some ⟨2, x, ⟨#[]⟩, [], 0, rdD y, rdD z⟩ else none
  | [a, x, y, o, z] => if a = ⟨#[108, 101, 116]⟩ then some ⟨3, x, o, [y, z], 0, 0, 0⟩ else if a = ⟨#[112, 105, 99, 107]⟩ then some ⟨5, x, ⟨#[]⟩, [y, o, z], 0, 0, 0⟩ else none
  | [a, x, y] => if a = ⟨#[110, 111, 116]⟩ then some ⟨4, x, ⟨#[]⟩, [y], 0, 0, 0⟩ else none
  | [a, x] => if a = ⟨#[111, 117, 116]⟩ then some ⟨6, ⟨#[]⟩, ⟨#[]⟩, [x], 0, 0, 0⟩ else none
  | _ => none
theorem isD_at {x : ByteArray} (h : isD x = true) : ∃ d : Int, x = dg d ∧ rdD x = d ∧ 0 ≤ d ∧ d ≤ 9 := by
  unfold isD at h
  rw [Bool.and_eq_true, decide_eq_true_eq] at h
  have := inR_iff.1 h.2
  exact ⟨rdD x, h.1, rfl, by omega, by omega⟩
theorem spec_laLine (g n c : Nat) (ws : List ByteArray) (x : Ln) (w : World) (h : RdS w (some ⟨g, 0, none⟩) n c ws) (hx : lnW ws = some x) :
    Calls Tryz.prog 133 #[.slice (some ⟨g, 0, none⟩) n c] w fun e w' => ∃ A m d, e = .returned (.agg #[.int .i64 x.k, .string x.nm, .string x.op, .slice A m d, .int .i64 x.pt, .int .i64 x.wd, .int .i64 x.vl]) ∧ RdS w' A m d x.ps ∧ (∀ k, A.map (·.block) = some k → k < w'.heap.size ∧ (k = g ∨ w.heap.size ≤ k)) ∧ Bl w w' := by
  obtain rfl : n = ws.length := h.length.symm
  unfold lnW at hx
  split at hx
  · split at hx
    · rename_i h1; obtain ⟨rfl, a1, a2⟩ := h1; injection hx with hx; subst hx
      obtain ⟨d1, rfl, e1, b1, b2⟩ := isD_at a1
      obtain ⟨d2, rfl, e2, b3, b4⟩ := isD_at a2
      rw [e1, e2]
      exact spec_laLine_input g c _ d1 d2 b1 b2 b3 b4 w h
    · split at hx
      · rename_i h1; obtain ⟨rfl, a1, a2⟩ := h1; injection hx with hx; subst hx
        obtain ⟨d1, rfl, e1, b1, b2⟩ := isD_at a1
        obtain ⟨d2, rfl, e2, b3, b4⟩ := isD_at a2
        rw [e1, e2]
        exact spec_laLine_const g c _ d1 d2 b1 b2 b3 b4 w h
      · cases hx
  · split at hx
    · rename_i h1; subst h1; injection hx with hx; subst hx
      exact spec_laLine_let g c _ _ _ _ w h
    · split at hx
      · rename_i h1; subst h1; injection hx with hx; subst hx
        exact spec_laLine_pick g c _ _ _ _ w h
      · cases hx
  · split at hx
    · rename_i h1; subst h1; injection hx with hx; subst hx
      exact spec_laLine_not g c _ _ w h
    · cases hx
  · split at hx
    · rename_i h1; subst h1; injection hx with hx; subst hx
      exact spec_laLine_out g c _ w h
    · cases hx
  · cases hx
def linesO : List ByteArray → Option (List Ln)
  | [] => some []
  | t :: r => match lnW (spS 32 t) with
    | none => none
    | some x => match linesO r with
      | none => none
      | some l => some (x :: l)
theorem linesO_at {ps : List ByteArray} {L : List Ln} (h : linesO ps = some L) : L.length = ps.length ∧ ∀ (k : Nat) t, ps[k]? = some t → ∃ x, lnW (spS 32 t) = some x ∧ L[k]? = some x := by
  induction ps generalizing L with
  | nil =>
    rw [linesO] at h
    injection h with h
    subst h
    exact ⟨rfl, fun k t hk => by simp at hk⟩
  | cons a r ih =>
    rw [linesO] at h
    split at h
    · cases h
    · rename_i x hx
      split at h
      · cases h
      · rename_i l hl
        injection h with h
        subst h
        obtain ⟨i1, i2⟩ := ih hl
        refine ⟨by simp [i1], fun k t hk => ?_⟩
        cases k with
        | zero => simp at hk; subst hk; exact ⟨x, hx, rfl⟩
        | succ k => simp at hk; obtain ⟨y, h1, h2⟩ := i2 k t hk; exact ⟨y, h1, by simpa using h2⟩
theorem map_snocR {l : List (Hd × Ln)} {L : List Ln} {k : Nat} {p : Hd × Ln} (h : l.map (·.2) = L.take k) (hx : L[k]? = some p.2) : (l ++ [p]).map (·.2) = L.take (k + 1) := by
  rw [List.map_append, h, List.take_add_one, hx]; rfl
set_option maxRecDepth 20000 in
set_option maxHeartbeats 4000000 in
theorem spec_laParse (s : ByteArray) (L : List Ln) (w : World) (hs : s.size ≤ 1000000) (hn : (spS 10 s).length ≤ 31) (hp : 0 < (spS 10 s).length) (hL : linesO (spS 10 s).dropLast = some L) (hg : goodB L = true) (ht : txR ⟨#[]⟩ L = some s) (hz : ∀ t ∈ (spS 10 s).dropLast, t.size ≤ 1000) :
    Calls Tryz.prog 88 #[.string s] w fun e w' => ∃ A n c l, e = .returned (.tuple #[.slice A n c, .bool true]) ∧ RdL w' A n c l ∧ l.map (·.2) = L ∧ Bl w w' := by
  have HG := Lib.hid hg
  have HT := Lib.hid ht
  obtain ⟨hl1, hl2⟩ := linesO_at hL
  have HA := Lib.hid hl2
  have HZ := Lib.hid hz
  rw [List.length_dropLast] at hl1
  clear hg ht hl2 hz hL
  go_enter Tryz.func88, Tryz.ntmps88
  go_wp2_with fail
  refine (spec_l1Split 10 10 rfl s _ (by omega)).mono ?_
  rintro e w1 ⟨g, n, c, rfl, hgw, hr, hb1⟩
  have hrn := hr.length
  obtain ⟨m, rfl⟩ : ∃ m, n = m + 1 := ⟨n - 1, by omega⟩
  have hm : m ≤ 30 := by omega
  have hLm : L.length = m := by omega
  have hle := hr.le
  have hrt : RdS w1 (some ⟨g, 0, none⟩) m c (spS 10 s).dropLast := by
    have := Rd.take hr (k := m) (by omega)
    rw [Nat.mul_one] at this
    unfold RdS
    rwa [List.dropLast_eq_take, hrn, Nat.add_sub_cancel, show strs ((spS 10 s).take m) = (strs (spS 10 s)).take m by simp [strs, List.map_take]]
  have hgl : g < w1.heap.size := (hr.at0_ (k := 0) (by omega)).choose_spec.1
  generalize (spS 10 s).dropLast = PS at hrt HA HZ
  clear hn hp hl1 hr hrn
  have i1 : ¬ (31 : Int) < ((m + 1 : Nat) : Int) := by omega
  have i2 : wrap64 (((m + 1 : Nat) : Int) - 1) = (m : Int) := by unfold wrap64; omega
  have i3 : m ≤ c := by omega
  have hown0 := OwnR.nil w1.heap.size w1
  go_wp2_with fail
  go_loopw [4, 19] (fun o i wr => ∃ (k : Nat) (A2 : Option Addr) (c2 : Nat) (l : List (Hd × Ln)), k ≤ m ∧ i = .int .i64 (k : Nat) ∧ o = .slice A2 k c2 ∧ OwnR w1.heap.size wr A2 k c2 l ∧ Hid (l.map (·.2) = L.take k) ∧ Bl w1 wr) (fun _ i _ => m - (intOf i).toNat)
  case atStart => exact ⟨0, none, 0, [], by omega, rfl, rfl, hown0, Lib.hid rfl, Bl.refl _⟩
  case round =>
    clear hown0
    obtain ⟨k, A2, c2, l, hk, rfl, rfl, hown, HM, hW⟩ := hrel
    by_cases hlt : k < m
    · obtain ⟨t, hgt, hx0, hc⟩ := (RdS.keep hrt hW).at0_ hlt
      have hts : t.size ≤ 1000 := HZ.out t (List.mem_of_getElem? hx0)
      obtain ⟨x, hxl, hLx⟩ := HA.out k t hx0
      have HX := Lib.hid hLx
      have HXL := Lib.hid hxl
      clear hLx hx0 hxl
      have j1 : (k : Int) < m := by omega
      go_wp2_with fail
      refine (spec_l1Split 32 32 rfl t _ (by omega)).mono ?_
      rintro e v5 ⟨g5, n5, c5, rfl, hg5, hr5, hb5⟩
      go_wp2_with fail
      refine (spec_laLine g5 n5 c5 _ x _ hr5 HXL.out).mono ?_
      rintro e v6 ⟨A6, n6, c6, rfl, hr6, ha6, hb6⟩
      have hbl6 := hb5.call hb6
      have hsz6 := hb5.sz
      have hown6 := hown.keep hbl6
      go_wp2_with (at_builtin; refine ap_lines rfl rfl (l' := [((⟨A6, n6, c6⟩ : Hd), x)]) rfl (OwnV.keep hown6.row (by (repeat (first | with_reducible assumption | with_reducible exact Bl.refl _ | with_reducible refine Bl.drewN ?_ _ | with_reducible refine Bl.drew ?_ | with_reducible refine Bl.alloc ?_ _ | with_reducible refine Bl.setCell ?_ (by first | (dsimp only; omega) | (simp; omega)) _ | (with_reducible refine Bl.call ?_ (by with_reducible assumption)))))) rfl (rd_line _ (⟨A6, n6, c6⟩ : Hd) x.k x.nm x.op x.pt x.wd x.vl x.ps) (by omega) (by have := hW.sz; have := hbl6.sz; simp; omega) ?_; intro A3 c3 w8 hrow3 hg3 hat3)
      go_roundw
      case rel =>
        refine ⟨k + 1, A3, c3, _, by omega, by go_num, rfl, OwnR.snoc hown (hbl6.alloc _) (hr6.keep ((Bl.refl _).alloc _)) (fun q hq => ?_) hrow3 hg3 hat3, Lib.hid (map_snocR HM.out HX.out), Bl.grown ((hW.call hbl6).alloc _) hg3 (fun q hq => (hown.row.blk q hq).1)⟩
        obtain ⟨z1, z2⟩ := ha6 q hq
        refine ⟨by simp; omega, fun e => ?_⟩
        have := (hown.row.blk q e).2
        omega
      case measure => simp [intOf]; omega
    · obtain rfl : k = m := by omega
      have j1 : ¬ (k : Int) < k := by omega
      rw [List.take_of_length_le (by omega)] at HM
      have hrl := hown.rd
      go_wp2_with fail
      refine (spec_laGood A2 k c2 l _ hrl (by rw [HM.out]; exact HG.out)).mono ?_
      rintro e v ⟨rfl, hb7⟩
      go_wp2_with fail
      refine (spec_laText A2 k c2 l s _ (hrl.keep hb7) (by omega) (by rw [HM.out]; exact HT.out)).mono ?_
      rintro e v8 ⟨rfl, hb8⟩
      go_wp2_with fail
      go_ret2
      exact ⟨A2, k, c2, l, rfl, (hrl.keep hb7).keep hb8, HM.out, (hb1.call hW).call (hb7.call hb8)⟩
end Go.Proofs.YtjggecbaladiiaaGreatDoor
