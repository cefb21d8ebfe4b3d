/- The reference's width of a line, for each kind of lines.
   Conditions: the line is valid behind the lines before it. -/
import Derived.Test.YtjggecbaladiiaaGreatDoorPre
namespace Go.Proofs.YtjggecbaladiiaaGreatDoor
open Go.RowKit
set_option linter.unusedVariables false
/-- The widths of the parts of a line. -/
def pws (l : List Ln) (ws : List Int) (ps : List ByteArray) : List Int := ps.map fun s => ws.getD (fndL l s).toNat 0
theorem fnd_lt {s : ByteArray} {l : List Ln} {i : Nat} : fnd s l i < i + l.length := by
  induction l generalizing i with
  | nil => rw [fnd]; simp; omega
  | cons x t ih =>
    rw [fnd]
    split
    · simp; omega
    · have := @ih (i + 1); simp only [List.length_cons]; omega
theorem fndL_lt (l : List Ln) (s : ByteArray) : fndL l s < l.length := by have := @fnd_lt s l 0; unfold fndL; omega
theorem pws_step {l : List Ln} {ws : List Int} {ps : List ByteArray} {k j : Nat} {s : ByteArray} {v : Int} (h : ps[k]? = some s) (hj : fndL l s = (j : Int)) (hv : ws[j]? = some v) : (pws l ws ps).take k ++ [v] = (pws l ws ps).take (k + 1) := by
  rw [List.take_add_one]
  congr 1
  unfold pws
  rw [List.getElem?_map, h]
  simp [hj, hv]
theorem shl_ok {wd vl : Int} (h1 : inR wd 1 10 = true) (h2 : inR vl 0 (2 ^ wd.toNat - 1) = true) : inR vl 0 (wrap64 (wrap64 (2 ^ min (IntKind.u64.wrap wd).toNat 64) - 1)) = true := by
  have h := inR_iff.1 h1
  have e : wrap64 (wrap64 (2 ^ min (IntKind.u64.wrap wd).toNat 64) - 1) = 2 ^ wd.toNat - 1 := by
    rcases (by omega : wd = 1 ∨ wd = 2 ∨ wd = 3 ∨ wd = 4 ∨ wd = 5 ∨ wd = 6 ∨ wd = 7 ∨ wd = 8 ∨ wd = 9 ∨ wd = 10) with rfl | rfl | rfl | rfl | rfl | rfl | rfl | rfl | rfl | rfl <;> decide +kernel
  rw [e]; exact h2
/-- In the middle of laWidth: the line in its block, the widths so far. -/
structure Wx (w wr : World) (b : Nat) (cs : Array Value) (A : Option Addr) (n c : Nat) (l : List Int) : Prop where
  own : OwnI (b + 1) wr A n c l
  bx : Blk wr b 92 cs
  bl : Bl w wr
section
variable {w wr wx w' : World} {b : Nat} {cs : Array Value} {A : Option Addr} {n c : Nat} {l : List Int}
theorem Wx.keep (h : Wx w wr b cs A n c l) (hb : Bl wr wx) : Wx w wx b cs A n c l := ⟨h.own.keep hb, h.bx.keep hb, h.bl.call hb⟩
theorem Wx.grown {A' : Option Addr} {c' n' : Nat} {l' : List Int} (h : Wx w wr b cs A n c l) (ho : OwnI (b + 1) w' A' n' c' l') (hw : w.heap.size ≤ b) (hg : wr.grownBy w' (A.map (·.block))) : Wx w w' b cs A' n' c' l' :=
  ⟨ho, h.bx.grown hg (fun e => by have := (h.own.blk b e.symm).1; omega), Bl.grown h.bl hg (fun q hq => by have := (h.own.blk q hq).1; omega)⟩
end
set_option maxRecDepth 20000 in
set_option maxHeartbeats 4000000 in
theorem spec_laWidth_1 (A B : Option Addr) (n c d : Nat) (l : List (Hd × Ln)) (ws : List Int) (C : Option Addr) (cc : Nat) (nm : ByteArray) (pt wd : Int) (w : World) (h : RdL w A n c l) (hw : RdI w B n d ws) (hp : RdS w C 0 cc []) (hn : n ≤ 1000)
    (hf : ∀ s ∈ ([] : List ByteArray), 0 ≤ fndL (l.map (·.2)) s) (hpw : pws (l.map (·.2)) ws [] = []) (hnm : nmB nm = true) (hne : fndL (l.map (·.2)) nm < 0) (h1 : inR pt 0 1 = true) (h2 : inR wd 1 10 = true) :
    Calls Tryz.prog 200 #[.slice A n c, .slice B n d, .agg #[.int .i64 1, .string nm, .string ⟨#[]⟩, .slice C 0 cc, .int .i64 pt, .int .i64 wd, .int .i64 0]] w fun e w' => e = .returned (.int .i64 (wd)) ∧ Bl w w' := by
  obtain ⟨hle1, hle2⟩ := h.le
  obtain ⟨hle3, hle4⟩ := hw.le
  obtain ⟨hle5, hle6⟩ := hp.le
  have HF := Lib.hid (fun s hs => (by have h0 := hf s hs; have h1 := fndL_lt (l.map (·.2)) s; rw [List.length_map, h.len] at h1; exact ⟨(fndL (l.map (·.2)) s).toNat, by omega, by omega⟩) : ∀ s ∈ ([] : List ByteArray), ∃ j : Nat, fndL (l.map (·.2)) s = (j : Int) ∧ j < n)
  clear hf
  have HPW := Lib.hid hpw
  clear hpw
  have hP : Wx w (w.alloc (.cells #[.int .i64 1, .string nm, .string ⟨#[]⟩, .slice C 0 cc, .int .i64 pt, .int .i64 wd, .int .i64 0] 92)) w.heap.size #[.int .i64 1, .string nm, .string ⟨#[]⟩, .slice C 0 cc, .int .i64 pt, .int .i64 wd, .int .i64 0] none 0 0 [] := ⟨OwnI.nil _ _, Blk.new w _ _, (Bl.refl w).alloc _⟩
  have hwb := Nat.le_refl w.heap.size
  go_enter Tryz.func200, Tryz.ntmps200
  have hX_l := hP.bx.lt; have hX_3 := hP.bx.cell 3 _ rfl
  go_wp2_with fail
  clear hX_l hX_3
  generalize w.alloc (.cells #[.int .i64 1, .string nm, .string ⟨#[]⟩, .slice C 0 cc, .int .i64 pt, .int .i64 wd, .int .i64 0] 92) = w0 at hP ⊢
  generalize hbb : w.heap.size = b at hP ⊢
  have hwb : w.heap.size ≤ b := by omega
  clear hbb
  obtain ⟨PS, hPS⟩ : ∃ PS : List ByteArray, [] = PS := ⟨_, rfl⟩
  rw [hPS] at hp HF HPW
  have hpn := hp.length
  clear hPS
  go_loopw [7, 15] (fun o i wr => ∃ (k c2 : Nat) (A2 : Option Addr), k ≤ 0 ∧ i = .int .i64 (k : Nat) ∧ o = .slice A2 k c2 ∧ Wx w wr b #[.int .i64 1, .string nm, .string ⟨#[]⟩, .slice C 0 cc, .int .i64 pt, .int .i64 wd, .int .i64 0] A2 k c2 ((pws (l.map (·.2)) ws PS).take k)) (fun _ i _ => 0 - (intOf i).toNat)
  case atStart => exact ⟨0, 0, none, by omega, rfl, rfl, hP⟩
  case round =>
    clear hP
    obtain ⟨k, c2, A2, hk, rfl, rfl, hP⟩ := hrel
    obtain rfl : k = 0 := by omega
    rw [List.take_of_length_le (by unfold pws; rw [List.length_map, hpn]; omega), HPW.out] at hP
    have hbb := hP.bx.lt
    have hX_0 := hP.bx.cell 0 _ rfl; have hX_1 := hP.bx.cell 1 _ rfl; have hX_2 := hP.bx.cell 2 _ rfl; have hX_3 := hP.bx.cell 3 _ rfl; have hX_4 := hP.bx.cell 4 _ rfl; have hX_5 := hP.bx.cell 5 _ rfl; have hX_6 := hP.bx.cell 6 _ rfl
    have hWR := hP.bl
    go_wp2_with (first | (go_at_call 217; refine (spec_laName _ hnm _).mono ?_; rintro e v5 ⟨rfl, rfl⟩) | (go_at_call 127; refine (spec_laFind _ _ _ _ _ _ (h.keep (hWR.alloc _))).mono ?_; rintro e v6 ⟨rfl, hb6⟩; have hWv := (Bl.refl wr).alloc (.cells #[.int .i64 1, .string nm, .string ⟨#[]⟩, .slice C 0 cc, .int .i64 pt, .int .i64 wd, .int .i64 0] 92); have hN := Blk.keep (Blk.new wr 92 #[.int .i64 1, .string nm, .string ⟨#[]⟩, .slice C 0 cc, .int .i64 pt, .int .i64 wd, .int .i64 0] (g := wr.heap.size)) hb6; have hX := Blk.keep (hP.bx.alloc (.cells #[.int .i64 1, .string nm, .string ⟨#[]⟩, .slice C 0 cc, .int .i64 pt, .int .i64 wd, .int .i64 0] 92)) hb6; have hW6 := (hWR.alloc (.cells #[.int .i64 1, .string nm, .string ⟨#[]⟩, .slice C 0 cc, .int .i64 pt, .int .i64 wd, .int .i64 0] 92)).call hb6; clear hX_0 hX_1 hX_2 hX_3 hX_4 hX_5 hX_6; have hbs := Nat.lt_of_lt_of_le hbb (hWv.call hb6).sz; have hNl := hN.lt; have hNf := hN.frozen; have hbN : wr.heap.size ≠ b := (by omega); have hX_0 := hX.cell 0 _ rfl; have hX_1 := hX.cell 1 _ rfl; have hX_2 := hX.cell 2 _ rfl; have hX_3 := hX.cell 3 _ rfl; have hX_4 := hX.cell 4 _ rfl; have hX_5 := hX.cell 5 _ rfl; have hX_6 := hX.cell 6 _ rfl; have hN_0 := hN.cell 0 _ rfl; have hN_1 := hN.cell 1 _ rfl; have hN_2 := hN.cell 2 _ rfl; have hN_3 := hN.cell 3 _ rfl; have hN_4 := hN.cell 4 _ rfl; have hN_5 := hN.cell 5 _ rfl; have hN_6 := hN.cell 6 _ rfl) | (go_at_call 218; refine (spec_laParts _ _).mono ?_; rintro e v7 ⟨rfl, rfl⟩) | (go_at_call 43; refine (spec_l1In _ _ _ _).mono ?_; rintro e v8 ⟨rfl, rfl⟩))
    go_ret
    exact ⟨rfl, (by (repeat (first | with_reducible assumption | with_reducible exact Bl.refl _ | with_reducible refine Bl.drewN ?_ _ | with_reducible refine Bl.drew ?_ | with_reducible refine Bl.alloc ?_ _ | with_reducible refine Bl.setCell ?_ (by first | (dsimp only; omega) | (simp; omega)) _ | (with_reducible refine Bl.call ?_ (by with_reducible assumption)))))⟩
set_option maxRecDepth 20000 in
set_option maxHeartbeats 4000000 in
theorem spec_laWidth_2 (A B : Option Addr) (n c d : Nat) (l : List (Hd × Ln)) (ws : List Int) (C : Option Addr) (cc : Nat) (nm : ByteArray) (wd vl : Int) (w : World) (h : RdL w A n c l) (hw : RdI w B n d ws) (hp : RdS w C 0 cc []) (hn : n ≤ 1000)
    (hf : ∀ s ∈ ([] : List ByteArray), 0 ≤ fndL (l.map (·.2)) s) (hpw : pws (l.map (·.2)) ws [] = []) (hnm : nmB nm = true) (hne : fndL (l.map (·.2)) nm < 0) (h1 : inR wd 1 10 = true) (h2 : inR vl 0 (2 ^ wd.toNat - 1) = true) :
    Calls Tryz.prog 200 #[.slice A n c, .slice B n d, .agg #[.int .i64 2, .string nm, .string ⟨#[]⟩, .slice C 0 cc, .int .i64 0, .int .i64 wd, .int .i64 vl]] w fun e w' => e = .returned (.int .i64 (wd)) ∧ Bl w w' := by
  obtain ⟨hle1, hle2⟩ := h.le
  obtain ⟨hle3, hle4⟩ := hw.le
  obtain ⟨hle5, hle6⟩ := hp.le
  have HF := Lib.hid (fun s hs => (by have h0 := hf s hs; have h1 := fndL_lt (l.map (·.2)) s; rw [List.length_map, h.len] at h1; exact ⟨(fndL (l.map (·.2)) s).toNat, by omega, by omega⟩) : ∀ s ∈ ([] : List ByteArray), ∃ j : Nat, fndL (l.map (·.2)) s = (j : Int) ∧ j < n)
  clear hf
  have HPW := Lib.hid hpw
  clear hpw
  have hP : Wx w (w.alloc (.cells #[.int .i64 2, .string nm, .string ⟨#[]⟩, .slice C 0 cc, .int .i64 0, .int .i64 wd, .int .i64 vl] 92)) w.heap.size #[.int .i64 2, .string nm, .string ⟨#[]⟩, .slice C 0 cc, .int .i64 0, .int .i64 wd, .int .i64 vl] none 0 0 [] := ⟨OwnI.nil _ _, Blk.new w _ _, (Bl.refl w).alloc _⟩
  have hwb := Nat.le_refl w.heap.size
  have hsh := shl_ok h1 h2
  go_enter Tryz.func200, Tryz.ntmps200
  have hX_l := hP.bx.lt; have hX_3 := hP.bx.cell 3 _ rfl
  go_wp2_with fail
  clear hX_l hX_3
  generalize w.alloc (.cells #[.int .i64 2, .string nm, .string ⟨#[]⟩, .slice C 0 cc, .int .i64 0, .int .i64 wd, .int .i64 vl] 92) = w0 at hP ⊢
  generalize hbb : w.heap.size = b at hP ⊢
  have hwb : w.heap.size ≤ b := by omega
  clear hbb
  obtain ⟨PS, hPS⟩ : ∃ PS : List ByteArray, [] = PS := ⟨_, rfl⟩
  rw [hPS] at hp HF HPW
  have hpn := hp.length
  clear hPS
  go_loopw [7, 15] (fun o i wr => ∃ (k c2 : Nat) (A2 : Option Addr), k ≤ 0 ∧ i = .int .i64 (k : Nat) ∧ o = .slice A2 k c2 ∧ Wx w wr b #[.int .i64 2, .string nm, .string ⟨#[]⟩, .slice C 0 cc, .int .i64 0, .int .i64 wd, .int .i64 vl] A2 k c2 ((pws (l.map (·.2)) ws PS).take k)) (fun _ i _ => 0 - (intOf i).toNat)
  case atStart => exact ⟨0, 0, none, by omega, rfl, rfl, hP⟩
  case round =>
    clear hP
    obtain ⟨k, c2, A2, hk, rfl, rfl, hP⟩ := hrel
    obtain rfl : k = 0 := by omega
    rw [List.take_of_length_le (by unfold pws; rw [List.length_map, hpn]; omega), HPW.out] at hP
    have hbb := hP.bx.lt
    have hX_0 := hP.bx.cell 0 _ rfl; have hX_1 := hP.bx.cell 1 _ rfl; have hX_2 := hP.bx.cell 2 _ rfl; have hX_3 := hP.bx.cell 3 _ rfl; have hX_4 := hP.bx.cell 4 _ rfl; have hX_5 := hP.bx.cell 5 _ rfl; have hX_6 := hP.bx.cell 6 _ rfl
    have hWR := hP.bl
    go_wp2_with (first | (go_at_call 217; refine (spec_laName _ hnm _).mono ?_; rintro e v5 ⟨rfl, rfl⟩) | (go_at_call 127; refine (spec_laFind _ _ _ _ _ _ (h.keep (hWR.alloc _))).mono ?_; rintro e v6 ⟨rfl, hb6⟩; have hWv := (Bl.refl wr).alloc (.cells #[.int .i64 2, .string nm, .string ⟨#[]⟩, .slice C 0 cc, .int .i64 0, .int .i64 wd, .int .i64 vl] 92); have hN := Blk.keep (Blk.new wr 92 #[.int .i64 2, .string nm, .string ⟨#[]⟩, .slice C 0 cc, .int .i64 0, .int .i64 wd, .int .i64 vl] (g := wr.heap.size)) hb6; have hX := Blk.keep (hP.bx.alloc (.cells #[.int .i64 2, .string nm, .string ⟨#[]⟩, .slice C 0 cc, .int .i64 0, .int .i64 wd, .int .i64 vl] 92)) hb6; have hW6 := (hWR.alloc (.cells #[.int .i64 2, .string nm, .string ⟨#[]⟩, .slice C 0 cc, .int .i64 0, .int .i64 wd, .int .i64 vl] 92)).call hb6; clear hX_0 hX_1 hX_2 hX_3 hX_4 hX_5 hX_6; have hbs := Nat.lt_of_lt_of_le hbb (hWv.call hb6).sz; have hNl := hN.lt; have hNf := hN.frozen; have hbN : wr.heap.size ≠ b := (by omega); have hX_0 := hX.cell 0 _ rfl; have hX_1 := hX.cell 1 _ rfl; have hX_2 := hX.cell 2 _ rfl; have hX_3 := hX.cell 3 _ rfl; have hX_4 := hX.cell 4 _ rfl; have hX_5 := hX.cell 5 _ rfl; have hX_6 := hX.cell 6 _ rfl; have hN_0 := hN.cell 0 _ rfl; have hN_1 := hN.cell 1 _ rfl; have hN_2 := hN.cell 2 _ rfl; have hN_3 := hN.cell 3 _ rfl; have hN_4 := hN.cell 4 _ rfl; have hN_5 := hN.cell 5 _ rfl; have hN_6 := hN.cell 6 _ rfl) | (go_at_call 218; refine (spec_laParts _ _).mono ?_; rintro e v7 ⟨rfl, rfl⟩) | (go_at_call 43; refine (spec_l1In _ _ _ _).mono ?_; rintro e v8 ⟨rfl, rfl⟩))
    go_ret
    exact ⟨rfl, (by (repeat (first | with_reducible assumption | with_reducible exact Bl.refl _ | with_reducible refine Bl.drewN ?_ _ | with_reducible refine Bl.drew ?_ | with_reducible refine Bl.alloc ?_ _ | with_reducible refine Bl.setCell ?_ (by first | (dsimp only; omega) | (simp; omega)) _ | (with_reducible refine Bl.call ?_ (by with_reducible assumption)))))⟩
set_option maxRecDepth 20000 in
set_option maxHeartbeats 4000000 in
theorem spec_laWidth_3 (A B : Option Addr) (n c d : Nat) (l : List (Hd × Ln)) (ws : List Int) (C : Option Addr) (cc : Nat) (nm op p q : ByteArray) (v : Int) (w : World) (h : RdL w A n c l) (hw : RdI w B n d ws) (hp : RdS w C 2 cc [p, q]) (hn : n ≤ 1000)
    (hf : ∀ s ∈ ([p, q] : List ByteArray), 0 ≤ fndL (l.map (·.2)) s) (hpw : pws (l.map (·.2)) ws [p, q] = [v, v]) (hnm : nmB nm = true) (hne : fndL (l.map (·.2)) nm < 0) (hv1 : 1 ≤ v) (hv2 : v ≤ 10) (ho : op ∈ opsL) (hm : op = ⟨#[42]⟩ → v ≤ 5) :
    Calls Tryz.prog 200 #[.slice A n c, .slice B n d, .agg #[.int .i64 3, .string nm, .string op, .slice C 2 cc, .int .i64 0, .int .i64 0, .int .i64 0]] w fun e w' => e = .returned (.int .i64 (twoW op v)) ∧ Bl w w' := by
  obtain ⟨hle1, hle2⟩ := h.le
  obtain ⟨hle3, hle4⟩ := hw.le
  obtain ⟨hle5, hle6⟩ := hp.le
  have HF := Lib.hid (fun s hs => (by have h0 := hf s hs; have h1 := fndL_lt (l.map (·.2)) s; rw [List.length_map, h.len] at h1; exact ⟨(fndL (l.map (·.2)) s).toNat, by omega, by omega⟩) : ∀ s ∈ ([p, q] : List ByteArray), ∃ j : Nat, fndL (l.map (·.2)) s = (j : Int) ∧ j < n)
  clear hf
  have HPW := Lib.hid hpw
  clear hpw
  have hP : Wx w (w.alloc (.cells #[.int .i64 3, .string nm, .string op, .slice C 2 cc, .int .i64 0, .int .i64 0, .int .i64 0] 92)) w.heap.size #[.int .i64 3, .string nm, .string op, .slice C 2 cc, .int .i64 0, .int .i64 0, .int .i64 0] none 0 0 [] := ⟨OwnI.nil _ _, Blk.new w _ _, (Bl.refl w).alloc _⟩
  have hwb := Nat.le_refl w.heap.size
  go_enter Tryz.func200, Tryz.ntmps200
  have hX_l := hP.bx.lt; have hX_3 := hP.bx.cell 3 _ rfl
  go_wp2_with fail
  clear hX_l hX_3
  generalize w.alloc (.cells #[.int .i64 3, .string nm, .string op, .slice C 2 cc, .int .i64 0, .int .i64 0, .int .i64 0] 92) = w0 at hP ⊢
  generalize hbb : w.heap.size = b at hP ⊢
  have hwb : w.heap.size ≤ b := by omega
  clear hbb
  obtain ⟨PS, hPS⟩ : ∃ PS : List ByteArray, [p, q] = PS := ⟨_, rfl⟩
  rw [hPS] at hp HF HPW
  have hpn := hp.length
  clear hPS
  go_loopw [7, 15] (fun o i wr => ∃ (k c2 : Nat) (A2 : Option Addr), k ≤ 2 ∧ i = .int .i64 (k : Nat) ∧ o = .slice A2 k c2 ∧ Wx w wr b #[.int .i64 3, .string nm, .string op, .slice C 2 cc, .int .i64 0, .int .i64 0, .int .i64 0] A2 k c2 ((pws (l.map (·.2)) ws PS).take k)) (fun _ i _ => 2 - (intOf i).toNat)
  case atStart => exact ⟨0, 0, none, by omega, rfl, rfl, hP⟩
  case round =>
    clear hP
    obtain ⟨k, c2, A2, hk, rfl, rfl, hP⟩ := hrel
    by_cases hlt : k < 2
    · obtain ⟨ad, s, rfl, hadb, hx, hc⟩ := (hp.keep hP.bl).at_ hlt
      obtain ⟨j, hj, hjn⟩ := HF.out s (List.mem_of_getElem? hx)
      obtain ⟨bd, v9, rfl, hbdb, hx9, hc9⟩ := (hw.keep hP.bl).at_ hjn
      have HST := Lib.hid (pws_step hx hj hx9)
      clear hx hx9
      have hj0 := Int.natCast_nonneg j
      go_wp2_with (first | (go_at_call 127; refine (spec_laFind _ _ _ _ s _ (h.keep hP.bl)).mono ?_; rintro e v5 ⟨rfl, hb5⟩; rw [hj]; have hP5 := hP.keep hb5; have hbd5 := Nat.lt_of_lt_of_le hbdb hb5.sz; have hc5 := Bl.cells hb5 hc9) | (at_builtin; refine ap_int rfl rfl rfl (hP5.own.alloc _) rfl (rd_new1 _ _ _) (by omega) (by have := hP5.bx.lt; simp; omega) ?_; intro A3 c3 w8 hown3 hg3 hat3))
      go_roundw
      case rel => exact ⟨k + 1, c3, A3, by omega, by go_num, rfl, Wx.grown (hP5.keep ((Bl.refl _).alloc _)) (by rw [← HST.out]; exact hown3) hwb hg3⟩
      case measure => simp [intOf]; omega
    · obtain rfl : k = 2 := by omega
      rw [List.take_of_length_le (by unfold pws; rw [List.length_map, hpn]; omega), HPW.out] at hP
      have hbb := hP.bx.lt
      have hX_0 := hP.bx.cell 0 _ rfl; have hX_1 := hP.bx.cell 1 _ rfl; have hX_2 := hP.bx.cell 2 _ rfl; have hX_3 := hP.bx.cell 3 _ rfl; have hX_4 := hP.bx.cell 4 _ rfl; have hX_5 := hP.bx.cell 5 _ rfl; have hX_6 := hP.bx.cell 6 _ rfl
      have hWR := hP.bl
      obtain ⟨g, rfl, hgb, hglt, hcl, hgf⟩ := hP.own.form (by omega)
      clear hgf
      have hq0 := hcl 0 (v) rfl
      have hq1 := hcl 1 (v) rfl
      clear hcl
      go_wp2_with (first | (go_at_call 217; refine (spec_laName _ hnm _).mono ?_; rintro e v5 ⟨rfl, rfl⟩) | (go_at_call 127; refine (spec_laFind _ _ _ _ _ _ (h.keep (hWR.alloc _))).mono ?_; rintro e v6 ⟨rfl, hb6⟩; have hWv := (Bl.refl wr).alloc (.cells #[.int .i64 3, .string nm, .string op, .slice C 2 cc, .int .i64 0, .int .i64 0, .int .i64 0] 92); have hN := Blk.keep (Blk.new wr 92 #[.int .i64 3, .string nm, .string op, .slice C 2 cc, .int .i64 0, .int .i64 0, .int .i64 0] (g := wr.heap.size)) hb6; have hX := Blk.keep (hP.bx.alloc (.cells #[.int .i64 3, .string nm, .string op, .slice C 2 cc, .int .i64 0, .int .i64 0, .int .i64 0] 92)) hb6; have hW6 := (hWR.alloc (.cells #[.int .i64 3, .string nm, .string op, .slice C 2 cc, .int .i64 0, .int .i64 0, .int .i64 0] 92)).call hb6; replace hq0 := Bl.cells (hWv.call hb6) hq0; replace hq1 := Bl.cells (hWv.call hb6) hq1; clear hX_0 hX_1 hX_2 hX_3 hX_4 hX_5 hX_6; have hbs := Nat.lt_of_lt_of_le hbb (hWv.call hb6).sz; have hads := Nat.lt_of_lt_of_le hglt (hWv.call hb6).sz; have hadN : wr.heap.size ≠ g := (by omega); have hNl := hN.lt; have hNf := hN.frozen; have hbN : wr.heap.size ≠ b := (by omega); have hX_0 := hX.cell 0 _ rfl; have hX_1 := hX.cell 1 _ rfl; have hX_2 := hX.cell 2 _ rfl; have hX_3 := hX.cell 3 _ rfl; have hX_4 := hX.cell 4 _ rfl; have hX_5 := hX.cell 5 _ rfl; have hX_6 := hX.cell 6 _ rfl; have hN_0 := hN.cell 0 _ rfl; have hN_1 := hN.cell 1 _ rfl; have hN_2 := hN.cell 2 _ rfl; have hN_3 := hN.cell 3 _ rfl; have hN_4 := hN.cell 4 _ rfl; have hN_5 := hN.cell 5 _ rfl; have hN_6 := hN.cell 6 _ rfl) | (go_at_call 218; refine (spec_laParts _ _).mono ?_; rintro e v7 ⟨rfl, rfl⟩))
      go_region_held3 (fun w' => w'.cell? ⟨b, 2, none⟩ = some (.string op) ∧ w'.cell? ⟨g, 0, none⟩ = some (.int .i64 v) ∧ w'.cell? ⟨g, 1, none⟩ = some (.int .i64 v)) (first | exact ⟨Bl.cells hb9 (by go_simp), Bl.cells hb9 (by go_simp), Bl.cells hb9 (by go_simp)⟩ | exact ⟨by go_simp, by go_simp, by go_simp⟩ | go_keep) (first | (go_at_call 219; refine (spec_laTwo _ _ hv1 hv2 ho hm _).mono ?_; rintro e v9 ⟨rfl, hb9⟩))
      go_wp2_with fail
      trace_state
      go_ret
      exact ⟨rfl, (by (repeat (first | with_reducible assumption | with_reducible exact Bl.refl _ | with_reducible refine Bl.drewN ?_ _ | with_reducible refine Bl.drew ?_ | with_reducible refine Bl.alloc ?_ _ | with_reducible refine Bl.setCell ?_ (by first | (dsimp only; omega) | (simp; omega)) _ | (with_reducible refine Bl.call ?_ (by with_reducible assumption)))))⟩
set_option maxRecDepth 20000 in
set_option maxHeartbeats 4000000 in
theorem spec_laWidth_4 (A B : Option Addr) (n c d : Nat) (l : List (Hd × Ln)) (ws : List Int) (C : Option Addr) (cc : Nat) (nm p : ByteArray) (v : Int) (w : World) (h : RdL w A n c l) (hw : RdI w B n d ws) (hp : RdS w C 1 cc [p]) (hn : n ≤ 1000)
    (hf : ∀ s ∈ ([p] : List ByteArray), 0 ≤ fndL (l.map (·.2)) s) (hpw : pws (l.map (·.2)) ws [p] = [v]) (hnm : nmB nm = true) (hne : fndL (l.map (·.2)) nm < 0)  :
    Calls Tryz.prog 200 #[.slice A n c, .slice B n d, .agg #[.int .i64 4, .string nm, .string ⟨#[]⟩, .slice C 1 cc, .int .i64 0, .int .i64 0, .int .i64 0]] w fun e w' => e = .returned (.int .i64 (v)) ∧ Bl w w' := by
  obtain ⟨hle1, hle2⟩ := h.le
  obtain ⟨hle3, hle4⟩ := hw.le
  obtain ⟨hle5, hle6⟩ := hp.le
  have HF := Lib.hid (fun s hs => (by have h0 := hf s hs; have h1 := fndL_lt (l.map (·.2)) s; rw [List.length_map, h.len] at h1; exact ⟨(fndL (l.map (·.2)) s).toNat, by omega, by omega⟩) : ∀ s ∈ ([p] : List ByteArray), ∃ j : Nat, fndL (l.map (·.2)) s = (j : Int) ∧ j < n)
  clear hf
  have HPW := Lib.hid hpw
  clear hpw
  have hP : Wx w (w.alloc (.cells #[.int .i64 4, .string nm, .string ⟨#[]⟩, .slice C 1 cc, .int .i64 0, .int .i64 0, .int .i64 0] 92)) w.heap.size #[.int .i64 4, .string nm, .string ⟨#[]⟩, .slice C 1 cc, .int .i64 0, .int .i64 0, .int .i64 0] none 0 0 [] := ⟨OwnI.nil _ _, Blk.new w _ _, (Bl.refl w).alloc _⟩
  have hwb := Nat.le_refl w.heap.size
  go_enter Tryz.func200, Tryz.ntmps200
  have hX_l := hP.bx.lt; have hX_3 := hP.bx.cell 3 _ rfl
  go_wp2_with fail
  clear hX_l hX_3
  generalize w.alloc (.cells #[.int .i64 4, .string nm, .string ⟨#[]⟩, .slice C 1 cc, .int .i64 0, .int .i64 0, .int .i64 0] 92) = w0 at hP ⊢
  generalize hbb : w.heap.size = b at hP ⊢
  have hwb : w.heap.size ≤ b := by omega
  clear hbb
  obtain ⟨PS, hPS⟩ : ∃ PS : List ByteArray, [p] = PS := ⟨_, rfl⟩
  rw [hPS] at hp HF HPW
  have hpn := hp.length
  clear hPS
  go_loopw [7, 15] (fun o i wr => ∃ (k c2 : Nat) (A2 : Option Addr), k ≤ 1 ∧ i = .int .i64 (k : Nat) ∧ o = .slice A2 k c2 ∧ Wx w wr b #[.int .i64 4, .string nm, .string ⟨#[]⟩, .slice C 1 cc, .int .i64 0, .int .i64 0, .int .i64 0] A2 k c2 ((pws (l.map (·.2)) ws PS).take k)) (fun _ i _ => 1 - (intOf i).toNat)
  case atStart => exact ⟨0, 0, none, by omega, rfl, rfl, hP⟩
  case round =>
    clear hP
    obtain ⟨k, c2, A2, hk, rfl, rfl, hP⟩ := hrel
    by_cases hlt : k < 1
    · obtain ⟨ad, s, rfl, hadb, hx, hc⟩ := (hp.keep hP.bl).at_ hlt
      obtain ⟨j, hj, hjn⟩ := HF.out s (List.mem_of_getElem? hx)
      obtain ⟨bd, v9, rfl, hbdb, hx9, hc9⟩ := (hw.keep hP.bl).at_ hjn
      have HST := Lib.hid (pws_step hx hj hx9)
      clear hx hx9
      have hj0 := Int.natCast_nonneg j
      go_wp2_with (first | (go_at_call 127; refine (spec_laFind _ _ _ _ s _ (h.keep hP.bl)).mono ?_; rintro e v5 ⟨rfl, hb5⟩; rw [hj]; have hP5 := hP.keep hb5; have hbd5 := Nat.lt_of_lt_of_le hbdb hb5.sz; have hc5 := Bl.cells hb5 hc9) | (at_builtin; refine ap_int rfl rfl rfl (hP5.own.alloc _) rfl (rd_new1 _ _ _) (by omega) (by have := hP5.bx.lt; simp; omega) ?_; intro A3 c3 w8 hown3 hg3 hat3))
      go_roundw
      case rel => exact ⟨k + 1, c3, A3, by omega, by go_num, rfl, Wx.grown (hP5.keep ((Bl.refl _).alloc _)) (by rw [← HST.out]; exact hown3) hwb hg3⟩
      case measure => simp [intOf]; omega
    · obtain rfl : k = 1 := by omega
      rw [List.take_of_length_le (by unfold pws; rw [List.length_map, hpn]; omega), HPW.out] at hP
      have hbb := hP.bx.lt
      have hX_0 := hP.bx.cell 0 _ rfl; have hX_1 := hP.bx.cell 1 _ rfl; have hX_2 := hP.bx.cell 2 _ rfl; have hX_3 := hP.bx.cell 3 _ rfl; have hX_4 := hP.bx.cell 4 _ rfl; have hX_5 := hP.bx.cell 5 _ rfl; have hX_6 := hP.bx.cell 6 _ rfl
      have hWR := hP.bl
      obtain ⟨g, rfl, hgb, hglt, hcl, hgf⟩ := hP.own.form (by omega)
      clear hgf
      have hq0 := hcl 0 (v) rfl
      clear hcl
      go_wp2_with (first | (go_at_call 217; refine (spec_laName _ hnm _).mono ?_; rintro e v5 ⟨rfl, rfl⟩) | (go_at_call 127; refine (spec_laFind _ _ _ _ _ _ (h.keep (hWR.alloc _))).mono ?_; rintro e v6 ⟨rfl, hb6⟩; have hWv := (Bl.refl wr).alloc (.cells #[.int .i64 4, .string nm, .string ⟨#[]⟩, .slice C 1 cc, .int .i64 0, .int .i64 0, .int .i64 0] 92); have hN := Blk.keep (Blk.new wr 92 #[.int .i64 4, .string nm, .string ⟨#[]⟩, .slice C 1 cc, .int .i64 0, .int .i64 0, .int .i64 0] (g := wr.heap.size)) hb6; have hX := Blk.keep (hP.bx.alloc (.cells #[.int .i64 4, .string nm, .string ⟨#[]⟩, .slice C 1 cc, .int .i64 0, .int .i64 0, .int .i64 0] 92)) hb6; have hW6 := (hWR.alloc (.cells #[.int .i64 4, .string nm, .string ⟨#[]⟩, .slice C 1 cc, .int .i64 0, .int .i64 0, .int .i64 0] 92)).call hb6; replace hq0 := Bl.cells (hWv.call hb6) hq0; clear hX_0 hX_1 hX_2 hX_3 hX_4 hX_5 hX_6; have hbs := Nat.lt_of_lt_of_le hbb (hWv.call hb6).sz; have hads := Nat.lt_of_lt_of_le hglt (hWv.call hb6).sz; have hadN : wr.heap.size ≠ g := (by omega); have hNl := hN.lt; have hNf := hN.frozen; have hbN : wr.heap.size ≠ b := (by omega); have hX_0 := hX.cell 0 _ rfl; have hX_1 := hX.cell 1 _ rfl; have hX_2 := hX.cell 2 _ rfl; have hX_3 := hX.cell 3 _ rfl; have hX_4 := hX.cell 4 _ rfl; have hX_5 := hX.cell 5 _ rfl; have hX_6 := hX.cell 6 _ rfl; have hN_0 := hN.cell 0 _ rfl; have hN_1 := hN.cell 1 _ rfl; have hN_2 := hN.cell 2 _ rfl; have hN_3 := hN.cell 3 _ rfl; have hN_4 := hN.cell 4 _ rfl; have hN_5 := hN.cell 5 _ rfl; have hN_6 := hN.cell 6 _ rfl) | (go_at_call 218; refine (spec_laParts _ _).mono ?_; rintro e v7 ⟨rfl, rfl⟩))
      go_ret
      exact ⟨rfl, (by (repeat (first | with_reducible assumption | with_reducible exact Bl.refl _ | with_reducible refine Bl.drewN ?_ _ | with_reducible refine Bl.drew ?_ | with_reducible refine Bl.alloc ?_ _ | with_reducible refine Bl.setCell ?_ (by first | (dsimp only; omega) | (simp; omega)) _ | (with_reducible refine Bl.call ?_ (by with_reducible assumption)))))⟩
set_option maxRecDepth 20000 in
set_option maxHeartbeats 4000000 in
theorem spec_laWidth_5 (A B : Option Addr) (n c d : Nat) (l : List (Hd × Ln)) (ws : List Int) (C : Option Addr) (cc : Nat) (nm p q r : ByteArray) (v : Int) (w : World) (h : RdL w A n c l) (hw : RdI w B n d ws) (hp : RdS w C 3 cc [p, q, r]) (hn : n ≤ 1000)
    (hf : ∀ s ∈ ([p, q, r] : List ByteArray), 0 ≤ fndL (l.map (·.2)) s) (hpw : pws (l.map (·.2)) ws [p, q, r] = [1, v, v]) (hnm : nmB nm = true) (hne : fndL (l.map (·.2)) nm < 0)  :
    Calls Tryz.prog 200 #[.slice A n c, .slice B n d, .agg #[.int .i64 5, .string nm, .string ⟨#[]⟩, .slice C 3 cc, .int .i64 0, .int .i64 0, .int .i64 0]] w fun e w' => e = .returned (.int .i64 (v)) ∧ Bl w w' := by
  obtain ⟨hle1, hle2⟩ := h.le
  obtain ⟨hle3, hle4⟩ := hw.le
  obtain ⟨hle5, hle6⟩ := hp.le
  have HF := Lib.hid (fun s hs => (by have h0 := hf s hs; have h1 := fndL_lt (l.map (·.2)) s; rw [List.length_map, h.len] at h1; exact ⟨(fndL (l.map (·.2)) s).toNat, by omega, by omega⟩) : ∀ s ∈ ([p, q, r] : List ByteArray), ∃ j : Nat, fndL (l.map (·.2)) s = (j : Int) ∧ j < n)
  clear hf
  have HPW := Lib.hid hpw
  clear hpw
  have hP : Wx w (w.alloc (.cells #[.int .i64 5, .string nm, .string ⟨#[]⟩, .slice C 3 cc, .int .i64 0, .int .i64 0, .int .i64 0] 92)) w.heap.size #[.int .i64 5, .string nm, .string ⟨#[]⟩, .slice C 3 cc, .int .i64 0, .int .i64 0, .int .i64 0] none 0 0 [] := ⟨OwnI.nil _ _, Blk.new w _ _, (Bl.refl w).alloc _⟩
  have hwb := Nat.le_refl w.heap.size
  go_enter Tryz.func200, Tryz.ntmps200
  have hX_l := hP.bx.lt; have hX_3 := hP.bx.cell 3 _ rfl
  go_wp2_with fail
  clear hX_l hX_3
  generalize w.alloc (.cells #[.int .i64 5, .string nm, .string ⟨#[]⟩, .slice C 3 cc, .int .i64 0, .int .i64 0, .int .i64 0] 92) = w0 at hP ⊢
  generalize hbb : w.heap.size = b at hP ⊢
  have hwb : w.heap.size ≤ b := by omega
  clear hbb
  obtain ⟨PS, hPS⟩ : ∃ PS : List ByteArray, [p, q, r] = PS := ⟨_, rfl⟩
  rw [hPS] at hp HF HPW
  have hpn := hp.length
  clear hPS
  go_loopw [7, 15] (fun o i wr => ∃ (k c2 : Nat) (A2 : Option Addr), k ≤ 3 ∧ i = .int .i64 (k : Nat) ∧ o = .slice A2 k c2 ∧ Wx w wr b #[.int .i64 5, .string nm, .string ⟨#[]⟩, .slice C 3 cc, .int .i64 0, .int .i64 0, .int .i64 0] A2 k c2 ((pws (l.map (·.2)) ws PS).take k)) (fun _ i _ => 3 - (intOf i).toNat)
  case atStart => exact ⟨0, 0, none, by omega, rfl, rfl, hP⟩
  case round =>
    clear hP
    obtain ⟨k, c2, A2, hk, rfl, rfl, hP⟩ := hrel
    by_cases hlt : k < 3
    · obtain ⟨ad, s, rfl, hadb, hx, hc⟩ := (hp.keep hP.bl).at_ hlt
      obtain ⟨j, hj, hjn⟩ := HF.out s (List.mem_of_getElem? hx)
      obtain ⟨bd, v9, rfl, hbdb, hx9, hc9⟩ := (hw.keep hP.bl).at_ hjn
      have HST := Lib.hid (pws_step hx hj hx9)
      clear hx hx9
      have hj0 := Int.natCast_nonneg j
      go_wp2_with (first | (go_at_call 127; refine (spec_laFind _ _ _ _ s _ (h.keep hP.bl)).mono ?_; rintro e v5 ⟨rfl, hb5⟩; rw [hj]; have hP5 := hP.keep hb5; have hbd5 := Nat.lt_of_lt_of_le hbdb hb5.sz; have hc5 := Bl.cells hb5 hc9) | (at_builtin; refine ap_int rfl rfl rfl (hP5.own.alloc _) rfl (rd_new1 _ _ _) (by omega) (by have := hP5.bx.lt; simp; omega) ?_; intro A3 c3 w8 hown3 hg3 hat3))
      go_roundw
      case rel => exact ⟨k + 1, c3, A3, by omega, by go_num, rfl, Wx.grown (hP5.keep ((Bl.refl _).alloc _)) (by rw [← HST.out]; exact hown3) hwb hg3⟩
      case measure => simp [intOf]; omega
    · obtain rfl : k = 3 := by omega
      rw [List.take_of_length_le (by unfold pws; rw [List.length_map, hpn]; omega), HPW.out] at hP
      have hbb := hP.bx.lt
      have hX_0 := hP.bx.cell 0 _ rfl; have hX_1 := hP.bx.cell 1 _ rfl; have hX_2 := hP.bx.cell 2 _ rfl; have hX_3 := hP.bx.cell 3 _ rfl; have hX_4 := hP.bx.cell 4 _ rfl; have hX_5 := hP.bx.cell 5 _ rfl; have hX_6 := hP.bx.cell 6 _ rfl
      have hWR := hP.bl
      obtain ⟨g, rfl, hgb, hglt, hcl, hgf⟩ := hP.own.form (by omega)
      clear hgf
      have hq0 := hcl 0 (1) rfl
      have hq1 := hcl 1 (v) rfl
      have hq2 := hcl 2 (v) rfl
      clear hcl
      go_wp2_with (first | (go_at_call 217; refine (spec_laName _ hnm _).mono ?_; rintro e v5 ⟨rfl, rfl⟩) | (go_at_call 127; refine (spec_laFind _ _ _ _ _ _ (h.keep (hWR.alloc _))).mono ?_; rintro e v6 ⟨rfl, hb6⟩; have hWv := (Bl.refl wr).alloc (.cells #[.int .i64 5, .string nm, .string ⟨#[]⟩, .slice C 3 cc, .int .i64 0, .int .i64 0, .int .i64 0] 92); have hN := Blk.keep (Blk.new wr 92 #[.int .i64 5, .string nm, .string ⟨#[]⟩, .slice C 3 cc, .int .i64 0, .int .i64 0, .int .i64 0] (g := wr.heap.size)) hb6; have hX := Blk.keep (hP.bx.alloc (.cells #[.int .i64 5, .string nm, .string ⟨#[]⟩, .slice C 3 cc, .int .i64 0, .int .i64 0, .int .i64 0] 92)) hb6; have hW6 := (hWR.alloc (.cells #[.int .i64 5, .string nm, .string ⟨#[]⟩, .slice C 3 cc, .int .i64 0, .int .i64 0, .int .i64 0] 92)).call hb6; replace hq0 := Bl.cells (hWv.call hb6) hq0; replace hq1 := Bl.cells (hWv.call hb6) hq1; replace hq2 := Bl.cells (hWv.call hb6) hq2; clear hX_0 hX_1 hX_2 hX_3 hX_4 hX_5 hX_6; have hbs := Nat.lt_of_lt_of_le hbb (hWv.call hb6).sz; have hads := Nat.lt_of_lt_of_le hglt (hWv.call hb6).sz; have hadN : wr.heap.size ≠ g := (by omega); have hNl := hN.lt; have hNf := hN.frozen; have hbN : wr.heap.size ≠ b := (by omega); have hX_0 := hX.cell 0 _ rfl; have hX_1 := hX.cell 1 _ rfl; have hX_2 := hX.cell 2 _ rfl; have hX_3 := hX.cell 3 _ rfl; have hX_4 := hX.cell 4 _ rfl; have hX_5 := hX.cell 5 _ rfl; have hX_6 := hX.cell 6 _ rfl; have hN_0 := hN.cell 0 _ rfl; have hN_1 := hN.cell 1 _ rfl; have hN_2 := hN.cell 2 _ rfl; have hN_3 := hN.cell 3 _ rfl; have hN_4 := hN.cell 4 _ rfl; have hN_5 := hN.cell 5 _ rfl; have hN_6 := hN.cell 6 _ rfl) | (go_at_call 218; refine (spec_laParts _ _).mono ?_; rintro e v7 ⟨rfl, rfl⟩))
      go_region_held3 (fun w' => w'.cell? ⟨g, 0, none⟩ = some (.int .i64 1) ∧ w'.cell? ⟨g, 1, none⟩ = some (.int .i64 v) ∧ w'.cell? ⟨g, 2, none⟩ = some (.int .i64 v)) (first | exact ⟨by go_simp, by go_simp, by go_simp⟩ | go_keep) (first | fail)
      go_wp2_with fail
      trace_state
      go_ret
      exact ⟨rfl, (by (repeat (first | with_reducible assumption | with_reducible exact Bl.refl _ | with_reducible refine Bl.drewN ?_ _ | with_reducible refine Bl.drew ?_ | with_reducible refine Bl.alloc ?_ _ | with_reducible refine Bl.setCell ?_ (by first | (dsimp only; omega) | (simp; omega)) _ | (with_reducible refine Bl.call ?_ (by with_reducible assumption)))))⟩
set_option maxRecDepth 20000 in
set_option maxHeartbeats 4000000 in
theorem spec_laWidth_6 (A B : Option Addr) (n c d : Nat) (l : List (Hd × Ln)) (ws : List Int) (C : Option Addr) (cc : Nat) (p : ByteArray) (v : Int) (w : World) (h : RdL w A n c l) (hw : RdI w B n d ws) (hp : RdS w C 1 cc [p]) (hn : n ≤ 1000)
    (hf : ∀ s ∈ ([p] : List ByteArray), 0 ≤ fndL (l.map (·.2)) s) (hpw : pws (l.map (·.2)) ws [p] = [v])   :
    Calls Tryz.prog 200 #[.slice A n c, .slice B n d, .agg #[.int .i64 6, .string ⟨#[]⟩, .string ⟨#[]⟩, .slice C 1 cc, .int .i64 0, .int .i64 0, .int .i64 0]] w fun e w' => e = .returned (.int .i64 (v)) ∧ Bl w w' := by
  obtain ⟨hle1, hle2⟩ := h.le
  obtain ⟨hle3, hle4⟩ := hw.le
  obtain ⟨hle5, hle6⟩ := hp.le
  have HF := Lib.hid (fun s hs => (by have h0 := hf s hs; have h1 := fndL_lt (l.map (·.2)) s; rw [List.length_map, h.len] at h1; exact ⟨(fndL (l.map (·.2)) s).toNat, by omega, by omega⟩) : ∀ s ∈ ([p] : List ByteArray), ∃ j : Nat, fndL (l.map (·.2)) s = (j : Int) ∧ j < n)
  clear hf
  have HPW := Lib.hid hpw
  clear hpw
  have hP : Wx w (w.alloc (.cells #[.int .i64 6, .string ⟨#[]⟩, .string ⟨#[]⟩, .slice C 1 cc, .int .i64 0, .int .i64 0, .int .i64 0] 92)) w.heap.size #[.int .i64 6, .string ⟨#[]⟩, .string ⟨#[]⟩, .slice C 1 cc, .int .i64 0, .int .i64 0, .int .i64 0] none 0 0 [] := ⟨OwnI.nil _ _, Blk.new w _ _, (Bl.refl w).alloc _⟩
  have hwb := Nat.le_refl w.heap.size
  go_enter Tryz.func200, Tryz.ntmps200
  have hX_l := hP.bx.lt; have hX_3 := hP.bx.cell 3 _ rfl
  go_wp2_with fail
  clear hX_l hX_3
  generalize w.alloc (.cells #[.int .i64 6, .string ⟨#[]⟩, .string ⟨#[]⟩, .slice C 1 cc, .int .i64 0, .int .i64 0, .int .i64 0] 92) = w0 at hP ⊢
  generalize hbb : w.heap.size = b at hP ⊢
  have hwb : w.heap.size ≤ b := by omega
  clear hbb
  obtain ⟨PS, hPS⟩ : ∃ PS : List ByteArray, [p] = PS := ⟨_, rfl⟩
  rw [hPS] at hp HF HPW
  have hpn := hp.length
  clear hPS
  go_loopw [7, 15] (fun o i wr => ∃ (k c2 : Nat) (A2 : Option Addr), k ≤ 1 ∧ i = .int .i64 (k : Nat) ∧ o = .slice A2 k c2 ∧ Wx w wr b #[.int .i64 6, .string ⟨#[]⟩, .string ⟨#[]⟩, .slice C 1 cc, .int .i64 0, .int .i64 0, .int .i64 0] A2 k c2 ((pws (l.map (·.2)) ws PS).take k)) (fun _ i _ => 1 - (intOf i).toNat)
  case atStart => exact ⟨0, 0, none, by omega, rfl, rfl, hP⟩
  case round =>
    clear hP
    obtain ⟨k, c2, A2, hk, rfl, rfl, hP⟩ := hrel
    by_cases hlt : k < 1
    · obtain ⟨ad, s, rfl, hadb, hx, hc⟩ := (hp.keep hP.bl).at_ hlt
      obtain ⟨j, hj, hjn⟩ := HF.out s (List.mem_of_getElem? hx)
      obtain ⟨bd, v9, rfl, hbdb, hx9, hc9⟩ := (hw.keep hP.bl).at_ hjn
      have HST := Lib.hid (pws_step hx hj hx9)
      clear hx hx9
      have hj0 := Int.natCast_nonneg j
      go_wp2_with (first | (go_at_call 127; refine (spec_laFind _ _ _ _ s _ (h.keep hP.bl)).mono ?_; rintro e v5 ⟨rfl, hb5⟩; rw [hj]; have hP5 := hP.keep hb5; have hbd5 := Nat.lt_of_lt_of_le hbdb hb5.sz; have hc5 := Bl.cells hb5 hc9) | (at_builtin; refine ap_int rfl rfl rfl (hP5.own.alloc _) rfl (rd_new1 _ _ _) (by omega) (by have := hP5.bx.lt; simp; omega) ?_; intro A3 c3 w8 hown3 hg3 hat3))
      go_roundw
      case rel => exact ⟨k + 1, c3, A3, by omega, by go_num, rfl, Wx.grown (hP5.keep ((Bl.refl _).alloc _)) (by rw [← HST.out]; exact hown3) hwb hg3⟩
      case measure => simp [intOf]; omega
    · obtain rfl : k = 1 := by omega
      rw [List.take_of_length_le (by unfold pws; rw [List.length_map, hpn]; omega), HPW.out] at hP
      have hbb := hP.bx.lt
      have hX_0 := hP.bx.cell 0 _ rfl; have hX_1 := hP.bx.cell 1 _ rfl; have hX_2 := hP.bx.cell 2 _ rfl; have hX_3 := hP.bx.cell 3 _ rfl; have hX_4 := hP.bx.cell 4 _ rfl; have hX_5 := hP.bx.cell 5 _ rfl; have hX_6 := hP.bx.cell 6 _ rfl
      have hWR := hP.bl
      obtain ⟨g, rfl, hgb, hglt, hcl, hgf⟩ := hP.own.form (by omega)
      clear hgf
      have hq0 := hcl 0 (v) rfl
      clear hcl
      go_wp2_with (first | (go_at_call 218; refine (spec_laParts _ _).mono ?_; rintro e v7 ⟨rfl, rfl⟩))
      go_ret
      exact ⟨rfl, (by (repeat (first | with_reducible assumption | with_reducible exact Bl.refl _ | with_reducible refine Bl.drewN ?_ _ | with_reducible refine Bl.drew ?_ | with_reducible refine Bl.alloc ?_ _ | with_reducible refine Bl.setCell ?_ (by first | (dsimp only; omega) | (simp; omega)) _ | (with_reducible refine Bl.call ?_ (by with_reducible assumption)))))⟩
end Go.Proofs.YtjggecbaladiiaaGreatDoor
