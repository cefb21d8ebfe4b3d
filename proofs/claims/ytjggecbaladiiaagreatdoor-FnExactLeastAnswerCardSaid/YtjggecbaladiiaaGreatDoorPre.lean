/- Contracts of the reference's small words on programs: digits, splitting, names, operations, finding a line.
   Conditions: lists and texts of a bounded length. -/
import Derived.Test.YtjggecbaladiiaaGreatDoorPrc
import Derived.Test.YtjggecbaladiiaaGreatDoorFld
import Derived.Laws.IdiomStrings
namespace Go.Proofs.YtjggecbaladiiaaGreatDoor
open Go.RowKit
set_option linter.unusedVariables false
/-- The text of a digit. -/
def dg (n : Int) : ByteArray := ⟨#[UInt8.ofNat (48 + n.toNat)]⟩
def spR (b : UInt8) (s : ByteArray) : Nat → Nat → Nat → List ByteArray
  | 0, m, _ => [s.extract m s.size]
  | f + 1, m, k => if h : k < s.size then (if s[k]'h = b then s.extract m k :: spR b s f (k + 1) (k + 1) else spR b s f m (k + 1)) else [s.extract m s.size]
/-- The pieces of a text between the bytes b. -/
def spS (b : UInt8) (s : ByteArray) : List ByteArray := spR b s s.size 0 0
theorem spR_yes {b : UInt8} {s : ByteArray} {m k : Nat} (h : k < s.size) (e : s[k]'h = b) : spR b s (s.size - k) m k = s.extract m k :: spR b s (s.size - (k + 1)) (k + 1) (k + 1) := by
  rw [show s.size - k = (s.size - (k + 1)) + 1 by omega, spR, dif_pos h, if_pos e]
theorem spR_no {b : UInt8} {s : ByteArray} {m k : Nat} (h : k < s.size) (e : ¬ s[k]'h = b) : spR b s (s.size - k) m k = spR b s (s.size - (k + 1)) m (k + 1) := by
  rw [show s.size - k = (s.size - (k + 1)) + 1 by omega, spR, dif_pos h, if_neg e]
theorem OwnS.at0 {base : Nat} {w : World} {A : Option Addr} {n c : Nat} {l : List ByteArray} (h : OwnS base w A n c l) (hn : 0 < n) : ∃ g, A = some ⟨g, 0, none⟩ := by
  rcases h.2 with ⟨_, h0⟩ | ⟨g, cap, cur, hv, _⟩
  · omega
  · injection hv with h1; exact ⟨g, h1⟩
theorem byte_eq {s : ByteArray} {b : UInt8} {z : Int} (hz : (b.toNat : Int) = z) {k : Nat} (h : k < s.size) : ((((s[k]'h).toNat : Nat) : Int) == z) = decide (s[k]'h = b) := by
  rw [Bool.eq_iff_iff, beq_iff_eq, decide_eq_true_eq, ← hz, ← UInt8.toNat_inj]
  omega
set_option maxHeartbeats 2000000 in
theorem spec_l1Split (b : UInt8) (z : Int) (hz : (b.toNat : Int) = z) (s : ByteArray) (w : World) (hs : s.size ≤ 3000000) :
    Calls Tryz.prog 87 #[.string s, .int .u8 z] w fun e w' => ∃ g n c, e = .returned (.slice (some ⟨g, 0, none⟩) n c) ∧ w.heap.size ≤ g ∧ RdS w' (some ⟨g, 0, none⟩) n c (spS b s) ∧ Bl w w' := by
  have hown0 := OwnS.nil w.heap.size w
  have hW0 := Bl.refl w
  go_enter Tryz.func87, Tryz.ntmps87
  go_wp2
  go_loopw [5, 6, 7] (fun o f i wr => ∃ (A : Option Addr) (n c : Nat) (xs : List ByteArray) (k m : Nat), k ≤ s.size ∧ m ≤ k ∧ i = .int .i64 (k : Nat) ∧ f = .int .i64 (m : Nat) ∧ o = .slice A n c ∧ OwnS w.heap.size wr A n c xs ∧ Hid (xs ++ spR b s (s.size - k) m k = spS b s) ∧ n ≤ k ∧ Bl w wr) (fun _ _ i _ => s.size - (RowKit.intOf i).toNat)
  case atStart => exact ⟨none, 0, 0, [], 0, 0, by omega, by omega, rfl, rfl, rfl, hown0, Lib.hid rfl, by omega, hW0⟩
  case round =>
    clear hown0 hW0
    obtain ⟨A, n, c, xs, k, m, hk, hm, rfl, rfl, rfl, hown, HN, hnk, hW⟩ := hrel
    by_cases hlt : k < s.size
    · have i1 : (k : Int) < s.size := by omega
      have HB := byte_eq hz hlt
      by_cases heq : s[k]'hlt = b
      · have HS := Lib.hid (spR_yes (m := m) hlt heq)
        rw [decide_eq_true heq] at HB
        clear heq
        go_wp2_with (at_builtin; refine ap_strs rfl rfl rfl (OwnS.keep hown ((Bl.refl _).alloc _)) rfl (own_strs _ [s.extract m k] rfl (Nat.le_refl _) (by simp)).rd (by omega) (by have := hW.sz; simp; omega) ?_; intro A2 c2 w2 hown2 hg2 hat2)
        go_roundw
        case rel => exact ⟨A2, n + 1, c2, _, k + 1, k + 1, by omega, by omega, by go_num, by go_num, rfl, hown2, Lib.hid (by rw [← HN.out, HS.out, List.append_assoc]; rfl), by omega, Bl.grown (hW.alloc _) hg2 (fun q hq => (OwnV.blk hown q hq).1)⟩
        case measure => simp [RowKit.intOf]; omega
      · have HS := Lib.hid (spR_no (m := m) hlt heq)
        rw [decide_eq_false heq] at HB
        clear heq
        go_wp2_with fail
        go_roundw
        case rel => exact ⟨A, n, c, xs, k + 1, m, by omega, by omega, by go_num, rfl, rfl, hown, Lib.hid (by rw [← HN.out, HS.out]), by omega, hW⟩
        case measure => simp [RowKit.intOf]; omega
    · have he : k = s.size := by omega
      subst he
      go_wp2_with (at_builtin; refine ap_strs rfl rfl rfl (OwnS.keep hown ((Bl.refl _).alloc _)) rfl (own_strs _ [s.extract m s.size] rfl (Nat.le_refl _) (by simp)).rd (by omega) (by have := hW.sz; simp; omega) ?_; intro A2 c2 w2 hown2 hg2 hat2)
      go_ret
      obtain ⟨g, rfl⟩ := OwnS.at0 hown2 (by omega)
      refine ⟨g, n + 1, c2, rfl, (OwnV.blk hown2 g rfl).1, ?_, Bl.grown (hW.alloc _) hg2 (fun q hq => (OwnV.blk hown q hq).1)⟩
      have e := HN.out
      rw [Nat.sub_self] at e
      rw [← e]
      exact hown2.rd
theorem conv1 (w : World) (b : UInt8) (z : Int) (hz : (b.toNat : Int) = z) : (convert 32 9 (.slice (some ⟨w.heap.size, 0, none⟩) 1 1)).run Tryz.prog (w.alloc (.cells #[.int .u8 z] 5)) = .ok (.string ⟨#[b]⟩) (w.alloc (.cells #[.int .u8 z] 5)) := by
  refine run_convert_bytes_back (P := Tryz.prog) _ _ _ 5 _ 1 [b] Tryz.underlying32 Tryz.underlying5 Tryz.underlying9 (fun j hj => ?_)
  obtain rfl : j = 0 := by simpa using hj
  rw [← hz]
  go_simp
set_option maxRecDepth 20000 in
theorem spec_l1Num (n : Int) (h0 : 0 ≤ n) (h1 : n ≤ 9) (w : World) :
    Calls Tryz.prog 52 #[.int .i64 n] w fun e w' => e = .returned (.string (dg n)) ∧ Bl w w' := by
  rcases (by omega : n = 0 ∨ n = 1 ∨ n = 2 ∨ n = 3 ∨ n = 4 ∨ n = 5 ∨ n = 6 ∨ n = 7 ∨ n = 8 ∨ n = 9) with rfl | rfl | rfl | rfl | rfl | rfl | rfl | rfl | rfl | rfl
  · have kc := fun w => conv1 w 48 48 rfl
    go_enter Tryz.func52, Tryz.ntmps52
    go_wp2_with fail
    go_ret
    exact ⟨rfl, (by (repeat (first | with_reducible assumption | with_reducible exact Bl.refl _ | with_reducible refine Bl.drewN ?_ _ | with_reducible refine Bl.drew ?_ | with_reducible refine Bl.alloc ?_ _ | with_reducible refine Bl.setCell ?_ (by first | (dsimp only; omega) | (simp; omega)) _ | (with_reducible refine Bl.call ?_ (by with_reducible assumption)))))⟩
  · have kc := fun w => conv1 w 49 49 rfl
    go_enter Tryz.func52, Tryz.ntmps52
    go_wp2_with fail
    go_ret
    exact ⟨rfl, (by (repeat (first | with_reducible assumption | with_reducible exact Bl.refl _ | with_reducible refine Bl.drewN ?_ _ | with_reducible refine Bl.drew ?_ | with_reducible refine Bl.alloc ?_ _ | with_reducible refine Bl.setCell ?_ (by first | (dsimp only; omega) | (simp; omega)) _ | (with_reducible refine Bl.call ?_ (by with_reducible assumption)))))⟩
  · have kc := fun w => conv1 w 50 50 rfl
    go_enter Tryz.func52, Tryz.ntmps52
    go_wp2_with fail
    go_ret
    exact ⟨rfl, (by (repeat (first | with_reducible assumption | with_reducible exact Bl.refl _ | with_reducible refine Bl.drewN ?_ _ | with_reducible refine Bl.drew ?_ | with_reducible refine Bl.alloc ?_ _ | with_reducible refine Bl.setCell ?_ (by first | (dsimp only; omega) | (simp; omega)) _ | (with_reducible refine Bl.call ?_ (by with_reducible assumption)))))⟩
  · have kc := fun w => conv1 w 51 51 rfl
    go_enter Tryz.func52, Tryz.ntmps52
    go_wp2_with fail
    go_ret
    exact ⟨rfl, (by (repeat (first | with_reducible assumption | with_reducible exact Bl.refl _ | with_reducible refine Bl.drewN ?_ _ | with_reducible refine Bl.drew ?_ | with_reducible refine Bl.alloc ?_ _ | with_reducible refine Bl.setCell ?_ (by first | (dsimp only; omega) | (simp; omega)) _ | (with_reducible refine Bl.call ?_ (by with_reducible assumption)))))⟩
  · have kc := fun w => conv1 w 52 52 rfl
    go_enter Tryz.func52, Tryz.ntmps52
    go_wp2_with fail
    go_ret
    exact ⟨rfl, (by (repeat (first | with_reducible assumption | with_reducible exact Bl.refl _ | with_reducible refine Bl.drewN ?_ _ | with_reducible refine Bl.drew ?_ | with_reducible refine Bl.alloc ?_ _ | with_reducible refine Bl.setCell ?_ (by first | (dsimp only; omega) | (simp; omega)) _ | (with_reducible refine Bl.call ?_ (by with_reducible assumption)))))⟩
  · have kc := fun w => conv1 w 53 53 rfl
    go_enter Tryz.func52, Tryz.ntmps52
    go_wp2_with fail
    go_ret
    exact ⟨rfl, (by (repeat (first | with_reducible assumption | with_reducible exact Bl.refl _ | with_reducible refine Bl.drewN ?_ _ | with_reducible refine Bl.drew ?_ | with_reducible refine Bl.alloc ?_ _ | with_reducible refine Bl.setCell ?_ (by first | (dsimp only; omega) | (simp; omega)) _ | (with_reducible refine Bl.call ?_ (by with_reducible assumption)))))⟩
  · have kc := fun w => conv1 w 54 54 rfl
    go_enter Tryz.func52, Tryz.ntmps52
    go_wp2_with fail
    go_ret
    exact ⟨rfl, (by (repeat (first | with_reducible assumption | with_reducible exact Bl.refl _ | with_reducible refine Bl.drewN ?_ _ | with_reducible refine Bl.drew ?_ | with_reducible refine Bl.alloc ?_ _ | with_reducible refine Bl.setCell ?_ (by first | (dsimp only; omega) | (simp; omega)) _ | (with_reducible refine Bl.call ?_ (by with_reducible assumption)))))⟩
  · have kc := fun w => conv1 w 55 55 rfl
    go_enter Tryz.func52, Tryz.ntmps52
    go_wp2_with fail
    go_ret
    exact ⟨rfl, (by (repeat (first | with_reducible assumption | with_reducible exact Bl.refl _ | with_reducible refine Bl.drewN ?_ _ | with_reducible refine Bl.drew ?_ | with_reducible refine Bl.alloc ?_ _ | with_reducible refine Bl.setCell ?_ (by first | (dsimp only; omega) | (simp; omega)) _ | (with_reducible refine Bl.call ?_ (by with_reducible assumption)))))⟩
  · have kc := fun w => conv1 w 56 56 rfl
    go_enter Tryz.func52, Tryz.ntmps52
    go_wp2_with fail
    go_ret
    exact ⟨rfl, (by (repeat (first | with_reducible assumption | with_reducible exact Bl.refl _ | with_reducible refine Bl.drewN ?_ _ | with_reducible refine Bl.drew ?_ | with_reducible refine Bl.alloc ?_ _ | with_reducible refine Bl.setCell ?_ (by first | (dsimp only; omega) | (simp; omega)) _ | (with_reducible refine Bl.call ?_ (by with_reducible assumption)))))⟩
  · have kc := fun w => conv1 w 57 57 rfl
    go_enter Tryz.func52, Tryz.ntmps52
    go_wp2_with fail
    go_ret
    exact ⟨rfl, (by (repeat (first | with_reducible assumption | with_reducible exact Bl.refl _ | with_reducible refine Bl.drewN ?_ _ | with_reducible refine Bl.drew ?_ | with_reducible refine Bl.alloc ?_ _ | with_reducible refine Bl.setCell ?_ (by first | (dsimp only; omega) | (simp; omega)) _ | (with_reducible refine Bl.call ?_ (by with_reducible assumption)))))⟩
theorem spec_l1Read (c : Int) (h0 : 0 ≤ c) (h1 : c ≤ 9) (w : World) :
    Calls Tryz.prog 179 #[.string (dg c)] w fun e w' => e = .returned (.int .i64 c) ∧ w = w' := by
  obtain ⟨n, rfl⟩ : ∃ n : Nat, c = (n : Int) := ⟨c.toNat, by omega⟩
  have hsz : (dg n).size = 1 := rfl
  have hb : ∃ h : 0 < (dg n).size, (((dg n)[0]'h).toNat : Int) = 48 + n := by
    refine ⟨show 0 < 1 by decide, ?_⟩
    rcases (by omega : n = 0 ∨ n = 1 ∨ n = 2 ∨ n = 3 ∨ n = 4 ∨ n = 5 ∨ n = 6 ∨ n = 7 ∨ n = 8 ∨ n = 9) with rfl | rfl | rfl | rfl | rfl | rfl | rfl | rfl | rfl | rfl <;> rfl
  generalize dg n = s at hsz hb
  obtain ⟨hp, hb⟩ := hb
  go_enter Tryz.func179, Tryz.ntmps179
  go_wp2_with (go_at_call 43; refine (spec_l1In _ _ _ _).mono ?_; rintro e w1 ⟨rfl, rfl⟩)
  all_goals
    go_loop [3, 4] (fun v i => (v = .int .i64 0 ∧ i = .int .i64 0) ∨ (v = .int .i64 (n : Nat) ∧ i = .int .i64 1)) (fun _ i => 1 - (intOf i).toNat)
    case atStart => exact .inl ⟨rfl, rfl⟩
    case round =>
      rcases hrel with ⟨rfl, rfl⟩ | ⟨rfl, rfl⟩
      · go_wp2_with fail
        go_round
        case rel => exact .inr ⟨by go_num, rfl⟩
        case measure => simp [intOf]
      · go_wp2_with fail
        go_ret
        exact ⟨rfl, rfl⟩
theorem spec_laParts (k : Int) (w : World) :
    Calls Tryz.prog 218 #[.int .i64 k] w fun e w' => e = .returned (.int .i64 (if k = 3 then 2 else if k = 4 ∨ k = 6 then 1 else if k = 5 then 3 else 0)) ∧ w = w' := by
  rcases (by omega : k = 3 ∨ k = 4 ∨ k = 6 ∨ k = 5 ∨ (k ≠ 3 ∧ k ≠ 4 ∧ k ≠ 6 ∧ k ≠ 5)) with rfl | rfl | rfl | rfl | ⟨h1, h2, h3, h4⟩
  all_goals
    go_enter Tryz.func218, Tryz.ntmps218
    go_wp2_with fail
    go_ret
    first | exact ⟨rfl, rfl⟩ | exact ⟨ret_int (by rw [if_neg h1, if_neg (by omega), if_neg h4]), rfl⟩
def opsL : List ByteArray := [⟨#[43]⟩, ⟨#[45]⟩, ⟨#[42]⟩, ⟨#[60]⟩, ⟨#[61]⟩, ⟨#[38]⟩, ⟨#[124]⟩, ⟨#[94]⟩]
theorem spec_laOps (w : World) :
    Calls Tryz.prog 238 #[] w fun e w' => ∃ g, e = .returned (.slice (some ⟨g, 0, none⟩) 8 8) ∧ RdS w' (some ⟨g, 0, none⟩) 8 8 opsL ∧ Bl w w' := by
  go_enter Tryz.func238, Tryz.ntmps238
  go_wp2_with fail
  go_ret
  exact ⟨_, rfl, (own_strs w opsL rfl (Nat.le_refl _) (by decide)).rd, (by (repeat (first | with_reducible assumption | with_reducible exact Bl.refl _ | with_reducible refine Bl.drewN ?_ _ | with_reducible refine Bl.drew ?_ | with_reducible refine Bl.alloc ?_ _ | with_reducible refine Bl.setCell ?_ (by first | (dsimp only; omega) | (simp; omega)) _ | (with_reducible refine Bl.call ?_ (by with_reducible assumption)))))⟩
set_option maxHeartbeats 1000000 in
theorem spec_l1HasS (A : Option Addr) (n c : Nat) (l : List ByteArray) (s : ByteArray) (w : World) (h : RdS w A n c l) (hi : s ∈ l) :
    Calls Tryz.prog 237 #[.slice A n c, .string s] w fun e w' => e = .returned (.bool true) ∧ w = w' := by
  obtain ⟨hle1, hle2⟩ := h.le
  have hl := Lib.hid h.length
  have HI := Lib.hid hi
  clear hi
  go_enter Tryz.func237, Tryz.ntmps237
  go_wp2
  go_loop [9] (fun i => ∃ k : Nat, k ≤ n ∧ i = .int .i64 k ∧ Hid (s ∉ l.take k)) (fun i => n - (intOf i).toNat)
  case atStart => exact ⟨0, by omega, rfl, Lib.hid (by simp)⟩
  case round =>
    obtain ⟨k, hk, rfl, hq⟩ := hrel
    by_cases hlt : k < n
    · obtain ⟨ad, x, rfl, hadb, hx, hcell⟩ := h.at_ hlt
      have HX := Lib.hid hx
      clear hx
      have e1 := sb_eq x s
      by_cases heq : x = s
      · rw [decide_eq_true heq] at e1
        go_wp2_with fail
        go_ret
        exact ⟨rfl, rfl⟩
      · rw [decide_eq_false heq] at e1
        have hst := Lib.hid (show s ∉ l.take (k + 1) by rw [List.take_add_one, HX.out]; simp only [Option.toList, List.mem_append, List.mem_singleton, not_or]; exact ⟨hq.out, fun e => heq e.symm⟩)
        clear heq
        go_wp2_with fail
        go_round
        case rel => exact ⟨k + 1, by omega, by go_num, hst⟩
        case measure => simp [intOf]; omega
    · exact absurd HI.out (by
        have e := hq.out
        rwa [List.take_of_length_le (by rw [hl.out]; omega)] at e)
def twoW (op : ByteArray) (w : Int) : Int := if op = ⟨#[42]⟩ then 2 * w else if op = ⟨#[60]⟩ ∨ op = ⟨#[61]⟩ then 1 else w
set_option maxRecDepth 20000 in
set_option maxHeartbeats 4000000 in
theorem spec_laTwo (op : ByteArray) (v : Int) (h1 : 1 ≤ v) (h2 : v ≤ 10) (ho : op ∈ opsL) (hm : op = ⟨#[42]⟩ → v ≤ 5) (w : World) :
    Calls Tryz.prog 219 #[.string op, .int .i64 v, .int .i64 v] w fun e w' => e = .returned (.int .i64 (twoW op v)) ∧ Bl w w' := by
  have HO := Lib.hid ho
  simp only [opsL, List.mem_cons, List.not_mem_nil, or_false] at ho
  have H5 : 2 * v ≤ 10 ∨ ¬ op = ⟨#[42]⟩ := by by_cases h : op = ⟨#[42]⟩; exact .inl (by have := hm h; omega); exact .inr h
  clear hm
  rcases ho with rfl | rfl | rfl | rfl | rfl | rfl | rfl | rfl
  all_goals
    first | (have h5 : 2 * v ≤ 10 := (by rcases H5 with h | h; exact h; exact absurd rfl h)) | skip
    clear H5
    go_enter Tryz.func219, Tryz.ntmps219
    go_wp2_with (first
      | (go_at_call 238; refine (spec_laOps _).mono ?_; rintro e w1 ⟨g, rfl, hr, hb⟩)
      | (go_at_call 237; refine (spec_l1HasS _ _ _ _ _ _ hr HO.out).mono ?_; rintro e w2 ⟨rfl, rfl⟩))
    go_ret
    exact ⟨rfl, hb⟩
def nmR (s : ByteArray) : Nat → Nat → Bool
  | 0, _ => true
  | f + 1, k => if h : k < s.size then decide (97 ≤ (s[k]'h).toNat ∧ (s[k]'h).toNat ≤ 122) && nmR s f (k + 1) else true
/-- Small letters, one to six. -/
def nmB (s : ByteArray) : Bool := inR s.size 1 6 && nmR s s.size 0
theorem nmR_at {s : ByteArray} {f k i : Nat} (h : nmR s f k = true) (h1 : k ≤ i) (h2 : i < k + f) (h3 : i < s.size) : 97 ≤ (s[i]'h3).toNat ∧ (s[i]'h3).toNat ≤ 122 := by
  induction f generalizing k with
  | zero => omega
  | succ f ih =>
    rw [nmR, dif_pos (by omega), Bool.and_eq_true, decide_eq_true_eq] at h
    by_cases he : i = k
    · subst he; exact h.1
    · exact ih h.2 (by omega) (by omega)
set_option maxHeartbeats 1000000 in
theorem spec_laName (s : ByteArray) (hs : nmB s = true) (w : World) :
    Calls Tryz.prog 217 #[.string s] w fun e w' => e = .returned (.bool true) ∧ w = w' := by
  unfold nmB at hs
  rw [Bool.and_eq_true] at hs
  obtain ⟨hs1, hs2⟩ := hs
  have hs3 := inR_iff.1 hs1
  have HB := Lib.hid (fun (i : Nat) (h3 : i < s.size) => nmR_at hs2 (Nat.zero_le i) (by omega) h3)
  clear hs2
  go_enter Tryz.func217, Tryz.ntmps217
  go_wp2
  go_loop [3] (fun i => ∃ k : Nat, k ≤ s.size ∧ i = .int .i64 k) (fun i => s.size - (intOf i).toNat)
  case atStart => exact ⟨0, by omega, rfl⟩
  case round =>
    obtain ⟨k, hk, rfl⟩ := hrel
    by_cases hlt : k < s.size
    · have i1 : (k : Int) < s.size := by omega
      obtain ⟨b1, b2⟩ := HB.out k hlt
      have b3 : ¬ (((s[k]'hlt).toNat : Nat) : Int) < 97 := by omega
      have b4 : ¬ (122 : Int) < (((s[k]'hlt).toNat : Nat) : Int) := by omega
      clear b1 b2
      go_wp2_with fail
      go_round
      case rel => exact ⟨k + 1, by omega, by go_num⟩
      case measure => simp [intOf]; omega
    · go_wp2_with (go_at_call 43; refine (spec_l1In _ _ _ _).mono ?_; rintro e w1 ⟨rfl, rfl⟩)
      go_ret
      exact ⟨rfl, rfl⟩
def fnd (s : ByteArray) : List Ln → Nat → Int
  | [], _ => -1
  | x :: t, i => if x.k ≠ 6 ∧ x.nm = s then i else fnd s t (i + 1)
/-- The place of the first line that gives a name, or -1. -/
def fndL (l : List Ln) (s : ByteArray) : Int := fnd s l 0
theorem fnd_drop {s : ByteArray} {l : List (Hd × Ln)} {k : Nat} {p : Hd × Ln} (h : l[k]? = some p) : fnd s ((l.drop k).map (·.2)) k = if p.2.k ≠ 6 ∧ p.2.nm = s then (k : Int) else fnd s ((l.drop (k + 1)).map (·.2)) (k + 1) := by
  obtain ⟨hk, rfl⟩ := List.getElem?_eq_some_iff.1 h
  rw [List.drop_eq_getElem_cons hk, List.map_cons, fnd]
set_option maxHeartbeats 2000000 in
theorem spec_laFind (A : Option Addr) (n c : Nat) (l : List (Hd × Ln)) (s : ByteArray) (w : World) (h : RdL w A n c l) :
    Calls Tryz.prog 127 #[.slice A n c, .string s] w fun e w' => e = .returned (.int .i64 (fndL (l.map (·.2)) s)) ∧ Bl w w' := by
  obtain ⟨hle1, hle2⟩ := h.le
  have hl := Lib.hid h.len
  have hW0 := Bl.refl w
  go_enter Tryz.func127, Tryz.ntmps127
  go_wp2
  go_loopw [9] (fun i wr => ∃ k : Nat, k ≤ n ∧ i = .int .i64 k ∧ Hid (fnd s ((l.drop k).map (·.2)) k = fndL (l.map (·.2)) s) ∧ Bl w wr) (fun i _ => n - (intOf i).toNat)
  case atStart => exact ⟨0, by omega, rfl, Lib.hid rfl, hW0⟩
  case round =>
    clear hW0
    obtain ⟨k, hk, rfl, hq, hW⟩ := hrel
    by_cases hlt : k < n
    · obtain ⟨ad, p, rfl, hadb, hx, _, c0, c1, c2, c3, c4, c5, c6⟩ := (h.keep hW).at_ hlt
      have HX := Lib.hid (fnd_drop (s := s) hx)
      clear hx
      have e1 := sb_eq p.2.nm s
      by_cases h6 : p.2.k = 6
      · have HY := Lib.hid (show fnd s ((l.drop (k + 1)).map (·.2)) (k + 1) = fndL (l.map (·.2)) s by rw [← hq.out, HX.out, if_neg (fun h => h.1 h6)])
        rw [h6] at c0
        go_wp2_with fail
        go_roundw
        case rel => exact ⟨k + 1, by omega, by go_num, HY, (by (repeat (first | with_reducible assumption | with_reducible exact Bl.refl _ | with_reducible refine Bl.drewN ?_ _ | with_reducible refine Bl.drew ?_ | with_reducible refine Bl.alloc ?_ _ | with_reducible refine Bl.setCell ?_ (by first | (dsimp only; omega) | (simp; omega)) _ | (with_reducible refine Bl.call ?_ (by with_reducible assumption)))))⟩
        case measure => simp [intOf]; omega
      · by_cases heq : p.2.nm = s
        · rw [decide_eq_true heq] at e1
          have HY := Lib.hid (show (k : Int) = fndL (l.map (·.2)) s by rw [← hq.out, HX.out, if_pos ⟨h6, heq⟩])
          clear heq
          go_wp2_with fail
          go_ret
          exact ⟨ret_int HY.out, (by (repeat (first | with_reducible assumption | with_reducible exact Bl.refl _ | with_reducible refine Bl.drewN ?_ _ | with_reducible refine Bl.drew ?_ | with_reducible refine Bl.alloc ?_ _ | with_reducible refine Bl.setCell ?_ (by first | (dsimp only; omega) | (simp; omega)) _ | (with_reducible refine Bl.call ?_ (by with_reducible assumption)))))⟩
        · rw [decide_eq_false heq] at e1
          have HY := Lib.hid (show fnd s ((l.drop (k + 1)).map (·.2)) (k + 1) = fndL (l.map (·.2)) s by rw [← hq.out, HX.out, if_neg (fun h => heq h.2)])
          clear heq
          go_wp2_with fail
          go_roundw
          case rel => exact ⟨k + 1, by omega, by go_num, HY, (by (repeat (first | with_reducible assumption | with_reducible exact Bl.refl _ | with_reducible refine Bl.drewN ?_ _ | with_reducible refine Bl.drew ?_ | with_reducible refine Bl.alloc ?_ _ | with_reducible refine Bl.setCell ?_ (by first | (dsimp only; omega) | (simp; omega)) _ | (with_reducible refine Bl.call ?_ (by with_reducible assumption)))))⟩
          case measure => simp [intOf]; omega
    · have he : k = n := by omega
      have HY := Lib.hid (show (-1 : Int) = fndL (l.map (·.2)) s by rw [← hq.out, List.drop_eq_nil_of_le (by rw [hl.out]; omega)]; rfl)
      go_wp2_with fail
      go_ret
      exact ⟨ret_int HY.out, hW⟩
end Go.Proofs.YtjggecbaladiiaaGreatDoor
