/- Contracts of CellPlan and CellsNeeded, and the walks of their laws.
   Conditions: none. -/
import Derived.Test.YtlmlffiajgofeaaIcp
namespace Go.Proofs.Ytlmlffiajgofeaa
open Go.RowKit
set_option linter.unusedVariables false
/-- The cell of an input. -/
def cpW (L : List Int) (w : Nat) : Int := if -1 < L[w]?.getD 0 then ((liveL L (-1) w).length : Int) else 0
def cpI (L : List Int) (k : Nat) : List Int := (List.range k).map (cpW L)
theorem cpI_step (L : List Int) (k : Nat) : cpI L (k + 1) = cpI L k ++ [cpW L k] := by simp [cpI, List.range_succ]
theorem cpI_len (L : List Int) (k : Nat) : (cpI L k).length = k := by simp [cpI]
theorem cpW_bd (L : List Int) (w : Nat) : 0 ≤ cpW L w ∧ cpW L w ≤ w := by
  have := liveL_len L (-1) w
  unfold cpW; split <;> omega
/-- The reference's way: the k-th live input gets cell k. -/
def spT (N : Nat) (lv : List Int) : Nat → List Int
  | 0 => List.replicate N 0
  | z + 1 => (spT N lv z).set (lv[z]?.getD 0).toNat (z : Int)
theorem spT_len (N : Nat) (lv : List Int) (z : Nat) : (spT N lv z).length = N := by
  induction z with
  | zero => simp [spT]
  | succ z ih => simp [spT, ih]
theorem spT_pre (N : Nat) (lv lv' : List Int) : ∀ z, z ≤ lv.length → spT N (lv ++ lv') z = spT N lv z
  | 0, _ => rfl
  | z + 1, h => by rw [spT, spT, spT_pre N lv lv' z (by omega), List.getElem?_append_left (by omega)]
theorem spT_all (N : Nat) (L : List Int) : ∀ T, T ≤ N → spT N (liveL L (-1) T) (liveL L (-1) T).length = cpI L T ++ List.replicate (N - T) 0
  | 0, _ => by simp [liveL, spT, cpI]
  | T + 1, h => by
    have ih := spT_all N L T (by omega)
    have hrep : List.replicate (N - T) (0 : Int) = 0 :: List.replicate (N - (T + 1)) 0 := by rw [show N - T = (N - (T + 1)) + 1 by omega]; rfl
    have hsplit : cpI L T ++ List.replicate (N - T) (0 : Int) = cpI L T ++ 0 :: List.replicate (N - (T + 1)) 0 := by rw [hrep]
    rw [cpI_step]
    by_cases hc : -1 < L[T]?.getD 0
    · have e : liveL L (-1) (T + 1) = liveL L (-1) T ++ [(T : Int)] := by simp [liveL, hc]
      rw [e, List.length_append, List.length_singleton, spT, spT_pre _ _ _ _ (Nat.le_refl _), ih, hsplit, List.getElem?_append_right (Nat.le_refl _), Nat.sub_self]
      simp only [List.getElem?_cons_zero, Option.getD_some, Int.toNat_natCast]
      rw [List.set_append_right _ _ (by rw [cpI_len]; exact Nat.le_refl _), cpI_len, Nat.sub_self, List.set_cons_zero]
      simp [cpW, hc]
    · have e : liveL L (-1) (T + 1) = liveL L (-1) T := by simp [liveL, hc]
      rw [e, ih, hsplit]
      simp [cpW, hc]
theorem spT_cpI (N : Nat) (L : List Int) : spT N (liveL L (-1) N) (liveL L (-1) N).length = cpI L N := by
  rw [spT_all N L N (Nat.le_refl _)]; simp
/-- The least number that is not in a list. -/
def mex (S : List Int) : Nat := (List.range (S.length + 1)).findIdx fun c : Nat => !memB S (c : Int)
theorem pigeon : ∀ (n : Nat) (S : List Int), (∀ c : Nat, c < n → (c : Int) ∈ S) → n ≤ S.length
  | 0, _, _ => by omega
  | n + 1, S, h => by
    have hn := h n (by omega)
    have ih := pigeon n (S.erase (n : Int)) (fun c hc => (List.mem_erase_of_ne (by omega)).2 (h c (by omega)))
    have := List.length_erase_of_mem hn
    have : 0 < S.length := List.length_pos_of_mem hn
    omega
theorem mex_lt (S : List Int) : mex S < S.length + 1 := by
  have h : mex S < (List.range (S.length + 1)).length := by
    unfold mex
    rw [List.findIdx_lt_length]
    refine Classical.byContradiction fun hc => ?_
    have := pigeon (S.length + 1) S (fun c hcl => by
      refine Classical.byContradiction fun hm => hc ⟨c, List.mem_range.2 hcl, ?_⟩
      simp [memB, hm])
    omega
  simpa using h
theorem mex_in (S : List Int) (c : Nat) (h : c < mex S) : (c : Int) ∈ S := by
  have hl := mex_lt S
  have := List.not_of_lt_findIdx (p := fun c : Nat => !memB S (c : Int)) (xs := List.range (S.length + 1)) h
  simp [memB] at this
  exact this
theorem mex_out (S : List Int) : ((mex S : Nat) : Int) ∉ S := by
  have hl := mex_lt S
  have := List.findIdx_getElem (p := fun c : Nat => !memB S (c : Int)) (xs := List.range (S.length + 1)) (w := by show mex S < _; simpa using hl)
  simp [memB] at this
  exact this
theorem mex_eq {S : List Int} {c : Nat} (h1 : ∀ d, d < c → (d : Int) ∈ S) (h2 : (c : Int) ∉ S) : c = mex S := by
  rcases Nat.lt_trichotomy c (mex S) with h | h | h
  · exact absurd (mex_in S c h) h2
  · exact h
  · exact absurd (h1 _ h) (mex_out S)
theorem mex_congr {S S' : List Int} (h : ∀ x, x ∈ S ↔ x ∈ S') : mex S = mex S' := mex_eq (fun d hd => (h _).1 (mex_in S d hd)) (fun hc => mex_out S ((h _).2 hc))
/-- The plan of the inputs and k gates. -/
def cpG (N : Nat) (L : List Int) : Nat → List Int
  | 0 => cpI L N
  | k + 1 => cpG N L k ++ [((mex (pickL (cpG N L k) (liveL L (k : Int) (N + k))) : Nat) : Int)]
theorem cpG_len (N : Nat) (L : List Int) (k : Nat) : (cpG N L k).length = N + k := by
  induction k with
  | zero => simp [cpG, cpI_len]
  | succ k ih => simp [cpG, ih]; omega
theorem cpG_bd (N : Nat) (L : List Int) (k : Nat) : ∀ x ∈ cpG N L k, 0 ≤ x ∧ x ≤ N + k := by
  induction k with
  | zero =>
    intro x hx
    simp only [cpG, cpI, List.mem_map, List.mem_range] at hx
    obtain ⟨w, hw, rfl⟩ := hx
    have := cpW_bd L w; omega
  | succ k ih =>
    intro x hx
    simp only [cpG, List.mem_append, List.mem_singleton] at hx
    rcases hx with hx | rfl
    · have := ih x hx; omega
    · have h1 := mex_lt (pickL (cpG N L k) (liveL L (k : Int) (N + k)))
      have h2 := liveL_len L (k : Int) (N + k)
      simp only [pickL, List.length_map] at h1
      simp only [pickL]
      omega
/-- Which cells are taken. -/
def tkL (M : Nat) (S : List Int) : List Bool := (List.range M).map fun c : Nat => memB S (c : Int)
theorem tkL_len (M : Nat) (S : List Int) : (tkL M S).length = M := by simp [tkL]
theorem tkL_nil (M : Nat) : tkL M [] = List.replicate M false := by
  apply List.ext_getElem
  · simp [tkL]
  · intro i h1 h2; simp [tkL, memB]
theorem tkL_set (M p : Nat) (S : List Int) : (tkL M S).set p true = tkL M (S ++ [(p : Int)]) := by
  apply List.ext_getElem
  · simp [tkL]
  · intro i h1 h2
    simp only [tkL, List.getElem_set, List.getElem_map, List.getElem_range, memB, List.mem_append, List.mem_singleton]
    by_cases h : p = i
    · subst h; simp
    · have : ¬ ((i : Int) = (p : Int)) := by omega
      simp [h, this]
theorem tkL_idx (M : Nat) (S : List Int) (h : S.length < M) : (tkL M S).findIdx (fun b => !b) = mex S := by
  have hl := mex_lt S
  refine (List.findIdx_eq (by rw [tkL_len]; omega)).2 ⟨?_, fun j hj => ?_⟩
  · simp [tkL, memB, mex_out S]
  · simp [tkL, memB, mex_in S j hj]
theorem liveL_filter (L : List Int) (G : Int) (k : Nat) : (liveL L G (k + 1)).filter (fun x => decide (x < (k : Int))) = liveL L G k := by
  simp only [liveL, List.filter_append]
  have h1 : (liveL L G k).filter (fun x => decide (x < (k : Int))) = liveL L G k := List.filter_eq_self.2 fun x hx => by have := liveL_mem L G k x hx; simp; omega
  rw [h1]
  split <;> simp
/-- Truth values as cells. -/
def bls (l : List Bool) : List Value := l.map Value.bool
theorem bls_get (l : List Bool) (j : Nat) : (bls l).toArray[j]? = l[j]?.map Value.bool := by simp [bls]
theorem bls_set (l : List Bool) (j : Nat) (v : Bool) : (bls l).toArray.setIfInBounds j (.bool v) = (bls (l.set j v)).toArray := by simp [bls, List.map_set]
theorem bool_info : (Try.prog.info? 4).map (fun i => (i.zero, i.size, i.bytes)) = some (some (.bool false), 1, 1) := by kernel_rfl
theorem make_bools (n : Nat) (hn : n ≤ 1000000) : ∀ w : World, (Instr.makeSlice 91 (.int .i64 (n : Int)) (.int .i64 (n : Int))).run Try.prog w = .ok (.slice (some ⟨w.heap.size, 0, none⟩) n n) (w.alloc (.cells (bls (List.replicate n false)).toArray 4)) := by
  intro w
  have h := run_make_row' (P := Try.prog) 91 4 _ 1 Try.underlying91 bool_info rfl .i64 .i64 n (by omega) (by omega) w
  have e : madeCells #[Value.bool false] n = (bls (List.replicate n false)).toArray := by
    apply Array.toList_inj.1
    rw [toList_madeCells_one]
    simp [bls]
  rw [e] at h
  exact h
set_option maxHeartbeats 1000000 in
theorem slices_IndexB (g M : Nat) (l : List Bool) (w : World) (h : Blk w g 4 (bls l).toArray) (hl : l.length = M) (hM : M ≤ 1000) (hf : l.findIdx (fun b => !b) < M) :
    Calls Try.prog 96 #[.slice (some ⟨g, 0, none⟩) M M, .bool false] w fun e w' => e = .returned (.int .i64 ((l.findIdx (fun b => !b) : Nat) : Int)) ∧ w = w' := by
  obtain ⟨F, hF⟩ : ∃ F, l.findIdx (fun b => !b) = F := ⟨_, rfl⟩
  have HF := Lib.hid hF
  rw [hF] at hf ⊢
  clear hF
  have HL := Lib.hid hl
  clear hl
  have hlt0 := h.lt
  go_enter Try.func96, Try.ntmps96
  go_wp2
  go_loop [8] (fun i => ∃ k : Nat, k ≤ F ∧ i = .int .i64 k ∧ Hid (∀ j, j < k → l[j]? = some true)) (fun i => M - (intOf i).toNat)
  case atStart => exact ⟨0, by omega, rfl, Lib.hid (fun j hj => by omega)⟩
  case round =>
    obtain ⟨k, hk, rfl, hq⟩ := hrel
    have hkM : k < M := by omega
    have ik : (k : Int) < M := by omega
    obtain ⟨v, hv⟩ : ∃ v, l[k]? = some v := ⟨_, List.getElem?_eq_getElem (by rw [HL.out]; exact hkM)⟩
    have HV := Lib.hid hv
    have hc := h.cell k (.bool v) (by rw [bls_get, hv]; rfl)
    clear hv
    cases v with
    | true =>
      have hst := Lib.hid (show ∀ j, j < k + 1 → l[j]? = some true from fun j hj => by
        rcases Nat.lt_or_ge j k with h1 | h1
        · exact hq.out j h1
        · have : j = k := by omega
          subst this
          exact HV.out)
      have hkF : k < F := by
        rcases Nat.lt_or_ge k F with h1 | h1
        · exact h1
        · have he : k = F := by omega
          have hm := HF.out
          obtain ⟨hk1, hk2⟩ := List.getElem?_eq_some_iff.1 HV.out
          have := ((List.findIdx_eq hk1).1 (hm.trans he.symm)).1
          rw [hk2] at this
          cases this
      go_wp2
      go_round
      case rel => exact ⟨k + 1, by omega, by go_num, hst⟩
      case measure => simp [intOf]; omega
    | false =>
      have hkF := Lib.hid (show k = F by
        obtain ⟨hk1, hk2⟩ := List.getElem?_eq_some_iff.1 HV.out
        rw [← HF.out]
        refine ((List.findIdx_eq hk1).2 ⟨by rw [hk2]; rfl, fun j hj => ?_⟩).symm
        have := (List.getElem?_eq_some_iff.1 (hq.out j hj)).2
        rw [this]; rfl)
      go_wp2
      go_ret
      exact ⟨by rw [← hkF.out]; rfl, rfl⟩
theorem RdI.cutS {w : World} {ad : Addr} {n c k : Nat} {l : List Int} (h : RdI w (some ad) n c l) (hk : k ≤ n) : RdI w (if c = k then some ad else some (ad.add k)) (n - k) (c - k) (l.drop k) := by
  have := Rd.cut h hk
  unfold RdI
  rw [show ints (l.drop k) = (ints l).drop (k * 1) by simp [ints, List.map_drop]]
  rw [Nat.mul_one] at this ⊢
  exact this
theorem put_mem (l : List Int) (x : Int) (k : Nat) : ∀ y, y ∈ l.take k ++ [x] ++ l.drop k ↔ y ∈ l ∨ y = x := by
  intro y
  have e : y ∈ l ↔ y ∈ l.take k ∨ y ∈ l.drop k := by rw [← List.mem_append, List.take_append_drop]
  rw [e]
  simp only [List.mem_append, List.mem_singleton]
  constructor
  · rintro ((h | h) | h)
    · exact .inl (.inl h)
    · exact .inr h
    · exact .inl (.inr h)
  · rintro ((h | h) | h)
    · exact .inl (.inl h)
    · exact .inr h
    · exact .inl (.inr h)
set_option maxHeartbeats 1000000 in
theorem spec_l1Put0 (x : Int) (w : World) :
    Calls Try.prog 127 #[.slice none 0 0, .int .i64 x] w fun e w' => ∃ A' c', e = .returned (.slice (some A') 1 c') ∧ RdI w' (some A') 1 c' [x] ∧ Bl w w' := by
  go_enter Try.func127, Try.ntmps127
  go_wp2
  go_loop [5] (fun i => i = .int .i64 0) (fun i => 0)
  case atStart => rfl
  case round =>
    subst hrel
    go_wp2_with (first | (at_builtin; refine ap_int (o := ⟨some 38, _, _, _, _, _⟩) rfl rfl rfl (own_made w) rfl (RdI.nil _) (by omega) (by simp) ?_; intro A1 c1 w1 hown1 hg1 hat1; have hW1 : Bl w w1 := Bl.grown ((Bl.refl w).alloc _) hg1 (fun q hq => by simp at hq; omega)) | (at_builtin; refine ap_int (o := ⟨some 42, _, _, _, _, _⟩) rfl rfl rfl (hown1.alloc _) rfl (rd_new1 _ _ _) (by omega) (by have := hW1.sz; simp; omega) ?_; intro A2 c2 w2 hown2 hg2 hat2; have hW2 : Bl w w2 := Bl.grown (hW1.alloc _) hg2 (fun q hq => (hown1.blk q hq).1)) | (at_builtin; refine ap_int (o := ⟨some 47, _, _, _, _, _⟩) rfl rfl rfl hown2 rfl (RdI.nil _) (by omega) (hW2.sz) ?_; intro A3 c3 w3 hown3 hg3 hat3; have hW3 : Bl w w3 := Bl.grown hW2 hg3 (fun q hq => (hown2.blk q hq).1)))
    go_ret
    obtain ⟨g, hg, _⟩ := hown3.form (by omega)
    subst hg
    exact ⟨_, c3, rfl, hown3.rd, hW3⟩
set_option maxHeartbeats 4000000 in
theorem spec_l1Put (ad : Addr) (n c : Nat) (l : List Int) (x : Int) (w : World) (h : RdI w (some ad) n c l) (hn : n ≤ 1000000) :
    Calls Try.prog 127 #[.slice (some ad) n c, .int .i64 x] w fun e w' => ∃ A' n' c' l', e = .returned (.slice (some A') n' c') ∧ RdI w' (some A') n' c' l' ∧ (∀ y, y ∈ l' ↔ y ∈ l ∨ y = x) ∧ n' ≤ n + 1 ∧ Bl w w' := by
  obtain ⟨hle1, hle2⟩ := h.le
  have hlen := Lib.hid h.length
  go_enter Try.func127, Try.ntmps127
  go_wp2
  go_loop [5] (fun i => ∃ k : Nat, k ≤ n ∧ i = .int .i64 k) (fun i => n - (intOf i).toNat)
  case atStart => exact ⟨0, by omega, rfl⟩
  case round =>
    obtain ⟨k, hk, rfl⟩ := hrel
    have ikc : (k : Int) ≤ c := by omega
    have ikn : (k : Int) ≤ n := by omega
    have hs1 : RdI (w.alloc (.cells #[] 3)) (some ad) k c (l.take k) := (h.takeI hk).keep ((Bl.refl w).alloc _)
    have hs2 := fun (W : World) (hb : Bl w W) => (h.cutS hk).keep hb
    by_cases hlt : k < n
    · obtain ⟨ad', v, he, hadb, hv, hcv⟩ := h.at_ hlt
      injection he with he
      subst he
      have HV := Lib.hid hv
      clear hv
      have ik : (k : Int) < n := by omega
      have ikn2 : ¬ (c = k) := by omega
      rw [if_neg ikn2] at hs2
      by_cases hvx : v < x
      · clear hs1 hs2
        go_wp2
        go_round
        case rel => exact ⟨k + 1, by omega, by go_num⟩
        case measure => simp [intOf]; omega
      · rcases heq : (v == x)
        · go_wp2_with (first | (at_builtin; refine ap_int (o := ⟨some 38, _, _, _, _, _⟩) rfl rfl rfl (own_made w) rfl hs1 (by omega) (by simp) ?_; intro A1 c1 w1 hown1 hg1 hat1; replace hown1 : OwnI w.heap.size w1 A1 k c1 (l.take k) := (by simpa using hown1); have hW1 : Bl w w1 := Bl.grown ((Bl.refl w).alloc _) hg1 (fun q hq => by simp at hq; omega)) | (at_builtin; refine ap_int (o := ⟨some 42, _, _, _, _, _⟩) rfl rfl rfl (hown1.alloc _) rfl (rd_new1 _ _ _) (by omega) (by have := hW1.sz; simp; omega) ?_; intro A2 c2 w2 hown2 hg2 hat2; have hW2 : Bl w w2 := Bl.grown (hW1.alloc _) hg2 (fun q hq => (hown1.blk q hq).1)) | (at_builtin; refine ap_int (o := ⟨some 47, _, _, _, _, _⟩) rfl rfl rfl hown2 rfl (hs2 _ hW2) (by omega) (hW2.sz) ?_; intro A3 c3 w3 hown3 hg3 hat3; have hW3 : Bl w w3 := Bl.grown hW2 hg3 (fun q hq => (hown2.blk q hq).1)))
          go_ret
          obtain ⟨g, hg, _⟩ := hown3.form (by omega)
          subst hg
          exact ⟨_, _, c3, rfl, _, hown3.rd, put_mem l x k, by omega, hW3⟩
        · have hx : x ∈ l := by
            have : v = x := by simpa using heq
            subst this
            exact List.mem_of_getElem? HV.out
          clear hs1 hs2
          go_wp2
          go_ret
          exact ⟨ad, n, c, rfl, l, h, fun y => ⟨.inl, fun hy => hy.elim id (fun hy => hy ▸ hx)⟩, by omega, Bl.refl _⟩
    · have ik : ¬ ((k : Int) < n) := by omega
      have hkn : k = n := by omega
      subst hkn
      by_cases hck : c = k
      · subst hck
        have hs3 := fun (W : World) (hb : Bl w W) => (show RdI W (some ad) (c - c) (c - c) (l.drop c) by have := hs2 W hb; rwa [if_pos rfl] at this)
        rw [Nat.sub_self] at hs3
        clear hs2
        go_wp2_with (first | (at_builtin; refine ap_int (o := ⟨some 38, _, _, _, _, _⟩) rfl rfl rfl (own_made w) rfl hs1 (by omega) (by simp) ?_; intro A1 c1 w1 hown1 hg1 hat1; replace hown1 := (by simpa using hown1 : OwnI w.heap.size w1 A1 _ c1 (l.take _)); have hW1 : Bl w w1 := Bl.grown ((Bl.refl w).alloc _) hg1 (fun q hq => by simp at hq; omega)) | (at_builtin; refine ap_int (o := ⟨some 42, _, _, _, _, _⟩) rfl rfl rfl (hown1.alloc _) rfl (rd_new1 _ _ _) (by omega) (by have := hW1.sz; simp; omega) ?_; intro A2 c2 w2 hown2 hg2 hat2; have hW2 : Bl w w2 := Bl.grown (hW1.alloc _) hg2 (fun q hq => (hown1.blk q hq).1)) | (at_builtin; refine ap_int (o := ⟨some 47, _, _, _, _, _⟩) rfl rfl rfl hown2 rfl (hs3 _ hW2) (by omega) (hW2.sz) ?_; intro A3 c3 w3 hown3 hg3 hat3; have hW3 : Bl w w3 := Bl.grown hW2 hg3 (fun q hq => (hown2.blk q hq).1)))
        go_ret
        obtain ⟨g, hg, _⟩ := hown3.form (by omega)
        subst hg
        exact ⟨_, _, c3, rfl, _, hown3.rd, put_mem l x c, by omega, hW3⟩
      · have hs3 := fun (W : World) (hb : Bl w W) => (show RdI W (some (ad.add k)) (k - k) (c - k) (l.drop k) by have := hs2 W hb; rwa [if_neg hck] at this)
        rw [Nat.sub_self] at hs3
        clear hs2
        go_wp2_with (first | (at_builtin; refine ap_int (o := ⟨some 38, _, _, _, _, _⟩) rfl rfl rfl (own_made w) rfl hs1 (by omega) (by simp) ?_; intro A1 c1 w1 hown1 hg1 hat1; replace hown1 := (by simpa using hown1 : OwnI w.heap.size w1 A1 _ c1 (l.take _)); have hW1 : Bl w w1 := Bl.grown ((Bl.refl w).alloc _) hg1 (fun q hq => by simp at hq; omega)) | (at_builtin; refine ap_int (o := ⟨some 42, _, _, _, _, _⟩) rfl rfl rfl (hown1.alloc _) rfl (rd_new1 _ _ _) (by omega) (by have := hW1.sz; simp; omega) ?_; intro A2 c2 w2 hown2 hg2 hat2; have hW2 : Bl w w2 := Bl.grown (hW1.alloc _) hg2 (fun q hq => (hown1.blk q hq).1)) | (at_builtin; refine ap_int (o := ⟨some 47, _, _, _, _, _⟩) rfl rfl rfl hown2 rfl (hs3 _ hW2) (by omega) (hW2.sz) ?_; intro A3 c3 w3 hown3 hg3 hat3; have hW3 : Bl w w3 := Bl.grown hW2 hg3 (fun q hq => (hown2.blk q hq).1)))
        go_ret
        obtain ⟨g, hg, _⟩ := hown3.form (by omega)
        subst hg
        exact ⟨_, _, c3, rfl, _, hown3.rd, put_mem l x k, by omega, hW3⟩
/-- What is read of a plan by the live wires ahead of a gate's own. -/
def selL (lv : List Int) (own : Nat) : List Int := lv.filter fun x => decide (x < (own : Int))
theorem selL_y {lv : List Int} {own z : Nat} {x : Int} (hx : lv[z]? = some x) (h : x < (own : Int)) : selL (lv.take (z + 1)) own = selL (lv.take z) own ++ [x] := by
  rw [take_snoc hx]; simp [selL, List.filter_append, h]
theorem selL_n {lv : List Int} {own z : Nat} {x : Int} (hx : lv[z]? = some x) (h : ¬ x < (own : Int)) : selL (lv.take (z + 1)) own = selL (lv.take z) own := by
  rw [take_snoc hx]; simp [selL, List.filter_append, h]
def cpL (a b : Int) (gl : List Gt) (ol : List Int) : List Int := cpG (a + b).toNat (luL ((a + b).toNat + gl.length) gl ol) gl.length
def cpR (a b : Int) (gl : List Gt) (ol : List Int) : List Int := if goodC a b gl ol then cpL a b gl ol else []
theorem cpR_len (a b : Int) (gl : List Gt) (ol : List Int) : (cpR a b gl ol).length ≤ 1000000000 := by
  unfold cpR; split
  · rename_i h
    obtain ⟨h1, h2, h3, h4, h5, _⟩ := goodC_facts h
    rw [cpL, cpG_len]; omega
  · simp
set_option maxRecDepth 20000 in
set_option maxHeartbeats 8000000 in
theorem impl_CellPlan (a b : Int) (Ag Ao : Option Addr) (n cg m co : Nat) (gl : List Gt) (ol : List Int) (w : World) (hg : RdG w Ag n cg gl) (ho : RdI w Ao m co ol) :
    Calls Try.prog 40 #[.agg #[.int .i64 a, .int .i64 b, .slice Ag n cg, .slice Ao m co]] w fun e w' => ∃ A' n' c', e = .returned (.tuple #[.slice A' n' c', .bool (goodC a b gl ol)]) ∧ OwnI w.heap.size w' A' n' c' (cpR a b gl ol) ∧ Bl w w' := by
  have hW0 := (Bl.refl w).alloc (.cells #[.int .i64 a, .int .i64 b, .slice Ag n cg, .slice Ao m co] 26)
  have hG := Lib.hid (impl_IsCircuit a b Ag Ao n cg m co gl ol (w.alloc (.cells #[.int .i64 a, .int .i64 b, .slice Ag n cg, .slice Ao m co] 26)) (hg.keep hW0) (ho.keep hW0))
  rcases hgd : goodC a b gl ol
  · rw [hgd] at hG
    have hR := Lib.hid (show cpR a b gl ol = [] by simp [cpR, hgd])
    go_enter Try.func40, Try.ntmps40
    go_wp2_with (go_at_call 50; refine hG.out.mono ?_; rintro e w1 ⟨rfl, hb1⟩)
    go_ret2
    exact ⟨none, 0, 0, rfl, by rw [hR.out]; exact OwnI.nil _ _, (by (repeat (first | assumption | with_reducible exact Bl.refl _ | with_reducible refine Bl.drewN ?_ _ | with_reducible refine Bl.drew ?_ | with_reducible refine Bl.alloc ?_ _ | (with_reducible refine Bl.call ?_ (by assumption)))))⟩
  rw [hgd] at hG
  have hRR := Lib.hid (show cpR a b gl ol = cpL a b gl ol by rw [cpR, hgd]; rfl)
  have HGD := Lib.hid hgd
  clear hgd
  obtain ⟨hle1, hle2⟩ := hg.le
  have hgl := Lib.hid hg.2
  have hgd := HGD.out
  obtain ⟨a0, a1, b0, b1, hn, _, _, _⟩ := goodC_facts hgd
  rw [hg.2] at hn
  clear hgd
  obtain ⟨N0, hN0⟩ : ∃ N0 : Nat, a + b = N0 := ⟨(a + b).toNat, by omega⟩
  have HN := Lib.hid hN0
  have hT : (a + b).toNat = N0 := by omega
  obtain ⟨WN, hWN⟩ : ∃ WN : Nat, N0 + n = WN := ⟨_, rfl⟩
  have HW := Lib.hid (show a + b + (n : Int) = WN by omega)
  have HLU := fun W (hW : Bl w W) => Lib.hid (impl_lastUses a b Ag Ao n cg m co gl ol W (hg.keep hW) (ho.keep hW) HGD.out)
  have hR := Lib.hid (show cpL a b gl ol = cpG N0 (luL WN gl ol) n by rw [cpL, hg.2, hT, hWN])
  rw [hT, hWN] at HLU
  have hWI : (WN : Int) ≤ N0 + n := by omega
  have hWJ : (N0 : Int) + n ≤ WN := by omega
  have hNa : (N0 : Int) ≤ a + b := by omega
  have hNb : a + b ≤ (N0 : Int) := by omega
  clear hT hWN hN0
  generalize luL WN gl ol = L at *
  have hW := (Bl.refl w).alloc (.cells #[.int .i64 a, .int .i64 b, .slice Ag n cg, .slice Ao m co] 26)
  have hB := Blk.new w 26 #[.int .i64 a, .int .i64 b, .slice Ag n cg, .slice Ao m co]
  clear hW0
  go_enter Try.func40, Try.ntmps40
  go_wp2_with (first | (go_at_call 50; refine hG.out.mono ?_; rintro e w1 ⟨rfl, hb1⟩; replace hB := hB.keep hb1; replace hW := hW.call hb1; have hB_l := hB.lt; have hB_0 := hB.cell 0 _ rfl; have hB_1 := hB.cell 1 _ rfl; have hB_2 := hB.cell 2 _ rfl; have hB_3 := hB.cell 3 _ rfl) | (go_at_call 67; refine (HLU _ (by (repeat (first | assumption | with_reducible exact Bl.refl _ | with_reducible refine Bl.drewN ?_ _ | with_reducible refine Bl.drew ?_ | with_reducible refine Bl.alloc ?_ _ | (with_reducible refine Bl.call ?_ (by assumption)))))).out.mono ?_; rintro e w5 ⟨A2, c2, rfl, ho2, hb2⟩; replace hB := hB.keep hb2; replace hW := hW.call hb2; clear hB_l hB_0 hB_1 hB_2 hB_3; have hB_l := hB.lt; have hB_0 := hB.cell 0 _ rfl; have hB_1 := hB.cell 1 _ rfl; have hB_2 := hB.cell 2 _ rfl; have hB_3 := hB.cell 3 _ rfl))
  have h2b0 := fun k hk => (ho2.blk k hk).2
  have hr20 : RdI (w5.alloc (.cells #[] 3)) A2 WN c2 L := ho2.rd.keep ((Bl.refl w5).alloc _)
  clear ho2 HLU hG
  obtain ⟨hle7, hle8⟩ := hr20.le
  have hown00 : OwnI (w.heap.size + 1) (w5.alloc (.cells #[] 3)) (some ⟨w5.heap.size, 0, none⟩) 0 0 (cpI L 0) := OwnI.mono (own_made w5) (by omega)
  have hap00 : ∀ a, A2 = some a → some a.block ≠ (some (⟨w5.heap.size, 0, none⟩ : Addr)).map (·.block) := fun a ha he => by (subst ha; have := h2b0 a.block rfl; simp at he; omega)
  replace hB := hB.alloc (.cells #[] 3)
  replace hW := hW.alloc (.cells #[] 3)
  clear hB_l hB_0 hB_1 hB_2 hB_3
  have hB_l := hB.lt; have hB_0 := hB.cell 0 _ rfl; have hB_1 := hB.cell 1 _ rfl; have hB_2 := hB.cell 2 _ rfl; have hB_3 := hB.cell 3 _ rfl
  refine (impl_inputs _ _ _ _ _ _ _ _ _ (by omega) (by omega) (by omega) (by omega)).mono ?_
  rintro e w2 ⟨rfl, hb2⟩
  rw [HN.out]
  have hr2 := hr20.keep hb2
  have hown0 := hown00.keep hb2
  have h2b : ∀ k, A2.map (·.block) = some k → k < w2.heap.size := fun k hk => Nat.lt_of_lt_of_le (h2b0 k hk) (by have := hb2.sz; simp at this; omega)
  have hap0 := hap00
  replace hB := hB.keep hb2
  replace hW := hW.call hb2
  clear hr20 hown00 hap00 h2b0
  clear hB_l hB_0 hB_1 hB_2 hB_3
  have kB := hB.lt
  have kB2 := hB.cell 2 _ rfl
  go_wp2
  go_loopw [5, 6, 21] (fun s x i wr => ∃ k A c, k ≤ N0 ∧ i = .int .i64 (k : Nat) ∧ x = .int .i64 (((liveL L (-1) k).length : Nat) : Int) ∧ s = .slice A k c ∧ OwnI (w.heap.size + 1) wr A k c (cpI L k) ∧ RdI wr A2 WN c2 L ∧ (∀ a, A2 = some a → some a.block ≠ A.map (·.block)) ∧ w2.heap.size ≤ wr.heap.size ∧ Blk wr w.heap.size 26 #[.int .i64 a, .int .i64 b, .slice Ag n cg, .slice Ao m co] ∧ Bl w wr) (fun s x i _ => N0 - (intOf i).toNat)
  case atStart => exact ⟨0, _, _, by omega, rfl, rfl, rfl, hown0, hr2, hap0, Nat.le_refl _, hB, hW⟩
  case round =>
    clear hW hr2 hB hap0 hown0 kB kB2
    obtain ⟨k, A, c, hk, rfl, rfl, rfl, hown, hr2, hap, hsz, hB, hW⟩ := hrel
    have hne0 : A.map (·.block) ≠ some w.heap.size := by intro he; have := (hown.blk _ he).1; omega
    have kB := hB.lt
    have kB2 := hB.cell 2 _ rfl
    have hll := liveL_len L (-1) k
    by_cases hlt : k < N0
    · obtain ⟨ad3, v, rfl, hadb3, hv, hcv⟩ := hr2.at_ (show k < WN by omega)
      have HV := Lib.hid hv
      clear hv
      have ik : (k : Int) < N0 := by omega
      have iw : (k : Int) < WN := by omega
      have hst0 := Lib.hid (cpI_step L k)
      by_cases hv0 : 0 ≤ v
      · have hli := Lib.hid (show (((liveL L (-1) (k + 1)).length : Nat) : Int) = (((liveL L (-1) k).length : Nat) : Int) + 1 by rw [liveL_y HV.out (by omega), List.length_append]; simp)
        have hcw := Lib.hid (show cpW L k = (((liveL L (-1) k).length : Nat) : Int) by unfold cpW; rw [HV.out, Option.getD_some, if_pos (by omega)])
        generalize (liveL L (-1) k).length = Q at *
        go_wp2_with (first | (at_builtin; refine ap_int rfl rfl rfl (hown.alloc _) rfl (rd_new1 _ _ _) (by omega) (by have := hW.sz; have := hB.lt; simp; omega) ?_; intro A3 c3 w4 hown3 hg3 hat3))
        go_roundw
        case rel => exact ⟨k + 1, A3, c3, by omega, by go_num, by rw [hli.out], rfl, by rw [hst0.out, hcw.out]; exact hown3, (hr2.keep ((Bl.refl wr).alloc _)).grown hg3 hap, apart_grow hat3 (fun q hq => by have := h2b q hq; simp; omega) hap, Nat.le_trans hsz (Nat.le_trans (Bl.sz (Bl.alloc (Bl.refl wr) _)) hg3.size), Blk.grown (hB.alloc _) hg3 (by intro he; exact hne0 he.symm), Bl.grown (hW.alloc _) hg3 (fun q hq => Nat.le_of_succ_le (hown.blk q hq).1)⟩
        case measure => simp [intOf]; omega
      · have hli := Lib.hid (show (((liveL L (-1) (k + 1)).length : Nat) : Int) = (((liveL L (-1) k).length : Nat) : Int) by rw [liveL_n HV.out (by omega)])
        have hcw := Lib.hid (show cpW L k = 0 by unfold cpW; rw [HV.out, Option.getD_some, if_neg (by omega)])
        generalize (liveL L (-1) k).length = Q at *
        go_wp2_with (first | (at_builtin; refine ap_int rfl rfl rfl (hown.alloc _) rfl (rd_new1 _ _ _) (by omega) (by have := hW.sz; have := hB.lt; simp; omega) ?_; intro A3 c3 w4 hown3 hg3 hat3))
        go_roundw
        case rel => exact ⟨k + 1, A3, c3, by omega, by go_num, by rw [hli.out], rfl, by rw [hst0.out, hcw.out]; exact hown3, (hr2.keep ((Bl.refl wr).alloc _)).grown hg3 hap, apart_grow hat3 (fun q hq => by have := h2b q hq; simp; omega) hap, Nat.le_trans hsz (Nat.le_trans (Bl.sz (Bl.alloc (Bl.refl wr) _)) hg3.size), Blk.grown (hB.alloc _) hg3 (by intro he; exact hne0 he.symm), Bl.grown (hW.alloc _) hg3 (fun q hq => Nat.le_of_succ_le (hown.blk q hq).1)⟩
        case measure => simp [intOf]; omega
    · have hE : cpI L k = cpG N0 L 0 := by rw [show k = N0 by omega]; rfl
      rw [hE] at hown
      clear hE
      go_wp2
      go_loopw [5, 40] (fun s i wr => ∃ j p A c, j ≤ n ∧ p = N0 + j ∧ i = .int .i64 (j : Nat) ∧ s = .slice A p c ∧ OwnI (w.heap.size + 1) wr A p c (cpG N0 L j) ∧ RdI wr A2 WN c2 L ∧ (∀ a, A2 = some a → some a.block ≠ A.map (·.block)) ∧ w2.heap.size ≤ wr.heap.size ∧ Blk wr w.heap.size 26 #[.int .i64 a, .int .i64 b, .slice Ag n cg, .slice Ao m co] ∧ Bl w wr) (fun s i _ => n - (intOf i).toNat)
      case atStart => exact ⟨0, k, A, c, by omega, by omega, rfl, rfl, hown, hr2, hap, hsz, hB, hW⟩
      case round =>
        clear hW hr2 hB hap hown kB kB2 hsz hne0 hll
        obtain ⟨j, p, A, c, hj, hp, rfl, rfl, hown, hr2, hap, hsz, hB, hW⟩ := hrel
        have hne0 : A.map (·.block) ≠ some w.heap.size := by intro he; have := (hown.blk _ he).1; omega
        have hB_l := hB.lt; have hB_0 := hB.cell 0 _ rfl; have hB_1 := hB.cell 1 _ rfl; have hB_2 := hB.cell 2 _ rfl; have hB_3 := hB.cell 3 _ rfl
        have HP := Lib.hid hp
        have hpW : p ≤ WN := by omega
        have hpI : (p : Int) ≤ N0 + j := by omega
        have hpJ : (N0 : Int) + j ≤ p := by omega
        by_cases hlt2 : j < n
        · have ij : (j : Int) < n := by omega
          have hbd := Lib.hid (cpG_bd N0 L j)
          have hst := Lib.hid (show cpG N0 L (j + 1) = cpG N0 L j ++ [((mex (pickL (cpG N0 L j) (liveL L (j : Int) (N0 + j))) : Nat) : Int)] from rfl)
          have hfil := Lib.hid (liveL_filter L (j : Int) (N0 + j))
          have hmex := mex_lt (pickL (cpG N0 L j) (liveL L (j : Int) (N0 + j)))
          have hsl := Lib.hid (show (pickL (cpG N0 L j) (liveL L (j : Int) (N0 + j))).length < WN + 1 by rw [pickL_len]; have := liveL_len L (j : Int) (N0 + j); omega)
          have hmexW : mex (pickL (cpG N0 L j) (liveL L (j : Int) (N0 + j))) < WN + 1 := by have := hsl.out; omega
          clear hp hmex
          generalize cpG N0 L j = P at *
          have hmk : ∀ w : World, (Instr.makeSlice 91 (.int .i64 ((WN : Int) + 1)) (.int .i64 ((WN : Int) + 1))).run Try.prog w = .ok (.slice (some ⟨w.heap.size, 0, none⟩) (WN + 1) (WN + 1)) (w.alloc (.cells (bls (List.replicate (WN + 1) false)).toArray 4)) := make_bools (WN + 1) (by omega)
          go_wp2_with (go_at_call 95; refine (impl_wires _ _ _ _ _ _ _ _ _ (by omega) (by omega) (by omega) (by omega) (by omega)).mono ?_; rintro e w7 ⟨rfl, hb7⟩; rw [HW.out]; replace hW := hW.call hb7; replace hB := hB.keep hb7; replace hr2 := hr2.keep hb7; replace hown := hown.keep hb7; replace hsz := Nat.le_trans hsz hb7.sz; clear hB_l hB_0 hB_1 hB_2 hB_3; have hB_l := hB.lt; have hB_0 := hB.cell 0 _ rfl; have hB_1 := hB.cell 1 _ rfl; have hB_2 := hB.cell 2 _ rfl; have hB_3 := hB.cell 3 _ rfl)
          have hTk := Blk.new w7 4 (bls (List.replicate (WN + 1) false)).toArray
          rw [← tkL_nil] at hTk
          have hAb := fun k hk => (hown.blk k hk).2
          have hA2b := fun k hk => Nat.lt_of_lt_of_le (h2b k hk) hsz
          have kB7 := hB.lt
          replace hW := hW.alloc (.cells (bls (List.replicate (WN + 1) false)).toArray 4)
          replace hB := hB.alloc (.cells (bls (List.replicate (WN + 1) false)).toArray 4)
          replace hr2 := hr2.keep ((Bl.refl w7).alloc (.cells (bls (List.replicate (WN + 1) false)).toArray 4))
          replace hown := hown.keep ((Bl.refl w7).alloc (.cells (bls (List.replicate (WN + 1) false)).toArray 4))
          rw [tkL_nil] at hTk
          refine (impl_liveBehind a b Ag Ao n cg m co (j : Int) (N0 + j + 1) WN A2 c2 L _ hr2 (by omega) (by omega) (by omega) (by omega) (by omega) (by omega) (by omega) (by omega) (by omega)).mono ?_
          rintro e w8 ⟨A8, p8, c8, rfl, ho8, hb8⟩
          replace hW := hW.call hb8
          replace hB := hB.keep hb8
          replace hr2 := hr2.keep hb8
          replace hown := hown.keep hb8
          replace hTk := hTk.keep hb8
          rw [← tkL_nil] at hTk
          have hr8 := ho8.rd
          have h8b : ∀ q, A8.map (·.block) = some q → w7.heap.size + 1 ≤ q := fun q hq => by have := (ho8.blk q hq).1; simpa using this
          have hp8 := Lib.hid ho8.length
          have hl8 := liveL_len L (j : Int) (N0 + j + 1)
          rw [hp8.out] at hl8
          have hm8 := Lib.hid (liveL_mem L (j : Int) (N0 + j + 1))
          clear ho8
          obtain ⟨hle9, hle10⟩ := hr8.le
          obtain ⟨gT, hgT⟩ : ∃ gT, w7.heap.size = gT := ⟨_, rfl⟩
          rw [hgT] at hTk hAb hA2b kB7 h8b ⊢
          have s78 : gT < w8.heap.size := hTk.lt
          have hszT : w2.heap.size ≤ gT := by rw [← hgT]; exact hsz
          clear hgT
          generalize liveL L (j : Int) (N0 + j + 1) = l8 at *
          have aT : ∀ a, A = some a → some a.block ≠ some gT := fun a ha he => by (injection he with he; have := hAb a.block (by rw [ha]; rfl); omega)
          have aT2 : ∀ a, A2 = some a → some a.block ≠ some gT := fun a ha he => by (injection he with he; have := hA2b a.block (by rw [ha]; rfl); omega)
          have aT8 : ∀ a, A8 = some a → some a.block ≠ some gT := fun a ha he => by (injection he with he; have := h8b a.block (by rw [ha]; rfl); omega)
          clear hB_l hB_0 hB_1 hB_2 hB_3
          clear hmk
          go_wp2
          go_loopw [52] (fun i wq => ∃ z : Nat, z ≤ p8 ∧ i = .int .i64 z ∧ Blk wq gT 4 (bls (tkL (WN + 1) (pickL P (selL (l8.take z) (N0 + j))))).toArray ∧ OwnI (w.heap.size + 1) wq A p c P ∧ RdI wq A8 p8 c8 l8 ∧ RdI wq A2 WN c2 L ∧ w2.heap.size ≤ wq.heap.size ∧ Blk wq w.heap.size 26 #[.int .i64 a, .int .i64 b, .slice Ag n cg, .slice Ao m co] ∧ Bl w wq) (fun i _ => p8 - (intOf i).toNat)
          case atStart => exact ⟨0, by omega, rfl, hTk, hown, hr8, hr2, by omega, hB, hW⟩
          case round =>
            clear hTk hown hr8 hr2 hB hW hsz s78
            obtain ⟨z, hz, rfl, hTk, hown, hr8, hr2, hsz, hB, hW⟩ := hrel
            have kT := hTk.lt
            have kB := hB.lt
            have kB2 := hB.cell 2 _ rfl
            by_cases hlt3 : z < p8
            · obtain ⟨ad8, x, rfl, hadb8, hx, hcx⟩ := hr8.at_ hlt3
              have hxb := hm8.out x (List.mem_of_getElem? hx)
              have HX := Lib.hid hx
              clear hx
              obtain ⟨X, rfl⟩ : ∃ X : Nat, x = X := ⟨x.toNat, by omega⟩
              have iz : (z : Int) < p8 := by omega
              by_cases hX : X < p
              · obtain ⟨ad, v, rfl, hadb, hv, hcv⟩ := hown.rd.at_ hX
                have hvb := hbd.out v (List.mem_of_getElem? hv)
                have HV := Lib.hid hv
                clear hv
                obtain ⟨V, rfl⟩ : ∃ V : Nat, v = V := ⟨v.toNat, by omega⟩
                have iX : (X : Int) < p := by omega
                have iV : (V : Int) < ((WN + 1 : Nat) : Int) := by omega
                have iV2 : (V : Int) < (WN : Int) + 1 := by omega
                have hVW : V < WN + 1 := by omega
                have hst2 := Lib.hid (show (tkL (WN + 1) (pickL P (selL (l8.take z) (N0 + j)))).set V true = tkL (WN + 1) (pickL P (selL (l8.take (z + 1)) (N0 + j))) by
                  rw [selL_y HX.out (by have := HP.out; omega), pickL_snoc, Int.toNat_natCast, HV.out, Option.getD_some, tkL_set])
                have hTl := tkL_len (WN + 1) (pickL P (selL (l8.take z) (N0 + j)))
                obtain ⟨u, hu⟩ : ∃ u, (tkL (WN + 1) (pickL P (selL (l8.take z) (N0 + j))))[V]? = some u := ⟨_, List.getElem?_eq_getElem (by rw [hTl]; exact hVW)⟩
                have hcT := hTk.cell V (.bool u) (by rw [bls_get, hu]; rfl)
                have hfT := hTk.frozen V
                clear hu hTl
                go_wp2
                go_roundw
                case rel => exact ⟨z + 1, by omega, by go_num, by rw [← hst2.out, ← bls_set]; exact hTk.set_ V _, OwnI.grown hown (grownBy_setCell _ _ _ _) aT, RdI.grown hr8 (grownBy_setCell _ _ _ _) aT8, RdI.grown hr2 (grownBy_setCell _ _ _ _) aT2, Nat.le_trans hsz (grownBy_setCell _ _ _ _).size, hB.far (by dsimp only; omega) _, hW.setCell (by dsimp only; omega) _⟩
                case measure => simp [intOf]; omega
              · have iX : ¬ ((X : Int) < p) := by omega
                have hst2 := Lib.hid (show selL (l8.take (z + 1)) (N0 + j) = selL (l8.take z) (N0 + j) from selL_n HX.out (by have := HP.out; omega))
                go_wp2
                go_roundw
                case rel => exact ⟨z + 1, by omega, by go_num, by rw [hst2.out]; exact hTk, hown, hr8, hr2, hsz, hB, hW⟩
                case measure => simp [intOf]; omega
            · have hE := Lib.hid (show selL (l8.take z) (N0 + j) = liveL L (j : Int) (N0 + j) by rw [List.take_of_length_le (by rw [hp8.out]; omega)]; exact hfil.out)
              rw [hE.out] at hTk
              have hidx := tkL_idx (WN + 1) (pickL P (liveL L (j : Int) (N0 + j))) hsl.out
              have HI := Lib.hid (slices_IndexB gT (WN + 1) _ wr hTk (tkL_len _ _) (by omega) (by rw [hidx]; exact hmexW))
              rw [hidx] at HI
              generalize mex (pickL P (liveL L (j : Int) (N0 + j))) = MX at *
              clear hidx hTk
              go_wp2_with (first | (go_at_call 96; refine HI.out.mono ?_; rintro e w' ⟨rfl, rfl⟩) | (at_builtin; refine ap_int rfl rfl rfl (hown.alloc _) rfl (rd_new1 _ _ _) (by omega) (by have := hW.sz; have := hB.lt; simp; omega) ?_; intro A3 c3 w4 hown3 hg3 hat3))
              go_roundw
              case rel => exact ⟨j + 1, p + 1, A3, c3, by omega, by have := HP.out; omega, by go_num, rfl, by rw [hst.out]; exact hown3, (hr2.keep ((Bl.refl wr).alloc _)).grown hg3 hap, apart_grow hat3 (fun q hq => by have := h2b q hq; simp; omega) hap, Nat.le_trans hsz (Nat.le_trans (Bl.sz (Bl.alloc (Bl.refl wr) _)) hg3.size), Blk.grown (hB.alloc _) hg3 (by intro he; exact hne0 he.symm), Bl.grown (hW.alloc _) hg3 (fun q hq => Nat.le_of_succ_le (hown.blk q hq).1)⟩
              case measure => simp [intOf]; omega
        · have hjn := Lib.hid (show cpG N0 L n = cpG N0 L j by rw [show j = n by omega])
          clear hp
          go_wp2
          go_ret2
          exact ⟨A, p, c, rfl, by rw [hRR.out, hR.out, hjn.out]; exact OwnI.mono hown (by omega), hW⟩
set_option maxRecDepth 20000 in
set_option maxHeartbeats 8000000 in
theorem spec_svPlan (a b : Int) (Ag Ao : Option Addr) (n cg m co : Nat) (gl : List Gt) (ol : List Int) (w : World) (hg : RdG w Ag n cg gl) (ho : RdI w Ao m co ol) (hgood : goodC a b gl ol = true) :
    Calls Try.prog 97 #[.agg #[.int .i64 a, .int .i64 b, .slice Ag n cg, .slice Ao m co]] w fun e w' => ∃ A q c, e = .returned (.slice A q c) ∧ OwnI w.heap.size w' A q c (cpL a b gl ol) ∧ Bl w w' := by
  have HGD := Lib.hid hgood
  obtain ⟨hle1, hle2⟩ := hg.le
  have hgl := Lib.hid hg.2
  have hgd := HGD.out
  obtain ⟨a0, a1, b0, b1, hn, _, _, _⟩ := goodC_facts hgd
  rw [hg.2] at hn
  clear hgd
  obtain ⟨N0, hN0⟩ : ∃ N0 : Nat, a + b = N0 := ⟨(a + b).toNat, by omega⟩
  have HN := Lib.hid hN0
  have hT : (a + b).toNat = N0 := by omega
  obtain ⟨WN, hWN⟩ : ∃ WN : Nat, N0 + n = WN := ⟨_, rfl⟩
  have HW := Lib.hid (show a + b + (n : Int) = WN by omega)
  have HLU := fun W (hW : Bl w W) => Lib.hid (spec_svLast a b Ag Ao n cg m co gl ol W (hg.keep hW) (ho.keep hW) HGD.out)
  have hR := Lib.hid (show cpL a b gl ol = cpG N0 (luL WN gl ol) n by rw [cpL, hg.2, hT, hWN])
  rw [hT, hWN] at HLU
  have hWI : (WN : Int) ≤ N0 + n := by omega
  have hWJ : (N0 : Int) + n ≤ WN := by omega
  have hNa : (N0 : Int) ≤ a + b := by omega
  have hNb : a + b ≤ (N0 : Int) := by omega
  clear hT hWN hN0
  generalize luL WN gl ol = L at *
  have hW := (Bl.refl w).alloc (.cells #[.int .i64 a, .int .i64 b, .slice Ag n cg, .slice Ao m co] 26)
  have hB := Blk.new w 26 #[.int .i64 a, .int .i64 b, .slice Ag n cg, .slice Ao m co]
  have hmk := make_ints N0 (by omega)
  go_enter Try.func97, Try.ntmps97
  go_wp2_with (first | (go_at_call 68; refine (HLU _ (by (repeat (first | assumption | with_reducible exact Bl.refl _ | with_reducible refine Bl.drewN ?_ _ | with_reducible refine Bl.drew ?_ | with_reducible refine Bl.alloc ?_ _ | (with_reducible refine Bl.call ?_ (by assumption)))))).out.mono ?_; rintro e w5 ⟨A2, c2, rfl, ho2, hb2⟩; replace hB := hB.keep hb2; replace hW := hW.call hb2; have hB_l := hB.lt; have hB_0 := hB.cell 0 _ rfl; have hB_1 := hB.cell 1 _ rfl; have hB_2 := hB.cell 2 _ rfl; have hB_3 := hB.cell 3 _ rfl) | (go_at_call 55; refine (spec_ciInputs _ _ _ _ _ _ _ _ _ (by omega) (by omega) (by omega) (by omega)).mono ?_; rintro e w6 ⟨rfl, hb6⟩; rw [HN.out]; replace hB := hB.keep hb6; replace hW := hW.call hb6; replace ho2 := ho2.keep hb6; clear hB_l hB_0 hB_1 hB_2 hB_3; have hB_l := hB.lt; have hB_0 := hB.cell 0 _ rfl; have hB_1 := hB.cell 1 _ rfl; have hB_2 := hB.cell 2 _ rfl; have hB_3 := hB.cell 3 _ rfl))
  have h2b0 := fun k hk => (ho2.blk k hk).2
  have hr2 := ho2.rd
  clear ho2 HLU
  obtain ⟨hle7, hle8⟩ := hr2.le
  have sB := hB.lt
  have hown00 : OwnI (w.heap.size + 1) (w6.alloc (.cells (madeCells #[.int .i64 0] N0) 3)) (some ⟨w6.heap.size, 0, none⟩) N0 N0 (List.replicate N0 0) := OwnI.mono (own_zeros w6 N0 (by omega)) (by omega)
  replace hB := hB.alloc (.cells (madeCells #[.int .i64 0] N0) 3)
  replace hW := hW.alloc (.cells (madeCells #[.int .i64 0] N0) 3)
  replace hr2 := hr2.keep ((Bl.refl w6).alloc (.cells (madeCells #[.int .i64 0] N0) 3))
  refine (spec_svLive a b Ag Ao n cg m co (-1) N0 WN A2 c2 L _ hr2 (by omega) (by omega) (by omega) (by omega) (by omega) (by omega) (by omega) (by omega) (by omega)).mono ?_
  rintro e w3 ⟨A3, p3, c3, rfl, ho3, hb3⟩
  replace hW := hW.call hb3
  replace hB := hB.keep hb3
  replace hr2 := hr2.keep hb3
  have hown0 := hown00.keep hb3
  clear hown00
  have hr3 := ho3.rd
  have h3b : ∀ q, A3.map (·.block) = some q → w6.heap.size + 1 ≤ q := fun q hq => by have := (ho3.blk q hq).1; simpa using this
  have hp3 := Lib.hid ho3.length
  have hl3 := liveL_len L (-1) N0
  rw [hp3.out] at hl3
  have s63 : w6.heap.size + 1 ≤ w3.heap.size := by have := hb3.sz; simpa using this
  clear ho3
  obtain ⟨hle9, hle10⟩ := hr3.le
  have hm3 := Lib.hid (liveL_mem L (-1) N0)
  have hsp := Lib.hid (spT_cpI N0 L)
  rw [hp3.out] at hsp
  have h2b : ∀ k, A2.map (·.block) = some k → k < w3.heap.size := fun k hk => by have := h2b0 k hk; omega
  obtain ⟨g1, hg1⟩ : ∃ g1, w6.heap.size = g1 := ⟨_, rfl⟩
  rw [hg1] at hown0 h3b sB s63 h2b0 ⊢
  clear hg1
  obtain ⟨lv, hlv⟩ : ∃ lv, liveL L (-1) N0 = lv := ⟨_, rfl⟩
  rw [hlv] at hr3 hp3 hm3 hsp
  clear hlv
  have a23 : ∀ a, A2 = some a → some a.block ≠ some g1 := fun a ha he => by (injection he with he; have := h2b0 a.block (by rw [ha]; rfl); omega)
  have a33 : ∀ a, A3 = some a → some a.block ≠ some g1 := fun a ha he => by (injection he with he; have := h3b a.block (by rw [ha]; rfl); omega)
  have hown1 : OwnI (w.heap.size + 1) w3 (some ⟨g1, 0, none⟩) N0 N0 (spT N0 lv 0) := hown0
  have hszg := Nat.le_refl w3.heap.size
  clear hown0 hmk
  clear hB_l hB_0 hB_1 hB_2 hB_3
  have kB := hB.lt
  have kB2 := hB.cell 2 _ rfl
  go_wp2
  go_loopw [22] (fun i wr => ∃ z : Nat, z ≤ p3 ∧ i = .int .i64 z ∧ OwnI (w.heap.size + 1) wr (some ⟨g1, 0, none⟩) N0 N0 (spT N0 lv z) ∧ RdI wr A3 p3 c3 lv ∧ RdI wr A2 WN c2 L ∧ w3.heap.size ≤ wr.heap.size ∧ Blk wr w.heap.size 26 #[.int .i64 a, .int .i64 b, .slice Ag n cg, .slice Ao m co] ∧ Bl w wr) (fun i _ => p3 - (intOf i).toNat)
  case atStart => exact ⟨0, by omega, rfl, hown1, hr3, hr2, hszg, hB, hW⟩
  case round =>
    clear hW hown1 hr3 hr2 hB kB kB2 hszg
    obtain ⟨z, hz, rfl, hown, hr3, hr2, hsz, hB, hW⟩ := hrel
    have kB := hB.lt
    have kB0 := hB.cell 0 _ rfl
    have kB1 := hB.cell 1 _ rfl
    have kB2 := hB.cell 2 _ rfl
    have kB3 := hB.cell 3 _ rfl
    by_cases hlt : z < p3
    · obtain ⟨ad2, x, rfl, hadb2, hx, hcx⟩ := hr3.at_ hlt
      have hxb := hm3.out x (List.mem_of_getElem? hx)
      have HX := Lib.hid hx
      clear hx
      obtain ⟨X, rfl⟩ : ∃ X : Nat, x = X := ⟨x.toNat, by omega⟩
      have iz : (z : Int) < p3 := by omega
      have hXN : X < N0 := by omega
      have iX : (X : Int) < N0 := by omega
      have hst := Lib.hid (show spT N0 lv (z + 1) = (spT N0 lv z).set X (z : Int) by rw [spT, HX.out, Option.getD_some, Int.toNat_natCast])
      obtain ⟨q0, e0, _, _, hcl, hfr⟩ := hown.form (by omega)
      injection e0 with e0; injection e0 with e0; subst e0
      have hfz := hfr X
      have hx2 := hcl X _ (List.getElem?_eq_getElem (by rw [spT_len]; exact hXN))
      clear hcl hfr
      go_wp2
      go_roundw
      case rel => exact ⟨z + 1, by omega, by go_num, by rw [hst.out]; exact hown.set_ X _ hXN, RdI.grown hr3 (grownBy_setCell _ _ _ _) a33, RdI.grown hr2 (grownBy_setCell _ _ _ _) a23, Nat.le_trans hsz (grownBy_setCell _ _ _ _).size, hB.far (by dsimp only; omega) _, hW.setCell (by dsimp only; omega) _⟩
      case measure => simp [intOf]; omega
    · have hE : spT N0 lv z = cpG N0 L 0 := by rw [show z = p3 by omega]; exact hsp.out
      rw [hE] at hown
      have hap : ∀ a, A2 = some a → some a.block ≠ (some (⟨g1, 0, none⟩ : Addr)).map (·.block) := a23
      clear hE hr3 a23 a33 h3b
      go_wp2
      go_loopw [4, 35] (fun s i wr => ∃ j p A c, j ≤ n ∧ p = N0 + j ∧ i = .int .i64 (j : Nat) ∧ s = .slice A p c ∧ OwnI (w.heap.size + 1) wr A p c (cpG N0 L j) ∧ RdI wr A2 WN c2 L ∧ (∀ a, A2 = some a → some a.block ≠ A.map (·.block)) ∧ w3.heap.size ≤ wr.heap.size ∧ Blk wr w.heap.size 26 #[.int .i64 a, .int .i64 b, .slice Ag n cg, .slice Ao m co] ∧ Bl w wr) (fun s i _ => n - (intOf i).toNat)
      case atStart => exact ⟨0, N0, _, _, by omega, by omega, rfl, rfl, hown, hr2, hap, hsz, hB, hW⟩
      case round =>
        clear hW hr2 hB hap hown kB kB0 kB1 kB2 kB3 hsz
        obtain ⟨j, p, A, c, hj, hp, rfl, rfl, hown, hr2, hap, hsz, hB, hW⟩ := hrel
        have hne0 : A.map (·.block) ≠ some w.heap.size := by intro he; have := (hown.blk _ he).1; omega
        have hB_l := hB.lt; have hB_0 := hB.cell 0 _ rfl; have hB_1 := hB.cell 1 _ rfl; have hB_2 := hB.cell 2 _ rfl; have hB_3 := hB.cell 3 _ rfl
        have HP := Lib.hid hp
        have hpW : p ≤ WN := by omega
        have hpI : (p : Int) ≤ N0 + j := by omega
        have hpJ : (N0 : Int) + j ≤ p := by omega
        by_cases hlt2 : j < n
        · have ij : (j : Int) < n := by omega
          have hwk : IntKind.i64.wrap (a + b + (j : Int)) = (p : Int) := by rw [IntWalk.i64_in _ (by omega)]; omega
          have hst := Lib.hid (show cpG N0 L (j + 1) = cpG N0 L j ++ [((mex (pickL (cpG N0 L j) (liveL L (j : Int) (N0 + j))) : Nat) : Int)] from rfl)
          have hfil := Lib.hid (liveL_filter L (j : Int) (N0 + j))
          have hsl := Lib.hid (show (pickL (cpG N0 L j) (liveL L (j : Int) (N0 + j))).length ≤ WN by rw [pickL_len]; have := liveL_len L (j : Int) (N0 + j); omega)
          have hmexW : mex (pickL (cpG N0 L j) (liveL L (j : Int) (N0 + j))) ≤ WN := by have := mex_lt (pickL (cpG N0 L j) (liveL L (j : Int) (N0 + j))); have := hsl.out; omega
          clear hp
          generalize cpG N0 L j = P at *
          go_wp2_with (go_at_call 55; refine (spec_ciInputs _ _ _ _ _ _ _ _ _ (by omega) (by omega) (by omega) (by omega)).mono ?_; rintro e w7 ⟨rfl, hb7⟩; replace hW := hW.call hb7; replace hB := hB.keep hb7; replace hr2 := hr2.keep hb7; replace hown := hown.keep hb7; replace hsz := Nat.le_trans hsz hb7.sz; clear hB_l hB_0 hB_1 hB_2 hB_3; have hB_l := hB.lt; have hB_0 := hB.cell 0 _ rfl; have hB_1 := hB.cell 1 _ rfl; have hB_2 := hB.cell 2 _ rfl; have hB_3 := hB.cell 3 _ rfl)
          refine (spec_svLive a b Ag Ao n cg m co (j : Int) (N0 + j + 1) WN A2 c2 L _ hr2 (by omega) (by omega) (by omega) (by omega) (by omega) (by omega) (by omega) (by omega) (by omega)).mono ?_
          rintro e w8 ⟨A8, p8, c8, rfl, ho8, hb8⟩
          replace hW := hW.call hb8
          replace hB := hB.keep hb8
          replace hr2 := hr2.keep hb8
          replace hown := hown.keep hb8
          replace hsz := Nat.le_trans hsz hb8.sz
          have hr8 := ho8.rd
          have hp8 := Lib.hid ho8.length
          have hl8 := liveL_len L (j : Int) (N0 + j + 1)
          rw [hp8.out] at hl8
          have hm8 := Lib.hid (liveL_mem L (j : Int) (N0 + j + 1))
          clear ho8
          obtain ⟨hle11, hle12⟩ := hr8.le
          generalize liveL L (j : Int) (N0 + j + 1) = l8 at *
          clear hB_l hB_0 hB_1 hB_2 hB_3
          go_wp2
          go_loopw [9, 47] (fun t i wq => ∃ (z : Nat) (At : Option Addr) (nt ct : Nat) (S : List Int), z ≤ p8 ∧ i = .int .i64 z ∧ t = .slice At nt ct ∧ (At = none → nt = 0 ∧ ct = 0) ∧ nt ≤ z ∧ RdI wq At nt ct S ∧ Hid (∀ y, y ∈ S ↔ y ∈ pickL P (selL (l8.take z) (N0 + j))) ∧ OwnI (w.heap.size + 1) wq A p c P ∧ RdI wq A8 p8 c8 l8 ∧ RdI wq A2 WN c2 L ∧ w3.heap.size ≤ wq.heap.size ∧ Blk wq w.heap.size 26 #[.int .i64 a, .int .i64 b, .slice Ag n cg, .slice Ao m co] ∧ Bl w wq) (fun t i _ => p8 - (intOf i).toNat)
          case atStart => exact ⟨0, none, 0, 0, [], by omega, rfl, rfl, fun _ => ⟨rfl, rfl⟩, by omega, RdI.nil _, Lib.hid (fun y => Iff.rfl), hown, hr8, hr2, hsz, hB, hW⟩
          case round =>
            clear hown hr8 hr2 hB hW hsz
            obtain ⟨z, At, nt, ct, S, hz, rfl, rfl, hAt, hnt, hrS, hS, hown, hr8, hr2, hsz, hB, hW⟩ := hrel
            have kB := hB.lt
            have kB2 := hB.cell 2 _ rfl
            by_cases hlt3 : z < p8
            · obtain ⟨ad8, x, rfl, hadb8, hx, hcx⟩ := hr8.at_ hlt3
              have hxb := hm8.out x (List.mem_of_getElem? hx)
              have HX := Lib.hid hx
              clear hx
              obtain ⟨X, rfl⟩ : ∃ X : Nat, x = X := ⟨x.toNat, by omega⟩
              have iz : (z : Int) < p8 := by omega
              by_cases hX : X < p
              · obtain ⟨ad, v, rfl, hadb, hv, hcv⟩ := hown.rd.at_ hX
                have HV := Lib.hid hv
                clear hv
                have iX : (X : Int) < p := by omega
                have hne3 : ((X : Int) != (p : Int)) = true := by simp; omega
                have hst2 := Lib.hid (show pickL P (selL (l8.take (z + 1)) (N0 + j)) = pickL P (selL (l8.take z) (N0 + j)) ++ [v] by
                  rw [selL_y HX.out (by have := HP.out; omega), pickL_snoc, Int.toNat_natCast, HV.out, Option.getD_some])
                have hPut : Calls Try.prog 127 #[.slice At nt ct, .int .i64 v] wr fun e w' => ∃ A' n' c' l', e = .returned (.slice (some A') n' c') ∧ RdI w' (some A') n' c' l' ∧ (∀ y, y ∈ l' ↔ y ∈ S ∨ y = v) ∧ n' ≤ nt + 1 ∧ Bl wr w' := by
                  cases At with
                  | none =>
                    obtain ⟨rfl, rfl⟩ := hAt rfl
                    have hS0 : S = [] := List.eq_nil_of_length_eq_zero hrS.length
                    subst hS0
                    refine (spec_l1Put0 v wr).mono ?_
                    rintro e w9 ⟨A', c', he, hr, hb⟩
                    exact ⟨A', 1, c', [v], he, hr, fun y => by simp, by omega, hb⟩
                  | some q => exact spec_l1Put q nt ct S v wr hrS (by omega)
                have HPut := Lib.hid hPut
                clear hPut
                go_wp2_with (go_at_call 127; refine HPut.out.mono ?_; rintro e w9 ⟨A', n', c', l', rfl, hr', hl', hn', hb9⟩)
                go_roundw
                case rel => exact ⟨z + 1, some A', n', c', l', by omega, by go_num, rfl, (fun h => by cases h), by omega, hr', Lib.hid (fun y => by rw [hl', hS.out, hst2.out]; simp), hown.keep hb9, hr8.keep hb9, hr2.keep hb9, Nat.le_trans hsz hb9.sz, hB.keep hb9, hW.call hb9⟩
                case measure => simp [intOf]; omega
              · have hXp : X = p := by have := HP.out; omega
                subst hXp
                have hst2 := Lib.hid (show selL (l8.take (z + 1)) (N0 + j) = selL (l8.take z) (N0 + j) from selL_n HX.out (by have := HP.out; omega))
                go_wp2
                go_roundw
                case rel => exact ⟨z + 1, At, nt, ct, S, by omega, by go_num, rfl, hAt, by omega, hrS, by rw [hst2.out]; exact hS, hown, hr8, hr2, hsz, hB, hW⟩
                case measure => simp [intOf]; omega
            · have hS2 := Lib.hid (show ∀ y, y ∈ S ↔ y ∈ pickL P (liveL L (j : Int) (N0 + j)) by
                have := hS.out
                rwa [List.take_of_length_le (by rw [hp8.out]; omega), show selL l8 (N0 + j) = liveL L (j : Int) (N0 + j) from hfil.out] at this)
              have hmx := Lib.hid (mex_congr hS2.out)
              go_wp2
              go_loop [12] (fun x => ∃ cc : Nat, cc ≤ mex S ∧ x = .int .i64 cc) (fun x => mex S - (intOf x).toNat)
              case atStart => exact ⟨0, by omega, rfl⟩
              case round =>
                obtain ⟨cc, hcc, rfl⟩ := hrel
                have HH := Lib.hid (spec_l1Has At nt ct S (cc : Int) wr hrS)
                have hmW : mex S ≤ WN := by rw [hmx.out]; exact hmexW
                by_cases hlt4 : cc < mex S
                · have hm := Lib.hid (show memB S (cc : Int) = true from decide_eq_true (mex_in S cc hlt4))
                  rw [hm.out] at HH
                  go_wp2_with (go_at_call 124; refine HH.out.mono ?_; rintro e w' ⟨rfl, rfl⟩)
                  go_round
                  case rel => exact ⟨cc + 1, by omega, by go_num⟩
                  case measure => simp [intOf]; omega
                · have hce : cc = mex S := by omega
                  have hm := Lib.hid (show memB S (cc : Int) = false from decide_eq_false (by rw [hce]; exact mex_out S))
                  rw [hm.out] at HH
                  have hcv := Lib.hid (show mex (pickL P (liveL L (j : Int) (N0 + j))) = cc by rw [hce, hmx.out])
                  clear hce hm
                  go_wp2_with (first | (go_at_call 124; refine HH.out.mono ?_; rintro e w' ⟨rfl, rfl⟩) | (at_builtin; refine ap_int rfl rfl rfl (hown.alloc _) rfl (rd_new1 _ _ _) (by omega) (by have := hW.sz; have := hB.lt; simp; omega) ?_; intro A3 c3 w4 hown3 hg3 hat3))
                  go_roundw
                  case rel => exact ⟨j + 1, p + 1, A3, c3, by omega, by have := HP.out; omega, by go_num, rfl, by rw [hst.out, hcv.out]; exact hown3, (hr2.keep ((Bl.refl wr).alloc _)).grown hg3 hap, apart_grow hat3 (fun q hq => by have := h2b q hq; simp; omega) hap, Nat.le_trans hsz (Nat.le_trans (Bl.sz (Bl.alloc (Bl.refl wr) _)) hg3.size), Blk.grown (hB.alloc _) hg3 (by intro he; exact hne0 he.symm), Bl.grown (hW.alloc _) hg3 (fun q hq => Nat.le_of_succ_le (hown.blk q hq).1)⟩
                  case measure => simp [intOf]; omega
        · have hjn := Lib.hid (show cpG N0 L n = cpG N0 L j by rw [show j = n by omega])
          clear hp
          go_wp2
          go_ret
          exact ⟨A, p, c, rfl, by rw [hR.out, hjn.out]; exact OwnI.mono hown (by omega), hW⟩
set_option maxHeartbeats 2000000 in
theorem spec_CellPlan (a b : Int) (Ag Ao : Option Addr) (n cg m co : Nat) (gl : List Gt) (ol : List Int) (w : World) (hg : RdG w Ag n cg gl) (ho : RdI w Ao m co ol) :
    Calls Try.prog 41 #[.agg #[.int .i64 a, .int .i64 b, .slice Ag n cg, .slice Ao m co]] w fun e w' => ∃ A' n' c', e = .returned (.tuple #[.slice A' n' c', .bool (goodC a b gl ol)]) ∧ OwnI w.heap.size w' A' n' c' (cpR a b gl ol) ∧ Bl w w' := by
  have hW0 := (Bl.refl w).alloc (.cells #[.int .i64 a, .int .i64 b, .slice Ag n cg, .slice Ao m co] 26)
  have hG := Lib.hid (spec_ciGood a b Ag Ao n cg m co gl ol (w.alloc (.cells #[.int .i64 a, .int .i64 b, .slice Ag n cg, .slice Ao m co] 26)) (hg.keep hW0) (ho.keep hW0))
  rcases hgd : goodC a b gl ol
  · rw [hgd] at hG
    have hR := Lib.hid (show cpR a b gl ol = [] by simp [cpR, hgd])
    go_enter Try.func41, Try.ntmps41
    go_wp2_with (go_at_call 53; refine hG.out.mono ?_; rintro e w1 ⟨rfl, hb1⟩)
    go_ret2
    exact ⟨none, 0, 0, rfl, by rw [hR.out]; exact OwnI.nil _ _, (by (repeat (first | assumption | with_reducible exact Bl.refl _ | with_reducible refine Bl.drewN ?_ _ | with_reducible refine Bl.drew ?_ | with_reducible refine Bl.alloc ?_ _ | (with_reducible refine Bl.call ?_ (by assumption)))))⟩
  · rw [hgd] at hG
    have hR := Lib.hid (show cpR a b gl ol = cpL a b gl ol by rw [cpR, hgd]; rfl)
    have HGD := Lib.hid hgd
    have hB := Blk.new w 26 #[.int .i64 a, .int .i64 b, .slice Ag n cg, .slice Ao m co]
    clear hgd
    go_enter Try.func41, Try.ntmps41
    go_wp2_with (first | (go_at_call 53; refine hG.out.mono ?_; rintro e w1 ⟨rfl, hb1⟩; replace hB := hB.keep hb1; replace hW0 := hW0.call hb1; have hB_l := hB.lt; have hB_0 := hB.cell 0 _ rfl; have hB_1 := hB.cell 1 _ rfl; have hB_2 := hB.cell 2 _ rfl; have hB_3 := hB.cell 3 _ rfl) | (go_at_call 97; refine (spec_svPlan a b Ag Ao n cg m co gl ol _ (hg.keep hW0) (ho.keep hW0) HGD.out).mono ?_; rintro e w2 ⟨A2, q2, c2, rfl, ho2, hb2⟩))
    go_ret2
    exact ⟨_, _, _, rfl, by rw [hR.out]; exact OwnI.mono ho2 hW0.sz, hW0.call hb2⟩
def cnR (a b : Int) (gl : List Gt) (ol : List Int) : Int := if goodC a b gl ol then (cpL a b gl ol).foldl (fun m c => max m (c + 1)) 0 else 0
theorem cn_snoc (l : List Int) (x : Int) : (l ++ [x]).foldl (fun m c => max m (c + 1)) 0 = max (l.foldl (fun m c => max m (c + 1)) 0) (x + 1) := by simp [List.foldl_append]
theorem cn_max (l : List Int) : ∀ m : Int, l.foldl (fun m c => max m (c + 1)) (m + 1) = mxL m l + 1 := by
  induction l with
  | nil => intro m; rfl
  | cons x l ih =>
    intro m
    show l.foldl (fun m c => max m (c + 1)) (max (m + 1) (x + 1)) = mxL (max m x) l + 1
    rw [show max (m + 1) (x + 1) = max m x + 1 by omega, ih]
theorem cpL_bd (a b : Int) (gl : List Gt) (ol : List Int) : ∀ x ∈ cpL a b gl ol, 0 ≤ x ∧ x ≤ (((a + b).toNat + gl.length : Nat) : Int) := fun x hx => by
  have := cpG_bd (a + b).toNat (luL ((a + b).toNat + gl.length) gl ol) gl.length x hx
  omega
set_option maxHeartbeats 2000000 in
theorem impl_CellsNeeded (a b : Int) (Ag Ao : Option Addr) (n cg m co : Nat) (gl : List Gt) (ol : List Int) (w : World) (hg : RdG w Ag n cg gl) (ho : RdI w Ao m co ol) :
    Calls Try.prog 43 #[.agg #[.int .i64 a, .int .i64 b, .slice Ag n cg, .slice Ao m co]] w fun e w' => e = .returned (.tuple #[.int .i64 (cnR a b gl ol), .bool (goodC a b gl ol)]) ∧ Bl w w' := by
  have hW := (Bl.refl w).alloc (.cells #[.int .i64 a, .int .i64 b, .slice Ag n cg, .slice Ao m co] 26)
  have HL := Lib.hid (impl_CellPlan a b Ag Ao n cg m co gl ol (w.alloc (.cells #[.int .i64 a, .int .i64 b, .slice Ag n cg, .slice Ao m co] 26)) (hg.keep hW) (ho.keep hW))
  rcases hgd : goodC a b gl ol
  · rw [hgd] at HL
    have hR := Lib.hid (show cnR a b gl ol = 0 by simp [cnR, hgd])
    go_enter Try.func43, Try.ntmps43
    go_wp2_with (go_at_call 40; refine HL.out.mono ?_; rintro e w1 ⟨A1, n1, c1, rfl, ho1, hb1⟩; obtain ⟨hle1, hle2⟩ := ho1.rd.le)
    go_ret2
    exact ⟨by rw [hR.out]; rfl, (by (repeat (first | assumption | with_reducible exact Bl.refl _ | with_reducible refine Bl.drewN ?_ _ | with_reducible refine Bl.drew ?_ | with_reducible refine Bl.alloc ?_ _ | (with_reducible refine Bl.call ?_ (by assumption)))))⟩
  · rw [hgd] at HL
    have hN := (goodC_facts hgd)
    have hN2 : (a + b).toNat + gl.length ≤ 1000 := by obtain ⟨h1, h2, h3, h4, h5, _⟩ := hN; omega
    clear hN
    have hcp : cpR a b gl ol = cpL a b gl ol := by rw [cpR, hgd]; rfl
    have hcn : cnR a b gl ol = (cpL a b gl ol).foldl (fun m c => max m (c + 1)) 0 := by rw [cnR, hgd]; rfl
    have hbd := cpL_bd a b gl ol
    rw [hcp] at HL
    clear hgd hcp
    rcases hL : cpL a b gl ol with _ | ⟨y, l⟩
    · rw [hL] at HL hcn
      have hR := Lib.hid (show cnR a b gl ol = 0 from hcn)
      clear hcn hL hbd
      go_enter Try.func43, Try.ntmps43
      go_wp2_with (go_at_call 40; refine HL.out.mono ?_; rintro e w1 ⟨A1, n1, c1, rfl, ho1, hb1⟩; obtain rfl : 0 = n1 := ho1.length)
      go_ret2
      exact ⟨by rw [hR.out]; rfl, (by (repeat (first | assumption | with_reducible exact Bl.refl _ | with_reducible refine Bl.drewN ?_ _ | with_reducible refine Bl.drew ?_ | with_reducible refine Bl.alloc ?_ _ | (with_reducible refine Bl.call ?_ (by assumption)))))⟩
    · rw [hL] at HL hcn hbd
      have hy := hbd y (by simp)
      have hmx : mxL y l ≤ 1000 ∧ -1 ≤ mxL y l := by
        have : ∀ (l : List Int) (m : Int), m ≤ 1000 → -1 ≤ m → (∀ x ∈ l, x ≤ 1000) → mxL m l ≤ 1000 ∧ -1 ≤ mxL m l := by
          intro l
          induction l with
          | nil => intro m h1 h2 _; exact ⟨h1, h2⟩
          | cons x l ih =>
            intro m h1 h2 h3
            have := h3 x (by simp)
            exact ih (max m x) (by omega) (by omega) (fun z hz => h3 z (List.mem_cons_of_mem _ hz))
        exact this l y (by omega) (by omega) (fun x hx => by have := hbd x (List.mem_cons_of_mem _ hx); omega)
      have hR := Lib.hid (show cnR a b gl ol = mxL y l + 1 by
        rw [hcn]
        show l.foldl (fun m c => max m (c + 1)) (max 0 (y + 1)) = _
        rw [show max 0 (y + 1) = y + 1 by omega, cn_max])
      clear hcn hL hbd hy
      generalize hM : mxL y l = M at *
      have HM := Lib.hid hM
      clear hM
      go_enter Try.func43, Try.ntmps43
      go_wp2_with (first | (go_at_call 40; refine HL.out.mono ?_; rintro e w1 ⟨A1, n1, c1, rfl, ho1, hb1⟩; have hn1 := ho1.length; obtain ⟨hle1, hle2⟩ := ho1.rd.le; have hz1 : ((n1 : Int) == 0) = false := (by simp only [List.length_cons] at hn1; simp; omega); clear hn1) | (go_at_call 58; refine (slices_Max _ _ _ y l _ ho1.rd).mono ?_; rintro e w' ⟨rfl, rfl⟩; rw [HM.out]))
      go_ret2
      exact ⟨by rw [hR.out]; rfl, (by (repeat (first | assumption | with_reducible exact Bl.refl _ | with_reducible refine Bl.drewN ?_ _ | with_reducible refine Bl.drew ?_ | with_reducible refine Bl.alloc ?_ _ | (with_reducible refine Bl.call ?_ (by assumption)))))⟩
set_option maxHeartbeats 2000000 in
theorem spec_CellsNeeded (a b : Int) (Ag Ao : Option Addr) (n cg m co : Nat) (gl : List Gt) (ol : List Int) (w : World) (hg : RdG w Ag n cg gl) (ho : RdI w Ao m co ol) :
    Calls Try.prog 44 #[.agg #[.int .i64 a, .int .i64 b, .slice Ag n cg, .slice Ao m co]] w fun e w' => e = .returned (.tuple #[.int .i64 (cnR a b gl ol), .bool (goodC a b gl ol)]) ∧ Bl w w' := by
  have hW := (Bl.refl w).alloc (.cells #[.int .i64 a, .int .i64 b, .slice Ag n cg, .slice Ao m co] 26)
  have hB := Blk.new w 26 #[.int .i64 a, .int .i64 b, .slice Ag n cg, .slice Ao m co]
  have hG := Lib.hid (spec_ciGood a b Ag Ao n cg m co gl ol (w.alloc (.cells #[.int .i64 a, .int .i64 b, .slice Ag n cg, .slice Ao m co] 26)) (hg.keep hW) (ho.keep hW))
  rcases hgd : goodC a b gl ol
  · rw [hgd] at hG
    have hR := Lib.hid (show cnR a b gl ol = 0 by simp [cnR, hgd])
    go_enter Try.func44, Try.ntmps44
    go_wp2_with (go_at_call 53; refine hG.out.mono ?_; rintro e w1 ⟨rfl, hb1⟩)
    go_ret2
    exact ⟨by rw [hR.out]; rfl, (by (repeat (first | assumption | with_reducible exact Bl.refl _ | with_reducible refine Bl.drewN ?_ _ | with_reducible refine Bl.drew ?_ | with_reducible refine Bl.alloc ?_ _ | (with_reducible refine Bl.call ?_ (by assumption)))))⟩
  · rw [hgd] at hG
    have HGD := Lib.hid hgd
    have hN2 : (a + b).toNat + gl.length ≤ 1000 := by obtain ⟨h1, h2, h3, h4, h5, _⟩ := goodC_facts hgd; omega
    have hR := Lib.hid (show cnR a b gl ol = (cpL a b gl ol).foldl (fun m c => max m (c + 1)) 0 by rw [cnR, hgd]; rfl)
    have hbd := cpL_bd a b gl ol
    clear hgd
    go_enter Try.func44, Try.ntmps44
    go_wp2_with (first | (go_at_call 53; refine hG.out.mono ?_; rintro e w1 ⟨rfl, hb1⟩; replace hB := hB.keep hb1; replace hW := hW.call hb1; have hB_l := hB.lt; have hB_0 := hB.cell 0 _ rfl; have hB_1 := hB.cell 1 _ rfl; have hB_2 := hB.cell 2 _ rfl; have hB_3 := hB.cell 3 _ rfl))
    refine (spec_svPlan a b Ag Ao n cg m co gl ol _ (hg.keep hW) (ho.keep hW) HGD.out).mono ?_
    rintro e w2 ⟨A2, N, c2, rfl, ho2, hb2⟩
    replace hW := hW.call hb2
    have HBD := Lib.hid (show ∀ x ∈ cpL a b gl ol, 0 ≤ x ∧ x ≤ 1000 from fun x hx => by have := hbd x hx; omega)
    clear hbd
    generalize cpL a b gl ol = L at *
    have hlA := Lib.hid ho2.length
    have hr2 := ho2.rd
    obtain ⟨hle3, hle4⟩ := hr2.le
    clear ho2
    go_wp2
    go_loop [4, 13] (fun q i => ∃ j : Nat, j ≤ N ∧ i = .int .i64 (j : Nat) ∧ q = .int .i64 ((L.take j).foldl (fun m c => max m (c + 1)) 0)) (fun _ i => N - (intOf i).toNat)
    case atStart => exact ⟨0, by omega, rfl, rfl⟩
    case round =>
      obtain ⟨j, hj, rfl, rfl⟩ := hrel
      by_cases hlt : j < N
      · obtain ⟨ad2, y, rfl, hadb2, hy, hcy⟩ := hr2.at_ hlt
        have hyb := HBD.out y (List.mem_of_getElem? hy)
        have hst := Lib.hid (show (L.take (j + 1)).foldl (fun m c => max m (c + 1)) 0 = max ((L.take j).foldl (fun m c => max m (c + 1)) 0) (y + 1) by rw [take_snoc hy, cn_snoc])
        have ij : (j : Int) < N := by omega
        clear hy
        go_wp2_with (go_at_call 59; refine (spec_l1Most _ _ _).mono ?_; rintro e w' ⟨rfl, rfl⟩)
        go_round
        case rel => exact ⟨j + 1, by omega, by go_num, by rw [hst.out]⟩
        case measure => simp [intOf]; omega
      · have he : j = N := by omega
        have hE := Lib.hid (show L.take j = L from List.take_of_length_le (by rw [hlA.out]; omega))
        subst he
        rw [hE.out]
        go_wp2
        go_ret2
        exact ⟨by rw [hR.out]; rfl, hW⟩
end Go.Proofs.Ytlmlffiajgofeaa
