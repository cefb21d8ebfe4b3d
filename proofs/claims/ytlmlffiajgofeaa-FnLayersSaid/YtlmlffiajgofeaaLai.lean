/- Contracts of LateInputs, and the walk of its law.
   Conditions: none. -/
import Derived.Test.YtlmlffiajgofeaaRof
namespace Go.Proofs.Ytlmlffiajgofeaa
open Go.RowKit
set_option linter.unusedVariables false
def memB (l : List Int) (x : Int) : Bool := decide (x ∈ l)
theorem slices_Index (A : Option Addr) (n c : Nat) (l : List Int) (x : Int) (w : World) (h : RdI w A n c l) :
    Calls Try.prog 113 #[.slice A n c, .int .i64 x] w fun e w' => ∃ i : Int, e = .returned (.int .i64 i) ∧ decide (0 ≤ i) = memB l x ∧ w = w' := by
  obtain ⟨hle1, hle2⟩ := h.le
  have hlen := Lib.hid h.length
  go_enter Try.func113, Try.ntmps113
  go_wp2
  go_loop [8] (fun i => ∃ k : Nat, k ≤ n ∧ i = .int .i64 k ∧ Hid (∀ j, j < k → l[j]? ≠ some x)) (fun i => n - (intOf i).toNat)
  case atStart => exact ⟨0, by omega, rfl, Lib.hid (fun j hj => by omega)⟩
  case round =>
    obtain ⟨k, hk, rfl, hq⟩ := hrel
    by_cases hlt : k < n
    · obtain ⟨ad, y, rfl, hadb, hy, hcell⟩ := h.at_ hlt
      have HY := Lib.hid hy
      clear hy
      have ik : (k : Int) < n := by omega
      rcases hxy : (x == y)
      · have hst := Lib.hid (show ∀ j, j < k + 1 → l[j]? ≠ some x from fun j hj he => by
          rcases Nat.lt_or_ge j k with h1 | h1
          · exact hq.out j h1 he
          · have : j = k := by omega
            subst this
            rw [HY.out] at he
            injection he with he
            simp [he] at hxy)
        go_wp2
        go_round
        case rel => exact ⟨k + 1, by omega, by go_num, hst⟩
        case measure => simp [intOf]; omega
      · have hm := Lib.hid (show memB l x = true by
          have : x = y := by simpa using hxy
          subst this
          exact decide_eq_true (List.mem_of_getElem? HY.out))
        go_wp2
        go_ret
        exact ⟨k, rfl, by rw [hm.out]; simp, rfl⟩
    · have he : k = n := by omega
      have hm := Lib.hid (show memB l x = false by
        refine decide_eq_false (fun hx => ?_)
        obtain ⟨j, hj, he⟩ := List.mem_iff_getElem.1 hx
        exact hq.out j (by rw [hlen.out] at hj; omega) (by rw [List.getElem?_eq_getElem hj, he]))
      go_wp2
      go_ret
      exact ⟨-1, rfl, by rw [hm.out]; rfl, rfl⟩
theorem slices_Contains (A : Option Addr) (n c : Nat) (l : List Int) (x : Int) (w : World) (h : RdI w A n c l) :
    Calls Try.prog 71 #[.slice A n c, .int .i64 x] w fun e w' => e = .returned (.bool (memB l x)) ∧ w = w' := by
  have HI := Lib.hid (slices_Index A n c l x w h)
  go_enter Try.func71, Try.ntmps71
  go_wp2_with (go_at_call 113; refine HI.out.mono ?_; rintro e w' ⟨i, rfl, h3, rfl⟩; have H3 := Lib.hid h3; clear h3)
  all_goals go_ret
  all_goals exact ⟨ret_bool H3.out, rfl⟩
theorem enters_LateInputs_1 : Enters 70 := fun _ _ => by kernel_rfl
theorem impl_parts_o (K x y : Int) (w : World) (hK : K = 0 ∨ K = 1 ∨ K = 2 ∨ K = 3) :
    Calls Try.prog 72 #[.agg #[.int .i64 K, .int .i64 x, .int .i64 y]] w fun e w' => ∃ A n c, e = .returned (.slice A n c) ∧ RdI w' A n c (partsL ⟨K, x, y⟩) ∧ n ≤ 2 ∧ (∀ q, A = some q → w.heap.size ≤ q.block) ∧ Bl w w' := by
  rcases hK with rfl | rfl | rfl | rfl
  · go_enter Try.func72, Try.ntmps72
    go_wp2
    go_ret
    exact ⟨_, _, _, rfl, rd_new2 _ _ _ _, by omega, by rintro q ⟨⟩; simp, (by (repeat (first | assumption | with_reducible exact Bl.refl _ | with_reducible refine Bl.drewN ?_ _ | with_reducible refine Bl.drew ?_ | with_reducible refine Bl.alloc ?_ _ | (with_reducible refine Bl.call ?_ (by assumption)))))⟩
  · go_enter Try.func72, Try.ntmps72
    go_wp2
    go_ret
    exact ⟨_, _, _, rfl, rd_new2 _ _ _ _, by omega, by rintro q ⟨⟩; simp, (by (repeat (first | assumption | with_reducible exact Bl.refl _ | with_reducible refine Bl.drewN ?_ _ | with_reducible refine Bl.drew ?_ | with_reducible refine Bl.alloc ?_ _ | (with_reducible refine Bl.call ?_ (by assumption)))))⟩
  · go_enter Try.func72, Try.ntmps72
    go_wp2
    go_ret
    exact ⟨_, _, _, rfl, rd_new1 _ _ _, by omega, by rintro q ⟨⟩; simp, (by (repeat (first | assumption | with_reducible exact Bl.refl _ | with_reducible refine Bl.drewN ?_ _ | with_reducible refine Bl.drew ?_ | with_reducible refine Bl.alloc ?_ _ | (with_reducible refine Bl.call ?_ (by assumption)))))⟩
  · go_enter Try.func72, Try.ntmps72
    go_wp2
    go_ret
    exact ⟨none, 0, 0, rfl, RdI.nil _, by omega, by rintro q ⟨⟩, (by (repeat (first | assumption | with_reducible exact Bl.refl _ | with_reducible refine Bl.drewN ?_ _ | with_reducible refine Bl.drew ?_ | with_reducible refine Bl.alloc ?_ _ | (with_reducible refine Bl.call ?_ (by assumption)))))⟩
theorem spec_ciParts_o (K x y : Int) (w : World) (hK : K = 0 ∨ K = 1 ∨ K = 2 ∨ K = 3) :
    Calls Try.prog 73 #[.agg #[.int .i64 K, .int .i64 x, .int .i64 y]] w fun e w' => ∃ A n c, e = .returned (.slice A n c) ∧ RdI w' A n c (partsL ⟨K, x, y⟩) ∧ n ≤ 2 ∧ (∀ q, A = some q → w.heap.size ≤ q.block) ∧ Bl w w' := by
  rcases hK with rfl | rfl | rfl | rfl
  · go_enter Try.func73, Try.ntmps73
    go_wp2
    go_ret
    exact ⟨_, _, _, rfl, rd_new2 _ _ _ _, by omega, by rintro q ⟨⟩; simp, (by (repeat (first | assumption | with_reducible exact Bl.refl _ | with_reducible refine Bl.drewN ?_ _ | with_reducible refine Bl.drew ?_ | with_reducible refine Bl.alloc ?_ _ | (with_reducible refine Bl.call ?_ (by assumption)))))⟩
  · go_enter Try.func73, Try.ntmps73
    go_wp2
    go_ret
    exact ⟨_, _, _, rfl, rd_new2 _ _ _ _, by omega, by rintro q ⟨⟩; simp, (by (repeat (first | assumption | with_reducible exact Bl.refl _ | with_reducible refine Bl.drewN ?_ _ | with_reducible refine Bl.drew ?_ | with_reducible refine Bl.alloc ?_ _ | (with_reducible refine Bl.call ?_ (by assumption)))))⟩
  · go_enter Try.func73, Try.ntmps73
    go_wp2
    go_ret
    exact ⟨_, _, _, rfl, rd_new1 _ _ _, by omega, by rintro q ⟨⟩; simp, (by (repeat (first | assumption | with_reducible exact Bl.refl _ | with_reducible refine Bl.drewN ?_ _ | with_reducible refine Bl.drew ?_ | with_reducible refine Bl.alloc ?_ _ | (with_reducible refine Bl.call ?_ (by assumption)))))⟩
  · go_enter Try.func73, Try.ntmps73
    go_wp2
    go_ret
    exact ⟨none, 0, 0, rfl, RdI.nil _, by omega, by rintro q ⟨⟩, (by (repeat (first | assumption | with_reducible exact Bl.refl _ | with_reducible refine Bl.drewN ?_ _ | with_reducible refine Bl.drew ?_ | with_reducible refine Bl.alloc ?_ _ | (with_reducible refine Bl.call ?_ (by assumption)))))⟩
theorem LateInputs_1 (K x y v : Int) (gp : Nat) (w : World) (hK : K = 0 ∨ K = 1 ∨ K = 2 ∨ K = 3) (hP : Blk w gp 3 #[.int .i64 v]) :
    Calls Try.prog 70 #[.agg #[.int .i64 K, .int .i64 x, .int .i64 y], .pointer (some ⟨gp, 0, none⟩)] w fun e w' => e = .returned (.bool (memB (partsL ⟨K, x, y⟩) v)) ∧ Bl w w' := by
  have hW := (Bl.refl w).alloc (.cells #[.int .i64 K, .int .i64 x, .int .i64 y] 57)
  have hB := Blk.new w 57 #[.int .i64 K, .int .i64 x, .int .i64 y]
  replace hP := hP.alloc (.cells #[.int .i64 K, .int .i64 x, .int .i64 y] 57)
  have hB_l := hB.lt; have hB_0 := hB.cell 0 _ rfl; have hB_1 := hB.cell 1 _ rfl; have hB_2 := hB.cell 2 _ rfl; have hP_l := hP.lt; have hP_0 := hP.cell 0 _ rfl
  go_enter Try.func70, Try.ntmps70
  go_wp2_with fail
  go_region_held3 (fun w' => w'.cell? ⟨w.heap.size, 0, none⟩ = some (.int .i64 K) ∧ w'.cell? ⟨w.heap.size, 1, none⟩ = some (.int .i64 x) ∧ w'.cell? ⟨w.heap.size, 2, none⟩ = some (.int .i64 y) ∧ w'.cell? ⟨gp, 0, none⟩ = some (.int .i64 v)) (first | exact ⟨hB_0, hB_1, hB_2, hP_0⟩ | go_keep) (first | (go_at_call 72; refine (impl_parts _ _ _ _ hK).mono ?_; rintro e w1 ⟨A2, n2, c2, rfl, hr2, hn2, hb2⟩; replace hW := (by first | exact hW.call hb2 | exact hW.drew.call hb2 | exact (hW.alloc _).call hb2 | exact (hW.alloc _).drew.call hb2 | exact (hW.drewN _).call hb2 | exact (hW.drew.alloc _).call hb2 | exact ((hW.alloc _).alloc _).call hb2 | exact ((hW.alloc _).alloc _).drew.call hb2 | exact (((hW.alloc _).alloc _).alloc _).call hb2); replace hB := (by first | exact hB.keep hb2 | exact hB.drew.keep hb2 | exact (hB.alloc _).keep hb2 | exact (hB.alloc _).drew.keep hb2 | exact (hB.drewN _).keep hb2 | exact (hB.drew.alloc _).keep hb2 | exact ((hB.alloc _).alloc _).keep hb2 | exact ((hB.alloc _).alloc _).drew.keep hb2 | exact (((hB.alloc _).alloc _).alloc _).keep hb2); replace hP := (by first | exact hP.keep hb2 | exact hP.drew.keep hb2 | exact (hP.alloc _).keep hb2 | exact (hP.alloc _).drew.keep hb2 | exact (hP.drewN _).keep hb2 | exact (hP.drew.alloc _).keep hb2 | exact ((hP.alloc _).alloc _).keep hb2 | exact ((hP.alloc _).alloc _).drew.keep hb2 | exact (((hP.alloc _).alloc _).alloc _).keep hb2); clear hB_l hB_0 hB_1 hB_2 hP_l hP_0; have hB_l := hB.lt; have hB_0 := hB.cell 0 _ rfl; have hB_1 := hB.cell 1 _ rfl; have hB_2 := hB.cell 2 _ rfl; have hP_l := hP.lt; have hP_0 := hP.cell 0 _ rfl) | (go_at_call 71; refine (slices_Contains _ _ _ _ _ _ (by first | exact hr2 | exact hr2.drew)).mono ?_; rintro e w3 ⟨rfl, rfl⟩))
  go_wp2
  go_ret
  exact ⟨rfl, hW⟩
/-- A function value answers f of these gates, and only makes new blocks. -/
def AnswersG (W : World) (Kf : Nat) (caps : Array Value) (gl : List Gt) (f : Gt → Bool) : Prop :=
  ∀ (K x y : Int) (W' : World), (⟨K, x, y⟩ : Gt) ∈ gl → Bl W W' → Calls Try.prog Kf (#[.agg #[.int .i64 K, .int .i64 x, .int .i64 y]] ++ caps) W' fun e w' => e = .returned (.bool (f ⟨K, x, y⟩)) ∧ Bl W' w'
def idxG (gl : List Gt) (f : Gt → Bool) : Int := if gl.findIdx f < gl.length then ((gl.findIdx f : Nat) : Int) else -1
theorem findIdx_at {gl : List Gt} {f : Gt → Bool} {k : Nat} {g : Gt} (hk : gl[k]? = some g) (hf : f g = true) (hq : ∀ j x, j < k → gl[j]? = some x → f x = false) : gl.findIdx f = k := by
  obtain ⟨hl, rfl⟩ := List.getElem?_eq_some_iff.1 hk
  exact (List.findIdx_eq hl).2 ⟨hf, fun j hj => hq j _ hj (List.getElem?_eq_getElem (by omega))⟩
theorem findIdx_none {gl : List Gt} {f : Gt → Bool} (hq : ∀ (j : Nat) (x : Gt), gl[j]? = some x → f x = false) : gl.findIdx f = gl.length :=
  List.findIdx_eq_length.2 (fun x hx => by obtain ⟨j, hj, rfl⟩ := List.mem_iff_getElem.1 hx; exact hq j _ (List.getElem?_eq_getElem hj))
set_option maxHeartbeats 1000000 in
theorem slices_IndexFunc_G (A : Option Addr) (n c : Nat) (gl : List Gt) (Kf : Nat) (caps : Array Value) (f : Gt → Bool) (w : World) (hK : Enters Kf) (h : AnswersG w Kf caps gl f) (hg : RdG w A n c gl) :
    Calls Try.prog 69 #[.slice A n c, .func (.func Kf) #[] caps] w fun e w' => e = .returned (.int .i64 (idxG gl f)) ∧ Bl w w' := by
  obtain ⟨hle1, hle2⟩ := hg.le
  have hlen := Lib.hid hg.2
  have HA := Lib.hid h
  have h0 := Bl.refl w
  unfold Enters at hK
  clear h
  go_enter Try.func69, Try.ntmps69
  go_wp2
  go_loopw [8] (fun i wr => ∃ k : Nat, k ≤ n ∧ i = .int .i64 k ∧ Hid (∀ j x, j < k → gl[j]? = some x → f x = false) ∧ Bl w wr) (fun i _ => n - (intOf i).toNat)
  case atStart => exact ⟨0, by omega, rfl, Lib.hid (fun j x hj => by omega), h0⟩
  case round =>
    obtain ⟨k, hk, rfl, hq, hb⟩ := hrel
    clear h0
    by_cases hlt : k < n
    · obtain ⟨ad, K, x, y, rfl, hx, q0, q1, q2⟩ := (hg.keep hb).at_ hlt
      have HX := Lib.hid hx
      clear hx
      have HC := Lib.hid (HA.out K x y wr (List.mem_of_getElem? HX.out) hb)
      rcases hfg : f ⟨K, x, y⟩
      · rw [hfg] at HC
        have hst := Lib.hid (show ∀ j x, j < k + 1 → gl[j]? = some x → f x = false from fun j x' hj he => by
          rcases Nat.lt_or_ge j k with h1 | h1
          · exact hq.out j x' h1 he
          · have : j = k := by omega
            subst this
            rw [HX.out] at he
            injection he with he
            subst he
            exact hfg)
        go_wp2_with (refine HC.out.mono ?_; rintro e w2 ⟨rfl, hb2⟩)
        go_roundw
        case rel => exact ⟨k + 1, by omega, by go_num, hst, hb.call hb2⟩
        case measure => simp [intOf]; omega
      · rw [hfg] at HC
        have hR := Lib.hid (show idxG gl f = k by
          have e := findIdx_at HX.out hfg hq.out
          unfold idxG
          rw [e, if_pos (by rw [hlen.out]; exact hlt)])
        go_wp2_with (refine HC.out.mono ?_; rintro e w2 ⟨rfl, hb2⟩)
        go_ret
        exact ⟨by rw [hR.out]; rfl, hb.call hb2⟩
    · have he : k = n := by omega
      have hR := Lib.hid (show idxG gl f = -1 by
        have e := findIdx_none (gl := gl) (f := f) (fun j x hj => hq.out j x (by have := (List.getElem?_eq_some_iff.1 hj).1; rw [hlen.out] at this; omega) hj)
        unfold idxG
        rw [e, if_neg (by omega)])
      go_wp2
      go_ret
      exact ⟨by rw [hR.out]; rfl, hb⟩
/-- The first gate that reads a wire. -/
def firstG (gl : List Gt) (v : Int) : Nat := gl.findIdx fun g => memB (partsL g) v
def laL (gl : List Gt) (k : Nat) : List Int := (List.range k).map fun v : Nat => ((firstG gl (v : Int) : Nat) : Int)
theorem laL_step (gl : List Gt) (k : Nat) : laL gl (k + 1) = laL gl k ++ [((firstG gl (k : Int) : Nat) : Int)] := by simp [laL, List.range_succ]
theorem laL_len (gl : List Gt) (k : Nat) : (laL gl k).length = k := by simp [laL]
theorem firstG_le (gl : List Gt) (v : Int) : firstG gl v ≤ gl.length := List.findIdx_le_length
def laR (a b : Int) (gl : List Gt) (ol : List Int) : List Int := if goodC a b gl ol then laL gl (a + b).toNat else []
theorem laR_len (a b : Int) (gl : List Gt) (ol : List Int) : (laR a b gl ol).length ≤ 1000000000 := by
  unfold laR; split
  · rename_i h
    obtain ⟨h1, h2, h3, h4, _⟩ := goodC_facts h
    rw [laL_len]; omega
  · simp
/-- The way of the reference: from the last gate to the first. -/
def putB (l : List Int) (ps : List Int) (v : Int) : List Int := ps.foldl (fun l (x : Int) => if x < (l.length : Int) then l.set x.toNat v else l) l
theorem putB_snoc (l ps : List Int) (x v : Int) : putB l (ps ++ [x]) v = if x < ((putB l ps v).length : Int) then (putB l ps v).set x.toNat v else putB l ps v := by
  unfold putB
  rw [List.foldl_append]
  rfl
theorem putB_len (l ps : List Int) (v : Int) : (putB l ps v).length = l.length := by
  unfold putB
  induction ps generalizing l with
  | nil => rfl
  | cons x ps ih =>
    rw [List.foldl_cons, ih]
    split <;> simp
theorem putB_cons (l ps : List Int) (x v : Int) : putB l (x :: ps) v = putB (if x < (l.length : Int) then l.set x.toNat v else l) ps v := rfl
theorem putB_get (v : Int) (w : Nat) : ∀ (ps l : List Int), w < l.length → (∀ x ∈ ps, 0 ≤ x) → (putB l ps v)[w]? = if memB ps w then some v else l[w]?
  | [], l, hl, _ => by simp [memB, putB]
  | x :: ps, l, hl, hp => by
    have hx := hp x (by simp)
    have hp' : ∀ z ∈ ps, 0 ≤ z := fun z hz => hp z (List.mem_cons_of_mem _ hz)
    rw [putB_cons, putB_get v w ps _ (by split <;> simpa using hl) hp']
    by_cases hm : (w : Int) ∈ ps
    · simp [memB, hm]
    · have e1 : memB ps w = false := by simp [memB, hm]
      rw [e1]
      simp only [Bool.false_eq_true, if_false]
      by_cases hwx : (w : Int) = x
      · have e2 : memB (x :: ps) w = true := by simp [memB, hwx]
        rw [e2, if_pos rfl, if_pos (by omega), show x.toNat = w by omega, List.getElem?_set_self hl]
      · have e2 : memB (x :: ps) w = false := by simp [memB, hm, hwx]
        rw [e2]
        simp only [Bool.false_eq_true, if_false]
        split
        · rw [List.getElem?_set_ne (by omega)]
        · rfl
def bkD (N : Nat) (gl : List Gt) : Nat → List Int
  | 0 => List.replicate N (gl.length : Int)
  | d + 1 => putB (bkD N gl d) (partsL (gl[gl.length - (d + 1)]?.getD Gt.zero)) ((gl.length - (d + 1) : Nat) : Int)
theorem bkD_len (N : Nat) (gl : List Gt) (d : Nat) : (bkD N gl d).length = N := by
  induction d with
  | zero => simp [bkD]
  | succ d ih => rw [bkD, putB_len, ih]
theorem bkD_get (N : Nat) (gl : List Gt) (hp : ∀ g ∈ gl, ∀ x ∈ partsL g, 0 ≤ x) (w : Nat) (hw : w < N) : ∀ d, d ≤ gl.length → (bkD N gl d)[w]? = some (((gl.length - d + (gl.drop (gl.length - d)).findIdx (fun g => memB (partsL g) w) : Nat)) : Int)
  | 0, _ => by simp [bkD, hw]
  | d + 1, hd => by
    have hl : gl.length - (d + 1) < gl.length := by omega
    have hg : gl[gl.length - (d + 1)]? = some gl[gl.length - (d + 1)] := List.getElem?_eq_getElem hl
    rw [bkD, hg, Option.getD_some, putB_get _ _ _ _ (by rw [bkD_len]; exact hw) (hp _ (List.getElem_mem hl)), bkD_get N gl hp w hw d (by omega), List.drop_eq_getElem_cons hl, List.findIdx_cons]
    rw [show gl.length - (d + 1) + 1 = gl.length - d by omega]
    rcases memB (partsL gl[gl.length - (d + 1)]) w
    · simp only [Bool.false_eq_true, if_false, cond_false, Option.some.injEq]; omega
    · simp
theorem bkD_all (N : Nat) (gl : List Gt) (hp : ∀ g ∈ gl, ∀ x ∈ partsL g, 0 ≤ x) : bkD N gl gl.length = laL gl N := by
  apply List.ext_getElem?
  intro w
  rcases Nat.lt_or_ge w N with h | h
  · rw [bkD_get N gl hp w h _ (Nat.le_refl _)]
    simp [laL, h, firstG]
  · rw [List.getElem?_eq_none (by rw [bkD_len]; exact h), List.getElem?_eq_none (by rw [laL_len]; exact h)]
/-- The first k cells are v. -/
def repL (v : Int) (l : List Int) (k : Nat) : List Int := List.replicate k v ++ l.drop k
theorem repL_step (v : Int) (l : List Int) (k : Nat) (h : k < l.length) : (repL v l k).set k v = repL v l (k + 1) := by
  unfold repL
  rw [List.set_append_right _ _ (by simp), List.length_replicate, Nat.sub_self, List.drop_eq_getElem_cons h, List.set_cons_zero, List.replicate_succ']
  simp
theorem repL_zero (v : Int) (l : List Int) : repL v l 0 = l := by simp [repL]
theorem repL_all (v : Int) (l : List Int) : repL v l l.length = List.replicate l.length v := by simp [repL]
set_option maxHeartbeats 4000000 in
theorem impl_LateInputs (a b : Int) (Ag Ao : Option Addr) (n cg m co : Nat) (gl : List Gt) (ol : List Int) (w : World) (hg : RdG w Ag n cg gl) (ho : RdI w Ao m co ol) :
    Calls Try.prog 22 #[.agg #[.int .i64 a, .int .i64 b, .slice Ag n cg, .slice Ao m co]] w fun e w' => ∃ A' n' c', e = .returned (.tuple #[.slice A' n' c', .bool (goodC a b gl ol)]) ∧ OwnI w.heap.size w' A' n' c' (laR a b gl ol) ∧ Bl w w' := by
  have hW := (Bl.refl w).alloc (.cells #[.int .i64 a, .int .i64 b, .slice Ag n cg, .slice Ao m co] 26)
  have hB := Blk.new w 26 #[.int .i64 a, .int .i64 b, .slice Ag n cg, .slice Ao m co]
  have hG := Lib.hid (impl_IsCircuit a b Ag Ao n cg m co gl ol (w.alloc (.cells #[.int .i64 a, .int .i64 b, .slice Ag n cg, .slice Ao m co] 26)) (hg.keep hW) (ho.keep hW))
  rcases hgd : goodC a b gl ol
  · rw [hgd] at hG
    have hR := Lib.hid (show laR a b gl ol = [] by simp [laR, hgd])
    go_enter Try.func22, Try.ntmps22
    go_wp2_with (go_at_call 50; refine hG.out.mono ?_; rintro e w1 ⟨rfl, hb1⟩)
    go_ret2
    exact ⟨none, 0, 0, rfl, by rw [hR.out]; exact OwnI.nil _ _, (by (repeat (first | assumption | with_reducible exact Bl.refl _ | with_reducible refine Bl.drewN ?_ _ | with_reducible refine Bl.drew ?_ | with_reducible refine Bl.alloc ?_ _ | (with_reducible refine Bl.call ?_ (by assumption)))))⟩
  · rw [hgd] at hG
    have hgl := Lib.hid hg.2
    obtain ⟨hle1, hle2⟩ := hg.le
    obtain ⟨a0, a1, b0, b1, hn, _, hgs, _⟩ := goodC_facts hgd
    rw [hg.2] at hn
    have HK : ∀ K x y : Int, (⟨K, x, y⟩ : Gt) ∈ gl → K = 0 ∨ K = 1 ∨ K = 2 ∨ K = 3 := fun K x y hx => by
      obtain ⟨j, hj, he⟩ := List.mem_iff_getElem.1 hx
      exact (goodG_facts (goodGs_at hgs (List.getElem?_eq_getElem hj |>.trans (by rw [he])))).1
    have hR := Lib.hid (show laR a b gl ol = laL gl (a + b).toNat by rw [laR, hgd]; rfl)
    clear hgd hgs
    obtain ⟨N0, hN0⟩ : ∃ N0 : Nat, a + b = N0 := ⟨(a + b).toNat, by omega⟩
    have HN := Lib.hid hN0
    have hT : (a + b).toNat = N0 := by omega
    rw [hT] at hR
    clear hT
    go_enter Try.func22, Try.ntmps22
    go_wp2_with (first | (go_at_call 50; refine hG.out.mono ?_; rintro e w1 ⟨rfl, hb1⟩; replace hB := hB.keep hb1; replace hW := hW.call hb1; have hB_l := hB.lt; have hB_0 := hB.cell 0 _ rfl; have hB_1 := hB.cell 1 _ rfl; have hB_2 := hB.cell 2 _ rfl; have hB_3 := hB.cell 3 _ rfl) | (go_at_call 52; refine (impl_inputs _ _ _ _ _ _ _ _ _ (by omega) (by omega) (by omega) (by omega)).mono ?_; rintro e w2 ⟨rfl, hb2⟩; rw [HN.out]))
    have hown0 : OwnI (w.heap.size + 1) w2 (some ⟨w1.heap.size, 0, none⟩) 0 0 (laL gl 0) := (OwnI.mono (own_made w1) (by omega)).keep hb2
    replace hB := (hB.alloc _).keep hb2
    replace hW := (hW.alloc _).call hb2
    clear hB_l hB_2 hG hB_0 hB_1 hB_3
    go_loopw [4, 13] (fun s i wr => ∃ k A c, k ≤ N0 ∧ i = .int .i64 (k : Nat) ∧ s = .slice A k c ∧ OwnI (w.heap.size + 1) wr A k c (laL gl k) ∧ Blk wr w.heap.size 26 #[.int .i64 a, .int .i64 b, .slice Ag n cg, .slice Ao m co] ∧ Bl w wr) (fun s i _ => N0 - (intOf i).toNat)
    case atStart => exact ⟨0, _, _, by omega, rfl, rfl, hown0, hB, hW⟩
    case round =>
      clear hW hB hown0
      obtain ⟨k, A, c, hk, rfl, rfl, hown, hB, hW⟩ := hrel
      have hne0 : A.map (·.block) ≠ some w.heap.size := by intro he; have := (hown.blk _ he).1; omega
      have kB := hB.lt
      have kB0 := hB.cell 0 _ rfl
      have kB1 := hB.cell 1 _ rfl
      have kB2 := hB.cell 2 _ rfl
      have kB3 := hB.cell 3 _ rfl
      by_cases hlt : k < N0
      · have ik : (k : Int) < N0 := by omega
        have hA : AnswersG (wr.alloc (.cells #[.int .i64 (k : Int)] 3)) 70 #[.pointer (some ⟨wr.heap.size, 0, none⟩)] gl (fun g => memB (partsL g) k) := fun K x y W' hx hW' =>
          LateInputs_1 K x y k wr.heap.size W' (HK K x y hx) ((Blk.new wr 3 #[.int .i64 (k : Int)]).keep hW')
        have HC := Lib.hid (slices_IndexFunc_G Ag n cg gl 70 _ _ (wr.alloc (.cells #[.int .i64 (k : Int)] 3)) enters_LateInputs_1 hA ((hg.keep hW).keep ((Bl.refl wr).alloc _)))
        clear hA
        have hfl := firstG_le gl k
        rw [hgl.out] at hfl
        have hst := Lib.hid (laL_step gl k)
        by_cases hf : firstG gl k < n
        · have hI := Lib.hid (show idxG gl (fun g => memB (partsL g) k) = ((firstG gl k : Nat) : Int) by unfold idxG; exact if_pos (by rw [hgl.out]; exact hf))
          rw [hI.out] at HC
          generalize firstG gl k = F at *
          have iF : ¬ ((F : Int) < 0) := by omega
          go_wp2_with (first | (go_at_call 69; refine HC.out.mono ?_; rintro e w3 ⟨rfl, hb3⟩; replace hB := (hB.alloc _).keep hb3; replace hW := (hW.alloc _).call hb3; replace hown := (hown.alloc _).keep hb3) | (at_builtin; refine ap_int rfl rfl rfl (hown.alloc _) rfl (rd_new1 _ _ _) (by omega) (by have := hW.sz; have := hB.lt; simp; omega) ?_; intro A3 c3 w4 hown3 hg3 hat3))
          go_roundw
          case rel => exact ⟨k + 1, A3, c3, by omega, by go_num, rfl, by rw [hst.out]; exact hown3, Blk.grown (hB.alloc _) hg3 (by intro he; exact hne0 he.symm), Bl.grown (hW.alloc _) hg3 (fun q hq => Nat.le_of_succ_le (hown.blk q hq).1)⟩
          case measure => simp [intOf]; omega
        · have hI := Lib.hid (show idxG gl (fun g => memB (partsL g) k) = -1 by unfold idxG; exact if_neg (by rw [hgl.out]; exact hf))
          rw [hI.out] at HC
          have hF : firstG gl k = n := by omega
          rw [hF] at hst
          clear hf hfl hF
          go_wp2_with (first | (go_at_call 69; refine HC.out.mono ?_; rintro e w3 ⟨rfl, hb3⟩; replace hB := (hB.alloc _).keep hb3; replace hW := (hW.alloc _).call hb3; replace hown := (hown.alloc _).keep hb3; clear kB kB0 kB1 kB2 kB3; have kB := hB.lt; have kB2 := hB.cell 2 _ rfl) | (at_builtin; refine ap_int rfl rfl rfl (hown.alloc _) rfl (rd_new1 _ _ _) (by omega) (by have := hW.sz; have := hB.lt; simp; omega) ?_; intro A3 c3 w4 hown3 hg3 hat3))
          go_roundw
          case rel => exact ⟨k + 1, A3, c3, by omega, by go_num, rfl, by rw [hst.out]; exact hown3, Blk.grown (hB.alloc _) hg3 (by intro he; exact hne0 he.symm), Bl.grown (hW.alloc _) hg3 (fun q hq => Nat.le_of_succ_le (hown.blk q hq).1)⟩
          case measure => simp [intOf]; omega
      · have he : k = N0 := by omega
        subst he
        go_wp2
        go_ret2
        exact ⟨A, k, c, rfl, by rw [hR.out]; exact OwnI.mono hown (by omega), hW⟩
set_option maxHeartbeats 4000000 in
theorem spec_LateInputs (a b : Int) (Ag Ao : Option Addr) (n cg m co : Nat) (gl : List Gt) (ol : List Int) (w : World) (hg : RdG w Ag n cg gl) (ho : RdI w Ao m co ol) :
    Calls Try.prog 23 #[.agg #[.int .i64 a, .int .i64 b, .slice Ag n cg, .slice Ao m co]] w fun e w' => ∃ A' n' c', e = .returned (.tuple #[.slice A' n' c', .bool (goodC a b gl ol)]) ∧ OwnI w.heap.size w' A' n' c' (laR a b gl ol) ∧ Bl w w' := by
  have hW := (Bl.refl w).alloc (.cells #[.int .i64 a, .int .i64 b, .slice Ag n cg, .slice Ao m co] 26)
  have hB := Blk.new w 26 #[.int .i64 a, .int .i64 b, .slice Ag n cg, .slice Ao m co]
  have hG := Lib.hid (spec_ciGood a b Ag Ao n cg m co gl ol (w.alloc (.cells #[.int .i64 a, .int .i64 b, .slice Ag n cg, .slice Ao m co] 26)) (hg.keep hW) (ho.keep hW))
  rcases hgd : goodC a b gl ol
  · rw [hgd] at hG
    have hR := Lib.hid (show laR a b gl ol = [] by simp [laR, hgd])
    go_enter Try.func23, Try.ntmps23
    go_wp2_with (go_at_call 53; refine hG.out.mono ?_; rintro e w1 ⟨rfl, hb1⟩)
    go_ret2
    exact ⟨none, 0, 0, rfl, by rw [hR.out]; exact OwnI.nil _ _, (by (repeat (first | assumption | with_reducible exact Bl.refl _ | with_reducible refine Bl.drewN ?_ _ | with_reducible refine Bl.drew ?_ | with_reducible refine Bl.alloc ?_ _ | (with_reducible refine Bl.call ?_ (by assumption)))))⟩
  · rw [hgd] at hG
    have hgl := Lib.hid hg.2
    obtain ⟨hle1, hle2⟩ := hg.le
    obtain ⟨a0, a1, b0, b1, hn, _, hgs, _⟩ := goodC_facts hgd
    rw [hg.2] at hn
    have HGS := Lib.hid hgs
    obtain ⟨N0, hN0⟩ : ∃ N0 : Nat, a + b = N0 := ⟨(a + b).toNat, by omega⟩
    have HN := Lib.hid hN0
    have hT : (a + b).toNat = N0 := by omega
    have hR := Lib.hid (show laR a b gl ol = bkD N0 gl n by
      rw [laR, hgd, if_pos rfl, hT, ← hg.2, bkD_all]
      intro g hx z hz
      obtain ⟨j, hj, he⟩ := List.mem_iff_getElem.1 hx
      exact ((goodG_facts (goodGs_at hgs (List.getElem?_eq_getElem hj |>.trans (by rw [he])))).2 z hz).1)
    clear hgd hgs hT
    have hmk := make_ints N0 (by omega)
    go_enter Try.func23, Try.ntmps23
    go_wp2_with (first | (go_at_call 53; refine hG.out.mono ?_; rintro e w1 ⟨rfl, hb1⟩; replace hB := hB.keep hb1; replace hW := hW.call hb1; have hB_l := hB.lt; have hB_0 := hB.cell 0 _ rfl; have hB_1 := hB.cell 1 _ rfl; have hB_2 := hB.cell 2 _ rfl; have hB_3 := hB.cell 3 _ rfl) | (go_at_call 55; refine (spec_ciInputs _ _ _ _ _ _ _ _ _ (by omega) (by omega) (by omega) (by omega)).mono ?_; rintro e w2 ⟨rfl, hb2⟩; rw [HN.out]; replace hB := hB.keep hb2; replace hW := hW.call hb2))
    clear hB_l hB_2 hG hB_0 hB_1 hB_3
    have hown0 : OwnI (w.heap.size + 1) (w2.alloc (.cells (madeCells #[.int .i64 0] N0) 3)) (some ⟨w2.heap.size, 0, none⟩) N0 N0 (repL n (List.replicate N0 0) 0) := by rw [repL_zero]; exact OwnI.mono (own_zeros w2 N0 (by omega)) (by have := hB.lt; omega)
    have sB := hB.lt
    replace hB := hB.alloc (.cells (madeCells #[.int .i64 0] N0) 3)
    replace hW := hW.alloc (.cells (madeCells #[.int .i64 0] N0) 3)
    obtain ⟨g0, hg0⟩ : ∃ g0, w2.heap.size = g0 := ⟨_, rfl⟩
    rw [hg0] at hown0 sB ⊢
    clear hg0
    go_loopw [17] (fun i wr => ∃ k : Nat, k ≤ N0 ∧ i = .int .i64 (k : Nat) ∧ OwnI (w.heap.size + 1) wr (some ⟨g0, 0, none⟩) N0 N0 (repL n (List.replicate N0 0) k) ∧ Blk wr w.heap.size 26 #[.int .i64 a, .int .i64 b, .slice Ag n cg, .slice Ao m co] ∧ Bl w wr) (fun i _ => N0 - (intOf i).toNat)
    case atStart => exact ⟨0, by omega, rfl, hown0, hB, hW⟩
    case round =>
      clear hW hB hown0 hmk
      obtain ⟨k, hk, rfl, hown, hB, hW⟩ := hrel
      have kB := hB.lt
      have kB2 := hB.cell 2 _ rfl
      by_cases hlt : k < N0
      · have ik : (k : Int) < N0 := by omega
        obtain ⟨q0, e0, _, _, hcl, hfr⟩ := hown.form (by omega)
        injection e0 with e0; injection e0 with e0; subst e0
        have hfz := hfr k
        have hx1 : (repL n (List.replicate N0 0) k)[k]? = some 0 := by
          unfold repL; rw [List.getElem?_append_right (by simp), List.length_replicate, Nat.sub_self, List.getElem?_drop, List.getElem?_replicate, if_pos (by omega)]
        have hx2 := hcl _ _ hx1
        clear hcl hfr hx1
        have hst := Lib.hid (repL_step n (List.replicate N0 0) k (by simp; exact hlt))
        go_wp2
        go_roundw
        case rel => exact ⟨k + 1, by omega, by go_num, by rw [← hst.out]; exact hown.set_ k _ hlt, hB.far (by dsimp only; omega) _, hW.setCell (by dsimp only; omega) _⟩
        case measure => simp [intOf]; omega
      · have he : k = N0 := by omega
        have hD0 : repL n (List.replicate N0 0) k = bkD N0 gl 0 := by
          have := repL_all n (List.replicate N0 0)
          rw [List.length_replicate] at this
          rw [he, this, bkD, hgl.out]
        rw [hD0] at hown
        clear hD0 he
        go_wp2
        go_loopw [6] (fun i wr => ∃ d : Nat, d ≤ n ∧ i = .int .i64 ((n : Int) - d - 1) ∧ OwnI (w.heap.size + 1) wr (some ⟨g0, 0, none⟩) N0 N0 (bkD N0 gl d) ∧ Blk wr w.heap.size 26 #[.int .i64 a, .int .i64 b, .slice Ag n cg, .slice Ao m co] ∧ Bl w wr) (fun i _ => (intOf i + 1).toNat)
        case atStart => exact ⟨0, by omega, by go_num, hown, hB, hW⟩
        case round =>
          clear hown hB hW kB kB2
          obtain ⟨d, hd, rfl, hown, hB, hW⟩ := hrel
          have kB := hB.lt
          have kB2 := hB.cell 2 _ rfl
          by_cases hlt2 : d < n
          · obtain ⟨j, hj⟩ : ∃ j : Nat, n = j + d + 1 := ⟨n - d - 1, by omega⟩
            have hjn : j < n := by omega
            have hJ := Lib.hid hj
            have hji : (n : Int) - d - 1 = (j : Nat) := by omega
            rw [hji]
            obtain ⟨ad, K, x, y, rfl, hx, q0, q1, q2⟩ := (hg.keep hW).at_ hjn
            have HX := Lib.hid hx
            clear hx
            have hgd := goodG_facts (goodGs_at HGS.out HX.out)
            have hK := hgd.1
            have hps := Lib.hid hgd.2
            clear hgd
            have hst := Lib.hid (show bkD N0 gl (d + 1) = putB (bkD N0 gl d) (partsL ⟨K, x, y⟩) (j : Nat) by rw [bkD, hgl.out, show n - (d + 1) = j by omega, HX.out]; rfl)
            have hlen := Lib.hid (bkD_len N0 gl d)
            clear hj
            generalize bkD N0 gl d = L at *
            go_wp2_with (go_at_call 73; refine (spec_ciParts_o K x y _ hK).mono ?_; rintro e w3 ⟨A2, n2, c2, rfl, hr2, hn2, hq2, hb2⟩; have hgl2 := (hown.blk g0 rfl).2; replace hB := hB.keep hb2; replace hW := hW.call hb2; replace hown := hown.keep hb2)
            obtain ⟨ps, hps0⟩ : ∃ ps, partsL ⟨K, x, y⟩ = ps := ⟨_, rfl⟩
            rw [hps0] at hps hr2 hst
            clear hps0 kB kB2
            have hpl := Lib.hid hr2.length
            obtain ⟨hlp1, hlp2⟩ := hr2.le
            have hap : ∀ q, A2 = some q → some q.block ≠ (some g0 : Option Nat) := fun q hq he => by (have := hq2 q hq; injection he with he; omega)
            go_loopw [42] (fun i wq => ∃ z : Nat, z ≤ n2 ∧ i = .int .i64 (z : Nat) ∧ OwnI (w.heap.size + 1) wq (some ⟨g0, 0, none⟩) N0 N0 (putB L (ps.take z) (j : Nat)) ∧ RdI wq A2 n2 c2 ps ∧ Blk wq w.heap.size 26 #[.int .i64 a, .int .i64 b, .slice (some ad) n cg, .slice Ao m co] ∧ Bl w wq) (fun i _ => n2 - (intOf i).toNat)
            case atStart => exact ⟨0, by omega, rfl, hown, hr2, hB, hW⟩
            case round =>
              clear hown hr2 hB hW
              obtain ⟨z, hz, rfl, hown, hr2, hB, hW⟩ := hrel
              have kB := hB.lt
              have kB2 := hB.cell 2 _ rfl
              by_cases hlt3 : z < n2
              · obtain ⟨ad2, v, rfl, hadb2, hv, hcv⟩ := hr2.at_ hlt3
                have HV := Lib.hid hv
                have hvb := (hps.out v (List.mem_of_getElem? hv)).1
                clear hv
                obtain ⟨V, rfl⟩ : ∃ V : Nat, v = V := ⟨v.toNat, by omega⟩
                have iz : (z : Int) < n2 := by omega
                have hpL : (putB L (ps.take z) (j : Nat)).length = N0 := by rw [putB_len, hlen.out]
                by_cases hVN : V < N0
                · have iV : (V : Int) < N0 := by omega
                  have hs2 := Lib.hid (show putB L (ps.take (z + 1)) (j : Nat) = (putB L (ps.take z) (j : Nat)).set V (j : Nat) by rw [take_snoc HV.out, putB_snoc, if_pos (by rw [hpL]; omega), Int.toNat_natCast])
                  obtain ⟨q0', e0, _, _, hcl, hfr⟩ := hown.form (by omega)
                  injection e0 with e0; injection e0 with e0; subst e0
                  have hfz := hfr V
                  have hx2 := hcl V _ (List.getElem?_eq_getElem (by rw [hpL]; exact hVN))
                  clear hcl hfr
                  go_wp2
                  go_roundw
                  case rel => exact ⟨z + 1, by omega, by go_num, by rw [hs2.out]; exact hown.set_ V _ hVN, RdI.grown hr2 (grownBy_setCell _ _ _ _) hap, hB.far (by dsimp only; omega) _, hW.setCell (by dsimp only; omega) _⟩
                  case measure => simp [intOf]; omega
                · have iV : ¬ ((V : Int) < N0) := by omega
                  have hs2 := Lib.hid (show putB L (ps.take (z + 1)) (j : Nat) = putB L (ps.take z) (j : Nat) by rw [take_snoc HV.out, putB_snoc, if_neg (by rw [hpL]; omega)])
                  clear hpL
                  go_wp2
                  go_roundw
                  case rel => exact ⟨z + 1, by omega, by go_num, by rw [hs2.out]; exact hown, hr2, hB, hW⟩
                  case measure => simp [intOf]; omega
              · have hez : z = n2 := by omega
                have hE := Lib.hid (show ps.take z = ps from List.take_of_length_le (by rw [hpl.out]; omega))
                clear hez
                go_wp2
                go_roundw
                case rel => exact ⟨d + 1, by have := hJ.out; omega, by have := hJ.out; go_num, by rw [hst.out, ← hE.out]; exact hown, hB, hW⟩
                case measure => (simp [intOf] <;> omega)
          · have he2 : d = n := by omega
            subst he2
            go_wp2
            go_ret2
            exact ⟨_, _, _, rfl, by rw [hR.out]; exact OwnI.mono hown (by omega), hW⟩
end Go.Proofs.Ytlmlffiajgofeaa
