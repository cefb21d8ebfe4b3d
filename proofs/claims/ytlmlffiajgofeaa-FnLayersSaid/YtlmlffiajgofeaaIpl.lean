/- Contracts of right plans of cells.
   Conditions: none. -/
import Derived.Test.YtlmlffiajgofeaaLiv
import Derived.Test.YtlmlffiajgofeaaAps
namespace Go.Proofs.Ytlmlffiajgofeaa
open Go.RowKit
set_option linter.unusedVariables false
/-- The elements at places. -/
def pickL (l ps : List Int) : List Int := ps.map fun i => l[i.toNat]?.getD 0
theorem pickL_snoc (l ps : List Int) (x : Int) : pickL l (ps ++ [x]) = pickL l ps ++ [l[x.toNat]?.getD 0] := by simp [pickL]
theorem pickL_len (l ps : List Int) : (pickL l ps).length = ps.length := by simp [pickL]
/-- All elements are different. -/
def difB (l : List Int) : Bool := (List.range l.length).all fun i => !memB (l.take i) (l[i]?.getD 0)
theorem difB_of {l : List Int} (h : ∀ (i : Nat) (x : Int), l[i]? = some x → memB (l.take i) x = false) : difB l = true := by
  unfold difB
  rw [List.all_eq_true]
  intro i hi
  have hi := List.mem_range.1 hi
  rw [List.getElem?_eq_getElem hi, Option.getD_some, h i _ (List.getElem?_eq_getElem hi)]
  rfl
theorem difB_not {l : List Int} {i : Nat} {x : Int} (hi : l[i]? = some x) (h : memB (l.take i) x = true) : difB l = false := by
  rw [Bool.eq_false_iff]
  intro hc
  have hl : i < l.length := (List.getElem?_eq_some_iff.1 hi).1
  have := List.all_eq_true.1 hc i (List.mem_range.2 hl)
  rw [hi, Option.getD_some, h] at this
  cases this
/-- Another live wire has a gate's cell. -/
def clash (P : List Int) (own : Nat) (x : Int) : Bool := x != (own : Int) && P[x.toNat]?.getD 0 == P[own]?.getD 0
def gateB (P L : List Int) (N k : Nat) : Bool := !(liveL L (k : Int) (N + k + 1)).any (clash P (N + k))
def gatesB (P L : List Int) (N n : Nat) : Bool := (List.range n).all (gateB P L N)
theorem gatesB_of {P L : List Int} {N n : Nat} (h : ∀ k, k < n → gateB P L N k = true) : gatesB P L N n = true := List.all_eq_true.2 fun k hk => h k (List.mem_range.1 hk)
theorem gatesB_not {P L : List Int} {N n k : Nat} (hk : k < n) (h : gateB P L N k = false) : gatesB P L N n = false := by
  rw [Bool.eq_false_iff]
  intro hc
  have := List.all_eq_true.1 hc k (List.mem_range.2 hk)
  rw [h] at this
  cases this
def rightB (P L : List Int) (N n : Nat) : Bool := decide (P.length = N + n) && allR P 0 999 && difB (pickL P (liveL L (-1) N)) && gatesB P L N n
set_option maxHeartbeats 1000000 in
theorem impl_at (A B : Option Addr) (n c m d : Nat) (l ps : List Int) (w : World) (h : RdI w A n c l) (h' : RdI w B m d ps) (hps : ∀ x ∈ ps, 0 ≤ x ∧ x < n) (hm : m ≤ 1000000) :
    Calls Try.prog 94 #[.slice A n c, .slice B m d] w fun e w' => ∃ A' c', e = .returned (.slice A' m c') ∧ OwnI w.heap.size w' A' m c' (pickL l ps) ∧ Bl w w' := by
  obtain ⟨hle1, hle2⟩ := h.le
  obtain ⟨hle3, hle4⟩ := h'.le
  have hpl := Lib.hid h'.length
  have HPS := Lib.hid hps
  clear hps
  have hown0 : OwnI w.heap.size (w.alloc (.cells #[] 3)) (some ⟨w.heap.size, 0, none⟩) 0 0 (pickL l (ps.take 0)) := own_made w
  have hW := (Bl.refl w).alloc (.cells #[] 3)
  go_enter Try.func94, Try.ntmps94
  go_wp2
  go_loopw [5, 11] (fun s i wr => ∃ k A3 c3, k ≤ m ∧ i = .int .i64 (k : Nat) ∧ s = .slice A3 k c3 ∧ OwnI w.heap.size wr A3 k c3 (pickL l (ps.take k)) ∧ Bl w wr) (fun s i _ => m - (intOf i).toNat)
  case atStart => exact ⟨0, _, _, by omega, rfl, rfl, hown0, hW⟩
  case round =>
    clear hW hown0
    obtain ⟨k, A3, c3, hk, rfl, rfl, hown, hW⟩ := hrel
    by_cases hlt : k < m
    · obtain ⟨ad, v, rfl, hadb, hv, hcv⟩ := (h'.keep hW).at_ hlt
      have HV := Lib.hid hv
      have hvb := HPS.out v (List.mem_of_getElem? hv)
      clear hv
      obtain ⟨V, rfl⟩ : ∃ V : Nat, v = V := ⟨v.toNat, by omega⟩
      obtain ⟨ad3, u, rfl, hadb3, hu, hcu⟩ := (h.keep hW).at_ (show V < n by omega)
      have hst := Lib.hid (show pickL l (ps.take (k + 1)) = pickL l (ps.take k) ++ [u] by rw [take_snoc HV.out, pickL_snoc, Int.toNat_natCast, hu]; rfl)
      clear hu
      have ik : (k : Int) < m := by omega
      have iV : (V : Int) < n := by omega
      go_wp2_with (first | (at_builtin; refine ap_int rfl rfl rfl (hown.alloc _) rfl (rd_new1 _ _ _) (by omega) (by have := hW.sz; simp; omega) ?_; intro A4 c4 w4 hown4 hg4 hat4))
      go_roundw
      case rel => exact ⟨k + 1, A4, c4, by omega, by go_num, rfl, by rw [hst.out]; exact hown4, Bl.grown (hW.alloc _) hg4 (fun q hq => (hown.blk q hq).1)⟩
      case measure => simp [intOf]; omega
    · have he : k = m := by omega
      have hE := Lib.hid (show ps.take k = ps from List.take_of_length_le (by rw [hpl.out]; omega))
      subst he
      go_wp2
      go_ret
      exact ⟨A3, c3, rfl, by rw [← hE.out]; exact hown, hW⟩
theorem RdI.takeI {w : World} {A : Option Addr} {n c k : Nat} {l : List Int} (h : RdI w A n c l) (hk : k ≤ n) : RdI w A k c (l.take k) := by
  have := Rd.take h hk
  unfold RdI
  rw [show ints (l.take k) = (ints l).take (k * 1) by simp [ints, List.map_take]]
  exact this
set_option maxHeartbeats 1000000 in
theorem impl_areDifferent (A : Option Addr) (n c : Nat) (l : List Int) (w : World) (h : RdI w A n c l) :
    Calls Try.prog 119 #[.slice A n c] w fun e w' => e = .returned (.bool (difB l)) ∧ w = w' := by
  obtain ⟨hle1, hle2⟩ := h.le
  have hlen := Lib.hid h.length
  go_enter Try.func119, Try.ntmps119
  go_wp2
  go_loop [7] (fun i => ∃ k : Nat, k ≤ n ∧ i = .int .i64 (k : Nat) ∧ Hid (∀ (i : Nat) (x : Int), i < k → l[i]? = some x → memB (l.take i) x = false)) (fun i => n - (intOf i).toNat)
  case atStart => exact ⟨0, by omega, rfl, Lib.hid (fun i x hi => by omega)⟩
  case round =>
    obtain ⟨k, hk, rfl, hq⟩ := hrel
    by_cases hlt : k < n
    · obtain ⟨ad, v, rfl, hadb, hv, hcv⟩ := h.at_ hlt
      have HV := Lib.hid hv
      clear hv
      have ik : (k : Int) < n := by omega
      have ikn : k ≤ n := by omega
      have iknI : (k : Int) ≤ n := by omega
      have ikc : (k : Int) ≤ c := by omega
      rcases hmm : memB (l.take k) v
      · have hst := Lib.hid (show ∀ (i : Nat) (x : Int), i < k + 1 → l[i]? = some x → memB (l.take i) x = false from fun i x hi he => by
          rcases Nat.lt_or_ge i k with h1 | h1
          · exact hq.out i x h1 he
          · have : i = k := by omega
            subst this
            rw [HV.out] at he
            injection he with he
            subst he
            exact hmm)
        go_wp2_with (go_at_call 71; refine (slices_Contains _ _ _ (l.take k) v _ (h.takeI ikn)).mono ?_; rintro e w' ⟨rfl, rfl⟩; rw [hmm])
        go_round
        case rel => exact ⟨k + 1, by omega, by go_num, hst⟩
        case measure => simp [intOf]; omega
      · have hR := Lib.hid (difB_not HV.out hmm)
        go_wp2_with (go_at_call 71; refine (slices_Contains _ _ _ (l.take k) v _ (h.takeI ikn)).mono ?_; rintro e w' ⟨rfl, rfl⟩; rw [hmm])
        go_ret
        exact ⟨by rw [hR.out]; rfl, rfl⟩
    · have hR := Lib.hid (show difB l = true from difB_of (fun i x hx => hq.out i x (by have := (List.getElem?_eq_some_iff.1 hx).1; rw [hlen.out] at this; omega) hx))
      go_wp2
      go_ret
      exact ⟨by rw [hR.out]; rfl, rfl⟩
/-- A function value answers f of these numbers, and only makes new blocks. -/
def AnswersI (W : World) (Kf : Nat) (caps : Array Value) (l : List Int) (f : Int → Bool) : Prop :=
  ∀ (x : Int) (W' : World), x ∈ l → Bl W W' → Calls Try.prog Kf (#[.int .i64 x] ++ caps) W' fun e w' => e = .returned (.bool (f x)) ∧ Bl W' w'
set_option maxHeartbeats 1000000 in
theorem slices_IndexFunc_I (A : Option Addr) (n c : Nat) (l : List Int) (Kf : Nat) (caps : Array Value) (f : Int → Bool) (w : World) (hK : Enters Kf) (h : AnswersI w Kf caps l f) (hl : RdI w A n c l) :
    Calls Try.prog 144 #[.slice A n c, .func (.func Kf) #[] caps] w fun e w' => ∃ i : Int, e = .returned (.int .i64 i) ∧ decide (0 ≤ i) = l.any f ∧ Bl w w' := by
  obtain ⟨hle1, hle2⟩ := hl.le
  have hlen := Lib.hid hl.length
  have HA := Lib.hid h
  have h0 := Bl.refl w
  unfold Enters at hK
  clear h
  go_enter Try.func144, Try.ntmps144
  go_wp2
  go_loopw [8] (fun i wr => ∃ k : Nat, k ≤ n ∧ i = .int .i64 k ∧ Hid (∀ (j : Nat) (x : Int), j < k → l[j]? = some x → f x = false) ∧ Bl w wr) (fun i _ => n - (intOf i).toNat)
  case atStart => exact ⟨0, by omega, rfl, Lib.hid (fun j x hj => by omega), h0⟩
  case round =>
    obtain ⟨k, hk, rfl, hq, hb⟩ := hrel
    clear h0
    by_cases hlt : k < n
    · obtain ⟨ad, x, rfl, hadb, hx, hcell⟩ := (hl.keep hb).at_ hlt
      have HX := Lib.hid hx
      clear hx
      have HC := Lib.hid (HA.out x wr (List.mem_of_getElem? HX.out) hb)
      rcases hfg : f x
      · rw [hfg] at HC
        have hst := Lib.hid (show ∀ (j : Nat) (x : Int), j < k + 1 → l[j]? = some x → f x = false from fun j x' hj he => by
          rcases Nat.lt_or_ge j k with h1 | h1
          · exact hq.out j x' h1 he
          · have : j = k := by omega
            subst this
            rw [HX.out] at he
            injection he with he
            subst he
            exact hfg)
        go_wp2_with (refine HC.out.mono ?_; rintro e w2 ⟨rfl, hb2⟩)
        go_roundw
        case rel => exact ⟨k + 1, by omega, by go_num, hst, hb.call hb2⟩
        case measure => simp [intOf]; omega
      · rw [hfg] at HC
        have hR := Lib.hid (show l.any f = true from List.any_eq_true.2 ⟨x, List.mem_of_getElem? HX.out, hfg⟩)
        go_wp2_with (refine HC.out.mono ?_; rintro e w2 ⟨rfl, hb2⟩)
        go_ret
        exact ⟨k, rfl, by rw [hR.out]; simp, hb.call hb2⟩
    · have he : k = n := by omega
      have hR := Lib.hid (show l.any f = false by
        rw [Bool.eq_false_iff]
        intro hc
        obtain ⟨x, hx, hf⟩ := List.any_eq_true.1 hc
        obtain ⟨j, hj, he2⟩ := List.mem_iff_getElem.1 hx
        rw [hlen.out] at hj
        have := hq.out j x (by omega) (by rw [← he2]; exact List.getElem?_eq_getElem _)
        rw [hf] at this; cases this)
      go_wp2
      go_ret
      exact ⟨-1, rfl, by rw [hR.out]; rfl, hb⟩
theorem slices_ContainsFunc_I (A : Option Addr) (n c : Nat) (l : List Int) (Kf : Nat) (caps : Array Value) (f : Int → Bool) (w : World) (hK : Enters Kf) (h : AnswersI w Kf caps l f) (hl : RdI w A n c l) :
    Calls Try.prog 120 #[.slice A n c, .func (.func Kf) #[] caps] w fun e w' => e = .returned (.bool (l.any f)) ∧ Bl w w' := by
  have HI := Lib.hid (slices_IndexFunc_I A n c l Kf caps f w hK h hl)
  clear hK h hl
  go_enter Try.func120, Try.ntmps120
  go_wp2_with (go_at_call 144; refine HI.out.mono ?_; rintro e w' ⟨i, rfl, h3, hb⟩; have H3 := Lib.hid h3; clear h3)
  all_goals go_ret
  all_goals exact ⟨ret_bool H3.out, hb⟩
theorem enters_isPlan_1 : Enters 118 := fun _ _ => by kernel_rfl
theorem enters_isPlan_2 : Enters 121 := fun _ _ => by kernel_rfl
theorem isPlan_1 (x : Int) (w : World) : Calls Try.prog 118 #[.int .i64 x] w fun e w' => e = .returned (.bool (inR x 0 999)) ∧ Bl w w' := by
  go_enter Try.func118, Try.ntmps118
  go_wp2_with (go_at_call 78; refine (impl_within _ _ _ _).mono ?_; rintro e w' ⟨rfl, rfl⟩)
  go_ret
  exact ⟨rfl, Bl.refl _⟩
theorem isPlan_2 (x : Int) (own np cp g7 g3 : Nat) (Ap : Option Addr) (P : List Int) (w : World) (hx0 : 0 ≤ x) (hx1 : x < np) (ho : own < np) (hP : RdI w Ap np cp P) (k7 : w.cell? ⟨g7, 0, none⟩ = some (.int .i64 (own : Int))) (k3 : w.cell? ⟨g3, 0, none⟩ = some (.slice Ap np cp)) :
    Calls Try.prog 121 #[.int .i64 x, .pointer (some ⟨g7, 0, none⟩), .pointer (some ⟨g3, 0, none⟩)] w fun e w' => e = .returned (.bool (clash P own x)) ∧ Bl w w' := by
  obtain ⟨hle1, hle2⟩ := hP.le
  obtain ⟨X, rfl⟩ : ∃ X : Nat, x = X := ⟨x.toNat, by omega⟩
  by_cases he : X = own
  · subst he
    have hR := Lib.hid (show clash P X (X : Int) = false by simp [clash])
    go_enter Try.func121, Try.ntmps121
    go_wp2_with fail
    refine wp_region_held_drew (S := (fun w' => w'.cell? ⟨g7, 0, none⟩ = some (.int .i64 (X : Int)))) (by kernel_rfl) ?_ (fun hHeld => ?_)
    · (try dsimp only); exact k7
    refine held_take (i := 0) (d := 5) (v := ?_) rfl rfl (by kernel_rfl) (by kernel_rfl) (by kernel_rfl) (fun _ _ _ h => h) (Or.inl ⟨by rfl, ?_⟩) (by assumption) ?_
    rotate_left
    · (intro w hSw; (try dsimp only at hSw); go_simp; (try with_reducible rfl))
    (try simp only [List.set_cons_zero, List.set_cons_succ])
    refine held_take (i := 1) (d := 6) (v := ?_) rfl rfl (by kernel_rfl) (by kernel_rfl) (by kernel_rfl) (fun _ _ _ h => h) (Or.inl ⟨by rfl, ?_⟩) (by assumption) ?_
    rotate_left
    · (intro w hSw; (try dsimp only at hSw); go_simp; (try with_reducible rfl))
    (try simp only [List.set_cons_zero, List.set_cons_succ])
    refine held_take (i := 2) (d := 7) (v := ?_) rfl rfl (by kernel_rfl) (by kernel_rfl) (by kernel_rfl) (fun _ _ _ h => h) (Or.inl ⟨by rfl, ?_⟩) (by assumption) ?_
    rotate_left
    · (intro w hSw; (try dsimp only at hSw); go_simp; (try with_reducible rfl))
    (try simp only [List.set_cons_zero, List.set_cons_succ])
    refine held_take (i := 3) (d := 8) (v := ?_) rfl rfl (by kernel_rfl) (by kernel_rfl) (by kernel_rfl) (fun _ _ _ h => h) (Or.inl ⟨by rfl, ?_⟩) (by assumption) ?_
    rotate_left
    · (intro w hSw; (try dsimp only at hSw); go_simp; (try with_reducible rfl))
    (try simp only [List.set_cons_zero, List.set_cons_succ])
    refine held_take (i := 4) (d := 9) (v := undef) rfl rfl (by kernel_rfl) (by kernel_rfl) (by kernel_rfl) (fun _ _ _ h => h) (Or.inr ⟨by rfl, rfl⟩) (by assumption) ?_
    (try simp only [List.set_cons_zero, List.set_cons_succ])
    refine held_take (i := 5) (d := 10) (v := undef) rfl rfl (by kernel_rfl) (by kernel_rfl) (by kernel_rfl) (fun _ _ _ h => h) (Or.inr ⟨by rfl, rfl⟩) (by assumption) ?_
    (try simp only [List.set_cons_zero, List.set_cons_succ])
    refine held_take (i := 6) (d := 11) (v := undef) rfl rfl (by kernel_rfl) (by kernel_rfl) (by kernel_rfl) (fun _ _ _ h => h) (Or.inr ⟨by rfl, rfl⟩) (by assumption) ?_
    (try simp only [List.set_cons_zero, List.set_cons_succ])
    refine held_take (i := 7) (d := 12) (v := undef) rfl rfl (by kernel_rfl) (by kernel_rfl) (by kernel_rfl) (fun _ _ _ h => h) (Or.inr ⟨by rfl, rfl⟩) (by assumption) ?_
    (try simp only [List.set_cons_zero, List.set_cons_succ])
    refine held_take (i := 8) (d := 13) (v := undef) rfl rfl (by kernel_rfl) (by kernel_rfl) (by kernel_rfl) (fun _ _ _ h => h) (Or.inr ⟨by rfl, rfl⟩) (by assumption) ?_
    (try simp only [List.set_cons_zero, List.set_cons_succ])
    refine held_take (i := 9) (d := 14) (v := undef) rfl rfl (by kernel_rfl) (by kernel_rfl) (by kernel_rfl) (fun _ _ _ h => h) (Or.inr ⟨by rfl, rfl⟩) (by assumption) ?_
    (try simp only [List.set_cons_zero, List.set_cons_succ])
    refine held_take (i := 10) (d := 15) (v := undef) rfl rfl (by kernel_rfl) (by kernel_rfl) (by kernel_rfl) (fun _ _ _ h => h) (Or.inr ⟨by rfl, rfl⟩) (by assumption) ?_
    (try simp only [List.set_cons_zero, List.set_cons_succ])
    refine held_take (i := 11) (d := 16) (v := undef) rfl rfl (by kernel_rfl) (by kernel_rfl) (by kernel_rfl) (fun _ _ _ h => h) (Or.inr ⟨by rfl, rfl⟩) (by assumption) ?_
    (try simp only [List.set_cons_zero, List.set_cons_succ])
    refine held_take (i := 12) (d := 17) (v := undef) rfl rfl (by kernel_rfl) (by kernel_rfl) (by kernel_rfl) (fun _ _ _ h => h) (Or.inr ⟨by rfl, rfl⟩) (by assumption) ?_
    (try simp only [List.set_cons_zero, List.set_cons_succ])
    refine held_take (i := 13) (d := 18) (v := ?_) rfl rfl (by kernel_rfl) (by kernel_rfl) (by kernel_rfl) (fun _ _ _ h => h) (Or.inl ⟨by rfl, ?_⟩) (by assumption) ?_
    rotate_left
    · (intro w hSw; (try dsimp only at hSw); go_simp; (try with_reducible rfl))
    (try simp only [List.set_cons_zero, List.set_cons_succ])
    refine held_take (i := 14) (d := 4) (v := ?_) rfl rfl (by kernel_rfl) (by kernel_rfl) (by kernel_rfl) (fun _ _ _ h => h) (Or.inl ⟨by rfl, ?_⟩) (by assumption) ?_
    rotate_left
    · (intro w hSw; (try dsimp only at hSw); go_simp; (try with_reducible rfl))
    (try simp only [List.set_cons_zero, List.set_cons_succ])
    refine wpAnyH_done (by kernel_rfl) ?_ _
    go_wp2
    go_ret
    exact ⟨by rw [hR.out]; rfl, (Bl.refl w).drew⟩
  · obtain ⟨ad, v, rfl, hadb, hv, hcv⟩ := hP.at_ (show X < np by omega)
    obtain ⟨ad2, u, he2, hadb2, hu, hcu⟩ := hP.at_ ho
    injection he2 with he2
    subst he2
    have hR := Lib.hid (show clash P own (X : Int) = (v == u) by
      unfold clash
      rw [Int.toNat_natCast, hv, hu]
      have : ((X : Int) != (own : Int)) = true := by simp; omega
      rw [this]; rfl)
    have hne : ((X : Int) == (own : Int)) = false := by simp; omega
    have hne2 : (X == own) = false := by simp; omega
    have hne3 : ((X : Int) != (own : Int)) = true := by simp; omega
    have iX : (X : Int) < np := by omega
    have iO : (own : Int) < np := by omega
    clear hv hu
    go_enter Try.func121, Try.ntmps121
    go_wp2_with fail
    refine wp_region_held_drew (S := (fun w' => w'.cell? ⟨g7, 0, none⟩ = some (.int .i64 (own : Int)) ∧ w'.cell? ⟨g3, 0, none⟩ = some (.slice (some ad) np cp) ∧ w'.cell? (ad.add X) = some (.int .i64 v) ∧ w'.cell? (ad.add own) = some (.int .i64 u))) (by kernel_rfl) ?_ (fun hHeld => ?_)
    · (try dsimp only); exact ⟨k7, k3, hcv, hcu⟩
    refine held_take (i := 0) (d := 5) (v := ?_) rfl rfl (by kernel_rfl) (by kernel_rfl) (by kernel_rfl) (fun _ _ _ h => h) (Or.inl ⟨by rfl, ?_⟩) (by assumption) ?_
    rotate_left
    · (intro w hSw; (try dsimp only at hSw); go_simp; (try with_reducible rfl))
    (try simp only [List.set_cons_zero, List.set_cons_succ])
    refine held_take (i := 1) (d := 6) (v := ?_) rfl rfl (by kernel_rfl) (by kernel_rfl) (by kernel_rfl) (fun _ _ _ h => h) (Or.inl ⟨by rfl, ?_⟩) (by assumption) ?_
    rotate_left
    · (intro w hSw; (try dsimp only at hSw); go_simp; (try with_reducible rfl))
    (try simp only [List.set_cons_zero, List.set_cons_succ])
    refine held_take (i := 2) (d := 7) (v := ?_) rfl rfl (by kernel_rfl) (by kernel_rfl) (by kernel_rfl) (fun _ _ _ h => h) (Or.inl ⟨by rfl, ?_⟩) (by assumption) ?_
    rotate_left
    · (intro w hSw; (try dsimp only at hSw); go_simp; (try with_reducible rfl))
    (try simp only [List.set_cons_zero, List.set_cons_succ])
    refine held_take (i := 3) (d := 8) (v := ?_) rfl rfl (by kernel_rfl) (by kernel_rfl) (by kernel_rfl) (fun _ _ _ h => h) (Or.inl ⟨by rfl, ?_⟩) (by assumption) ?_
    rotate_left
    · (intro w hSw; (try dsimp only at hSw); go_simp; (try with_reducible rfl))
    (try simp only [List.set_cons_zero, List.set_cons_succ])
    refine held_take (i := 4) (d := 9) (v := ?_) rfl rfl (by kernel_rfl) (by kernel_rfl) (by kernel_rfl) (fun _ _ _ h => h) (Or.inl ⟨by rfl, ?_⟩) (by assumption) ?_
    rotate_left
    · (intro w hSw; (try dsimp only at hSw); go_simp; (try with_reducible rfl))
    (try simp only [List.set_cons_zero, List.set_cons_succ])
    refine held_take (i := 5) (d := 10) (v := ?_) rfl rfl (by kernel_rfl) (by kernel_rfl) (by kernel_rfl) (fun _ _ _ h => h) (Or.inl ⟨by rfl, ?_⟩) (by assumption) ?_
    rotate_left
    · (intro w hSw; (try dsimp only at hSw); go_simp; (try with_reducible rfl))
    (try simp only [List.set_cons_zero, List.set_cons_succ])
    refine held_take (i := 6) (d := 11) (v := ?_) rfl rfl (by kernel_rfl) (by kernel_rfl) (by kernel_rfl) (fun _ _ _ h => h) (Or.inl ⟨by rfl, ?_⟩) (by assumption) ?_
    rotate_left
    · (intro w hSw; (try dsimp only at hSw); go_simp; (try with_reducible rfl))
    (try simp only [List.set_cons_zero, List.set_cons_succ])
    refine held_take (i := 7) (d := 12) (v := ?_) rfl rfl (by kernel_rfl) (by kernel_rfl) (by kernel_rfl) (fun _ _ _ h => h) (Or.inl ⟨by rfl, ?_⟩) (by assumption) ?_
    rotate_left
    · (intro w hSw; (try dsimp only at hSw); go_simp; (try with_reducible rfl))
    (try simp only [List.set_cons_zero, List.set_cons_succ])
    refine held_take (i := 8) (d := 13) (v := ?_) rfl rfl (by kernel_rfl) (by kernel_rfl) (by kernel_rfl) (fun _ _ _ h => h) (Or.inl ⟨by rfl, ?_⟩) (by assumption) ?_
    rotate_left
    · (intro w hSw; (try dsimp only at hSw); go_simp; (try with_reducible rfl))
    (try simp only [List.set_cons_zero, List.set_cons_succ])
    refine held_take (i := 9) (d := 14) (v := ?_) rfl rfl (by kernel_rfl) (by kernel_rfl) (by kernel_rfl) (fun _ _ _ h => h) (Or.inl ⟨by rfl, ?_⟩) (by assumption) ?_
    rotate_left
    · (intro w hSw; (try dsimp only at hSw); go_simp; (try with_reducible rfl))
    (try simp only [List.set_cons_zero, List.set_cons_succ])
    refine held_take (i := 10) (d := 15) (v := ?_) rfl rfl (by kernel_rfl) (by kernel_rfl) (by kernel_rfl) (fun _ _ _ h => h) (Or.inl ⟨by rfl, ?_⟩) (by assumption) ?_
    rotate_left
    · (intro w hSw; (try dsimp only at hSw); go_simp; (try with_reducible rfl))
    (try simp only [List.set_cons_zero, List.set_cons_succ])
    refine held_take (i := 11) (d := 16) (v := ?_) rfl rfl (by kernel_rfl) (by kernel_rfl) (by kernel_rfl) (fun _ _ _ h => h) (Or.inl ⟨by rfl, ?_⟩) (by assumption) ?_
    rotate_left
    · (intro w hSw; (try dsimp only at hSw); go_simp; (try with_reducible rfl))
    (try simp only [List.set_cons_zero, List.set_cons_succ])
    refine held_take (i := 12) (d := 17) (v := ?_) rfl rfl (by kernel_rfl) (by kernel_rfl) (by kernel_rfl) (fun _ _ _ h => h) (Or.inl ⟨by rfl, ?_⟩) (by assumption) ?_
    rotate_left
    · (intro w hSw; (try dsimp only at hSw); go_simp; (try with_reducible rfl))
    (try simp only [List.set_cons_zero, List.set_cons_succ])
    refine held_take (i := 13) (d := 18) (v := ?_) rfl rfl (by kernel_rfl) (by kernel_rfl) (by kernel_rfl) (fun _ _ _ h => h) (Or.inl ⟨by rfl, ?_⟩) (by assumption) ?_
    rotate_left
    · (intro w hSw; (try dsimp only at hSw); go_simp; (try with_reducible rfl))
    (try simp only [List.set_cons_zero, List.set_cons_succ])
    refine held_take (i := 14) (d := 4) (v := ?_) rfl rfl (by kernel_rfl) (by kernel_rfl) (by kernel_rfl) (fun _ _ _ h => h) (Or.inl ⟨by rfl, ?_⟩) (by assumption) ?_
    rotate_left
    · (intro w hSw; (try dsimp only at hSw); go_simp; (try with_reducible rfl))
    (try simp only [List.set_cons_zero, List.set_cons_succ])
    refine wpAnyH_done (by kernel_rfl) ?_ _
    go_wp2
    go_ret
    exact ⟨by rw [hR.out]; rfl, (Bl.refl w).drew⟩
set_option maxRecDepth 20000 in
set_option maxHeartbeats 8000000 in
theorem impl_isPlan (a b : Int) (Ag Ao Ap : Option Addr) (n cg m co np cp : Nat) (gl : List Gt) (ol P : List Int) (w : World) (hg : RdG w Ag n cg gl) (ho : RdI w Ao m co ol) (hp : RdI w Ap np cp P) (hgood : goodC a b gl ol = true) :
    Calls Try.prog 86 #[.agg #[.int .i64 a, .int .i64 b, .slice Ag n cg, .slice Ao m co], .slice Ap np cp] w fun e w' => e = .returned (.bool (rightB P (luL ((a + b).toNat + n) gl ol) (a + b).toNat n)) ∧ Bl w w' := by
  obtain ⟨hle1, hle2⟩ := hg.le
  obtain ⟨hle3, hle4⟩ := hp.le
  have hgl := Lib.hid hg.2
  have hpl := Lib.hid hp.length
  obtain ⟨a0, a1, b0, b1, hn, _, _, _⟩ := goodC_facts hgood
  rw [hg.2] at hn
  have HGD := Lib.hid hgood
  clear hgood
  obtain ⟨N0, hN0⟩ : ∃ N0 : Nat, a + b = N0 := ⟨(a + b).toNat, by omega⟩
  have hT : (a + b).toNat = N0 := by omega
  obtain ⟨WN, hWN⟩ : ∃ WN : Nat, N0 + n = WN := ⟨_, rfl⟩
  have HLU := fun W (hW : Bl w W) => Lib.hid (impl_lastUses a b Ag Ao n cg m co gl ol W (hg.keep hW) (ho.keep hW) HGD.out)
  rw [hT, hWN] at HLU
  rw [hT, hWN]
  have hNS := Lib.hid hWN
  have HW := Lib.hid (show a + b + (n : Int) = WN by omega)
  have hWI : (WN : Int) ≤ N0 + n := by omega
  have hWJ : (N0 : Int) + n ≤ WN := by omega
  have hNa : (N0 : Int) ≤ a + b := by omega
  have hNb : a + b ≤ (N0 : Int) := by omega
  clear hT hWN hN0
  generalize luL WN gl ol = L at *
  have hW := (Bl.refl w).alloc (.cells #[.int .i64 a, .int .i64 b, .slice Ag n cg, .slice Ao m co] 26)
  have hB := Blk.new w 26 #[.int .i64 a, .int .i64 b, .slice Ag n cg, .slice Ao m co]
  have hP := Blk.new (w.alloc (.cells #[.int .i64 a, .int .i64 b, .slice Ag n cg, .slice Ao m co] 26)) 24 #[.slice Ap np cp] (g := w.heap.size + 1) (by simp)
  replace hB := hB.alloc (.cells #[.slice Ap np cp] 24)
  replace hW := hW.alloc (.cells #[.slice Ap np cp] 24)
  have hB_l := hB.lt; have hB_0 := hB.cell 0 _ rfl; have hB_1 := hB.cell 1 _ rfl; have hB_2 := hB.cell 2 _ rfl; have hB_3 := hB.cell 3 _ rfl; have hP_l := hP.lt; have hP_0 := hP.cell 0 _ rfl
  have hws : IntKind.i64.wrap (a + b + (n : Int)) = WN := by rw [IntWalk.i64_in _ (by omega)]; exact HW.out
  by_cases hnp : np = WN
  case neg =>
    have hR := Lib.hid (show rightB P L N0 n = false by
      unfold rightB
      rw [hpl.out, hNS.out]
      simp [hnp])
    have hne : ((np : Int) != (WN : Int)) = true := by simp; omega
    have hne2 : ((np : Int) == (WN : Int)) = false := by simp; omega
    go_enter Try.func86, Try.ntmps86
    go_wp2_with fail
    refine wp_region_held_drew (S := (fun w' => w'.cell? ⟨w.heap.size, 0, none⟩ = some (.int .i64 a) ∧ w'.cell? ⟨w.heap.size, 1, none⟩ = some (.int .i64 b) ∧ w'.cell? ⟨w.heap.size, 2, none⟩ = some (.slice Ag n cg) ∧ w'.cell? ⟨w.heap.size, 3, none⟩ = some (.slice Ao m co) ∧ w'.cell? ⟨w.heap.size + 1, 0, none⟩ = some (.slice Ap np cp))) (by kernel_rfl) ?_ (fun hHeld => ?_)
    · (try dsimp only); exact ⟨hB_0, hB_1, hB_2, hB_3, hP_0⟩
    refine held_take (i := 0) (d := 8) (v := ?_) rfl rfl (by kernel_rfl) (by kernel_rfl) (by kernel_rfl) (fun _ _ _ h => h) (Or.inl ⟨by rfl, ?_⟩) (by assumption) ?_
    rotate_left
    · (intro w hSw; (try dsimp only at hSw); go_simp; (try with_reducible rfl))
    (try simp only [List.set_cons_zero, List.set_cons_succ])
    refine held_take (i := 1) (d := 9) (v := ?_) rfl rfl (by kernel_rfl) (by kernel_rfl) (by kernel_rfl) (fun _ _ _ h => h) (Or.inl ⟨by rfl, ?_⟩) (by assumption) ?_
    rotate_left
    · (intro w hSw; (try dsimp only at hSw); go_simp; (try with_reducible rfl))
    (try simp only [List.set_cons_zero, List.set_cons_succ])
    refine held_take (i := 2) (d := 10) (v := ?_) rfl rfl (by kernel_rfl) (by kernel_rfl) (by kernel_rfl) (fun _ _ _ h => h) (Or.inl ⟨by rfl, ?_⟩) (by assumption) ?_
    rotate_left
    · (intro w hSw; (try dsimp only at hSw); go_simp; (try with_reducible rfl))
    (try simp only [List.set_cons_zero, List.set_cons_succ])
    refine wpAnyH_ready (rs := [3]) (by kernel_rfl) (by simp) ?_
    refine AllReadyH.cons rfl (fun K hK => ?_) AllReadyH.nil
    go_simp
    (go_at_call 95; refine (impl_wires _ _ _ _ _ _ _ _ _ (by omega) (by omega) (by omega) (by omega) (by omega)).mono ?_; rintro e w1 ⟨rfl, hb1⟩; replace hW := (by first | exact hW.call hb1 | exact hW.drew.call hb1 | exact (hW.alloc _).call hb1 | exact (hW.alloc _).drew.call hb1 | exact (hW.drewN _).call hb1 | exact (hW.drew.alloc _).call hb1 | exact ((hW.alloc _).alloc _).call hb1 | exact ((hW.alloc _).alloc _).drew.call hb1 | exact (((hW.alloc _).alloc _).alloc _).call hb1); replace hB := (by first | exact hB.keep hb1 | exact hB.drew.keep hb1 | exact (hB.alloc _).keep hb1 | exact (hB.alloc _).drew.keep hb1 | exact (hB.drewN _).keep hb1 | exact (hB.drew.alloc _).keep hb1 | exact ((hB.alloc _).alloc _).keep hb1 | exact ((hB.alloc _).alloc _).drew.keep hb1 | exact (((hB.alloc _).alloc _).alloc _).keep hb1); replace hP := (by first | exact hP.keep hb1 | exact hP.drew.keep hb1 | exact (hP.alloc _).keep hb1 | exact (hP.alloc _).drew.keep hb1 | exact (hP.drewN _).keep hb1 | exact (hP.drew.alloc _).keep hb1 | exact ((hP.alloc _).alloc _).keep hb1 | exact ((hP.alloc _).alloc _).drew.keep hb1 | exact (((hP.alloc _).alloc _).alloc _).keep hb1); clear hB_l hB_0 hB_1 hB_2 hB_3 hP_l hP_0; have hB_l := hB.lt; have hB_0 := hB.cell 0 _ rfl; have hB_1 := hB.cell 1 _ rfl; have hB_2 := hB.cell 2 _ rfl; have hB_3 := hB.cell 3 _ rfl; have hP_l := hP.lt; have hP_0 := hP.cell 0 _ rfl; rw [HW.out])
    go_wp2_with fail
    refine hK.out _ _ ?_ (fun hHeld => ?_)
    · (try dsimp only); exact ⟨hB_0, hB_1, hB_2, hB_3, hP_0⟩
    clear hK K
    (try simp only [Act.put]); (try simp only [List.setIfInBounds_toArray]); (try simp only [List.set_cons_succ]); (try simp only [List.set_cons_zero])
    refine held_take (i := 4) (d := 12) (v := ?_) rfl rfl (by kernel_rfl) (by kernel_rfl) (by kernel_rfl) (fun _ _ _ h => h) (Or.inl ⟨by rfl, ?_⟩) (by assumption) ?_
    rotate_left
    · (intro w hSw; (try dsimp only at hSw); go_simp; (try with_reducible rfl))
    (try simp only [List.set_cons_zero, List.set_cons_succ])
    refine held_take (i := 5) (d := 13) (v := ?_) rfl rfl (by kernel_rfl) (by kernel_rfl) (by kernel_rfl) (fun _ _ _ h => h) (Or.inl ⟨by rfl, ?_⟩) (by assumption) ?_
    rotate_left
    · (intro w hSw; (try dsimp only at hSw); go_simp; (try with_reducible rfl))
    (try simp only [List.set_cons_zero, List.set_cons_succ])
    refine held_take (i := 6) (d := 14) (v := undef) rfl rfl (by kernel_rfl) (by kernel_rfl) (by kernel_rfl) (fun _ _ _ h => h) (Or.inr ⟨by rfl, rfl⟩) (by assumption) ?_
    (try simp only [List.set_cons_zero, List.set_cons_succ])
    refine held_take (i := 7) (d := 15) (v := undef) rfl rfl (by kernel_rfl) (by kernel_rfl) (by kernel_rfl) (fun _ _ _ h => h) (Or.inr ⟨by rfl, rfl⟩) (by assumption) ?_
    (try simp only [List.set_cons_zero, List.set_cons_succ])
    refine held_take (i := 8) (d := 16) (v := undef) rfl rfl (by kernel_rfl) (by kernel_rfl) (by kernel_rfl) (fun _ _ _ h => h) (Or.inr ⟨by rfl, rfl⟩) (by assumption) ?_
    (try simp only [List.set_cons_zero, List.set_cons_succ])
    refine held_take (i := 9) (d := 17) (v := ?_) rfl rfl (by kernel_rfl) (by kernel_rfl) (by kernel_rfl) (fun _ _ _ h => h) (Or.inl ⟨by rfl, ?_⟩) (by assumption) ?_
    rotate_left
    · (intro w hSw; (try dsimp only at hSw); go_simp; (try with_reducible rfl))
    (try simp only [List.set_cons_zero, List.set_cons_succ])
    refine wpAnyH_done (by kernel_rfl) ?_ _
    go_wp2
    go_ret
    exact ⟨by rw [hR.out]; rfl, hW⟩
  subst hnp
  have hlenOK := Lib.hid (show decide (P.length = N0 + n) = true by rw [hpl.out, hNS.out]; simp)
  rcases hal : allR P 0 999
  · have hall := Lib.hid (show allF (fun x => inR x 0 999) P = false from hal)
    have hR := Lib.hid (show rightB P L N0 n = false by unfold rightB; rw [hal]; simp)
    go_enter Try.func86, Try.ntmps86
    go_wp2_with fail
    go_region_held3 (fun w' => w'.cell? ⟨w.heap.size, 0, none⟩ = some (.int .i64 a) ∧ w'.cell? ⟨w.heap.size, 1, none⟩ = some (.int .i64 b) ∧ w'.cell? ⟨w.heap.size, 2, none⟩ = some (.slice Ag n cg) ∧ w'.cell? ⟨w.heap.size, 3, none⟩ = some (.slice Ao m co) ∧ w'.cell? ⟨w.heap.size + 1, 0, none⟩ = some (.slice Ap np cp)) (first | exact ⟨hB_0, hB_1, hB_2, hB_3, hP_0⟩ | go_keep) (first | (go_at_call 95; refine (impl_wires _ _ _ _ _ _ _ _ _ (by omega) (by omega) (by omega) (by omega) (by omega)).mono ?_; rintro e w1 ⟨rfl, hb1⟩; replace hW := (by first | exact hW.call hb1 | exact hW.drew.call hb1 | exact (hW.alloc _).call hb1 | exact (hW.alloc _).drew.call hb1 | exact (hW.drewN _).call hb1 | exact (hW.drew.alloc _).call hb1 | exact ((hW.alloc _).alloc _).call hb1 | exact ((hW.alloc _).alloc _).drew.call hb1 | exact (((hW.alloc _).alloc _).alloc _).call hb1); replace hB := (by first | exact hB.keep hb1 | exact hB.drew.keep hb1 | exact (hB.alloc _).keep hb1 | exact (hB.alloc _).drew.keep hb1 | exact (hB.drewN _).keep hb1 | exact (hB.drew.alloc _).keep hb1 | exact ((hB.alloc _).alloc _).keep hb1 | exact ((hB.alloc _).alloc _).drew.keep hb1 | exact (((hB.alloc _).alloc _).alloc _).keep hb1); replace hP := (by first | exact hP.keep hb1 | exact hP.drew.keep hb1 | exact (hP.alloc _).keep hb1 | exact (hP.alloc _).drew.keep hb1 | exact (hP.drewN _).keep hb1 | exact (hP.drew.alloc _).keep hb1 | exact ((hP.alloc _).alloc _).keep hb1 | exact ((hP.alloc _).alloc _).drew.keep hb1 | exact (((hP.alloc _).alloc _).alloc _).keep hb1); clear hB_l hB_0 hB_1 hB_2 hB_3 hP_l hP_0; have hB_l := hB.lt; have hB_0 := hB.cell 0 _ rfl; have hB_1 := hB.cell 1 _ rfl; have hB_2 := hB.cell 2 _ rfl; have hB_3 := hB.cell 3 _ rfl; have hP_l := hP.lt; have hP_0 := hP.cell 0 _ rfl; rw [HW.out]) | (go_at_call 99; refine (impl_areAllb Ap np cp P 118 #[] (fun x => inR x 0 999) _ enters_isPlan_1 (fun x W' hW' => isPlan_1 x W') (hp.keep (by first | exact hW | exact hW.drew))).mono ?_; rintro e w2 ⟨rfl, hb2⟩; rw [show allF (fun x => inR x 0 999) P = false from hall.out]; replace hW := (by first | exact hW.call hb2 | exact hW.drew.call hb2); replace hB := (by first | exact hB.keep hb2 | exact hB.drew.keep hb2); replace hP := (by first | exact hP.keep hb2 | exact hP.drew.keep hb2); clear hB_l hB_0 hB_1 hB_2 hB_3 hP_l hP_0; have hB_l := hB.lt; have hB_0 := hB.cell 0 _ rfl; have hB_1 := hB.cell 1 _ rfl; have hB_2 := hB.cell 2 _ rfl; have hB_3 := hB.cell 3 _ rfl; have hP_l := hP.lt; have hP_0 := hP.cell 0 _ rfl))
    go_wp2
    go_ret
    exact ⟨by rw [hR.out]; rfl, hW⟩
  have hall := Lib.hid (show allF (fun x => inR x 0 999) P = true from hal)
  go_enter Try.func86, Try.ntmps86
  go_wp2_with fail
  go_region_held3 (fun w' => w'.cell? ⟨w.heap.size, 0, none⟩ = some (.int .i64 a) ∧ w'.cell? ⟨w.heap.size, 1, none⟩ = some (.int .i64 b) ∧ w'.cell? ⟨w.heap.size, 2, none⟩ = some (.slice Ag n cg) ∧ w'.cell? ⟨w.heap.size, 3, none⟩ = some (.slice Ao m co) ∧ w'.cell? ⟨w.heap.size + 1, 0, none⟩ = some (.slice Ap np cp)) (first | exact ⟨hB_0, hB_1, hB_2, hB_3, hP_0⟩ | go_keep) (first | (go_at_call 95; refine (impl_wires _ _ _ _ _ _ _ _ _ (by omega) (by omega) (by omega) (by omega) (by omega)).mono ?_; rintro e w1 ⟨rfl, hb1⟩; replace hW := (by first | exact hW.call hb1 | exact hW.drew.call hb1 | exact (hW.alloc _).call hb1 | exact (hW.alloc _).drew.call hb1 | exact (hW.drewN _).call hb1 | exact (hW.drew.alloc _).call hb1 | exact ((hW.alloc _).alloc _).call hb1 | exact ((hW.alloc _).alloc _).drew.call hb1 | exact (((hW.alloc _).alloc _).alloc _).call hb1); replace hB := (by first | exact hB.keep hb1 | exact hB.drew.keep hb1 | exact (hB.alloc _).keep hb1 | exact (hB.alloc _).drew.keep hb1 | exact (hB.drewN _).keep hb1 | exact (hB.drew.alloc _).keep hb1 | exact ((hB.alloc _).alloc _).keep hb1 | exact ((hB.alloc _).alloc _).drew.keep hb1 | exact (((hB.alloc _).alloc _).alloc _).keep hb1); replace hP := (by first | exact hP.keep hb1 | exact hP.drew.keep hb1 | exact (hP.alloc _).keep hb1 | exact (hP.alloc _).drew.keep hb1 | exact (hP.drewN _).keep hb1 | exact (hP.drew.alloc _).keep hb1 | exact ((hP.alloc _).alloc _).keep hb1 | exact ((hP.alloc _).alloc _).drew.keep hb1 | exact (((hP.alloc _).alloc _).alloc _).keep hb1); clear hB_l hB_0 hB_1 hB_2 hB_3 hP_l hP_0; have hB_l := hB.lt; have hB_0 := hB.cell 0 _ rfl; have hB_1 := hB.cell 1 _ rfl; have hB_2 := hB.cell 2 _ rfl; have hB_3 := hB.cell 3 _ rfl; have hP_l := hP.lt; have hP_0 := hP.cell 0 _ rfl; rw [HW.out]) | (go_at_call 99; refine (impl_areAllb Ap np cp P 118 #[] (fun x => inR x 0 999) _ enters_isPlan_1 (fun x W' hW' => isPlan_1 x W') (hp.keep (by first | exact hW | exact hW.drew))).mono ?_; rintro e w2 ⟨rfl, hb2⟩; rw [show allF (fun x => inR x 0 999) P = true from hall.out]; replace hW := (by first | exact hW.call hb2 | exact hW.drew.call hb2); replace hB := (by first | exact hB.keep hb2 | exact hB.drew.keep hb2); replace hP := (by first | exact hP.keep hb2 | exact hP.drew.keep hb2); clear hB_l hB_0 hB_1 hB_2 hB_3 hP_l hP_0; have hB_l := hB.lt; have hB_0 := hB.cell 0 _ rfl; have hB_1 := hB.cell 1 _ rfl; have hB_2 := hB.cell 2 _ rfl; have hB_3 := hB.cell 3 _ rfl; have hP_l := hP.lt; have hP_0 := hP.cell 0 _ rfl))
  go_wp2_with fail
  refine (HLU _ hW).out.mono ?_
  rintro e w6 ⟨A2, c2, rfl, ho2, hb6⟩
  have hr2 := ho2.rd
  clear ho2 HLU
  obtain ⟨hle5, hle6⟩ := hr2.le
  replace hW := hW.call hb6
  replace hB := hB.keep hb6
  replace hP := hP.keep hb6
  clear hB_l hB_0 hB_1 hB_2 hB_3 hP_l hP_0
  have hB_l := hB.lt; have hB_0 := hB.cell 0 _ rfl; have hB_1 := hB.cell 1 _ rfl; have hB_2 := hB.cell 2 _ rfl; have hB_3 := hB.cell 3 _ rfl; have hP_l := hP.lt; have hP_0 := hP.cell 0 _ rfl
  rcases hd : difB (pickL P (liveL L (-1) N0))
  · have hR := Lib.hid (show rightB P L N0 n = false by unfold rightB; rw [hd]; simp)
    go_wp2_with fail
    go_region_held3 (fun w' => w'.cell? ⟨w.heap.size, 0, none⟩ = some (.int .i64 a) ∧ w'.cell? ⟨w.heap.size, 1, none⟩ = some (.int .i64 b) ∧ w'.cell? ⟨w.heap.size, 2, none⟩ = some (.slice Ag n cg) ∧ w'.cell? ⟨w.heap.size, 3, none⟩ = some (.slice Ao m co) ∧ w'.cell? ⟨w.heap.size + 1, 0, none⟩ = some (.slice Ap np cp)) (first | exact ⟨hB_0, hB_1, hB_2, hB_3, hP_0⟩ | go_keep) (first | (go_at_call 82; refine (impl_liveBehind a b Ag Ao n cg m co (-1) N0 np A2 c2 L _ (by first | exact hr2 | exact hr2.drew) (by omega) (by omega) (by omega) (by omega) (by omega) (by omega) (by omega) (by omega) (by omega)).mono ?_; rintro e w1 ⟨A3, p3, c3, rfl, ho3, hb3⟩; replace hW := (by first | exact hW.call hb3 | exact hW.drew.call hb3 | exact (hW.alloc _).call hb3 | exact (hW.alloc _).drew.call hb3 | exact (hW.drewN _).call hb3 | exact (hW.drew.alloc _).call hb3 | exact ((hW.alloc _).alloc _).call hb3 | exact ((hW.alloc _).alloc _).drew.call hb3 | exact (((hW.alloc _).alloc _).alloc _).call hb3); replace hB := (by first | exact hB.keep hb3 | exact hB.drew.keep hb3 | exact (hB.alloc _).keep hb3 | exact (hB.alloc _).drew.keep hb3 | exact (hB.drewN _).keep hb3 | exact (hB.drew.alloc _).keep hb3 | exact ((hB.alloc _).alloc _).keep hb3 | exact ((hB.alloc _).alloc _).drew.keep hb3 | exact (((hB.alloc _).alloc _).alloc _).keep hb3); replace hP := (by first | exact hP.keep hb3 | exact hP.drew.keep hb3 | exact (hP.alloc _).keep hb3 | exact (hP.alloc _).drew.keep hb3 | exact (hP.drewN _).keep hb3 | exact (hP.drew.alloc _).keep hb3 | exact ((hP.alloc _).alloc _).keep hb3 | exact ((hP.alloc _).alloc _).drew.keep hb3 | exact (((hP.alloc _).alloc _).alloc _).keep hb3); clear hB_l hB_0 hB_1 hB_2 hB_3 hP_l hP_0; have hB_l := hB.lt; have hB_0 := hB.cell 0 _ rfl; have hB_1 := hB.cell 1 _ rfl; have hB_2 := hB.cell 2 _ rfl; have hB_3 := hB.cell 3 _ rfl; have hP_l := hP.lt; have hP_0 := hP.cell 0 _ rfl; replace hr2 := (by first | exact hr2.keep hb3 | exact (hr2.keep (Bl.refl _).drew).keep hb3 | exact hr2.keep ((Bl.refl _).drew.call hb3)); have hp3 := Lib.hid ho3.length; have hl3 := liveL_len L (-1) N0; rw [hp3.out] at hl3) | (go_at_call 94; refine (impl_at Ap A3 np cp p3 c3 P (liveL L (-1) N0) _ (hp.keep (by first | exact hW | exact hW.drew)) (by first | exact ho3.rd | exact ho3.rd.drew) (fun x hx => by have := liveL_mem L (-1) N0 x hx; omega) (by omega)).mono ?_; rintro e w1 ⟨A4, c4, rfl, ho4, hb4⟩; replace hW := (by first | exact hW.call hb4 | exact hW.drew.call hb4 | exact (hW.alloc _).call hb4 | exact (hW.alloc _).drew.call hb4 | exact (hW.drewN _).call hb4 | exact (hW.drew.alloc _).call hb4 | exact ((hW.alloc _).alloc _).call hb4 | exact ((hW.alloc _).alloc _).drew.call hb4 | exact (((hW.alloc _).alloc _).alloc _).call hb4); replace hB := (by first | exact hB.keep hb4 | exact hB.drew.keep hb4 | exact (hB.alloc _).keep hb4 | exact (hB.alloc _).drew.keep hb4 | exact (hB.drewN _).keep hb4 | exact (hB.drew.alloc _).keep hb4 | exact ((hB.alloc _).alloc _).keep hb4 | exact ((hB.alloc _).alloc _).drew.keep hb4 | exact (((hB.alloc _).alloc _).alloc _).keep hb4); replace hP := (by first | exact hP.keep hb4 | exact hP.drew.keep hb4 | exact (hP.alloc _).keep hb4 | exact (hP.alloc _).drew.keep hb4 | exact (hP.drewN _).keep hb4 | exact (hP.drew.alloc _).keep hb4 | exact ((hP.alloc _).alloc _).keep hb4 | exact ((hP.alloc _).alloc _).drew.keep hb4 | exact (((hP.alloc _).alloc _).alloc _).keep hb4); clear hB_l hB_0 hB_1 hB_2 hB_3 hP_l hP_0; have hB_l := hB.lt; have hB_0 := hB.cell 0 _ rfl; have hB_1 := hB.cell 1 _ rfl; have hB_2 := hB.cell 2 _ rfl; have hB_3 := hB.cell 3 _ rfl; have hP_l := hP.lt; have hP_0 := hP.cell 0 _ rfl; replace hr2 := (by first | exact hr2.keep hb4 | exact (hr2.keep (Bl.refl _).drew).keep hb4 | exact hr2.keep ((Bl.refl _).drew.call hb4))) | (go_at_call 119; refine (impl_areDifferent _ _ _ _ _ (by first | exact ho4.rd | exact ho4.rd.drew)).mono ?_; rintro e w5 ⟨rfl, rfl⟩; rw [hd]))
    go_wp2
    go_ret
    exact ⟨by rw [hR.out]; rfl, hW⟩
  have hR := Lib.hid (show rightB P L N0 n = gatesB P L N0 n by unfold rightB; rw [hd, hal, hlenOK.out]; simp)
  clear hal
  go_wp2_with fail
  go_region_held3 (fun w' => w'.cell? ⟨w.heap.size, 0, none⟩ = some (.int .i64 a) ∧ w'.cell? ⟨w.heap.size, 1, none⟩ = some (.int .i64 b) ∧ w'.cell? ⟨w.heap.size, 2, none⟩ = some (.slice Ag n cg) ∧ w'.cell? ⟨w.heap.size, 3, none⟩ = some (.slice Ao m co) ∧ w'.cell? ⟨w.heap.size + 1, 0, none⟩ = some (.slice Ap np cp)) (first | exact ⟨hB_0, hB_1, hB_2, hB_3, hP_0⟩ | go_keep) (first | (go_at_call 82; refine (impl_liveBehind a b Ag Ao n cg m co (-1) N0 np A2 c2 L _ (by first | exact hr2 | exact hr2.drew) (by omega) (by omega) (by omega) (by omega) (by omega) (by omega) (by omega) (by omega) (by omega)).mono ?_; rintro e w1 ⟨A3, p3, c3, rfl, ho3, hb3⟩; replace hW := (by first | exact hW.call hb3 | exact hW.drew.call hb3 | exact (hW.alloc _).call hb3 | exact (hW.alloc _).drew.call hb3 | exact (hW.drewN _).call hb3 | exact (hW.drew.alloc _).call hb3 | exact ((hW.alloc _).alloc _).call hb3 | exact ((hW.alloc _).alloc _).drew.call hb3 | exact (((hW.alloc _).alloc _).alloc _).call hb3); replace hB := (by first | exact hB.keep hb3 | exact hB.drew.keep hb3 | exact (hB.alloc _).keep hb3 | exact (hB.alloc _).drew.keep hb3 | exact (hB.drewN _).keep hb3 | exact (hB.drew.alloc _).keep hb3 | exact ((hB.alloc _).alloc _).keep hb3 | exact ((hB.alloc _).alloc _).drew.keep hb3 | exact (((hB.alloc _).alloc _).alloc _).keep hb3); replace hP := (by first | exact hP.keep hb3 | exact hP.drew.keep hb3 | exact (hP.alloc _).keep hb3 | exact (hP.alloc _).drew.keep hb3 | exact (hP.drewN _).keep hb3 | exact (hP.drew.alloc _).keep hb3 | exact ((hP.alloc _).alloc _).keep hb3 | exact ((hP.alloc _).alloc _).drew.keep hb3 | exact (((hP.alloc _).alloc _).alloc _).keep hb3); clear hB_l hB_0 hB_1 hB_2 hB_3 hP_l hP_0; have hB_l := hB.lt; have hB_0 := hB.cell 0 _ rfl; have hB_1 := hB.cell 1 _ rfl; have hB_2 := hB.cell 2 _ rfl; have hB_3 := hB.cell 3 _ rfl; have hP_l := hP.lt; have hP_0 := hP.cell 0 _ rfl; replace hr2 := (by first | exact hr2.keep hb3 | exact (hr2.keep (Bl.refl _).drew).keep hb3 | exact hr2.keep ((Bl.refl _).drew.call hb3)); have hp3 := Lib.hid ho3.length; have hl3 := liveL_len L (-1) N0; rw [hp3.out] at hl3) | (go_at_call 94; refine (impl_at Ap A3 np cp p3 c3 P (liveL L (-1) N0) _ (hp.keep (by first | exact hW | exact hW.drew)) (by first | exact ho3.rd | exact ho3.rd.drew) (fun x hx => by have := liveL_mem L (-1) N0 x hx; omega) (by omega)).mono ?_; rintro e w1 ⟨A4, c4, rfl, ho4, hb4⟩; replace hW := (by first | exact hW.call hb4 | exact hW.drew.call hb4 | exact (hW.alloc _).call hb4 | exact (hW.alloc _).drew.call hb4 | exact (hW.drewN _).call hb4 | exact (hW.drew.alloc _).call hb4 | exact ((hW.alloc _).alloc _).call hb4 | exact ((hW.alloc _).alloc _).drew.call hb4 | exact (((hW.alloc _).alloc _).alloc _).call hb4); replace hB := (by first | exact hB.keep hb4 | exact hB.drew.keep hb4 | exact (hB.alloc _).keep hb4 | exact (hB.alloc _).drew.keep hb4 | exact (hB.drewN _).keep hb4 | exact (hB.drew.alloc _).keep hb4 | exact ((hB.alloc _).alloc _).keep hb4 | exact ((hB.alloc _).alloc _).drew.keep hb4 | exact (((hB.alloc _).alloc _).alloc _).keep hb4); replace hP := (by first | exact hP.keep hb4 | exact hP.drew.keep hb4 | exact (hP.alloc _).keep hb4 | exact (hP.alloc _).drew.keep hb4 | exact (hP.drewN _).keep hb4 | exact (hP.drew.alloc _).keep hb4 | exact ((hP.alloc _).alloc _).keep hb4 | exact ((hP.alloc _).alloc _).drew.keep hb4 | exact (((hP.alloc _).alloc _).alloc _).keep hb4); clear hB_l hB_0 hB_1 hB_2 hB_3 hP_l hP_0; have hB_l := hB.lt; have hB_0 := hB.cell 0 _ rfl; have hB_1 := hB.cell 1 _ rfl; have hB_2 := hB.cell 2 _ rfl; have hB_3 := hB.cell 3 _ rfl; have hP_l := hP.lt; have hP_0 := hP.cell 0 _ rfl; replace hr2 := (by first | exact hr2.keep hb4 | exact (hr2.keep (Bl.refl _).drew).keep hb4 | exact hr2.keep ((Bl.refl _).drew.call hb4))) | (go_at_call 119; refine (impl_areDifferent _ _ _ _ _ (by first | exact ho4.rd | exact ho4.rd.drew)).mono ?_; rintro e w5 ⟨rfl, rfl⟩; rw [hd]))
  go_wp2
  go_loopw [30] (fun i wr => ∃ k : Nat, k ≤ n ∧ i = .int .i64 k ∧ Hid (∀ j, j < k → gateB P L N0 j = true) ∧ RdI wr A2 np c2 L ∧ Blk wr w.heap.size 26 #[.int .i64 a, .int .i64 b, .slice Ag n cg, .slice Ao m co] ∧ Blk wr (w.heap.size + 1) 24 #[.slice Ap np cp] ∧ Bl w wr) (fun i _ => n - (intOf i).toNat)
  case atStart => exact ⟨0, by omega, rfl, Lib.hid (fun j hj => by omega), hr2, hB, hP, hW⟩
  case round =>
    clear hW hr2 hP hB
    clear hB_l hB_0 hB_1 hB_2 hB_3 hP_l hP_0
    obtain ⟨k, hk, rfl, hq, hr2, hB, hP, hW⟩ := hrel
    have hB_l := hB.lt; have hB_0 := hB.cell 0 _ rfl; have hB_1 := hB.cell 1 _ rfl; have hB_2 := hB.cell 2 _ rfl; have hB_3 := hB.cell 3 _ rfl; have hP_l := hP.lt; have hP_0 := hP.cell 0 _ rfl
    by_cases hlt : k < n
    · have ik : (k : Int) < n := by omega
      have hwk : IntKind.i64.wrap (a + b + (k : Int)) = ((N0 + k : Nat) : Int) := by rw [IntWalk.i64_in _ (by omega)]; omega
      have hst := Lib.hid (show gateB P L N0 k = !(liveL L (k : Int) (N0 + k + 1)).any (clash P (N0 + k)) from rfl)
      go_wp2_with (go_at_call 52; refine (impl_inputs _ _ _ _ _ _ _ _ _ (by omega) (by omega) (by omega) (by omega)).mono ?_; rintro e w7 ⟨rfl, hb7⟩; replace hW := hW.call hb7; replace hB := hB.keep hb7; replace hP := hP.keep hb7; replace hr2 := hr2.keep hb7; clear hB_l hB_0 hB_1 hB_2 hB_3 hP_l hP_0; have hB_l := hB.lt; have hB_0 := hB.cell 0 _ rfl; have hB_1 := hB.cell 1 _ rfl; have hB_2 := hB.cell 2 _ rfl; have hB_3 := hB.cell 3 _ rfl; have hP_l := hP.lt; have hP_0 := hP.cell 0 _ rfl)
      have h7 := Blk.new w7 3 #[.int .i64 ((N0 + k : Nat) : Int)]
      replace hW := hW.alloc (.cells #[.int .i64 ((N0 + k : Nat) : Int)] 3)
      replace hB := hB.alloc (.cells #[.int .i64 ((N0 + k : Nat) : Int)] 3)
      replace hP := hP.alloc (.cells #[.int .i64 ((N0 + k : Nat) : Int)] 3)
      replace hr2 := hr2.keep ((Bl.refl w7).alloc (.cells #[.int .i64 ((N0 + k : Nat) : Int)] 3))
      refine (impl_liveBehind a b Ag Ao n cg m co (k : Int) (N0 + k + 1) np A2 c2 L _ hr2 (by omega) (by omega) (by omega) (by omega) (by omega) (by omega) (by omega) (by omega) (by omega)).mono ?_
      rintro e w8 ⟨A8, p8, c8, rfl, ho8, hb8⟩
      replace hW := hW.call hb8
      replace hB := hB.keep hb8
      replace hP := hP.keep hb8
      replace hr2 := hr2.keep hb8
      replace h7 := h7.keep hb8
      have hcon : AnswersI w8 121 #[.pointer (some ⟨w7.heap.size, 0, none⟩), .pointer (some ⟨w.heap.size + 1, 0, none⟩)] (liveL L (k : Int) (N0 + k + 1)) (clash P (N0 + k)) := fun x W' hx hW' =>
        isPlan_2 x (N0 + k) np cp w7.heap.size (w.heap.size + 1) Ap P W' (liveL_mem L _ _ x hx).1 (by have := (liveL_mem L _ _ x hx).2; omega) (by omega) (hp.keep (hW.call hW')) ((h7.keep hW').cell 0 _ rfl) ((hP.keep hW').cell 0 _ rfl)
      have HC := Lib.hid (slices_ContainsFunc_I A8 p8 c8 (liveL L (k : Int) (N0 + k + 1)) 121 _ _ w8 enters_isPlan_2 hcon ho8.rd)
      clear hcon
      rcases hcl : (liveL L (k : Int) (N0 + k + 1)).any (clash P (N0 + k))
      · rw [hcl] at HC
        have hst2 := Lib.hid (show ∀ j, j < k + 1 → gateB P L N0 j = true from fun j hj => by
          rcases Nat.lt_or_ge j k with h1 | h1
          · exact hq.out j h1
          · have : j = k := by omega
            subst this
            rw [hst.out, hcl]; rfl)
        go_wp2_with (go_at_call 120; refine HC.out.mono ?_; rintro e w9 ⟨rfl, hb9⟩)
        go_roundw
        case rel => exact ⟨k + 1, by omega, by go_num, hst2, hr2.keep hb9, hB.keep hb9, hP.keep hb9, hW.call hb9⟩
        case measure => simp [intOf]; omega
      · rw [hcl] at HC
        have hRf := Lib.hid (show gatesB P L N0 n = false from gatesB_not hlt (by rw [hst.out, hcl]; rfl))
        go_wp2_with (go_at_call 120; refine HC.out.mono ?_; rintro e w9 ⟨rfl, hb9⟩)
        go_ret
        exact ⟨by rw [hR.out, hRf.out]; rfl, hW.call hb9⟩
    · have hRt := Lib.hid (show gatesB P L N0 n = true from gatesB_of (fun j hj => hq.out j (by omega)))
      go_wp2
      go_ret
      exact ⟨by rw [hR.out, hRt.out]; rfl, hW⟩
theorem spec_l1Has (A : Option Addr) (n c : Nat) (l : List Int) (x : Int) (w : World) (h : RdI w A n c l) :
    Calls Try.prog 124 #[.slice A n c, .int .i64 x] w fun e w' => e = .returned (.bool (memB l x)) ∧ w = w' := by
  obtain ⟨hle1, hle2⟩ := h.le
  have hlen := Lib.hid h.length
  go_enter Try.func124, Try.ntmps124
  go_wp2
  go_loop [9] (fun i => ∃ k : Nat, k ≤ n ∧ i = .int .i64 k ∧ Hid (∀ j, j < k → l[j]? ≠ some x)) (fun i => n - (intOf i).toNat)
  case atStart => exact ⟨0, by omega, rfl, Lib.hid (fun j hj => by omega)⟩
  case round =>
    obtain ⟨k, hk, rfl, hq⟩ := hrel
    by_cases hlt : k < n
    · obtain ⟨ad, y, rfl, hadb, hy, hcell⟩ := h.at_ hlt
      have HY := Lib.hid hy
      clear hy
      have ik : (k : Int) < n := by omega
      rcases hxy : (y == x)
      · have hst := Lib.hid (show ∀ j, j < k + 1 → l[j]? ≠ some x from fun j hj he => by
          rcases Nat.lt_or_ge j k with h1 | h1
          · exact hq.out j h1 he
          · have : j = k := by omega
            subst this
            rw [HY.out] at he
            injection he with he
            simp [he] at hxy)
        go_wp2
        go_round
        case rel => exact ⟨k + 1, by omega, by go_num, hst⟩
        case measure => simp [intOf]; omega
      · have hm := Lib.hid (show memB l x = true by
          have : y = x := by simpa using hxy
          subst this
          exact decide_eq_true (List.mem_of_getElem? HY.out))
        go_wp2
        go_ret
        exact ⟨by rw [hm.out]; rfl, rfl⟩
    · have he : k = n := by omega
      have hm := Lib.hid (show memB l x = false by
        refine decide_eq_false (fun hx => ?_)
        obtain ⟨j, hj, he⟩ := List.mem_iff_getElem.1 hx
        exact hq.out j (by rw [hlen.out] at hj; omega) (by rw [List.getElem?_eq_getElem hj, he]))
      go_wp2
      go_ret
      exact ⟨by rw [hm.out]; rfl, rfl⟩
set_option maxRecDepth 20000 in
set_option maxHeartbeats 8000000 in
theorem spec_svRight (a b : Int) (Ag Ao Ap : Option Addr) (n cg m co np cp : Nat) (gl : List Gt) (ol P : List Int) (w : World) (hg : RdG w Ag n cg gl) (ho : RdI w Ao m co ol) (hp : RdI w Ap np cp P) (hgood : goodC a b gl ol = true) :
    Calls Try.prog 89 #[.agg #[.int .i64 a, .int .i64 b, .slice Ag n cg, .slice Ao m co], .slice Ap np cp] w fun e w' => e = .returned (.bool (rightB P (luL ((a + b).toNat + n) gl ol) (a + b).toNat n)) ∧ Bl w w' := by
  obtain ⟨hle1, hle2⟩ := hg.le
  obtain ⟨hle3, hle4⟩ := hp.le
  have hgl := Lib.hid hg.2
  have hpl := Lib.hid hp.length
  obtain ⟨a0, a1, b0, b1, hn, _, _, _⟩ := goodC_facts hgood
  rw [hg.2] at hn
  have HGD := Lib.hid hgood
  clear hgood
  obtain ⟨N0, hN0⟩ : ∃ N0 : Nat, a + b = N0 := ⟨(a + b).toNat, by omega⟩
  have hT : (a + b).toNat = N0 := by omega
  obtain ⟨WN, hWN⟩ : ∃ WN : Nat, N0 + n = WN := ⟨_, rfl⟩
  have HLU := fun W (hW : Bl w W) => Lib.hid (spec_svLast a b Ag Ao n cg m co gl ol W (hg.keep hW) (ho.keep hW) HGD.out)
  rw [hT, hWN] at HLU
  rw [hT, hWN]
  have hNS := Lib.hid hWN
  have HW := Lib.hid (show a + b + (n : Int) = WN by omega)
  have hWI : (WN : Int) ≤ N0 + n := by omega
  have hWJ : (N0 : Int) + n ≤ WN := by omega
  have hNa : (N0 : Int) ≤ a + b := by omega
  have hNb : a + b ≤ (N0 : Int) := by omega
  clear hT hWN hN0
  generalize luL WN gl ol = L at *
  have hW := (Bl.refl w).alloc (.cells #[.int .i64 a, .int .i64 b, .slice Ag n cg, .slice Ao m co] 26)
  have hB := Blk.new w 26 #[.int .i64 a, .int .i64 b, .slice Ag n cg, .slice Ao m co]
  by_cases hnp : np = WN
  case neg =>
    have hR := Lib.hid (show rightB P L N0 n = false by
      unfold rightB
      rw [hpl.out, hNS.out]
      simp [hnp])
    have hne : ((np : Int) != (WN : Int)) = true := by simp; omega
    have hne2 : ((np : Int) == (WN : Int)) = false := by simp; omega
    go_enter Try.func89, Try.ntmps89
    go_wp2_with (first | (go_at_call 104; refine (spec_ciWires _ _ _ _ _ _ _ _ _ (by omega) (by omega) (by omega) (by omega) (by omega)).mono ?_; rintro e w1 ⟨rfl, hb1⟩; rw [HW.out]; replace hW := hW.call hb1; replace hB := hB.keep hb1; have hB_l := hB.lt; have hB_0 := hB.cell 0 _ rfl; have hB_1 := hB.cell 1 _ rfl; have hB_2 := hB.cell 2 _ rfl; have hB_3 := hB.cell 3 _ rfl))
    go_ret
    exact ⟨by rw [hR.out]; rfl, hW⟩
  subst hnp
  have hlenOK := Lib.hid (show decide (P.length = N0 + n) = true by rw [hpl.out, hNS.out]; simp)
  rcases hal : allR P 0 999
  · have hR := Lib.hid (show rightB P L N0 n = false by unfold rightB; rw [hal]; simp)
    go_enter Try.func89, Try.ntmps89
    go_wp2_with (first | (go_at_call 104; refine (spec_ciWires _ _ _ _ _ _ _ _ _ (by omega) (by omega) (by omega) (by omega) (by omega)).mono ?_; rintro e w1 ⟨rfl, hb1⟩; rw [HW.out]; replace hW := hW.call hb1; replace hB := hB.keep hb1; have hB_l := hB.lt; have hB_0 := hB.cell 0 _ rfl; have hB_1 := hB.cell 1 _ rfl; have hB_2 := hB.cell 2 _ rfl; have hB_3 := hB.cell 3 _ rfl) | (go_at_call 103; refine (spec_l1All Ap np cp P 0 999 _ (hp.keep hW)).mono ?_; rintro e w2 ⟨rfl, rfl⟩; rw [hal]))
    go_ret
    exact ⟨by rw [hR.out]; rfl, hW⟩
  go_enter Try.func89, Try.ntmps89
  go_wp2_with (first | (go_at_call 104; refine (spec_ciWires _ _ _ _ _ _ _ _ _ (by omega) (by omega) (by omega) (by omega) (by omega)).mono ?_; rintro e w1 ⟨rfl, hb1⟩; rw [HW.out]; replace hW := hW.call hb1; replace hB := hB.keep hb1; have hB_l := hB.lt; have hB_0 := hB.cell 0 _ rfl; have hB_1 := hB.cell 1 _ rfl; have hB_2 := hB.cell 2 _ rfl; have hB_3 := hB.cell 3 _ rfl) | (go_at_call 103; refine (spec_l1All Ap np cp P 0 999 _ (hp.keep hW)).mono ?_; rintro e w2 ⟨rfl, rfl⟩; rw [hal]) | (go_at_call 68; refine (HLU _ hW).out.mono ?_; rintro e w6 ⟨A2, c2, rfl, ho2, hb6⟩; replace hW := hW.call hb6; replace hB := hB.keep hb6; clear hB_l hB_0 hB_1 hB_2 hB_3; have hB_l := hB.lt; have hB_0 := hB.cell 0 _ rfl; have hB_1 := hB.cell 1 _ rfl; have hB_2 := hB.cell 2 _ rfl; have hB_3 := hB.cell 3 _ rfl))
  have hr2 := ho2.rd
  have h2b := fun q hq => (ho2.blk q hq).2
  clear ho2 HLU
  obtain ⟨hle5, hle6⟩ := hr2.le
  refine (spec_svLive a b Ag Ao n cg m co (-1) N0 np A2 c2 L _ hr2 (by omega) (by omega) (by omega) (by omega) (by omega) (by omega) (by omega) (by omega) (by omega)).mono ?_
  rintro e w3 ⟨A3, p3, c3, rfl, ho3, hb3⟩
  replace hW := hW.call hb3
  replace hB := hB.keep hb3
  replace hr2 := hr2.keep hb3
  have hr3 := ho3.rd
  have h3b := fun q hq => (ho3.blk q hq).2
  have hp3 := Lib.hid ho3.length
  have hl3 := liveL_len L (-1) N0
  rw [hp3.out] at hl3
  clear ho3
  obtain ⟨hle7, hle8⟩ := hr3.le
  have s63 := hb3.sz
  clear hB_l hB_0 hB_1 hB_2 hB_3
  obtain ⟨lv, hlv⟩ : ∃ lv, liveL L (-1) N0 = lv := ⟨_, rfl⟩
  have hmem := Lib.hid (liveL_mem L (-1) N0)
  rw [hlv] at hr3 hp3 hmem
  have HLV := Lib.hid hlv
  clear hlv
  have hown0 : OwnI (w.heap.size + 1) w3 none 0 0 ((pickL P lv).take 0) := OwnI.nil _ _
  have hap2 : ∀ a, A2 = some a → some a.block ≠ (none : Option Addr).map (·.block) := fun a ha he => by cases he
  have hap3 : ∀ a, A3 = some a → some a.block ≠ (none : Option Addr).map (·.block) := fun a ha he => by cases he
  have kB := hB.lt
  have kB2 := hB.cell 2 _ rfl
  go_wp2
  go_loopw [6, 29] (fun s i wr => ∃ z A c, z ≤ p3 ∧ i = .int .i64 (z : Nat) ∧ s = .slice A z c ∧ OwnI (w.heap.size + 1) wr A z c ((pickL P lv).take z) ∧ Hid (∀ (i : Nat) (x : Int), i < z → (pickL P lv)[i]? = some x → memB ((pickL P lv).take i) x = false) ∧ RdI wr A3 p3 c3 lv ∧ RdI wr A2 np c2 L ∧ (∀ a, A2 = some a → some a.block ≠ A.map (·.block)) ∧ (∀ a, A3 = some a → some a.block ≠ A.map (·.block)) ∧ w3.heap.size ≤ wr.heap.size ∧ Blk wr w.heap.size 26 #[.int .i64 a, .int .i64 b, .slice Ag n cg, .slice Ao m co] ∧ Bl w wr) (fun s i _ => p3 - (intOf i).toNat)
  case atStart => exact ⟨0, _, _, by omega, rfl, rfl, hown0, Lib.hid (fun i x hi => by omega), hr3, hr2, hap2, hap3, Nat.le_refl _, hB, hW⟩
  case round =>
    clear hW hown0 hr3 hr2 hap2 hap3 hB kB kB2
    obtain ⟨z, A, c, hz, rfl, rfl, hown, hq, hr3, hr2, hap2, hap3, hsz, hB, hW⟩ := hrel
    have hne0 : A.map (·.block) ≠ some w.heap.size := by intro he; have := (hown.blk _ he).1; omega
    have kB := hB.lt
    have kB0 := hB.cell 0 _ rfl
    have kB1 := hB.cell 1 _ rfl
    have kB2 := hB.cell 2 _ rfl
    have kB3 := hB.cell 3 _ rfl
    by_cases hlt : z < p3
    · obtain ⟨ad2, x, rfl, hadb2, hx, hcx⟩ := hr3.at_ hlt
      have hxb := hmem.out x (List.mem_of_getElem? hx)
      have HX := Lib.hid hx
      clear hx
      obtain ⟨X, rfl⟩ : ∃ X : Nat, x = X := ⟨x.toNat, by omega⟩
      obtain ⟨ad, v, rfl, hadb, hv, hcv⟩ := (hp.keep hW).at_ (show X < np by omega)
      have HD := Lib.hid (show (pickL P lv)[z]? = some v by unfold pickL; rw [List.getElem?_map, HX.out]; simp [hv])
      clear hv
      have iz : (z : Int) < p3 := by omega
      have iX : (X : Int) < np := by omega
      have HH := Lib.hid (spec_l1Has A z c ((pickL P lv).take z) v wr hown.rd)
      rcases hmm : memB ((pickL P lv).take z) v
      · rw [hmm] at HH
        have hst := Lib.hid (show ∀ (i : Nat) (x : Int), i < z + 1 → (pickL P lv)[i]? = some x → memB ((pickL P lv).take i) x = false from fun i x hi he => by
          rcases Nat.lt_or_ge i z with h1 | h1
          · exact hq.out i x h1 he
          · have : i = z := by omega
            subst this
            rw [HD.out] at he
            injection he with he
            subst he
            exact hmm)
        have htk := Lib.hid (take_snoc HD.out)
        go_wp2_with (first | (go_at_call 124; refine HH.out.mono ?_; rintro e w' ⟨rfl, rfl⟩) | (at_builtin; refine ap_int rfl rfl rfl (hown.alloc _) rfl (rd_new1 _ _ _) (by omega) (by have := hW.sz; have := hB.lt; simp; omega) ?_; intro A4 c4 w4 hown4 hg4 hat4))
        go_roundw
        case rel => exact ⟨z + 1, A4, c4, by omega, by go_num, rfl, by rw [htk.out]; exact hown4, hst, (hr3.keep ((Bl.refl wr).alloc _)).grown hg4 hap3, (hr2.keep ((Bl.refl wr).alloc _)).grown hg4 hap2, apart_grow hat4 (fun q hq => by have := h2b q hq; simp; omega) hap2, apart_grow hat4 (fun q hq => by have := h3b q hq; simp; omega) hap3, Nat.le_trans hsz (Nat.le_trans (Bl.sz (Bl.alloc (Bl.refl wr) _)) hg4.size), Blk.grown (hB.alloc _) hg4 (by intro he; exact hne0 he.symm), Bl.grown (hW.alloc _) hg4 (fun q hq => Nat.le_of_succ_le (hown.blk q hq).1)⟩
        case measure => simp [intOf]; omega
      · rw [hmm] at HH
        have hR := Lib.hid (show rightB P L N0 n = false by unfold rightB; rw [HLV.out, difB_not HD.out hmm]; simp)
        go_wp2_with (first | (go_at_call 124; refine HH.out.mono ?_; rintro e w' ⟨rfl, rfl⟩))
        go_ret
        exact ⟨by rw [hR.out]; rfl, hW⟩
    · have hd : difB (pickL P (liveL L (-1) N0)) = true := by
        rw [HLV.out]
        exact difB_of (fun i x hx => hq.out i x (by have := (List.getElem?_eq_some_iff.1 hx).1; rw [pickL_len, hp3.out] at this; omega) hx)
      have hR := Lib.hid (show rightB P L N0 n = gatesB P L N0 n by unfold rightB; rw [hd, hal, hlenOK.out]; simp)
      clear hd hal
      go_wp2
      go_loopw [50] (fun i wr => ∃ k : Nat, k ≤ n ∧ i = .int .i64 k ∧ Hid (∀ j, j < k → gateB P L N0 j = true) ∧ RdI wr A2 np c2 L ∧ Blk wr w.heap.size 26 #[.int .i64 a, .int .i64 b, .slice Ag n cg, .slice Ao m co] ∧ Bl w wr) (fun i _ => n - (intOf i).toNat)
      case atStart => exact ⟨0, by omega, rfl, Lib.hid (fun j hj => by omega), hr2, hB, hW⟩
      case round =>
        clear hW hr2 hB hr3 hown hq hap2 hap3 hsz kB kB0 kB1 kB2 kB3 hne0
        obtain ⟨k, hk, rfl, hq, hr2, hB, hW⟩ := hrel
        have hB_l := hB.lt; have hB_0 := hB.cell 0 _ rfl; have hB_1 := hB.cell 1 _ rfl; have hB_2 := hB.cell 2 _ rfl; have hB_3 := hB.cell 3 _ rfl
        by_cases hlt2 : k < n
        · have ik : (k : Int) < n := by omega
          obtain ⟨own, hown⟩ : ∃ own : Nat, N0 + k = own := ⟨_, rfl⟩
          have hwk : IntKind.i64.wrap (a + b + (k : Int)) = (own : Int) := by rw [IntWalk.i64_in _ (by omega)]; omega
          have hst0 := Lib.hid (show gateB P L N0 k = !(liveL L (k : Int) (N0 + k + 1)).any (clash P own) by rw [← hown]; rfl)
          have hownN : own < np := by omega
          have HO := Lib.hid hown
          clear hown
          go_wp2_with (go_at_call 55; refine (spec_ciInputs _ _ _ _ _ _ _ _ _ (by omega) (by omega) (by omega) (by omega)).mono ?_; rintro e w7 ⟨rfl, hb7⟩; replace hW := hW.call hb7; replace hB := hB.keep hb7; replace hr2 := hr2.keep hb7; clear hB_l hB_0 hB_1 hB_2 hB_3; have hB_l := hB.lt; have hB_0 := hB.cell 0 _ rfl; have hB_1 := hB.cell 1 _ rfl; have hB_2 := hB.cell 2 _ rfl; have hB_3 := hB.cell 3 _ rfl)
          refine (spec_svLive a b Ag Ao n cg m co (k : Int) (N0 + k + 1) np A2 c2 L _ hr2 (by omega) (by omega) (by omega) (by omega) (by omega) (by omega) (by omega) (by omega) (by omega)).mono ?_
          rintro e w8 ⟨A8, p8, c8, rfl, ho8, hb8⟩
          replace hW := hW.call hb8
          replace hB := hB.keep hb8
          replace hr2 := hr2.keep hb8
          have hr8 := ho8.rd
          have hp8 := Lib.hid ho8.length
          have hl8 := liveL_len L (k : Int) (N0 + k + 1)
          rw [hp8.out] at hl8
          have hm8 := Lib.hid (liveL_mem L (k : Int) (N0 + k + 1))
          clear ho8
          obtain ⟨hle9, hle10⟩ := hr8.le
          generalize liveL L (k : Int) (N0 + k + 1) = l8 at *
          clear hB_l hB_0 hB_1 hB_2 hB_3
          go_wp2
          go_loopw [62] (fun i wq => ∃ z : Nat, z ≤ p8 ∧ i = .int .i64 z ∧ Hid (∀ (j : Nat) (x : Int), j < z → l8[j]? = some x → clash P own x = false) ∧ RdI wq A8 p8 c8 l8 ∧ RdI wq A2 np c2 L ∧ Blk wq w.heap.size 26 #[.int .i64 a, .int .i64 b, .slice Ag n cg, .slice Ao m co] ∧ Bl w wq) (fun i _ => p8 - (intOf i).toNat)
          case atStart => exact ⟨0, by omega, rfl, Lib.hid (fun j x hj => by omega), hr8, hr2, hB, hW⟩
          case round =>
            clear hW hr2 hB hr8
            obtain ⟨z, hz, rfl, hqz, hr8, hr2, hB, hW⟩ := hrel
            have kB := hB.lt
            have kB2 := hB.cell 2 _ rfl
            by_cases hlt3 : z < p8
            · obtain ⟨ad8, x, rfl, hadb8, hx, hcx⟩ := hr8.at_ hlt3
              have hxb := hm8.out x (List.mem_of_getElem? hx)
              have HX := Lib.hid hx
              clear hx
              obtain ⟨X, rfl⟩ : ∃ X : Nat, x = X := ⟨x.toNat, by omega⟩
              have iz : (z : Int) < p8 := by omega
              have hstF : clash P own (X : Int) = false → Hid (∀ (j : Nat) (x : Int), j < z + 1 → l8[j]? = some x → clash P own x = false) := fun hc j x hj he => by
                rcases Nat.lt_or_ge j z with h1 | h1
                · exact hqz.out j x h1 he
                · have : j = z := by omega
                  subst this
                  rw [HX.out] at he
                  injection he with he
                  subst he
                  exact hc
              by_cases heq : X = own
              · subst heq
                have hst := hstF (by simp [clash])
                clear hstF
                go_wp2_with fail
                refine wp_region_held_drew (S := (fun w' => True)) (by kernel_rfl) ?_ (fun hHeld => ?_)
                · exact trivial
                refine held_take (i := 0) (d := 66) (v := ?_) rfl rfl (by kernel_rfl) (by kernel_rfl) (by kernel_rfl) (fun _ _ _ h => h) (Or.inl ⟨by rfl, ?_⟩) (by assumption) ?_
                rotate_left
                · (intro w hSw; (try dsimp only at hSw); go_simp; (try with_reducible rfl))
                (try simp only [List.set_cons_zero, List.set_cons_succ])
                refine held_take (i := 1) (d := 67) (v := ?_) rfl rfl (by kernel_rfl) (by kernel_rfl) (by kernel_rfl) (fun _ _ _ h => h) (Or.inl ⟨by rfl, ?_⟩) (by assumption) ?_
                rotate_left
                · (intro w hSw; (try dsimp only at hSw); go_simp; (try with_reducible rfl))
                (try simp only [List.set_cons_zero, List.set_cons_succ])
                refine held_take (i := 2) (d := 68) (v := ?_) rfl rfl (by kernel_rfl) (by kernel_rfl) (by kernel_rfl) (fun _ _ _ h => h) (Or.inl ⟨by rfl, ?_⟩) (by assumption) ?_
                rotate_left
                · (intro w hSw; (try dsimp only at hSw); go_simp; (try with_reducible rfl))
                (try simp only [List.set_cons_zero, List.set_cons_succ])
                refine held_take (i := 3) (d := 69) (v := ?_) rfl rfl (by kernel_rfl) (by kernel_rfl) (by kernel_rfl) (fun _ _ _ h => h) (Or.inl ⟨by rfl, ?_⟩) (by assumption) ?_
                rotate_left
                · (intro w hSw; (try dsimp only at hSw); go_simp; (try with_reducible rfl))
                (try simp only [List.set_cons_zero, List.set_cons_succ])
                refine held_take (i := 4) (d := 70) (v := undef) rfl rfl (by kernel_rfl) (by kernel_rfl) (by kernel_rfl) (fun _ _ _ h => h) (Or.inr ⟨by rfl, rfl⟩) (by assumption) ?_
                (try simp only [List.set_cons_zero, List.set_cons_succ])
                refine held_take (i := 5) (d := 71) (v := undef) rfl rfl (by kernel_rfl) (by kernel_rfl) (by kernel_rfl) (fun _ _ _ h => h) (Or.inr ⟨by rfl, rfl⟩) (by assumption) ?_
                (try simp only [List.set_cons_zero, List.set_cons_succ])
                refine held_take (i := 6) (d := 72) (v := undef) rfl rfl (by kernel_rfl) (by kernel_rfl) (by kernel_rfl) (fun _ _ _ h => h) (Or.inr ⟨by rfl, rfl⟩) (by assumption) ?_
                (try simp only [List.set_cons_zero, List.set_cons_succ])
                refine held_take (i := 7) (d := 73) (v := undef) rfl rfl (by kernel_rfl) (by kernel_rfl) (by kernel_rfl) (fun _ _ _ h => h) (Or.inr ⟨by rfl, rfl⟩) (by assumption) ?_
                (try simp only [List.set_cons_zero, List.set_cons_succ])
                refine held_take (i := 8) (d := 74) (v := undef) rfl rfl (by kernel_rfl) (by kernel_rfl) (by kernel_rfl) (fun _ _ _ h => h) (Or.inr ⟨by rfl, rfl⟩) (by assumption) ?_
                (try simp only [List.set_cons_zero, List.set_cons_succ])
                refine held_take (i := 9) (d := 75) (v := undef) rfl rfl (by kernel_rfl) (by kernel_rfl) (by kernel_rfl) (fun _ _ _ h => h) (Or.inr ⟨by rfl, rfl⟩) (by assumption) ?_
                (try simp only [List.set_cons_zero, List.set_cons_succ])
                refine held_take (i := 10) (d := 76) (v := undef) rfl rfl (by kernel_rfl) (by kernel_rfl) (by kernel_rfl) (fun _ _ _ h => h) (Or.inr ⟨by rfl, rfl⟩) (by assumption) ?_
                (try simp only [List.set_cons_zero, List.set_cons_succ])
                refine held_take (i := 11) (d := 77) (v := undef) rfl rfl (by kernel_rfl) (by kernel_rfl) (by kernel_rfl) (fun _ _ _ h => h) (Or.inr ⟨by rfl, rfl⟩) (by assumption) ?_
                (try simp only [List.set_cons_zero, List.set_cons_succ])
                refine held_take (i := 12) (d := 78) (v := undef) rfl rfl (by kernel_rfl) (by kernel_rfl) (by kernel_rfl) (fun _ _ _ h => h) (Or.inr ⟨by rfl, rfl⟩) (by assumption) ?_
                (try simp only [List.set_cons_zero, List.set_cons_succ])
                refine held_take (i := 13) (d := 79) (v := ?_) rfl rfl (by kernel_rfl) (by kernel_rfl) (by kernel_rfl) (fun _ _ _ h => h) (Or.inl ⟨by rfl, ?_⟩) (by assumption) ?_
                rotate_left
                · (intro w hSw; (try dsimp only at hSw); go_simp; (try with_reducible rfl))
                (try simp only [List.set_cons_zero, List.set_cons_succ])
                refine wpAnyH_done (by kernel_rfl) ?_ _
                go_wp2
                go_roundw
                case rel => exact ⟨z + 1, by omega, by go_num, hst, hr8.drew, hr2.drew, hB.drew, hW.drew⟩
                case measure => simp [intOf]; omega
              · obtain ⟨ad, v, rfl, hadb, hv, hcv⟩ := (hp.keep hW).at_ (show X < np by omega)
                obtain ⟨adx, u, he2, hadb2, hu, hcu⟩ := (hp.keep hW).at_ hownN
                injection he2 with he2
                subst he2
                have hcl : clash P own (X : Int) = (v == u) := by
                  unfold clash
                  rw [Int.toNat_natCast, hv, hu]
                  have : ((X : Int) != (own : Int)) = true := by simp; omega
                  rw [this]; rfl
                have hne3 : ((X : Int) != (own : Int)) = true := by simp; omega
                have iX : (X : Int) < np := by omega
                have iO : (own : Int) < np := by omega
                clear hv hu
                rcases hvu : (v == u)
                · have hst := hstF (hcl.trans hvu)
                  clear hstF hcl
                  go_wp2_with fail
                  refine wp_region_held_drew (S := (fun w' => w'.cell? (ad.add X) = some (.int .i64 v) ∧ w'.cell? (ad.add own) = some (.int .i64 u))) (by kernel_rfl) ?_ (fun hHeld => ?_)
                  · (try dsimp only); exact ⟨hcv, hcu⟩
                  refine held_take (i := 0) (d := 66) (v := ?_) rfl rfl (by kernel_rfl) (by kernel_rfl) (by kernel_rfl) (fun _ _ _ h => h) (Or.inl ⟨by rfl, ?_⟩) (by assumption) ?_
                  rotate_left
                  · (intro w hSw; (try dsimp only at hSw); go_simp; (try with_reducible rfl))
                  (try simp only [List.set_cons_zero, List.set_cons_succ])
                  refine held_take (i := 1) (d := 67) (v := ?_) rfl rfl (by kernel_rfl) (by kernel_rfl) (by kernel_rfl) (fun _ _ _ h => h) (Or.inl ⟨by rfl, ?_⟩) (by assumption) ?_
                  rotate_left
                  · (intro w hSw; (try dsimp only at hSw); go_simp; (try with_reducible rfl))
                  (try simp only [List.set_cons_zero, List.set_cons_succ])
                  refine held_take (i := 2) (d := 68) (v := ?_) rfl rfl (by kernel_rfl) (by kernel_rfl) (by kernel_rfl) (fun _ _ _ h => h) (Or.inl ⟨by rfl, ?_⟩) (by assumption) ?_
                  rotate_left
                  · (intro w hSw; (try dsimp only at hSw); go_simp; (try with_reducible rfl))
                  (try simp only [List.set_cons_zero, List.set_cons_succ])
                  refine held_take (i := 3) (d := 69) (v := ?_) rfl rfl (by kernel_rfl) (by kernel_rfl) (by kernel_rfl) (fun _ _ _ h => h) (Or.inl ⟨by rfl, ?_⟩) (by assumption) ?_
                  rotate_left
                  · (intro w hSw; (try dsimp only at hSw); go_simp; (try with_reducible rfl))
                  (try simp only [List.set_cons_zero, List.set_cons_succ])
                  refine held_take (i := 4) (d := 70) (v := ?_) rfl rfl (by kernel_rfl) (by kernel_rfl) (by kernel_rfl) (fun _ _ _ h => h) (Or.inl ⟨by rfl, ?_⟩) (by assumption) ?_
                  rotate_left
                  · (intro w hSw; (try dsimp only at hSw); go_simp; (try with_reducible rfl))
                  (try simp only [List.set_cons_zero, List.set_cons_succ])
                  refine held_take (i := 5) (d := 71) (v := ?_) rfl rfl (by kernel_rfl) (by kernel_rfl) (by kernel_rfl) (fun _ _ _ h => h) (Or.inl ⟨by rfl, ?_⟩) (by assumption) ?_
                  rotate_left
                  · (intro w hSw; (try dsimp only at hSw); go_simp; (try with_reducible rfl))
                  (try simp only [List.set_cons_zero, List.set_cons_succ])
                  refine held_take (i := 6) (d := 72) (v := ?_) rfl rfl (by kernel_rfl) (by kernel_rfl) (by kernel_rfl) (fun _ _ _ h => h) (Or.inl ⟨by rfl, ?_⟩) (by assumption) ?_
                  rotate_left
                  · (intro w hSw; (try dsimp only at hSw); go_simp; (try with_reducible rfl))
                  (try simp only [List.set_cons_zero, List.set_cons_succ])
                  refine held_take (i := 7) (d := 73) (v := ?_) rfl rfl (by kernel_rfl) (by kernel_rfl) (by kernel_rfl) (fun _ _ _ h => h) (Or.inl ⟨by rfl, ?_⟩) (by assumption) ?_
                  rotate_left
                  · (intro w hSw; (try dsimp only at hSw); go_simp; (try with_reducible rfl))
                  (try simp only [List.set_cons_zero, List.set_cons_succ])
                  refine held_take (i := 8) (d := 74) (v := ?_) rfl rfl (by kernel_rfl) (by kernel_rfl) (by kernel_rfl) (fun _ _ _ h => h) (Or.inl ⟨by rfl, ?_⟩) (by assumption) ?_
                  rotate_left
                  · (intro w hSw; (try dsimp only at hSw); go_simp; (try with_reducible rfl))
                  (try simp only [List.set_cons_zero, List.set_cons_succ])
                  refine held_take (i := 9) (d := 75) (v := ?_) rfl rfl (by kernel_rfl) (by kernel_rfl) (by kernel_rfl) (fun _ _ _ h => h) (Or.inl ⟨by rfl, ?_⟩) (by assumption) ?_
                  rotate_left
                  · (intro w hSw; (try dsimp only at hSw); go_simp; (try with_reducible rfl))
                  (try simp only [List.set_cons_zero, List.set_cons_succ])
                  refine held_take (i := 10) (d := 76) (v := ?_) rfl rfl (by kernel_rfl) (by kernel_rfl) (by kernel_rfl) (fun _ _ _ h => h) (Or.inl ⟨by rfl, ?_⟩) (by assumption) ?_
                  rotate_left
                  · (intro w hSw; (try dsimp only at hSw); go_simp; (try with_reducible rfl))
                  (try simp only [List.set_cons_zero, List.set_cons_succ])
                  refine held_take (i := 11) (d := 77) (v := ?_) rfl rfl (by kernel_rfl) (by kernel_rfl) (by kernel_rfl) (fun _ _ _ h => h) (Or.inl ⟨by rfl, ?_⟩) (by assumption) ?_
                  rotate_left
                  · (intro w hSw; (try dsimp only at hSw); go_simp; (try with_reducible rfl))
                  (try simp only [List.set_cons_zero, List.set_cons_succ])
                  refine held_take (i := 12) (d := 78) (v := ?_) rfl rfl (by kernel_rfl) (by kernel_rfl) (by kernel_rfl) (fun _ _ _ h => h) (Or.inl ⟨by rfl, ?_⟩) (by assumption) ?_
                  rotate_left
                  · (intro w hSw; (try dsimp only at hSw); go_simp; (try with_reducible rfl))
                  (try simp only [List.set_cons_zero, List.set_cons_succ])
                  refine held_take (i := 13) (d := 79) (v := ?_) rfl rfl (by kernel_rfl) (by kernel_rfl) (by kernel_rfl) (fun _ _ _ h => h) (Or.inl ⟨by rfl, ?_⟩) (by assumption) ?_
                  rotate_left
                  · (intro w hSw; (try dsimp only at hSw); go_simp; (try with_reducible rfl))
                  (try simp only [List.set_cons_zero, List.set_cons_succ])
                  refine wpAnyH_done (by kernel_rfl) ?_ _
                  go_wp2
                  go_roundw
                  case rel => exact ⟨z + 1, by omega, by go_num, hst, hr8.drew, hr2.drew, hB.drew, hW.drew⟩
                  case measure => simp [intOf]; omega
                · have hRf := Lib.hid (show gatesB P L N0 n = false from gatesB_not hlt2 (by rw [hst0.out, List.any_eq_true.2 ⟨_, List.mem_of_getElem? HX.out, hcl.trans hvu⟩]; rfl))
                  clear hstF hcl
                  go_wp2_with fail
                  refine wp_region_held_drew (S := (fun w' => w'.cell? (ad.add X) = some (.int .i64 v) ∧ w'.cell? (ad.add own) = some (.int .i64 u))) (by kernel_rfl) ?_ (fun hHeld => ?_)
                  · (try dsimp only); exact ⟨hcv, hcu⟩
                  refine held_take (i := 0) (d := 66) (v := ?_) rfl rfl (by kernel_rfl) (by kernel_rfl) (by kernel_rfl) (fun _ _ _ h => h) (Or.inl ⟨by rfl, ?_⟩) (by assumption) ?_
                  rotate_left
                  · (intro w hSw; (try dsimp only at hSw); go_simp; (try with_reducible rfl))
                  (try simp only [List.set_cons_zero, List.set_cons_succ])
                  refine held_take (i := 1) (d := 67) (v := ?_) rfl rfl (by kernel_rfl) (by kernel_rfl) (by kernel_rfl) (fun _ _ _ h => h) (Or.inl ⟨by rfl, ?_⟩) (by assumption) ?_
                  rotate_left
                  · (intro w hSw; (try dsimp only at hSw); go_simp; (try with_reducible rfl))
                  (try simp only [List.set_cons_zero, List.set_cons_succ])
                  refine held_take (i := 2) (d := 68) (v := ?_) rfl rfl (by kernel_rfl) (by kernel_rfl) (by kernel_rfl) (fun _ _ _ h => h) (Or.inl ⟨by rfl, ?_⟩) (by assumption) ?_
                  rotate_left
                  · (intro w hSw; (try dsimp only at hSw); go_simp; (try with_reducible rfl))
                  (try simp only [List.set_cons_zero, List.set_cons_succ])
                  refine held_take (i := 3) (d := 69) (v := ?_) rfl rfl (by kernel_rfl) (by kernel_rfl) (by kernel_rfl) (fun _ _ _ h => h) (Or.inl ⟨by rfl, ?_⟩) (by assumption) ?_
                  rotate_left
                  · (intro w hSw; (try dsimp only at hSw); go_simp; (try with_reducible rfl))
                  (try simp only [List.set_cons_zero, List.set_cons_succ])
                  refine held_take (i := 4) (d := 70) (v := ?_) rfl rfl (by kernel_rfl) (by kernel_rfl) (by kernel_rfl) (fun _ _ _ h => h) (Or.inl ⟨by rfl, ?_⟩) (by assumption) ?_
                  rotate_left
                  · (intro w hSw; (try dsimp only at hSw); go_simp; (try with_reducible rfl))
                  (try simp only [List.set_cons_zero, List.set_cons_succ])
                  refine held_take (i := 5) (d := 71) (v := ?_) rfl rfl (by kernel_rfl) (by kernel_rfl) (by kernel_rfl) (fun _ _ _ h => h) (Or.inl ⟨by rfl, ?_⟩) (by assumption) ?_
                  rotate_left
                  · (intro w hSw; (try dsimp only at hSw); go_simp; (try with_reducible rfl))
                  (try simp only [List.set_cons_zero, List.set_cons_succ])
                  refine held_take (i := 6) (d := 72) (v := ?_) rfl rfl (by kernel_rfl) (by kernel_rfl) (by kernel_rfl) (fun _ _ _ h => h) (Or.inl ⟨by rfl, ?_⟩) (by assumption) ?_
                  rotate_left
                  · (intro w hSw; (try dsimp only at hSw); go_simp; (try with_reducible rfl))
                  (try simp only [List.set_cons_zero, List.set_cons_succ])
                  refine held_take (i := 7) (d := 73) (v := ?_) rfl rfl (by kernel_rfl) (by kernel_rfl) (by kernel_rfl) (fun _ _ _ h => h) (Or.inl ⟨by rfl, ?_⟩) (by assumption) ?_
                  rotate_left
                  · (intro w hSw; (try dsimp only at hSw); go_simp; (try with_reducible rfl))
                  (try simp only [List.set_cons_zero, List.set_cons_succ])
                  refine held_take (i := 8) (d := 74) (v := ?_) rfl rfl (by kernel_rfl) (by kernel_rfl) (by kernel_rfl) (fun _ _ _ h => h) (Or.inl ⟨by rfl, ?_⟩) (by assumption) ?_
                  rotate_left
                  · (intro w hSw; (try dsimp only at hSw); go_simp; (try with_reducible rfl))
                  (try simp only [List.set_cons_zero, List.set_cons_succ])
                  refine held_take (i := 9) (d := 75) (v := ?_) rfl rfl (by kernel_rfl) (by kernel_rfl) (by kernel_rfl) (fun _ _ _ h => h) (Or.inl ⟨by rfl, ?_⟩) (by assumption) ?_
                  rotate_left
                  · (intro w hSw; (try dsimp only at hSw); go_simp; (try with_reducible rfl))
                  (try simp only [List.set_cons_zero, List.set_cons_succ])
                  refine held_take (i := 10) (d := 76) (v := ?_) rfl rfl (by kernel_rfl) (by kernel_rfl) (by kernel_rfl) (fun _ _ _ h => h) (Or.inl ⟨by rfl, ?_⟩) (by assumption) ?_
                  rotate_left
                  · (intro w hSw; (try dsimp only at hSw); go_simp; (try with_reducible rfl))
                  (try simp only [List.set_cons_zero, List.set_cons_succ])
                  refine held_take (i := 11) (d := 77) (v := ?_) rfl rfl (by kernel_rfl) (by kernel_rfl) (by kernel_rfl) (fun _ _ _ h => h) (Or.inl ⟨by rfl, ?_⟩) (by assumption) ?_
                  rotate_left
                  · (intro w hSw; (try dsimp only at hSw); go_simp; (try with_reducible rfl))
                  (try simp only [List.set_cons_zero, List.set_cons_succ])
                  refine held_take (i := 12) (d := 78) (v := ?_) rfl rfl (by kernel_rfl) (by kernel_rfl) (by kernel_rfl) (fun _ _ _ h => h) (Or.inl ⟨by rfl, ?_⟩) (by assumption) ?_
                  rotate_left
                  · (intro w hSw; (try dsimp only at hSw); go_simp; (try with_reducible rfl))
                  (try simp only [List.set_cons_zero, List.set_cons_succ])
                  refine held_take (i := 13) (d := 79) (v := ?_) rfl rfl (by kernel_rfl) (by kernel_rfl) (by kernel_rfl) (fun _ _ _ h => h) (Or.inl ⟨by rfl, ?_⟩) (by assumption) ?_
                  rotate_left
                  · (intro w hSw; (try dsimp only at hSw); go_simp; (try with_reducible rfl))
                  (try simp only [List.set_cons_zero, List.set_cons_succ])
                  refine wpAnyH_done (by kernel_rfl) ?_ _
                  go_wp2
                  go_ret
                  exact ⟨by rw [hR.out, hRf.out]; rfl, hW.drew⟩
            · have hst2 := Lib.hid (show ∀ j, j < k + 1 → gateB P L N0 j = true from fun j hj => by
                rcases Nat.lt_or_ge j k with h1 | h1
                · exact hq.out j h1
                · have : j = k := by omega
                  subst this
                  rw [hst0.out]
                  rw [Bool.not_eq_true', Bool.eq_false_iff]
                  intro hc
                  obtain ⟨x, hx, hf⟩ := List.any_eq_true.1 hc
                  obtain ⟨i, hi, he⟩ := List.mem_iff_getElem.1 hx
                  have := hqz.out i x (by rw [hp8.out] at hi; omega) (by rw [← he]; exact List.getElem?_eq_getElem _)
                  rw [hf] at this; cases this)
              go_wp2
              go_roundw
              case rel => exact ⟨k + 1, by omega, by go_num, hst2, hr2, hB, hW⟩
              case measure => simp [intOf]; omega
        · have hRt := Lib.hid (show gatesB P L N0 n = true from gatesB_of (fun j hj => hq.out j (by omega)))
          go_wp2
          go_ret
          exact ⟨by rw [hR.out, hRt.out]; rfl, hW⟩
end Go.Proofs.Ytlmlffiajgofeaa
