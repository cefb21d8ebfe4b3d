/- Contracts of the inputs' widths and of the test whether numbers fit, on both sides.
   Conditions: valid programs. -/
import Derived.Test.YtjggecbaladiiaaGreatDoorPsc
namespace Go.Proofs.YtjggecbaladiiaaGreatDoor
open Go.RowKit
set_option linter.unusedVariables false
theorem shW {wd : Int} (h1 : inR wd 1 10 = true) : wrap64 (wrap64 (2 ^ min (IntKind.u64.wrap wd).toNat 64) - 1) = 2 ^ wd.toNat - 1 := by
  have h := inR_iff.1 h1
  rcases (by omega : wd = 1 ∨ wd = 2 ∨ wd = 3 ∨ wd = 4 ∨ wd = 5 ∨ wd = 6 ∨ wd = 7 ∨ wd = 8 ∨ wd = 9 ∨ wd = 10) with rfl | rfl | rfl | rfl | rfl | rfl | rfl | rfl | rfl | rfl <;> decide +kernel
/-- Numbers fit widths. -/
def fitR : List Int → List Int → Bool
  | [], [] => true
  | a :: r, v :: s => inR a 0 (2 ^ v.toNat - 1) && fitR r s
  | _, _ => false
theorem fitR_len : ∀ {a ws : List Int}, ¬ a.length = ws.length → fitR a ws = false
  | [], [], h => absurd rfl h
  | [], _ :: _, _ => rfl
  | _ :: _, [], _ => rfl
  | a :: r, v :: s, h => by rw [fitR, fitR_len (by simpa using h), Bool.and_false]
theorem fitR_step {a ws : List Int} {k : Nat} {x v : Int} (hx : a[k]? = some x) (hv : ws[k]? = some v) : fitR (a.drop k) (ws.drop k) = (inR x 0 (2 ^ v.toNat - 1) && fitR (a.drop (k + 1)) (ws.drop (k + 1))) := by
  obtain ⟨h1, rfl⟩ := List.getElem?_eq_some_iff.1 hx
  obtain ⟨h2, rfl⟩ := List.getElem?_eq_some_iff.1 hv
  rw [List.drop_eq_getElem_cons h1, List.drop_eq_getElem_cons h2, fitR]
theorem inw_1 (p : Int) (x : Ln) (C : Option Addr) (m cc g : Nat) (w : World) (hc : w.cell? ⟨g, 0, none⟩ = some (.int .i64 p)) :
    Calls Tryz.prog 97 #[.agg #[.int .i64 x.k, .string x.nm, .string x.op, .slice C m cc, .int .i64 x.pt, .int .i64 x.wd, .int .i64 x.vl], .pointer (some ⟨g, 0, none⟩)] w fun e w' => e = .returned (.bool (decide (x.k = 1 ∧ x.pt = p))) ∧ Bl w w' := by
  obtain ⟨k, nm, op, ps, pt, wd, vl⟩ := x
  have hg : g < w.heap.size := World.block_lt_of_cell? w _ hc
  dsimp only
  by_cases h1 : k = 1
  · by_cases h2 : pt = p
    · have HD := Lib.hid (show decide (k = 1 ∧ pt = p) = true from decide_eq_true ⟨h1, h2⟩)
      have e1 : (k == 1) = true := by simpa using h1
      have e2 : (pt == p) = true := by simpa using h2
      rw [HD.out]
      clear h1 h2
      go_enter Tryz.func97, Tryz.ntmps97
      go_wp2_with fail
      go_ret
      exact ⟨rfl, (by (repeat (first | with_reducible assumption | with_reducible exact Bl.refl _ | with_reducible refine Bl.drewN ?_ _ | with_reducible refine Bl.drew ?_ | with_reducible refine Bl.alloc ?_ _ | with_reducible refine Bl.setCell ?_ (by first | (dsimp only; omega) | (simp; omega)) _ | (with_reducible refine Bl.call ?_ (by with_reducible assumption)))))⟩
    · have HD := Lib.hid (show decide (k = 1 ∧ pt = p) = false from decide_eq_false fun h => h2 h.2)
      have e1 : (k == 1) = true := by simpa using h1
      have e2 : (pt == p) = false := by simpa using h2
      rw [HD.out]
      clear h1 h2
      go_enter Tryz.func97, Tryz.ntmps97
      go_wp2_with fail
      go_ret
      exact ⟨rfl, (by (repeat (first | with_reducible assumption | with_reducible exact Bl.refl _ | with_reducible refine Bl.drewN ?_ _ | with_reducible refine Bl.drew ?_ | with_reducible refine Bl.alloc ?_ _ | with_reducible refine Bl.setCell ?_ (by first | (dsimp only; omega) | (simp; omega)) _ | (with_reducible refine Bl.call ?_ (by with_reducible assumption)))))⟩
  · have HD := Lib.hid (show decide (k = 1 ∧ pt = p) = false from decide_eq_false fun h => h1 h.1)
    have e1 : (k == 1) = false := by simpa using h1
    rw [HD.out]
    clear h1
    go_enter Tryz.func97, Tryz.ntmps97
    go_wp2_with fail
    go_ret
    exact ⟨rfl, (by (repeat (first | with_reducible assumption | with_reducible exact Bl.refl _ | with_reducible refine Bl.drewN ?_ _ | with_reducible refine Bl.drew ?_ | with_reducible refine Bl.alloc ?_ _ | with_reducible refine Bl.setCell ?_ (by first | (dsimp only; omega) | (simp; omega)) _ | (with_reducible refine Bl.call ?_ (by with_reducible assumption)))))⟩
set_option maxRecDepth 20000 in
set_option maxHeartbeats 4000000 in
theorem impl_widthsBy (p : Int) (g : Nat) (A : Option Addr) (n c : Nat) (l : List (Hd × Ln)) (ws : List Int) (w : World) (hc : w.cell? ⟨g, 0, none⟩ = some (.int .i64 p)) (h : RdL w A n c l) (hg : goodB (l.map (·.2)) = true) (hws : wdsL (l.map (·.2)) = some ws) (hok : okI (l.map (·.2)) = true) (ht : Tm w) :
    Calls Tryz.prog 96 #[.slice A n c, .func (.func 97) #[] #[.pointer (some ⟨g, 0, none⟩)]] w fun e w' => ∃ A' m c', e = .returned (.tuple #[.slice A' m c', .bool true]) ∧ m ≤ n ∧ OwnI w.heap.size w' A' m c' (insL (l.map (·.2)) p) ∧ Bl w w' := by
  obtain ⟨hle1, hle2⟩ := h.le
  have hlen := Lib.hid h.len
  obtain ⟨i1, i2⟩ := wdsL_in hws
  rw [List.length_map, h.len] at i1
  have HI := Lib.hid i2
  clear i2
  have hn30 : n ≤ 30 := by obtain ⟨_, _, h30, _⟩ := goodB_at hg; rw [List.length_map, h.len] at h30; exact h30
  have hen : ∀ (a : Array Value) (w : World), Sem.run Tryz.prog (callFunc 97 a) w = .ok (.enter 97 a) w := fun _ _ => by kernel_rfl
  go_enter Tryz.func96, Tryz.ntmps96
  go_wp2_with fail
  refine (impl_widths A n c l ws _ h hg hws hok ht).mono ?_
  rintro e w1 ⟨B, d, rfl, hwsO, hb1⟩
  have hB := hwsO.rd
  have hle3 := hB.le
  have hown0 := own_made w1
  have hV0 := (Bl.refl w1).alloc (.cells #[] 3)
  have hw1 := hb1.sz
  clear hg hws hok
  go_wp2_with fail
  generalize w1.alloc (.cells #[] 3) = u0 at hown0 hV0 ⊢
  go_loopw [8, 21] (fun o i wr => ∃ (k m c2 : Nat) (A2 : Option Addr), k ≤ n ∧ m ≤ k ∧ i = .int .i64 (k : Nat) ∧ o = .slice A2 m c2 ∧ OwnI w1.heap.size wr A2 m c2 (insL ((l.take k).map (·.2)) p) ∧ Bl w1 wr) (fun _ i _ => n - (intOf i).toNat)
  case atStart => exact ⟨0, 0, 0, _, by omega, by omega, rfl, rfl, hown0, hV0⟩
  case round =>
    clear hown0 hV0
    obtain ⟨k, m, c2, A2, hk, hmk, rfl, rfl, hown, hV⟩ := hrel
    have hbl := hb1.call hV
    by_cases hlt : k < n
    · obtain ⟨ad, q, rfl, hadb, hx, hps, c0, c1, c2_, c3_, c4, c5, c6⟩ := (h.keep hbl).at_ hlt
      obtain ⟨v, hv, HV0⟩ := HI.out k q.2 (by rw [List.getElem?_map, hx]; rfl)
      obtain ⟨k1w, _⟩ := wdO_in HV0
      obtain ⟨bd, v9, rfl, hbdb, hx9, hc9⟩ := (hB.keep hV).at_ hlt
      obtain rfl : v = v9 := Option.some.inj (hv.symm.trans hx9)
      have HX := Lib.hid hx
      have HK := Lib.hid k1w
      clear HV0 k1w hv hx9 hx
      have j1 : (k : Int) < n := by omega
      have hcp := hbl.cells hc
      by_cases hy : q.2.k = 1 ∧ q.2.pt = p
      · have HY := Lib.hid (decide_eq_true hy)
        have HS := Lib.hid (show insL ((l.take k).map (·.2)) p ++ [v] = insL ((l.take (k + 1)).map (·.2)) p by rw [ins_yes HX.out hy, (HK.out hy.1).1])
        clear hy
        go_wp2_with fail
        refine (inw_1 p q.2 q.1.A q.1.n q.1.c g _ (Bl.cells ((Bl.refl _).alloc _) hcp)).mono ?_
        rintro e v5 ⟨rfl, hb5⟩
        rw [HY.out]
        have hV5 := ((Bl.refl wr).alloc (.cells #[.int .i64 q.2.k, .string q.2.nm, .string q.2.op, .slice q.1.A q.1.n q.1.c, .int .i64 q.2.pt, .int .i64 q.2.wd, .int .i64 q.2.vl] 92)).call hb5
        have hbd5 := Nat.lt_of_lt_of_le hbdb hV5.sz
        have hc5 := Bl.cells hV5 hc9
        go_wp2_with (at_builtin; refine ap_int rfl rfl rfl ((hown.keep hV5).keep ((Bl.refl _).alloc (.cells #[.int .i64 v] 3))) rfl (rd_new1 _ _ _) (by omega) (by have := hV.sz; have := hV5.sz; simp; omega) ?_; intro A4 c4 w8 hown4 hg4 hat4)
        go_roundw
        case rel => exact ⟨k + 1, m + 1, c4, A4, by omega, by omega, by go_num, rfl, by rw [← HS.out]; exact hown4, Bl.grown ((hV.call hV5).alloc _) hg4 (fun q hq => (hown.blk q hq).1)⟩
        case measure => simp [intOf]; omega
      · have HY := Lib.hid (decide_eq_false hy)
        have HS := Lib.hid (show insL ((l.take k).map (·.2)) p = insL ((l.take (k + 1)).map (·.2)) p by rw [ins_no HX.out hy])
        clear hy
        go_wp2_with fail
        refine (inw_1 p q.2 q.1.A q.1.n q.1.c g _ (Bl.cells ((Bl.refl _).alloc _) hcp)).mono ?_
        rintro e v5 ⟨rfl, hb5⟩
        rw [HY.out]
        have hV5 := ((Bl.refl wr).alloc (.cells #[.int .i64 q.2.k, .string q.2.nm, .string q.2.op, .slice q.1.A q.1.n q.1.c, .int .i64 q.2.pt, .int .i64 q.2.wd, .int .i64 q.2.vl] 92)).call hb5
        go_wp2_with fail
        go_roundw
        case rel => exact ⟨k + 1, m, c2, A2, by omega, by omega, by go_num, rfl, by rw [← HS.out]; exact hown.keep hV5, hV.call hV5⟩
        case measure => simp [intOf]; omega
    · obtain rfl : k = n := by omega
      have j1 : ¬ (k : Int) < k := by omega
      go_wp2_with fail
      go_ret2
      exact ⟨A2, m, c2, rfl, hmk, by rw [List.take_of_length_le (by rw [hlen.out]; exact Nat.le_refl _)] at hown; exact OwnI.mono hown hb1.sz, hbl⟩
theorem impl_InputWidths (p : Int) (hp : inR p 0 1 = true) (A : Option Addr) (n c : Nat) (l : List (Hd × Ln)) (ws : List Int) (w : World) (h : RdL w A n c l) (hg : goodB (l.map (·.2)) = true) (hws : wdsL (l.map (·.2)) = some ws) (hok : okI (l.map (·.2)) = true) (ht : Tm w) :
    Calls Tryz.prog 54 #[.slice A n c, .int .i64 p] w fun e w' => ∃ A' m c', e = .returned (.tuple #[.slice A' m c', .bool true]) ∧ m ≤ n ∧ OwnI w.heap.size w' A' m c' (insL (l.map (·.2)) p) ∧ Bl w w' := by
  have hX := Blk.new w 3 #[.int .i64 p] (g := w.heap.size)
  have hV := (Bl.refl w).alloc (.cells #[.int .i64 p] 3)
  go_enter Tryz.func54, Tryz.ntmps54
  go_wp2_with fail
  refine (impl_isBit p _).mono ?_
  rintro e w1 ⟨rfl, rfl⟩
  rw [hp]
  go_wp2_with fail
  refine (impl_widthsBy p w.heap.size A n c l ws _ (hX.cell 0 _ rfl) (h.keep hV) hg hws hok (ht.keep hV)).mono ?_
  rintro e w2 ⟨A', m, c', rfl, hm, ho, hb⟩
  go_wp2_with fail
  go_ret2
  exact ⟨A', m, c', rfl, hm, OwnI.mono ho hV.sz, hV.call hb⟩
set_option maxHeartbeats 1000000 in
theorem impl_fitWidths (A B : Option Addr) (n c m d : Nat) (a ws : List Int) (w : World) (h : RdI w A n c a) (hw : RdI w B m d ws) (hb : allR ws 1 10 = true) :
    Calls Tryz.prog 55 #[.slice A n c, .slice B m d] w fun e w' => e = .returned (.bool (fitR a ws)) ∧ w = w' := by
  obtain ⟨hle1, hle2⟩ := h.le
  obtain ⟨hle3, hle4⟩ := hw.le
  by_cases he : n = m
  · subst he
    have HA := Lib.hid (fun v hv => (List.all_eq_true.1 hb v hv : inR v 1 10 = true))
    have L1 := Lib.hid h.length
    clear hb
    go_enter Tryz.func55, Tryz.ntmps55
    go_wp2
    go_loop [14] (fun i => ∃ k : Nat, k ≤ n ∧ i = .int .i64 k ∧ Hid (fitR (a.drop k) (ws.drop k) = fitR a ws)) (fun i => n - (intOf i).toNat)
    case atStart => exact ⟨0, by omega, rfl, Lib.hid rfl⟩
    case round =>
      obtain ⟨k, hk, rfl, HQ⟩ := hrel
      by_cases hlt : k < n
      · obtain ⟨ad, x, rfl, hadb, hx, hc⟩ := h.at_ hlt
        obtain ⟨bd, v, rfl, hbdb, hv, hcv⟩ := hw.at_ hlt
        have hvb := HA.out v (List.mem_of_getElem? hv)
        have HS := Lib.hid (fitR_step hx hv)
        have HW := Lib.hid (shW hvb)
        clear hx hv hvb
        have j1 : (k : Int) < n := by omega
        go_wp2_with fail
        refine (impl_within _ _ _ _).mono ?_
        rintro e w1 ⟨rfl, rfl⟩
        rw [HW.out]
        rcases hr : inR x 0 (2 ^ v.toNat - 1)
        · have HR := Lib.hid (show fitR a ws = false by rw [← HQ.out, HS.out, hr]; rfl)
          go_wp2_with fail
          go_ret
          exact ⟨by rw [HR.out]; rfl, rfl⟩
        · have HR := Lib.hid (show fitR (a.drop (k + 1)) (ws.drop (k + 1)) = fitR a ws by rw [← HQ.out, HS.out, hr]; rfl)
          go_wp2_with fail
          go_round
          case rel => exact ⟨k + 1, by omega, by go_num, HR⟩
          case measure => simp [intOf]; omega
      · obtain rfl : k = n := by omega
        have HR := Lib.hid (show fitR a ws = true by rw [← HQ.out, List.drop_eq_nil_of_le (by rw [L1.out]; exact Nat.le_refl _), List.drop_eq_nil_of_le (by have := hw.length; omega)]; rfl)
        have j1 : ¬ (k : Int) < k := by omega
        go_wp2_with fail
        go_ret
        exact ⟨by rw [HR.out]; rfl, rfl⟩
  · have HR := Lib.hid (show fitR a ws = false from fitR_len (by rw [h.length, hw.length]; exact he))
    have j0 : ((n : Int) == (m : Int)) = false := by rw [beq_eq_false_iff_ne]; omega
    have j1 : ¬ (n : Int) = m := by omega
    go_enter Tryz.func55, Tryz.ntmps55
    go_wp2_with fail
    go_ret
    exact ⟨by rw [HR.out]; rfl, rfl⟩
set_option maxHeartbeats 1000000 in
theorem spec_laFit (A B : Option Addr) (n c m d : Nat) (a ws : List Int) (w : World) (h : RdI w A n c a) (hw : RdI w B m d ws) (hb : allR ws 1 10 = true) :
    Calls Tryz.prog 46 #[.slice B m d, .slice A n c] w fun e w' => e = .returned (.bool (fitR a ws)) ∧ w = w' := by
  obtain ⟨hle1, hle2⟩ := h.le
  obtain ⟨hle3, hle4⟩ := hw.le
  by_cases he : n = m
  · subst he
    have HA := Lib.hid (fun v hv => (List.all_eq_true.1 hb v hv : inR v 1 10 = true))
    have L1 := Lib.hid h.length
    clear hb
    go_enter Tryz.func46, Tryz.ntmps46
    go_wp2
    go_loop [14] (fun i => ∃ k : Nat, k ≤ n ∧ i = .int .i64 k ∧ Hid (fitR (a.drop k) (ws.drop k) = fitR a ws)) (fun i => n - (intOf i).toNat)
    case atStart => exact ⟨0, by omega, rfl, Lib.hid rfl⟩
    case round =>
      obtain ⟨k, hk, rfl, HQ⟩ := hrel
      by_cases hlt : k < n
      · obtain ⟨ad, x, rfl, hadb, hx, hc⟩ := h.at_ hlt
        obtain ⟨bd, v, rfl, hbdb, hv, hcv⟩ := hw.at_ hlt
        have hvb := HA.out v (List.mem_of_getElem? hv)
        have HS := Lib.hid (fitR_step hx hv)
        have HW := Lib.hid (shW hvb)
        clear hx hv hvb
        have j1 : (k : Int) < n := by omega
        go_wp2_with fail
        refine (spec_l1In _ _ _ _).mono ?_
        rintro e w1 ⟨rfl, rfl⟩
        rw [HW.out]
        rcases hr : inR x 0 (2 ^ v.toNat - 1)
        · have HR := Lib.hid (show fitR a ws = false by rw [← HQ.out, HS.out, hr]; rfl)
          go_wp2_with fail
          go_ret
          exact ⟨by rw [HR.out]; rfl, rfl⟩
        · have HR := Lib.hid (show fitR (a.drop (k + 1)) (ws.drop (k + 1)) = fitR a ws by rw [← HQ.out, HS.out, hr]; rfl)
          go_wp2_with fail
          go_round
          case rel => exact ⟨k + 1, by omega, by go_num, HR⟩
          case measure => simp [intOf]; omega
      · obtain rfl : k = n := by omega
        have HR := Lib.hid (show fitR a ws = true by rw [← HQ.out, List.drop_eq_nil_of_le (by rw [L1.out]; exact Nat.le_refl _), List.drop_eq_nil_of_le (by have := hw.length; omega)]; rfl)
        have j1 : ¬ (k : Int) < k := by omega
        go_wp2_with fail
        go_ret
        exact ⟨by rw [HR.out]; rfl, rfl⟩
  · have HR := Lib.hid (show fitR a ws = false from fitR_len (by rw [h.length, hw.length]; exact he))
    have j0 : ((m : Int) == (n : Int)) = false := by rw [beq_eq_false_iff_ne]; omega
    have j1 : ¬ (m : Int) = n := by omega
    go_enter Tryz.func46, Tryz.ntmps46
    go_wp2_with fail
    go_ret
    exact ⟨by rw [HR.out]; rfl, rfl⟩
/-- The inputs of a program: as many as needed, each within its width. -/
def askR (L : List Ln) (a b : List Int) : Bool := fitR a (insL L 0) && fitR b (insL L 1)
theorem ins_w {L : List Ln} (h : goodB L = true) (p : Int) : allR (insL L p) 1 10 = true := by
  obtain ⟨ws, hws, _, hall, _⟩ := goodB_at h
  obtain ⟨_, hin⟩ := wdsL_in hws
  refine List.all_eq_true.2 fun v hv => ?_
  unfold insL at hv
  rw [List.mem_filterMap] at hv
  obtain ⟨x, hx, he⟩ := hv
  obtain ⟨i, hi⟩ := List.mem_iff_getElem?.1 hx
  obtain ⟨u, h1, h2⟩ := hin i x hi
  split at he
  · rename_i hk
    injection he with he
    obtain ⟨h3, _⟩ := wdO_in h2
    rw [← he, (h3 hk.1).1]
    exact List.all_eq_true.1 hall u (List.mem_of_getElem? h1)
  · cases he
set_option maxHeartbeats 1000000 in
theorem impl_areValues (A : Option Addr) (n c : Nat) (l : List (Hd × Ln)) (ws : List Int) (B C : Option Addr) (na ca nb cb : Nat) (a b : List Int) (w : World) (h : RdL w A n c l) (hg : goodB (l.map (·.2)) = true) (hws : wdsL (l.map (·.2)) = some ws) (hok : okI (l.map (·.2)) = true) (ht : Tm w) (ha : RdI w B na ca a) (hb : RdI w C nb cb b) :
    Calls Tryz.prog 67 #[.slice A n c, .slice B na ca, .slice C nb cb] w fun e w' => e = .returned (.bool (askR (l.map (·.2)) a b)) ∧ Bl w w' := by
  have hw0 := ins_w hg 0
  have hw1 := ins_w hg 1
  have I0 := Lib.hid (fun w h ht => impl_InputWidths 0 rfl A n c l ws w h hg hws hok ht)
  have I1 := Lib.hid (fun w h ht => impl_InputWidths 1 rfl A n c l ws w h hg hws hok ht)
  unfold askR
  generalize insL (l.map (·.2)) 0 = J0 at I0 hw0 ⊢
  generalize insL (l.map (·.2)) 1 = J1 at I1 hw1 ⊢
  clear hg hws hok
  rcases f1 : fitR a J0
  all_goals
    first | rw [Bool.false_and] | rw [Bool.true_and]
    go_enter Tryz.func67, Tryz.ntmps67
    go_wp2_with fail
    refine (I0.out _ h ht).mono ?_
    rintro e w1 ⟨A1, m1, c1, rfl, hm1, ho1, hb1⟩
    go_wp2_with fail
    refine (I1.out _ (h.keep hb1) (ht.keep hb1)).mono ?_
    rintro e w2 ⟨A2, m2, c2, rfl, hm2, ho2, hb2⟩
    have hW := hb1.call hb2
    go_wp2_with fail
    refine (impl_fitWidths B A1 na ca m1 c1 a J0 _ (ha.keep hW) (ho1.rd.keep hb2) hw0).mono ?_
    rintro e w3 ⟨rfl, rfl⟩
    rw [f1]
    go_wp2_with (go_at_call 55; refine (impl_fitWidths C A2 nb cb m2 c2 b J1 _ (hb.keep hW) ho2.rd hw1).mono ?_; rintro e w4 ⟨rfl, rfl⟩)
    go_ret
    exact ⟨rfl, hW⟩
set_option maxHeartbeats 1000000 in
theorem spec_laAsked (A : Option Addr) (n c : Nat) (l : List (Hd × Ln)) (B C : Option Addr) (na ca nb cb : Nat) (a b : List Int) (w : World) (h : RdL w A n c l) (hg : goodB (l.map (·.2)) = true) (ha : RdI w B na ca a) (hb : RdI w C nb cb b) :
    Calls Tryz.prog 116 #[.slice A n c, .slice B na ca, .slice C nb cb] w fun e w' => e = .returned (.bool (askR (l.map (·.2)) a b)) ∧ Bl w w' := by
  have hw0 := ins_w hg 0
  have hw1 := ins_w hg 1
  have hn : n ≤ 1000 := by obtain ⟨_, _, h30, _⟩ := goodB_at hg; rw [List.length_map, h.len] at h30; omega
  have I0 := Lib.hid (fun w h => spec_laInputs A n c l 0 w h hn)
  have I1 := Lib.hid (fun w h => spec_laInputs A n c l 1 w h hn)
  have HG := Lib.hid (fun w h => spec_laGood A n c l w h hg)
  unfold askR
  generalize insL (l.map (·.2)) 0 = J0 at I0 hw0 ⊢
  generalize insL (l.map (·.2)) 1 = J1 at I1 hw1 ⊢
  clear hg
  rcases f1 : fitR a J0
  · rw [Bool.false_and]
    go_enter Tryz.func116, Tryz.ntmps116
    go_wp2_with fail
    refine (HG.out _ h).mono ?_
    rintro e w1 ⟨rfl, hb1⟩
    go_wp2_with fail
    refine (I0.out _ (h.keep hb1)).mono ?_
    rintro e w2 ⟨A1, m1, c1, rfl, hm1, ho1, hb2⟩
    have hW2 := hb1.call hb2
    go_wp2_with fail
    refine (spec_laFit B A1 na ca m1 c1 a J0 _ (ha.keep hW2) ho1.rd hw0).mono ?_
    rintro e w3 ⟨rfl, rfl⟩
    rw [f1]
    go_wp2_with fail
    go_ret
    exact ⟨rfl, hW2⟩
  · rw [Bool.true_and]
    go_enter Tryz.func116, Tryz.ntmps116
    go_wp2_with fail
    refine (HG.out _ h).mono ?_
    rintro e w1 ⟨rfl, hb1⟩
    go_wp2_with fail
    refine (I0.out _ (h.keep hb1)).mono ?_
    rintro e w2 ⟨A1, m1, c1, rfl, hm1, ho1, hb2⟩
    have hW2 := hb1.call hb2
    go_wp2_with fail
    refine (spec_laFit B A1 na ca m1 c1 a J0 _ (ha.keep hW2) ho1.rd hw0).mono ?_
    rintro e w3 ⟨rfl, rfl⟩
    rw [f1]
    go_wp2_with fail
    refine (I1.out _ (h.keep hW2)).mono ?_
    rintro e w4 ⟨A2, m2, c2, rfl, hm2, ho2, hb4⟩
    have hW4 := hW2.call hb4
    go_wp2_with fail
    refine (spec_laFit C A2 nb cb m2 c2 b J1 _ (hb.keep hW4) ho2.rd hw1).mono ?_
    rintro e w5 ⟨rfl, rfl⟩
    go_wp2_with fail
    go_ret
    exact ⟨rfl, hW4⟩
end Go.Proofs.YtjggecbaladiiaaGreatDoor
