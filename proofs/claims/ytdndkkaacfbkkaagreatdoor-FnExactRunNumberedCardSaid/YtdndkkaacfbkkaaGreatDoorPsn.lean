/- Contracts of the reference's RunNumbered.
   Conditions: none. -/
import Derived.Test.YtdndkkaacfbkkaaGreatDoorPsk
import Derived.Test.YtdndkkaacfbkkaaGreatDoorPsm
namespace Go.Proofs.YtdndkkaacfbkkaaGreatDoor
open Go.RowKit
set_option linter.unusedVariables false
set_option maxRecDepth 20000 in
set_option maxHeartbeats 2000000 in
theorem spec_laRun (A : Option Addr) (n c : Nat) (l : List (Hd × Ln)) (L : List Ln) (ws : List Int) (Aa Ab : Option Addr) (na ca nb cb : Nat) (a b : List Int) (w : World) (h : RdL w A n c l) (hL : l.map (·.2) = L) (hg : goodB L = true) (hws : wdsL L = some ws) (hw4 : okW L ws = true) (hq : askR L a b = true) (ha : RdI w Aa na ca a) (hb : RdI w Ab nb cb b) :
    Calls Tryz.prog 27 #[.slice A n c, .slice Aa na ca, .slice Ab nb cb] w fun e w' => ∃ A' n' c', e = .returned (.slice A' n' c') ∧ OwnI w.heap.size w' A' n' c' (outL L (evL ws L a b)) ∧ Bl w w' := by
  subst hL
  obtain ⟨hle1, hle2⟩ := h.le
  have hlen := Lib.hid h.len
  have HVI := Lib.hid (fun w h ha hb => spec_laValues A n c l ws Aa Ab na ca nb cb a b w h hg hws hw4 hq ha hb)
  obtain ⟨e1, e2⟩ := evL_in ws (l.map (·.2)) a b
  obtain ⟨_, _, g30, _⟩ := goodB_at hg
  rw [List.length_map, h.len] at e1 g30
  obtain ⟨V, hV⟩ : ∃ V, evL ws (l.map (·.2)) a b = V := ⟨_, rfl⟩
  rw [hV] at HVI e1 ⊢
  clear hV e2 hg hws hw4 hq
  go_enter Tryz.func27, Tryz.ntmps27
  go_wp2_with fail
  refine (HVI.out _ h ha hb).mono ?_
  rintro e w1 ⟨D, d, rfl, hvO, hb1⟩
  have hD := hvO.rd
  have hDle := hD.le
  have hown0 := OwnI.nil w1.heap.size w1
  have hw1 := hb1.sz
  go_wp2_with fail
  go_loopw [7, 15] (fun o i wr => ∃ (k m c2 : Nat) (A2 : Option Addr), k ≤ n ∧ m ≤ k ∧ i = .int .i64 (k : Nat) ∧ o = .slice A2 m c2 ∧ OwnI w1.heap.size wr A2 m c2 (outL ((l.take k).map (·.2)) (V.take k)) ∧ Bl w1 wr) (fun _ i _ => n - (intOf i).toNat)
  case atStart => exact ⟨0, 0, 0, _, by omega, by omega, rfl, rfl, hown0, Bl.refl _⟩
  case round =>
    clear hown0
    obtain ⟨k, m, c2, A2, hk, hmk, rfl, rfl, hown, hV⟩ := hrel
    have hbl := hb1.call hV
    by_cases hlt : k < n
    · obtain ⟨ad, q, rfl, hadb, hx, hps, c0, c1, c2_, c3_, c4, c5, c6⟩ := (h.keep hbl).at_ hlt
      obtain ⟨bd, v9, rfl, hbdb, hx9, hc9⟩ := (hD.keep hV).at_ hlt
      have HST := Lib.hid (out_step hx hx9)
      clear hx hx9
      have j1 : (k : Int) < n := by omega
      by_cases hy : q.2.k = 6
      · have HS := Lib.hid (show outL ((l.take k).map (·.2)) (V.take k) ++ [v9] = outL ((l.take (k + 1)).map (·.2)) (V.take (k + 1)) by rw [HST.out, if_pos hy])
        have e6 : (q.2.k == 6) = true := by simpa using hy
        clear hy
        go_wp2_with (at_builtin; refine ap_int rfl rfl rfl (hown.keep ((Bl.refl _).alloc (.cells #[.int .i64 v9] 3))) rfl (rd_new1 _ _ _) (by omega) (by have := hV.sz; simp; omega) ?_; intro A4 c4 w8 hown4 hg4 hat4)
        go_roundw
        case rel => exact ⟨k + 1, m + 1, c4, A4, by omega, by omega, by go_num, rfl, by rw [← HS.out]; exact hown4, Bl.grown (hV.alloc _) hg4 (fun q hq => (hown.blk q hq).1)⟩
        case measure => simp [intOf]; omega
      · have HS := Lib.hid (show outL ((l.take k).map (·.2)) (V.take k) = outL ((l.take (k + 1)).map (·.2)) (V.take (k + 1)) by rw [HST.out, if_neg hy, List.append_nil])
        have e6 : (q.2.k == 6) = false := by simpa using hy
        clear hy
        go_wp2_with fail
        go_roundw
        case rel => exact ⟨k + 1, m, c2, A2, by omega, by omega, by go_num, rfl, by rw [← HS.out]; exact hown, hV⟩
        case measure => simp [intOf]; omega
    · obtain rfl : k = n := by omega
      have j1 : ¬ (k : Int) < k := by omega
      go_wp2_with fail
      go_ret
      exact ⟨A2, m, c2, rfl, by rw [List.take_of_length_le (by rw [hlen.out]; exact Nat.le_refl _), List.take_of_length_le (by omega)] at hown; exact OwnI.mono hown hb1.sz, hbl⟩
set_option maxHeartbeats 1000000 in
theorem spec_RunNumbered (a b : Int) (A B : Option Addr) (n c m d : Nat) (x y : List Int) (w : World) (hx : RdI w A n c x) (hy : RdI w B m d y) :
    Calls Tryz.prog 14 #[.int .i64 a, .int .i64 b, .slice A n c, .slice B m d] w fun e w' => ∃ A' n' c', e = .returned (.tuple #[.slice A' n' c', .bool (exB a b x y)]) ∧ OwnI w.heap.size w' A' n' c' (runF a b x y) ∧ Bl w w' := by
  rcases hE : exB a b x y
  · have HF := Lib.hid (show runF a b x y = [] by unfold runF; rw [hE]; rfl)
    go_enter Tryz.func14, Tryz.ntmps14
    go_wp2_with fail
    refine (spec_pgAsked a b A B n c m d x y _ hx hy).mono ?_
    rintro e w1 ⟨rfl, hb1⟩
    rw [hE]
    go_wp2_with fail
    go_ret2
    exact ⟨none, 0, 0, rfl, by rw [HF.out]; exact OwnI.nil _ _, hb1⟩
  · have hE' := hE
    unfold exB at hE'
    rw [Bool.and_eq_true] at hE'
    obtain ⟨k, rfl, hk, hb4, hR⟩ := pgB_at hE'.1
    have hq := hE'.2
    rw [hR] at hq
    have hg := (pg_oks hk hb4).1
    obtain ⟨hw4, hws⟩ := pg_okw hk hb4
    have HF := Lib.hid (show runF k b x y = outL (pgL k b) (evL (wsD (pgL k b)) (pgL k b) x y) by unfold runF; rw [hE, hR]; rfl)
    have RP := Lib.hid (fun A1 n1 c1 l1 w h e hx hy => spec_laRun A1 n1 c1 l1 (pgL k b) (wsD (pgL k b)) A B n c m d x y w h e hg hws hw4 hq hx hy)
    generalize outL (pgL k b) (evL (wsD (pgL k b)) (pgL k b) x y) = R at RP HF
    clear hg hw4 hws hq
    go_enter Tryz.func14, Tryz.ntmps14
    go_wp2_with fail
    refine (spec_pgAsked k b A B n c m d x y _ hx hy).mono ?_
    rintro e w1 ⟨rfl, hb1⟩
    rw [hE]
    go_wp2_with fail
    refine (spec_pgFor k hk b hb4 _).mono ?_
    rintro e w2 ⟨A2, n2, c2, l2, rfl, hl2, hm2, hb2⟩
    have HM := Lib.hid hm2
    clear hm2
    have hW2 := hb1.call hb2
    go_wp2_with fail
    refine (RP.out A2 n2 c2 l2 _ hl2 HM.out (hx.keep hW2) (hy.keep hW2)).mono ?_
    rintro e w3 ⟨A3, n3, c3, rfl, ho, hb3⟩
    go_wp2_with fail
    go_ret2
    exact ⟨A3, n3, c3, rfl, by rw [HF.out]; exact OwnI.mono ho hW2.sz, hW2.call hb3⟩
end Go.Proofs.YtdndkkaacfbkkaaGreatDoor
