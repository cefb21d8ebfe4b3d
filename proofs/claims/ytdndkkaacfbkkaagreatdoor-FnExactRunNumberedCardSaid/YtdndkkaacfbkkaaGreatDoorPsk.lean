/- Contracts of the program's RunNumbered.
   Conditions: the library's tables are laid. -/
import Derived.Test.YtdndkkaacfbkkaaGreatDoorPsj
namespace Go.Proofs.YtdndkkaacfbkkaaGreatDoor
open Go.RowKit
set_option linter.unusedVariables false
def wsD (L : List Ln) : List Int := (wdsL L).getD []
theorem okW_all : ∀ k, k < 12 → okW (pgL k 1) (wsD (pgL k 1)) = true ∧ okW (pgL k 2) (wsD (pgL k 2)) = true ∧ okW (pgL k 3) (wsD (pgL k 3)) = true ∧ okW (pgL k 4) (wsD (pgL k 4)) = true := by decide +kernel
theorem pg_okw {k : Nat} {w : Int} (hk : k < 12) (hw : inR w 1 4 = true) : okW (pgL k w) (wsD (pgL k w)) = true ∧ wdsL (pgL k w) = some (wsD (pgL k w)) := by
  refine ⟨?_, ?_⟩
  · have h1 := inR_iff.1 hw
    obtain ⟨a, b, c, d⟩ := okW_all k hk
    rcases (by omega : w = 1 ∨ w = 2 ∨ w = 3 ∨ w = 4) with rfl | rfl | rfl | rfl <;> assumption
  · obtain ⟨ws, hws, _⟩ := goodB_at (pg_oks hk hw).1
    unfold wsD
    rw [hws]; rfl
/-- The results of a run. -/
def runF (a b : Int) (x y : List Int) : List Int := if exB a b x y then outL (pgR a b) (evL (wsD (pgR a b)) (pgR a b) x y) else []
theorem outL_len : ∀ (L : List Ln) (V : List Int), (outL L V).length ≤ L.length
  | [], _ => by simp [outL]
  | _ :: _, [] => by simp [outL]
  | x :: r, v :: V => by
    rw [outL]
    have := outL_len r V
    split <;> simp <;> omega
theorem runF_len (a b : Int) (x y : List Int) : (runF a b x y).length ≤ 1000 := by
  unfold runF
  split
  · rename_i h
    unfold exB at h
    rw [Bool.and_eq_true] at h
    obtain ⟨k, rfl, hk, hb4, hR⟩ := pgB_at h.1
    have h1 := outL_len (pgR k b) (evL (wsD (pgR k b)) (pgR k b) x y)
    obtain ⟨_, _, h2, _⟩ := goodB_at (pg_oks hk hb4).1
    rw [hR] at h1 ⊢
    omega
  · simp
set_option maxRecDepth 20000 in
set_option maxHeartbeats 2000000 in
theorem impl_RunProgram (A : Option Addr) (n c : Nat) (l : List (Hd × Ln)) (L : List Ln) (ws : List Int) (Aa Ab : Option Addr) (na ca nb cb : Nat) (a b : List Int) (w : World) (h : RdL w A n c l) (hL : l.map (·.2) = L) (hg : goodB L = true) (hws : wdsL L = some ws) (hok : okI L = true) (hw4 : okW L ws = true) (ht : Tm w) (ha : RdI w Aa na ca a) (hb : RdI w Ab nb cb b) :
    Calls Tryz.prog 29 #[.slice A n c, .slice Aa na ca, .slice Ab nb cb] w fun e w' => ∃ A' n' c', e = .returned (.tuple #[.slice A' n' c', .bool (askR L a b)]) ∧ OwnI w.heap.size w' A' n' c' (if askR L a b then outL L (evL ws L a b) else []) ∧ Bl w w' := by
  subst hL
  obtain ⟨hle1, hle2⟩ := h.le
  have hlen := Lib.hid h.len
  have HAV := Lib.hid (fun w h ht ha hb => impl_areValues A n c l ws Aa Ab na ca nb cb a b w h hg hws hok ht ha hb)
  rcases hq : askR (l.map (·.2)) a b
  · rw [hq] at HAV
    have VI : Hid (∀ w, RdL w A n c l → Tm w → RdI w Aa na ca a → RdI w Ab nb cb b → Calls Tryz.prog 63 #[.slice A n c, .slice Aa na ca, .slice Ab nb cb] w fun e w' => e = .returned (.tuple #[.slice none 0 0, .bool false]) ∧ Bl w w') := Lib.hid (by
      clear h ht ha hb w
      intro w h ht ha hb
      go_enter Tryz.func63, Tryz.ntmps63
      go_wp2_with fail
      refine (HAV.out _ h ht ha hb).mono ?_
      rintro e w1 ⟨rfl, hb1⟩
      go_wp2_with fail
      go_ret2
      exact ⟨rfl, hb1⟩)
    go_enter Tryz.func29, Tryz.ntmps29
    go_wp2_with fail
    refine (VI.out _ h ht ha hb).mono ?_
    rintro e w1 ⟨rfl, hb1⟩
    go_wp2_with fail
    all_goals
      go_ret2
      exact ⟨none, 0, 0, rfl, OwnI.nil _ _, hb1⟩
  · rw [hq] at HAV
    have HVI := Lib.hid (fun w h ht ha hb => impl_valuesIn A n c l ws Aa Ab na ca nb cb a b w h hg hws hok hw4 hq ht ha hb)
    obtain ⟨e1, e2⟩ := evL_in ws (l.map (·.2)) a b
    obtain ⟨_, _, g30, _⟩ := goodB_at hg
    rw [List.length_map, h.len] at e1 g30
    obtain ⟨V, hV⟩ : ∃ V, evL ws (l.map (·.2)) a b = V := ⟨_, rfl⟩
    rw [hV] at HVI e1 ⊢
    clear hV e2 hg hws hok hw4
    have VI : Hid (∀ w, RdL w A n c l → Tm w → RdI w Aa na ca a → RdI w Ab nb cb b → Calls Tryz.prog 63 #[.slice A n c, .slice Aa na ca, .slice Ab nb cb] w fun e w' => ∃ A' c', e = .returned (.tuple #[.slice A' n c', .bool true]) ∧ OwnI w.heap.size w' A' n c' V ∧ Bl w w') := Lib.hid (by
      clear h ht ha hb w
      intro w h ht ha hb
      go_enter Tryz.func63, Tryz.ntmps63
      go_wp2_with fail
      refine (HAV.out _ h ht ha hb).mono ?_
      rintro e w1 ⟨rfl, hb1⟩
      go_wp2_with fail
      refine (HVI.out _ (h.keep hb1) (ht.keep hb1) (ha.keep hb1) (hb.keep hb1)).mono ?_
      rintro e w2 ⟨A2, c2, rfl, ho, hb2⟩
      go_wp2_with fail
      go_ret2
      exact ⟨A2, c2, rfl, OwnI.mono ho hb1.sz, hb1.call hb2⟩)
    go_enter Tryz.func29, Tryz.ntmps29
    go_wp2_with fail
    refine (VI.out _ h ht ha hb).mono ?_
    rintro e w1 ⟨D, d, rfl, hvO, hb1⟩
    have hD := hvO.rd
    have hDle := hD.le
    have hown0 := own_made w1
    have hV0 := (Bl.refl w1).alloc (.cells #[] 3)
    have hw1 := hb1.sz
    go_wp2_with fail
    generalize w1.alloc (.cells #[] 3) = u0 at hown0 hV0 ⊢
    go_loopw [10, 25] (fun o i wr => ∃ (k m c2 : Nat) (A2 : Option Addr), k ≤ n ∧ m ≤ k ∧ i = .int .i64 (k : Nat) ∧ o = .slice A2 m c2 ∧ OwnI w1.heap.size wr A2 m c2 (outL ((l.take k).map (·.2)) (V.take k)) ∧ Bl w1 wr) (fun _ i _ => n - (intOf i).toNat)
    case atStart => exact ⟨0, 0, 0, _, by omega, by omega, rfl, rfl, hown0, hV0⟩
    case round =>
      clear hown0 hV0
      obtain ⟨k, m, c2, A2, hk, hmk, rfl, rfl, hown, hV⟩ := hrel
      have hbl := hb1.call hV
      by_cases hlt : k < n
      · obtain ⟨ad, q, rfl, hadb, hx, hps, c0, c1, c2_, c3_, c4, c5, c6⟩ := (h.keep hbl).at_ hlt
        obtain ⟨bd, v9, rfl, hbdb, hx9, hc9⟩ := (hD.keep hV).at_ hlt
        have HST := Lib.hid (out_step hx hx9)
        clear hx hx9
        have j1 : (k : Int) < n := by omega
        have hX := Blk.new wr 70 #[.int .i64 q.2.k, .string q.2.nm, .string q.2.op, .slice q.1.A q.1.n q.1.c, .int .i64 q.2.pt, .int .i64 q.2.wd, .int .i64 q.2.vl] (g := wr.heap.size)
        have hX0 := hX.cell 0 _ rfl
        have hV5 := (Bl.refl wr).alloc (.cells #[.int .i64 q.2.k, .string q.2.nm, .string q.2.op, .slice q.1.A q.1.n q.1.c, .int .i64 q.2.pt, .int .i64 q.2.wd, .int .i64 q.2.vl] 70)
        by_cases hy : q.2.k = 6
        · have HS := Lib.hid (show outL ((l.take k).map (·.2)) (V.take k) ++ [v9] = outL ((l.take (k + 1)).map (·.2)) (V.take (k + 1)) by rw [HST.out, if_pos hy])
          have e6 : (q.2.k == 6) = true := by simpa using hy
          clear hy
          have hbd5 := Nat.lt_of_lt_of_le hbdb hV5.sz
          have hc5 := Bl.cells hV5 hc9
          go_wp2_with (at_builtin; refine ap_int rfl rfl rfl ((hown.keep hV5).keep ((Bl.refl _).alloc (.cells #[.int .i64 v9] 3))) rfl (rd_new1 _ _ _) (by omega) (by have := hV.sz; have := hV5.sz; simp; omega) ?_; intro A4 c4 w8 hown4 hg4 hat4)
          go_roundw
          case rel => exact ⟨k + 1, m + 1, c4, A4, by omega, by omega, by go_num, rfl, by rw [← HS.out]; exact hown4, Bl.grown ((hV.call hV5).alloc _) hg4 (fun q hq => (hown.blk q hq).1)⟩
          case measure => simp [intOf]; omega
        · have HS := Lib.hid (show outL ((l.take k).map (·.2)) (V.take k) = outL ((l.take (k + 1)).map (·.2)) (V.take (k + 1)) by rw [HST.out, if_neg hy, List.append_nil])
          have e6 : (q.2.k == 6) = false := by simpa using hy
          clear hy
          go_wp2_with fail
          go_roundw
          case rel => exact ⟨k + 1, m, c2, A2, by omega, by omega, by go_num, rfl, by rw [← HS.out]; exact hown.keep hV5, hV.call hV5⟩
          case measure => simp [intOf]; omega
      · obtain rfl : k = n := by omega
        have j1 : ¬ (k : Int) < k := by omega
        go_wp2_with fail
        go_ret2
        exact ⟨A2, m, c2, rfl, by rw [List.take_of_length_le (by rw [hlen.out]; exact Nat.le_refl _), List.take_of_length_le (by omega)] at hown; exact OwnI.mono hown hb1.sz, hbl⟩
set_option maxHeartbeats 1000000 in
theorem impl_RunNumbered (a b : Int) (A B : Option Addr) (n c m d : Nat) (x y : List Int) (w : World) (hx : RdI w A n c x) (hy : RdI w B m d y) (ht : Tb w) :
    Calls Tryz.prog 15 #[.int .i64 a, .int .i64 b, .slice A n c, .slice B m d] w fun e w' => ∃ A' n' c', e = .returned (.tuple #[.slice A' n' c', .bool (exB a b x y)]) ∧ OwnI w.heap.size w' A' n' c' (runF a b x y) ∧ Bl w w' := by
  rcases hB : pgB a b
  · have HE := Lib.hid (show exB a b x y = false by unfold exB; rw [hB]; rfl)
    have HF := Lib.hid (show runF a b x y = [] by unfold runF; rw [HE.out]; rfl)
    go_enter Tryz.func15, Tryz.ntmps15
    go_wp2_with fail
    refine (impl_ProgramFor a b _ ht).mono ?_
    rintro e w1 ⟨A1, n1, c1, l1, rfl, ho1, hm1, hb1⟩
    rw [hB]
    clear hm1
    go_wp2_with fail
    go_ret2
    exact ⟨none, 0, 0, by rw [HE.out]; rfl, by rw [HF.out]; exact OwnI.nil _ _, hb1⟩
  · obtain ⟨k, rfl, hk, hb4, hR⟩ := pgB_at hB
    obtain ⟨hg, hok⟩ := pg_oks hk hb4
    obtain ⟨hw4, hws⟩ := pg_okw hk hb4
    have HE := Lib.hid (show exB k b x y = askR (pgL k b) x y by unfold exB; rw [hB, hR]; rfl)
    have HF := Lib.hid (show runF k b x y = if askR (pgL k b) x y then outL (pgL k b) (evL (wsD (pgL k b)) (pgL k b) x y) else [] by unfold runF; rw [HE.out, hR])
    have RP := Lib.hid (fun A1 n1 c1 l1 w h e ht hx hy => impl_RunProgram A1 n1 c1 l1 (pgL k b) (wsD (pgL k b)) A B n c m d x y w h e hg hws hok hw4 ht hx hy)
    generalize (if askR (pgL k b) x y then outL (pgL k b) (evL (wsD (pgL k b)) (pgL k b) x y) else []) = R at RP HF
    generalize askR (pgL k b) x y = Q at RP HE
    clear hg hok hw4 hws
    go_enter Tryz.func15, Tryz.ntmps15
    go_wp2_with fail
    refine (impl_ProgramFor k b _ ht).mono ?_
    rintro e w1 ⟨A1, n1, c1, l1, rfl, ho1, hm1, hb1⟩
    rw [hB]
    rw [hR] at hm1
    have HM := Lib.hid hm1
    clear hm1
    go_wp2_with fail
    refine (RP.out A1 n1 c1 l1 _ ho1.rd HM.out (ht.keep hb1).m (hx.keep hb1) (hy.keep hb1)).mono ?_
    rintro e w2 ⟨A2, n2, c2, rfl, ho, hb2⟩
    go_wp2_with fail
    go_ret2
    exact ⟨A2, n2, c2, by rw [HE.out]; rfl, by rw [HF.out]; exact OwnI.mono ho hb1.sz, hb1.call hb2⟩
end Go.Proofs.YtdndkkaacfbkkaaGreatDoor
