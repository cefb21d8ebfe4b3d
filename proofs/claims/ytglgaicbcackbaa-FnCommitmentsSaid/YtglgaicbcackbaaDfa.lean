/- Contract of the draw of FaultsOf.
   Conditions: the text is bytes. -/
import Derived.Test.YtglgaicbcackbaaDrx
import Derived.Test.YtglgaicbcackbaaSls
namespace Go.Proofs.Ytglgaicbcackbaa
open Go.RowKit
set_option linter.unusedVariables false
theorem OwnS.alloc {base n c : Nat} {w : World} {A : Option Addr} {l : List Sea} (h : OwnS base w A n c l) (o : Obj) : OwnS base (w.alloc o) A n c l := ⟨h.1.alloc o, h.2⟩
theorem OwnS.nil (base : Nat) (w : World) : OwnS base w none 0 0 [] := ⟨OwnV.nil _ _ _ _, rfl⟩
theorem OwnS.grownC {base n c g : Nat} {w w' : World} {A : Option Addr} {l : List Sea} (h : OwnS base w A n c l) (hg : w.grownBy w' (some g)) (hb : g < base) : OwnS base w' A n c l :=
  ⟨h.1.grown hg (by
    rcases hA : A.map (·.block) with _ | k
    · exact .inl hA
    · have := (h.1.blk k hA).1
      exact .inr (by intro e; rw [hA] at e; injection e with e; omega)), h.2⟩
theorem Rd.keptR {w w' : World} {size n c : Nat} {A : Option Addr} {xs : List Value} {row : Option Nat} (h : Rd w size A n c xs) (hg : w.grownBy w' row) (hne : 0 < n → ∀ a, A = some a → some a.block ≠ row) : Rd w' size A n c xs :=
  ⟨h.len, h.cap, h.max, fun hn => by
    obtain ⟨ad, e, hl, hc⟩ := h.at0 hn
    refine ⟨ad, e, Nat.lt_of_lt_of_le hl hg.size, fun j u hu => ?_⟩
    have hb := hg.block _ hl (hne hn ad e)
    rw [World.cell?_of_block (w := w) (w' := w') (a := ad.add j) (by rw [block_of_add]; exact hb)]
    exact hc j u hu⟩
theorem Cur.grownR {w w' : World} {g k : Nat} {row : Option Nat} (h : Cur w g k) (hg : w.grownBy w' row) (hr : ∀ b, row = some b → g < b) : Cur w' g k := by
  obtain ⟨A, n, c, l, i, s, h1, h2, h3⟩ := h
  refine ⟨A, n, c, l, i, s, ⟨h1.blk.grown hg (by intro e; have := hr g e.symm; omega), ⟨h1.rd.1.keptR hg (fun hn a ha e => ?_), h1.rd.2⟩, h1.far⟩, h2, h3⟩
  have h4 := h1.far hn a ha
  have h5 := hr _ e.symm
  omega
theorem grown_over {w w' w2 : World} {row row2 : Option Nat} (h : w.grownBy w' row) (hg : w'.grownBy w2 row2) (hr : ∀ b, row2 = some b → w.heap.size ≤ b) : w.grownBy w2 row := by
  refine ⟨hg.os.trans h.os, hg.tape.trans h.tape, hg.output.trans h.output, Nat.le_trans h.size hg.size, fun k hk hr2 => ?_⟩
  rw [hg.block k (Nat.lt_of_lt_of_le hk h.size) (by intro e; have := hr k e.symm; omega)]
  exact h.block k hk hr2
theorem rd_sea1 (w : World) (p m v b : Int) (o : Bool) {g : Nat} (hg : w.heap.size = g := by first | with_reducible rfl | simp) :
    RdS (w.alloc (.cells #[.int .i64 p, .int .i64 m, .int .i64 v, .int .i64 b, .bool o] 38)) (some ⟨g, 0, none⟩) 1 1 [⟨p, m, v, b, o⟩] := by
  subst hg
  refine ⟨⟨rfl, Nat.le_refl _, by simp [maxLen], fun _ => ⟨_, rfl, by simp, fun j u hu => ?_⟩⟩, rfl⟩
  have hadd : (⟨w.heap.size, 0, none⟩ : Addr).add j = ⟨w.heap.size, j, none⟩ := by unfold Addr.add; split <;> simp_all
  rw [hadd, cell_of_row _ w.heap.size j _ _ (0, 0) (heap_alloc_new w _)]
  simpa [seas, encs, Sea.enc] using hu
theorem seas_one (l : List Sea) : ∀ u ∈ seas l, u.oneCell' = true := by
  intro u hu
  simp only [seas, encs, List.mem_flatMap, Sea.enc] at hu
  obtain ⟨x, _, hx⟩ := hu
  simp only [List.mem_cons, List.not_mem_nil, or_false] at hx
  rcases hx with rfl | rfl | rfl | rfl | rfl <;> rfl
def slLen : Value → Nat
  | .slice _ n _ => n
  | _ => 0
section
variable {ops : Array Oper} {rest : List Oper} {o : Oper} {a : Act} {Q : Exit → Act → World → Prop} {w : World}
theorem ap_sea (hgd : o.guard = none) {s x : Operand} (ho : o.op = .call { callee := .builtin .append, args := #[s, x], argTypes := #[49, 49] })
    {base n c m d : Nat} {A B : Option Addr} {l l' : List Sea} (hs : a.eval s = .slice A n c) (hown : OwnS base w A n c l) (hx : a.eval x = .slice B m d) (hr : RdS w B m d l')
    (hb : n + m ≤ 3000000) (hbase : base ≤ w.heap.size)
    (h : ∀ A' c' w', OwnS base w' A' (n + m) c' (l ++ l') → w.grownBy w' (A.map (·.block)) →
      wpList Try.prog ops Q rest (a.put o.dst (.slice A' (n + m) c')) w') : wpList Try.prog ops Q (o :: rest) a w := by
  obtain ⟨i0, hi, hz0, hz1, hz2⟩ := info_parts sea_info
  obtain ⟨A', c', w', hrun, h2, h3, h4⟩ := run_append_any (P := Try.prog) w base 49 o.type 38 i0 _ 5 40 Try.underlying49 hi hz0 hz1 hz2 rfl (by decide)
    (.slice A n c) n (seas l) hown.1 B m d (seas l') hr.1 (seas_one l') (by simp only [maxLen]; omega) (by omega) hbase
  rw [ownBlock_slice] at h3 h4
  refine wpList_plain hgd fun K hK => ?_
  unfold Oper.wp execOp
  simp only [ho, resolve, invoke, builtin, Sem.run_bind, Sem.run_pure, Result.andThen_ok, List.map_toArray, List.map_cons, List.map_nil, hs, hx, hrun]
  refine hK _ _ (h A' c' w' ⟨?_, by simp [hown.2, hr.2]⟩ h3)
  unfold seas
  rw [encs_append]
  exact h2
end
set_option maxRecDepth 20000 in
set_option maxHeartbeats 4000000 in
theorem spec_DrawFaultsOf (w : World) (A : Option Addr) (n c : Nat) (l : List Int) (h : RdB w A n c l) :
    Calls Try.prog 36 #[.slice A n c] w fun e w' => ∃ A n c l, e = .returned (.slice A n c) ∧ RdS w' A n c l ∧ Bl w w' := by
  have hC := Cur.new w h
  have hG := World.grownBy.refl (w.alloc (.cells #[.slice A n c, .int .i64 0, .int .u64 0] 67)) (some w.heap.size)
  have hW0 := (Bl.refl w).alloc (.cells #[.slice A n c, .int .i64 0, .int .u64 0] 67)
  have hs0 : (w.alloc (.cells #[.slice A n c, .int .i64 0, .int .u64 0] 67)).heap.size = w.heap.size + 1 := by simp
  go_enter Try.func36, Try.ntmps36
  go_wp2_with (go_at_call 67; refine (cur_pick _ _ _ hC (by omega) _ (by omega)).mono ?_; rintro e w1 ⟨x, rfl, hx0, hx1, hC1, hG1⟩; replace hG := Lib.grownBy_trans hG hG1; replace hC := hC1; clear hC1 hG1)
  obtain ⟨w0, hw0⟩ : ∃ w0, w.alloc (.cells #[.slice A n c, .int .i64 0, .int .u64 0] 67) = w0 := ⟨_, rfl⟩
  rw [hw0] at hG hW0 hs0
  obtain ⟨g, hg⟩ : ∃ g, w.heap.size = g := ⟨_, rfl⟩
  rw [hg] at hC hG hs0 ⊢
  go_loopw [4, 5] (fun s i wr => ∃ k n A c l, k ≤ 6 ∧ n + k ≤ 6 ∧ i = .int .i64 (k : Nat) ∧ s = .slice A n c ∧ OwnS (g + 1) wr A n c l ∧ Cur wr g (2 + 40 * (6 - k)) ∧ w0.grownBy wr (some g)) (fun _ i _ => (intOf i).toNat)
  case atStart => exact ⟨x.toNat, 0, none, 0, [], by omega, by omega, by (congr 1; omega), rfl, OwnS.nil _ _, hC.mono (by omega), hG⟩
  case round =>
    clear hC hG
    obtain ⟨k, n, A, c, l, hk, hnk, rfl, rfl, hown, hC, hG⟩ := hrel
    by_cases hlt : 0 < k
    · have i1 : (0 : Int) < k := by omega
      go_wp2_with (first | (go_at_call 67; refine (cur_pick _ _ _ hC (by omega) _ (by omega)).mono ?_; rintro e w1 ⟨x2, rfl, hx20, hx21, hC1, hG1⟩; replace hown := hown.grownC hG1 (by omega); replace hG := Lib.grownBy_trans hG hG1; replace hC := hC1; clear hC1 hG1) | (go_at_call 91; refine (cur_sealedOf _ _ _ hC (by omega) _ (by omega)).mono ?_; rintro e w1 ⟨a, b, c2, d, o, rfl, hC1, hG1⟩; replace hown := hown.grownC hG1 (by omega); replace hG := Lib.grownBy_trans hG hG1; replace hC := hC1; clear hC1 hG1) | (at_builtin; refine ap_sea rfl rfl rfl (hown.alloc _) rfl (rd_sea1 _ a b c2 d o) (by omega) (by have := hC.lt; simp; omega) ?_; intro A2 c3 w2 hown2 hg2))
      go_roundw
      case rel => exact ⟨k - 1, n + 1, A2, c3, _, by omega, by omega, by go_num, rfl, hown2, ((hC.keep ((Bl.refl _).alloc _)).grownR hg2 (fun q hq => by have := (hown.1.blk q hq).1; omega)).mono (by omega), grown_over (Lib.grownBy_allocR hG _) hg2 (fun q hq => by have := (hown.1.blk q hq).1; omega)⟩
      case measure => simp [intOf]; omega
    · have i1 : ¬ (0 : Int) < k := by omega
      have hC0 := hC.mono (k' := 300) (by omega)
      clear hC
      have hC := hC0
      clear hC0
      go_wp2_with (first | (go_at_call 69; refine (cur_one _ _ _ hC (by omega) _ (by omega)).mono ?_; rintro e w1 ⟨b, rfl, hC1, hG1⟩; replace hown := hown.grownC hG1 (by omega); replace hG := Lib.grownBy_trans hG hG1; replace hC := hC1; clear hC1 hG1; cases b) | (go_at_call 67; refine (cur_pick _ _ _ hC (by omega) _ (by omega)).mono ?_; rintro e w1 ⟨x2, rfl, hx20, hx21, hC1, hG1⟩; replace hown := hown.grownC hG1 (by omega); replace hG := Lib.grownBy_trans hG hG1; replace hC := hC1; clear hC1 hG1))
      · go_ret
        exact ⟨_, _, _, _, rfl, hown.rd, Bl.grown hW0 hG (fun k hk => by cases hk; omega)⟩
      · go_loopw [4] (fun s wr => ∃ n A c l, n ≤ 22 ∧ s = .slice A n c ∧ OwnS (g + 1) wr A n c l ∧ Cur wr g 320 ∧ w0.grownBy wr (some g)) (fun s _ => 30 - slLen s)
        case atStart => exact ⟨_, _, _, _, by omega, rfl, hown, hC.mono (by omega), hG⟩
        case round =>
          clear hC hG hown
          obtain ⟨m, A, c, l, hm, rfl, hown, hC, hG⟩ := hrel
          by_cases hlt : (m : Int) < 20 + x2
          · go_wp2_with (first | (at_builtin; refine ap_sea rfl rfl rfl (hown.alloc _) rfl (rd_sea1 _ 0 0 0 0 false) (by omega) (by have := hC.lt; simp; omega) ?_; intro A2 c3 w2 hown2 hg2))
            go_roundw
            case rel => exact ⟨m + 1, A2, c3, _, by omega, rfl, hown2, ((hC.keep ((Bl.refl _).alloc _)).grownR hg2 (fun q hq => by have := (hown.1.blk q hq).1; omega)), grown_over (Lib.grownBy_allocR hG _) hg2 (fun q hq => by have := (hown.1.blk q hq).1; omega)⟩
            case measure => simp [slLen]; omega
          · go_wp2
            go_ret
            exact ⟨_, _, _, rfl, ⟨_, hown.rd⟩, Bl.grown hW0 hG (fun k hk => by cases hk; omega)⟩
end Go.Proofs.Ytglgaicbcackbaa
