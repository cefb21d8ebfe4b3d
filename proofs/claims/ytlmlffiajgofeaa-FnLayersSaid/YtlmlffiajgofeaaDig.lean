/- Contracts of the small number tests and of the digest: each call returns what the plain function says and leaves old memory alone.
   Conditions: the digest's numbers lie within plus and minus 10^15 and are at most 10^6. -/
import Derived.Test.YtlmlffiajgofeaaBase
namespace Go.Proofs.Ytlmlffiajgofeaa
open Go.RowKit
set_option linter.unusedVariables false
theorem impl_within (n lo hi : Int) (w : World) :
    Calls Try.prog 78 #[.int .i64 n, .int .i64 lo, .int .i64 hi] w fun e w' => e = .returned (.bool (inR n lo hi)) ∧ w = w' := by
  go_enter Try.func78, Try.ntmps78
  go_wp2
  all_goals go_ret
  all_goals (refine ⟨ret_bool ?_, rfl⟩; simp only [inR]; first | (rw [Bool.eq_iff_iff]; simp; omega) | (simp; omega))
theorem spec_l1In (n lo hi : Int) (w : World) :
    Calls Try.prog 79 #[.int .i64 n, .int .i64 lo, .int .i64 hi] w fun e w' => e = .returned (.bool (inR n lo hi)) ∧ w = w' := by
  go_enter Try.func79, Try.ntmps79
  go_wp2
  all_goals go_ret
  all_goals (refine ⟨ret_bool ?_, rfl⟩; simp only [inR]; first | (rw [Bool.eq_iff_iff]; simp; omega) | (simp; omega))
theorem impl_isBit (n : Int) (w : World) :
    Calls Try.prog 129 #[.int .i64 n] w fun e w' => e = .returned (.bool (inR n 0 1)) ∧ w = w' := by
  go_enter Try.func129, Try.ntmps129
  go_wp2
  all_goals go_ret
  all_goals (refine ⟨ret_bool ?_, rfl⟩; simp only [inR]; first | (rw [Bool.eq_iff_iff]; simp; omega) | (simp; omega))
theorem impl_bit (b : Bool) (w : World) :
    Calls Try.prog 101 #[.bool b] w fun e w' => e = .returned (.int .i64 (if b then 1 else 0)) ∧ w = w' := by
  cases b <;> go_enter Try.func101, Try.ntmps101 <;> go_wp2 <;> go_ret <;> exact ⟨rfl, rfl⟩
theorem impl_isKey (n : Int) (w : World) :
    Calls Try.prog 62 #[.int .i64 n] w fun e w' => e = .returned (.bool (inR n 0 1000000000)) ∧ w = w' := by
  go_enter Try.func62, Try.ntmps62
  go_wp2_with (go_at_call 78; refine (impl_within _ _ _ _).mono ?_; rintro e w' ⟨rfl, rfl⟩)
  go_ret
  exact ⟨rfl, rfl⟩
theorem spec_btMod (a m : Int) (w : World) (ha : -1000000000000000000 ≤ a) (ha' : a ≤ 1000000000000000000) (hm : 1 ≤ m) (hm' : m ≤ 1000000000000000000) :
    Calls Try.prog 145 #[.int .i64 a, .int .i64 m] w fun e w' => e = .returned (.int .i64 (a % m)) ∧ w = w' := by
  have hm0 : (m == 0) = false := by simp; omega
  have h1 := Int.tmod_lt_of_pos a (show 0 < m by omega)
  have h2 : -m < a.tmod m := by
    have := Int.lt_tmod_of_pos a (show 0 < m by omega); omega
  go_enter Try.func145, Try.ntmps145
  go_wp2
  go_ret
  refine ⟨ret_int ?_, rfl⟩
  exact tmod_fix a m
theorem slices_Clone (A : Option Addr) (n c : Nat) (l : List Int) (w : World) (h : RdI w A n c l) (hn : n ≤ 17592186044415) :
    Calls Try.prog 122 #[.slice A n c] w fun e w' => ∃ A' c', e = .returned (.slice A' n c') ∧ OwnI w.heap.size w' A' n c' l ∧ Bl w w' := by
  have hown := own_made w
  have hr := h.keep ((Bl.refl w).alloc (.cells #[] 3))
  rcases A with _ | ad
  · have h0 : n = 0 := by
      rcases Nat.eq_zero_or_pos n with h0 | h0
      · exact h0
      · obtain ⟨ad, h, _⟩ := h.at0 h0
        cases h
    subst h0
    have hl : l = [] := List.eq_nil_of_length_eq_zero h.length
    subst hl
    have hnil := fun (w : World) (n c : Nat) => Lib.run_eql_slice_nil (P := Try.prog) w 24 3 none n c 0 0 Try.underlying24
    go_enter Try.func122, Try.ntmps122
    go_wp2
    go_ret
    exact ⟨none, 0, by simp, OwnI.nil _ _, Bl.refl _⟩
  · have hnil := fun (w : World) (n c : Nat) => Lib.run_eql_slice_nil (P := Try.prog) w 24 3 (some ad) n c 0 0 Try.underlying24
    go_enter Try.func122, Try.ntmps122
    go_wp2_with (at_builtin; refine ap_int rfl rfl rfl hown rfl hr (by omega) (by simp) ?_; intro A1 c1 w1 hown1 hg1 hat1)
    go_ret
    refine ⟨A1, c1, by simp, by simpa using hown1, ((Bl.refl w).alloc _).grown hg1 ?_⟩
    simp
theorem spec_l1Own (A : Option Addr) (n c : Nat) (l : List Int) (w : World) (h : RdI w A n c l) (hn : n ≤ 17592186044415) :
    Calls Try.prog 125 #[.slice A n c] w fun e w' => ∃ A' c', e = .returned (.slice A' n c') ∧ OwnI w.heap.size w' A' n c' l ∧ Bl w w' := by
  have hown := own_made w
  have hr := h.keep ((Bl.refl w).alloc (.cells #[] 3))
  go_enter Try.func125, Try.ntmps125
  go_wp2_with (at_builtin; refine ap_int rfl rfl rfl hown rfl hr (by omega) (by simp) ?_; intro A1 c1 w1 hown1 hg1 hat1)
  go_ret
  refine ⟨A1, c1, by simp, by simpa using hown1, ((Bl.refl w).alloc _).grown hg1 ?_⟩
  simp
/-- One round of the digest. -/
def dstep (a x : Int) : Int := (25214 * a + x + 17) % 1000003 * ((25214 * a + x + 17) % 1000003 / 64 + 5) % 1000003
/-- The digest of a list. -/
def dig (l : List Int) : Int := ((l ++ [8, 1]).foldl dstep (40503 + l.length)) % 65536
def Words (l : List Int) : Prop := ∀ x ∈ l, -1000000000000000 ≤ x ∧ x ≤ 1000000000000000
theorem prod_bd (G : Int) (h0 : 0 ≤ G) (h1 : G < 1000003) : 0 ≤ G * (G / 64 + 5) ∧ G * (G / 64 + 5) ≤ 1000000000000 := by
  have a : 0 ≤ G / 64 + 5 := by omega
  have b : G / 64 + 5 ≤ 16000 := by omega
  refine ⟨Int.mul_nonneg h0 a, ?_⟩
  have := Int.mul_le_mul (show G ≤ 1000003 by omega) b a (by omega)
  omega
theorem dstep_eq (F x G : Int) (h : (25214 * F + x + 17) % 1000003 = G) : dstep F x = G * (G / 64 + 5) % 1000003 := by unfold dstep; rw [h]
theorem dstep_bd (a x : Int) : 0 ≤ dstep a x ∧ dstep a x < 1000003 := by unfold dstep; omega
theorem dig_bd (l : List Int) : 0 ≤ dig l ∧ dig l ≤ 65535 := by unfold dig; omega
theorem dfold_bd (l : List Int) (a : Int) (h : 0 ≤ a ∧ a ≤ 2000000) : 0 ≤ l.foldl dstep a ∧ l.foldl dstep a ≤ 2000000 := by
  induction l generalizing a with
  | nil => exact h
  | cons x l ih => exact ih _ (by have := dstep_bd a x; omega)
theorem foldl_snoc {α β : Type} (f : α → β → α) (a : α) (l : List β) (k : Nat) (x : β) (hx : l[k]? = some x) : (l.take (k + 1)).foldl f a = f ((l.take k).foldl f a) x := by
  rw [List.take_add_one, hx]; simp
set_option maxHeartbeats 400000 in
theorem spec_dgMix (A : Option Addr) (n c : Nat) (l : List Int) (w : World) (h : RdI w A n c l) (hw : Words l) (hn : n ≤ 1000000) :
    Calls Try.prog 131 #[.slice A n c] w fun e w' => e = .returned (.int .i64 (dig l)) ∧ Bl w w' := by
  have hle := h.le
  obtain ⟨hle1, hle2⟩ := hle
  have hlen := Lib.hid h.length
  go_enter Try.func131, Try.ntmps131
  go_wp2_with (first
    | (go_at_call 125; refine (spec_l1Own A n c l w h (by omega)).mono ?_; rintro e w1 ⟨A1, c1, rfl, hown1, hb1⟩)
    | (at_builtin; refine ap_int rfl rfl rfl (hown1.alloc _) rfl (rd_new2 _ _ _ _) (by omega) (by have := hb1.size; simp; omega) ?_; intro A2 c2 w2 hown2 hg2 hat2))
  have hA2 := hown2.rd
  obtain ⟨hd1, hd2⟩ := hA2.le
  have hl2 := Lib.hid hA2.length
  have hbw : Bl w w2 := ((hb1.alloc _).grown hg2 (fun k hk => (hown1.blk k hk).1))
  have hwl : Words (l ++ [8, 1]) := by
    intro x hx
    simp only [List.mem_append, List.mem_cons, List.not_mem_nil, or_false] at hx
    rcases hx with hx | rfl | rfl
    · exact hw x hx
    · omega
    · omega
  have hstart := Lib.hid (show (40503 + (l.length : Int)) = 40503 + (n : Int) by rw [hlen.out])
  generalize hL : l ++ [8, 1] = L at *
  clear hown2 hg2 hat2
  have hLh := Lib.hid hL
  clear hL
  go_loop [3, 14] (fun a i => ∃ k : Nat, k ≤ n + 2 ∧ i = .int .i64 k ∧ a = .int .i64 ((L.take k).foldl dstep (40503 + n))) (fun _ i => n + 2 - (intOf i).toNat)
  case atStart => exact ⟨0, by omega, rfl, rfl⟩
  case round =>
    obtain ⟨k, hk, rfl, rfl⟩ := hrel
    have hfb := dfold_bd (L.take k) (40503 + n) (by omega)
    by_cases hlt : k < n + 2
    · obtain ⟨ad, x, rfl, hadb, hx, hcell⟩ := hA2.at_ hlt
      have hxb := hwl x (List.mem_of_getElem? hx)
      have hsn := Lib.hid (foldl_snoc dstep (40503 + n : Int) L k x hx)
      clear hx
      generalize hF : (L.take k).foldl dstep (40503 + (n : Int)) = F at *
      have hFh := Lib.hid hF
      clear hF
      go_wp2_with (go_at_call 145; refine (spec_btMod _ _ _ (by omega) (by omega) (by omega) (by omega)).mono ?_; rintro e w' ⟨rfl, rfl⟩; generalize hG : (25214 * F + x + 17) % 1000003 = G; have hGh := Lib.hid hG; have hG0 : 0 ≤ G := (by omega); have hG1 : G < 1000003 := (by omega); clear hG; obtain ⟨hp0, hp1⟩ := prod_bd G hG0 hG1)
      go_round
      case rel => exact ⟨k + 1, by omega, by go_num, by rw [hsn.out, dstep_eq F x _ hGh.out]⟩
      case measure => simp [intOf]; omega
    · have he : k = n + 2 := by omega
      have hfin := Lib.hid (show (L.take k).foldl dstep (40503 + (n : Int)) % 65536 = dig l by
        unfold dig; rw [hLh.out, hstart.out, List.take_of_length_le (by rw [hl2.out]; omega)])
      clear he
      go_wp2
      go_ret
      exact ⟨ret_int hfin.out, hbw⟩
set_option maxHeartbeats 400000 in
theorem impl_digest (A : Option Addr) (n c : Nat) (l : List Int) (w : World) (h : RdI w A n c l) (hw : Words l) (hn : n ≤ 1000000) :
    Calls Try.prog 130 #[.slice A n c] w fun e w' => e = .returned (.int .i64 (dig l)) ∧ Bl w w' := by
  have hle := h.le
  obtain ⟨hle1, hle2⟩ := hle
  have hlen := Lib.hid h.length
  go_enter Try.func130, Try.ntmps130
  go_wp2_with (first
    | (go_at_call 122; refine (slices_Clone A n c l w h (by omega)).mono ?_; rintro e w1 ⟨A1, c1, rfl, hown1, hb1⟩)
    | (at_builtin; refine ap_int rfl rfl rfl (hown1.alloc _) rfl (rd_new2 _ _ _ _) (by omega) (by have := hb1.size; simp; omega) ?_; intro A2 c2 w2 hown2 hg2 hat2))
  have hA2 := hown2.rd
  obtain ⟨hd1, hd2⟩ := hA2.le
  have hl2 := Lib.hid hA2.length
  have hbw : Bl w w2 := ((hb1.alloc _).grown hg2 (fun k hk => (hown1.blk k hk).1))
  have hwl : Words (l ++ [8, 1]) := by
    intro x hx
    simp only [List.mem_append, List.mem_cons, List.not_mem_nil, or_false] at hx
    rcases hx with hx | rfl | rfl
    · exact hw x hx
    · omega
    · omega
  have hstart := Lib.hid (show (40503 + (l.length : Int)) = 40503 + (n : Int) by rw [hlen.out])
  generalize hL : l ++ [8, 1] = L at *
  clear hown2 hg2 hat2
  have hLh := Lib.hid hL
  clear hL
  go_loop [3, 14] (fun a i => ∃ k : Nat, k ≤ n + 2 ∧ i = .int .i64 k ∧ a = .int .i64 ((L.take k).foldl dstep (40503 + n))) (fun _ i => n + 2 - (intOf i).toNat)
  case atStart => exact ⟨0, by omega, rfl, rfl⟩
  case round =>
    obtain ⟨k, hk, rfl, rfl⟩ := hrel
    have hfb := dfold_bd (L.take k) (40503 + n) (by omega)
    by_cases hlt : k < n + 2
    · obtain ⟨ad, x, rfl, hadb, hx, hcell⟩ := hA2.at_ hlt
      have hxb := hwl x (List.mem_of_getElem? hx)
      have hsn := Lib.hid (foldl_snoc dstep (40503 + n : Int) L k x hx)
      clear hx
      generalize hF : (L.take k).foldl dstep (40503 + (n : Int)) = F at *
      have hFh := Lib.hid hF
      clear hF
      have hGh := Lib.hid (show (25214 * F + x + 17) % 1000003 = (25214 * F + x + 17).tmod 1000003 % 1000003 by rw [← tmod_fix, Int.add_emod_right])
      obtain ⟨hp0, hp1⟩ := prod_bd ((25214 * F + x + 17).tmod 1000003 % 1000003) (by omega) (by omega)
      have ht1 := Int.tmod_lt_of_pos (25214 * F + x + 17) (show (0 : Int) < 1000003 by omega)
      have ht2 := Int.lt_tmod_of_pos (25214 * F + x + 17) (show (0 : Int) < 1000003 by omega)
      go_wp2
      go_round
      case rel => exact ⟨k + 1, by omega, by go_num, by rw [hsn.out, dstep_eq F x _ hGh.out]⟩
      case measure => simp [intOf]; omega
    · have he : k = n + 2 := by omega
      have hfin := Lib.hid (show (L.take k).foldl dstep (40503 + (n : Int)) % 65536 = dig l by
        unfold dig; rw [hLh.out, hstart.out, List.take_of_length_le (by rw [hl2.out]; omega)])
      clear he
      go_wp2
      go_ret
      exact ⟨ret_int hfin.out, hbw⟩
end Go.Proofs.Ytlmlffiajgofeaa
