/- Contracts of the program's ProgramFor: the lines of a program of the dozen.
   Conditions: the library's tables are laid. -/
import Derived.Test.YtjggecbaladiiaaGreatDoorPrb
import Derived.Test.YtjggecbaladiiaaGreatDoorHef
import Derived.Test.YtjggecbaladiiaaGreatDoorDig
namespace Go.Proofs.YtjggecbaladiiaaGreatDoor
open Go.RowKit
set_option linter.unusedVariables false
theorem sb_eq (a b : ByteArray) : (a.toList == b.toList) = decide (a = b) := by
  rw [Bool.eq_iff_iff, beq_iff_eq, decide_eq_true_eq, Lib.toList_data, Lib.toList_data]
  constructor
  · intro h
    obtain ⟨⟨x⟩⟩ := a
    obtain ⟨⟨y⟩⟩ := b
    simp only at h
    rw [h]
  · rintro rfl; rfl
set_option maxRecDepth 20000 in
set_option maxHeartbeats 4000000 in
theorem impl_numberedFor (k : Nat) (hk : k < 12) (w : World) : Calls Tryz.prog 71 #[.int .i64 (k : Nat)] w fun e w' => e = .returned (.agg #[.string (nN k), .string (nF k), .string (nS k), .string (nL k), .string (nR k)]) ∧ Bl w w' := by
  rcases (by omega : k = 0 ∨ k = 1 ∨ k = 2 ∨ k = 3 ∨ k = 4 ∨ k = 5 ∨ k = 6 ∨ k = 7 ∨ k = 8 ∨ k = 9 ∨ k = 10 ∨ k = 11) with rfl | rfl | rfl | rfl | rfl | rfl | rfl | rfl | rfl | rfl | rfl | rfl
  · go_enter Tryz.func71, Tryz.ntmps71
    go_wp2_with fail
    refine bodyPost_ret (v := .agg #[.string (nN 0), .string (nF 0), .string (nS 0), .string (nL 0), .string (nR 0)]) (by simp only [results, Tryz.results71]; go_simp; exact ⟨rfl, rfl, rfl, rfl, rfl⟩) rfl ⟨rfl, (by (repeat (first | with_reducible assumption | with_reducible exact Bl.refl _ | with_reducible refine Bl.drewN ?_ _ | with_reducible refine Bl.drew ?_ | with_reducible refine Bl.alloc ?_ _ | with_reducible refine Bl.setCell ?_ (by first | (dsimp only; omega) | (simp; omega)) _ | (with_reducible refine Bl.call ?_ (by with_reducible assumption)))))⟩
  · go_enter Tryz.func71, Tryz.ntmps71
    go_wp2_with fail
    refine bodyPost_ret (v := .agg #[.string (nN 1), .string (nF 1), .string (nS 1), .string (nL 1), .string (nR 1)]) (by simp only [results, Tryz.results71]; go_simp; exact ⟨rfl, rfl, rfl, rfl, rfl⟩) rfl ⟨rfl, (by (repeat (first | with_reducible assumption | with_reducible exact Bl.refl _ | with_reducible refine Bl.drewN ?_ _ | with_reducible refine Bl.drew ?_ | with_reducible refine Bl.alloc ?_ _ | with_reducible refine Bl.setCell ?_ (by first | (dsimp only; omega) | (simp; omega)) _ | (with_reducible refine Bl.call ?_ (by with_reducible assumption)))))⟩
  · go_enter Tryz.func71, Tryz.ntmps71
    go_wp2_with fail
    refine bodyPost_ret (v := .agg #[.string (nN 2), .string (nF 2), .string (nS 2), .string (nL 2), .string (nR 2)]) (by simp only [results, Tryz.results71]; go_simp; exact ⟨rfl, rfl, rfl, rfl, rfl⟩) rfl ⟨rfl, (by (repeat (first | with_reducible assumption | with_reducible exact Bl.refl _ | with_reducible refine Bl.drewN ?_ _ | with_reducible refine Bl.drew ?_ | with_reducible refine Bl.alloc ?_ _ | with_reducible refine Bl.setCell ?_ (by first | (dsimp only; omega) | (simp; omega)) _ | (with_reducible refine Bl.call ?_ (by with_reducible assumption)))))⟩
  · go_enter Tryz.func71, Tryz.ntmps71
    go_wp2_with fail
    refine bodyPost_ret (v := .agg #[.string (nN 3), .string (nF 3), .string (nS 3), .string (nL 3), .string (nR 3)]) (by simp only [results, Tryz.results71]; go_simp; exact ⟨rfl, rfl, rfl, rfl, rfl⟩) rfl ⟨rfl, (by (repeat (first | with_reducible assumption | with_reducible exact Bl.refl _ | with_reducible refine Bl.drewN ?_ _ | with_reducible refine Bl.drew ?_ | with_reducible refine Bl.alloc ?_ _ | with_reducible refine Bl.setCell ?_ (by first | (dsimp only; omega) | (simp; omega)) _ | (with_reducible refine Bl.call ?_ (by with_reducible assumption)))))⟩
  · go_enter Tryz.func71, Tryz.ntmps71
    go_wp2_with fail
    refine bodyPost_ret (v := .agg #[.string (nN 4), .string (nF 4), .string (nS 4), .string (nL 4), .string (nR 4)]) (by simp only [results, Tryz.results71]; go_simp; exact ⟨rfl, rfl, rfl, rfl, rfl⟩) rfl ⟨rfl, (by (repeat (first | with_reducible assumption | with_reducible exact Bl.refl _ | with_reducible refine Bl.drewN ?_ _ | with_reducible refine Bl.drew ?_ | with_reducible refine Bl.alloc ?_ _ | with_reducible refine Bl.setCell ?_ (by first | (dsimp only; omega) | (simp; omega)) _ | (with_reducible refine Bl.call ?_ (by with_reducible assumption)))))⟩
  · go_enter Tryz.func71, Tryz.ntmps71
    go_wp2_with fail
    refine bodyPost_ret (v := .agg #[.string (nN 5), .string (nF 5), .string (nS 5), .string (nL 5), .string (nR 5)]) (by simp only [results, Tryz.results71]; go_simp; exact ⟨rfl, rfl, rfl, rfl, rfl⟩) rfl ⟨rfl, (by (repeat (first | with_reducible assumption | with_reducible exact Bl.refl _ | with_reducible refine Bl.drewN ?_ _ | with_reducible refine Bl.drew ?_ | with_reducible refine Bl.alloc ?_ _ | with_reducible refine Bl.setCell ?_ (by first | (dsimp only; omega) | (simp; omega)) _ | (with_reducible refine Bl.call ?_ (by with_reducible assumption)))))⟩
  · go_enter Tryz.func71, Tryz.ntmps71
    go_wp2_with fail
    refine bodyPost_ret (v := .agg #[.string (nN 6), .string (nF 6), .string (nS 6), .string (nL 6), .string (nR 6)]) (by simp only [results, Tryz.results71]; go_simp; exact ⟨rfl, rfl, rfl, rfl, rfl⟩) rfl ⟨rfl, (by (repeat (first | with_reducible assumption | with_reducible exact Bl.refl _ | with_reducible refine Bl.drewN ?_ _ | with_reducible refine Bl.drew ?_ | with_reducible refine Bl.alloc ?_ _ | with_reducible refine Bl.setCell ?_ (by first | (dsimp only; omega) | (simp; omega)) _ | (with_reducible refine Bl.call ?_ (by with_reducible assumption)))))⟩
  · go_enter Tryz.func71, Tryz.ntmps71
    go_wp2_with fail
    refine bodyPost_ret (v := .agg #[.string (nN 7), .string (nF 7), .string (nS 7), .string (nL 7), .string (nR 7)]) (by simp only [results, Tryz.results71]; go_simp; exact ⟨rfl, rfl, rfl, rfl, rfl⟩) rfl ⟨rfl, (by (repeat (first | with_reducible assumption | with_reducible exact Bl.refl _ | with_reducible refine Bl.drewN ?_ _ | with_reducible refine Bl.drew ?_ | with_reducible refine Bl.alloc ?_ _ | with_reducible refine Bl.setCell ?_ (by first | (dsimp only; omega) | (simp; omega)) _ | (with_reducible refine Bl.call ?_ (by with_reducible assumption)))))⟩
  · go_enter Tryz.func71, Tryz.ntmps71
    go_wp2_with fail
    refine bodyPost_ret (v := .agg #[.string (nN 8), .string (nF 8), .string (nS 8), .string (nL 8), .string (nR 8)]) (by simp only [results, Tryz.results71]; go_simp; exact ⟨rfl, rfl, rfl, rfl, rfl⟩) rfl ⟨rfl, (by (repeat (first | with_reducible assumption | with_reducible exact Bl.refl _ | with_reducible refine Bl.drewN ?_ _ | with_reducible refine Bl.drew ?_ | with_reducible refine Bl.alloc ?_ _ | with_reducible refine Bl.setCell ?_ (by first | (dsimp only; omega) | (simp; omega)) _ | (with_reducible refine Bl.call ?_ (by with_reducible assumption)))))⟩
  · go_enter Tryz.func71, Tryz.ntmps71
    go_wp2_with fail
    refine bodyPost_ret (v := .agg #[.string (nN 9), .string (nF 9), .string (nS 9), .string (nL 9), .string (nR 9)]) (by simp only [results, Tryz.results71]; go_simp; exact ⟨rfl, rfl, rfl, rfl, rfl⟩) rfl ⟨rfl, (by (repeat (first | with_reducible assumption | with_reducible exact Bl.refl _ | with_reducible refine Bl.drewN ?_ _ | with_reducible refine Bl.drew ?_ | with_reducible refine Bl.alloc ?_ _ | with_reducible refine Bl.setCell ?_ (by first | (dsimp only; omega) | (simp; omega)) _ | (with_reducible refine Bl.call ?_ (by with_reducible assumption)))))⟩
  · go_enter Tryz.func71, Tryz.ntmps71
    go_wp2_with fail
    refine bodyPost_ret (v := .agg #[.string (nN 10), .string (nF 10), .string (nS 10), .string (nL 10), .string (nR 10)]) (by simp only [results, Tryz.results71]; go_simp; exact ⟨rfl, rfl, rfl, rfl, rfl⟩) rfl ⟨rfl, (by (repeat (first | with_reducible assumption | with_reducible exact Bl.refl _ | with_reducible refine Bl.drewN ?_ _ | with_reducible refine Bl.drew ?_ | with_reducible refine Bl.alloc ?_ _ | with_reducible refine Bl.setCell ?_ (by first | (dsimp only; omega) | (simp; omega)) _ | (with_reducible refine Bl.call ?_ (by with_reducible assumption)))))⟩
  · go_enter Tryz.func71, Tryz.ntmps71
    go_wp2_with fail
    refine bodyPost_ret (v := .agg #[.string (nN 11), .string (nF 11), .string (nS 11), .string (nL 11), .string (nR 11)]) (by simp only [results, Tryz.results71]; go_simp; exact ⟨rfl, rfl, rfl, rfl, rfl⟩) rfl ⟨rfl, (by (repeat (first | with_reducible assumption | with_reducible exact Bl.refl _ | with_reducible refine Bl.drewN ?_ _ | with_reducible refine Bl.drew ?_ | with_reducible refine Bl.alloc ?_ _ | with_reducible refine Bl.setCell ?_ (by first | (dsimp only; omega) | (simp; omega)) _ | (with_reducible refine Bl.call ?_ (by with_reducible assumption)))))⟩
theorem own_madeL (w : World) {base g : Nat} (hg : w.heap.size = g) (hb : base ≤ g) : OwnL base (w.alloc (.cells #[] 92)) (some ⟨g, 0, none⟩) 0 0 [] := by
  subst hg
  exact ⟨OwnV.mono (World.ownsRow_made (size := 7) w #[] 0 (Nat.le_refl _) (by simp) (by simp)) hb, rfl, fun p hp => (by cases hp), fun p hp => (by cases hp), List.Pairwise.nil⟩
theorem take_mapI {α β : Type} {l : List α} {k : Nat} {t : α} (f : α → β) (h : l[k]? = some t) : (l.take (k + 1)).map f = (l.take k).map f ++ [f t] := by rw [List.take_add_one, h]; simp
set_option maxRecDepth 20000 in
set_option maxHeartbeats 4000000 in
theorem impl_inputLines (p wd : Int) (s : ByteArray) (w : World) (hs : asciiB s = true) (hf : (fdB s).all asciiB = true) (ht : Tb w) :
    Calls Tryz.prog 118 #[.int .i64 p, .string s, .int .i64 wd] w fun e w' => ∃ A n c l, e = .returned (.slice A n c) ∧ OwnL w.heap.size w' A n c l ∧ l = (fdB s).map (fun t => (Hd.none, mkI p wd t)) ∧ Bl w w' := by
  have hHF := Lib.hid (fun t ht => (asciiB_at (List.all_eq_true.1 hf t ht)).1)
  have hFL := (asciiB_at hs).2.2
  clear hf
  have hown0 := own_madeL w (base := w.heap.size) rfl (Nat.le_refl _)
  have hW := (Bl.refl w).alloc (.cells #[] 92)
  have hg1 : (w.alloc (.cells #[] 92)).heap.size = w.heap.size + 1 := by simp
  go_enter Tryz.func118, Tryz.ntmps118
  go_wp2_with (go_at_call 121; refine (lib_Fields s _ hs (ht.keep ((Bl.refl w).alloc _))).mono ?_; rintro e w1 ⟨n, rfl, hr, hb1⟩)
  have hn := hr.length
  rw [hn] at hFL
  rw [hg1] at hr
  have HN := Lib.hid hn
  replace hown0 := hown0.keep hb1
  replace hW := hW.call hb1
  clear hb1 hg1 hn
  obtain ⟨FD, hFD⟩ : ∃ FD, fdB s = FD := ⟨_, rfl⟩
  rw [hFD] at hr HN hHF
  have HFD := Lib.hid hFD
  clear hFD hs
  go_loopw [7, 15] (fun o i wr => ∃ k A2 c2, k ≤ n ∧ i = .int .i64 (k : Nat) ∧ o = .slice A2 k c2 ∧ OwnL w.heap.size wr A2 k c2 ((FD.take k).map (fun t => (Hd.none, mkI p wd t))) ∧ RdS wr (some ⟨w.heap.size + 1, 0, none⟩) n n FD ∧ (∀ q, A2.map (·.block) = some q → q ≠ w.heap.size + 1) ∧ Bl w wr) (fun _ i _ => n - (intOf i).toNat)
  case atStart => exact ⟨0, _, _, by omega, rfl, rfl, hown0, hr, fun q hq => by injection hq with hq; dsimp only at hq; omega, hW⟩
  case round =>
    clear hown0 hr hW
    obtain ⟨k, A2, c2, hk, rfl, rfl, hown, hr, hne, hW⟩ := hrel
    by_cases hlt : k < n
    · obtain ⟨t, hadb, hx, hc⟩ := hr.at0_ hlt
      have hts := hHF.out t (List.mem_of_getElem? hx)
      have hst := Lib.hid (take_mapI (fun t => (Hd.none, mkI p wd t)) hx)
      clear hx
      have i1 : (k : Int) < n := by omega
      by_cases heq : tsB t ⟨#[49]⟩ = t
      · have hb : ((tsB t ⟨#[49]⟩).toList == t.toList) = true := by rw [sb_eq]; simpa using heq
        have hmk : mkI p wd t = ⟨1, tsB t ⟨#[49]⟩, ⟨#[]⟩, [], p, wd, 0⟩ := by unfold mkI; rw [if_pos heq]
        clear heq
        go_wp2_with (first | (go_at_call 160; refine (lib_TrimSuffix t ⟨#[49]⟩ _ hts).mono ?_; rintro e w7 ⟨rfl, rfl⟩) | (at_builtin; refine ap_lines rfl rfl (l' := [(Hd.none, mkI p wd t)]) rfl (OwnV.keep hown.row (by (repeat (first | with_reducible assumption | with_reducible exact Bl.refl _ | with_reducible refine Bl.drewN ?_ _ | with_reducible refine Bl.drew ?_ | with_reducible refine Bl.alloc ?_ _ | with_reducible refine Bl.setCell ?_ (by first | (dsimp only; omega) | (simp; omega)) _ | (with_reducible refine Bl.call ?_ (by with_reducible assumption)))))) rfl (by rw [hmk]; exact rd_line _ Hd.none 1 _ _ p _ 0 []) (by omega) (by have := hW.sz; simp; omega) ?_; intro A3 c3 w8 hrow3 hg3 hat3))
        go_roundw
        case rel =>
          exact ⟨k + 1, A3, c3, by omega, by go_num, rfl, by rw [hst.out]; exact hown.snoc (((Bl.refl wr).alloc _).alloc _) (OwnS.nil _ _) (fun q hq => by cases hq) (fun q hq => by cases hq) hrow3 hg3 hat3, (hr.keep (((Bl.refl wr).alloc _).alloc _)).grown hg3 (fun _ a ha e => by injection ha with ha; subst ha; exact hne _ e.symm rfl), fun q hq => by rcases hat3 with h3 | h3; exact hne q (h3.symm.trans hq); have h4 := h3.symm.trans hq; injection h4 with h4; simp at h4; omega, Bl.grown ((hW.alloc _).alloc _) hg3 (fun q hq => (hown.row.blk q hq).1)⟩
        case measure => simp [intOf]; omega
      · have hb : ((tsB t ⟨#[49]⟩).toList == t.toList) = false := by rw [sb_eq]; simpa using heq
        have hmk : mkI p wd t = ⟨1, tsB t ⟨#[49]⟩, ⟨#[]⟩, [], p, 1, 0⟩ := by unfold mkI; rw [if_neg heq]
        clear heq
        go_wp2_with (first | (go_at_call 160; refine (lib_TrimSuffix t ⟨#[49]⟩ _ hts).mono ?_; rintro e w7 ⟨rfl, rfl⟩) | (at_builtin; refine ap_lines rfl rfl (l' := [(Hd.none, mkI p wd t)]) rfl (OwnV.keep hown.row (by (repeat (first | with_reducible assumption | with_reducible exact Bl.refl _ | with_reducible refine Bl.drewN ?_ _ | with_reducible refine Bl.drew ?_ | with_reducible refine Bl.alloc ?_ _ | with_reducible refine Bl.setCell ?_ (by first | (dsimp only; omega) | (simp; omega)) _ | (with_reducible refine Bl.call ?_ (by with_reducible assumption)))))) rfl (by rw [hmk]; exact rd_line _ Hd.none 1 _ _ p _ 0 []) (by omega) (by have := hW.sz; simp; omega) ?_; intro A3 c3 w8 hrow3 hg3 hat3))
        go_roundw
        case rel =>
          exact ⟨k + 1, A3, c3, by omega, by go_num, rfl, by rw [hst.out]; exact hown.snoc (((Bl.refl wr).alloc _).alloc _) (OwnS.nil _ _) (fun q hq => by cases hq) (fun q hq => by cases hq) hrow3 hg3 hat3, (hr.keep (((Bl.refl wr).alloc _).alloc _)).grown hg3 (fun _ a ha e => by injection ha with ha; subst ha; exact hne _ e.symm rfl), fun q hq => by rcases hat3 with h3 | h3; exact hne q (h3.symm.trans hq); have h4 := h3.symm.trans hq; injection h4 with h4; simp at h4; omega, Bl.grown ((hW.alloc _).alloc _) hg3 (fun q hq => (hown.row.blk q hq).1)⟩
        case measure => simp [intOf]; omega
    · obtain rfl : k = n := by omega
      go_wp2_with fail
      go_ret
      refine ⟨A2, k, c2, _, rfl, hown, ?_, hW⟩
      rw [HFD.out, List.take_of_length_le (by rw [HN.out]; exact Nat.le_refl _)]
set_option maxRecDepth 20000 in
set_option maxHeartbeats 4000000 in
theorem impl_readLine_let (g c : Nat) (nm p op q : ByteArray) (w : World) (h : RdS w (some ⟨g, 0, none⟩) 5 c [⟨#[108, 101, 116]⟩, nm, p, op, q]) :
    Calls Tryz.prog 120 #[.slice (some ⟨g, 0, none⟩) 5 c] w fun e w' => ∃ A n' c', e = .returned (.agg #[.int .i64 3, .string nm, .string op, .slice A n' c', .int .i64 0, .int .i64 0, .int .i64 0]) ∧ OwnS w.heap.size w' A n' c' [p, q] ∧ Bl w w' := by
  have e_input : ((⟨#[108, 101, 116]⟩ : ByteArray).toList == (⟨#[105, 110, 112, 117, 116]⟩ : ByteArray).toList) = false := by decide +kernel
  have e_const : ((⟨#[108, 101, 116]⟩ : ByteArray).toList == (⟨#[99, 111, 110, 115, 116]⟩ : ByteArray).toList) = false := by decide +kernel
  have e_let : ((⟨#[108, 101, 116]⟩ : ByteArray).toList == (⟨#[108, 101, 116]⟩ : ByteArray).toList) = true := by decide +kernel
  obtain ⟨hle1, hle2⟩ := h.le
  obtain ⟨x0, hgl_x, hx0, k0⟩ := h.at0_ (k := 0) (by omega)
  obtain rfl := Option.some.inj hx0
  obtain ⟨x1, _, hx1, k1⟩ := h.at0_ (k := 1) (by omega)
  obtain rfl := Option.some.inj hx1
  obtain ⟨x2, _, hx2, k2⟩ := h.at0_ (k := 2) (by omega)
  obtain rfl := Option.some.inj hx2
  obtain ⟨x3, _, hx3, k3⟩ := h.at0_ (k := 3) (by omega)
  obtain rfl := Option.some.inj hx3
  obtain ⟨x4, _, hx4, k4⟩ := h.at0_ (k := 4) (by omega)
  obtain rfl := Option.some.inj hx4
  have hW2 := ((Bl.refl w).alloc (.cells #[.slice (some ⟨g, 0, none⟩) 5 c] 65)).alloc (.cells #[.int .i64 0, .string ⟨#[]⟩, .string ⟨#[]⟩, .slice none 0 0, .int .i64 0, .int .i64 0, .int .i64 0] 92)
  have hX := (Blk.new w 65 #[.slice (some ⟨g, 0, none⟩) 5 c] (g := w.heap.size)).alloc (.cells #[.int .i64 0, .string ⟨#[]⟩, .string ⟨#[]⟩, .slice none 0 0, .int .i64 0, .int .i64 0, .int .i64 0] 92)
  have hR := Blk.new (w.alloc (.cells #[.slice (some ⟨g, 0, none⟩) 5 c] 65)) 92 #[.int .i64 0, .string ⟨#[]⟩, .string ⟨#[]⟩, .slice none 0 0, .int .i64 0, .int .i64 0, .int .i64 0] (g := w.heap.size + 1)
  go_enter Tryz.func120, Tryz.ntmps120
  go_wp2_with fail
  generalize hWW : ((w.alloc (.cells #[.slice (some ⟨g, 0, none⟩) 5 c] 65)).alloc (.cells #[.int .i64 0, .string ⟨#[]⟩, .string ⟨#[]⟩, .slice none 0 0, .int .i64 0, .int .i64 0, .int .i64 0] 92)) = W2
  rw [hWW] at hW2 hX hR
  have kb := hX.cell 0 _ rfl
  have kb0 := kb
  have hR9 := hR.lt
  have hR_l := hR.lt; have hR_f := hR.frozen; have hR_0 := hR.cell 0 _ rfl; have hR_1 := hR.cell 1 _ rfl; have hR_2 := hR.cell 2 _ rfl; have hR_3 := hR.cell 3 _ rfl; have hR_4 := hR.cell 4 _ rfl; have hR_5 := hR.cell 5 _ rfl; have hR_6 := hR.cell 6 _ rfl
  clear hX
  refine region_F (fun _ => True) (fun w' => w'.cell? ⟨w.heap.size, 0, none⟩ = some (.slice (some ⟨g, 0, none⟩) 5 c) ∧ w'.cell? ⟨g, 1, none⟩ = some (.string nm) ∧ w'.cell? ⟨g, 2, none⟩ = some (.string p) ∧ w'.cell? ⟨g, 3, none⟩ = some (.string op) ∧ w'.cell? ⟨g, 4, none⟩ = some (.string q)) 14 (by kernel_rfl) ?_ (fun hHeld => ?_)
  · (try dsimp only); exact ⟨trivial, Bl.cells (by (repeat (first | with_reducible assumption | with_reducible exact Bl.refl _ | with_reducible refine Bl.drewN ?_ _ | with_reducible refine Bl.drew ?_ | with_reducible refine Bl.alloc ?_ _ | with_reducible refine Bl.setCell ?_ (by first | (dsimp only; omega) | (simp; omega)) _ | (with_reducible refine Bl.call ?_ (by with_reducible assumption))))) kb, Bl.cells (by (repeat (first | with_reducible assumption | with_reducible exact Bl.refl _ | with_reducible refine Bl.drewN ?_ _ | with_reducible refine Bl.drew ?_ | with_reducible refine Bl.alloc ?_ _ | with_reducible refine Bl.setCell ?_ (by first | (dsimp only; omega) | (simp; omega)) _ | (with_reducible refine Bl.call ?_ (by with_reducible assumption))))) k1, Bl.cells (by (repeat (first | with_reducible assumption | with_reducible exact Bl.refl _ | with_reducible refine Bl.drewN ?_ _ | with_reducible refine Bl.drew ?_ | with_reducible refine Bl.alloc ?_ _ | with_reducible refine Bl.setCell ?_ (by first | (dsimp only; omega) | (simp; omega)) _ | (with_reducible refine Bl.call ?_ (by with_reducible assumption))))) k2, Bl.cells (by (repeat (first | with_reducible assumption | with_reducible exact Bl.refl _ | with_reducible refine Bl.drewN ?_ _ | with_reducible refine Bl.drew ?_ | with_reducible refine Bl.alloc ?_ _ | with_reducible refine Bl.setCell ?_ (by first | (dsimp only; omega) | (simp; omega)) _ | (with_reducible refine Bl.call ?_ (by with_reducible assumption))))) k3, Bl.cells (by (repeat (first | with_reducible assumption | with_reducible exact Bl.refl _ | with_reducible refine Bl.drewN ?_ _ | with_reducible refine Bl.drew ?_ | with_reducible refine Bl.alloc ?_ _ | with_reducible refine Bl.setCell ?_ (by first | (dsimp only; omega) | (simp; omega)) _ | (with_reducible refine Bl.call ?_ (by with_reducible assumption))))) k4⟩
  refine f_takeC (i := 0) (d := 51) (v := ?_) [0] rfl rfl (by kernel_rfl) (by kernel_rfl) (by kernel_rfl) (by kernel_rfl) (by kernel_rfl) (by kernel_rfl) (fun _ _ _ h => h) (by decide) (Or.inl ⟨by rfl, ?_⟩) hHeld ?_
  rotate_left
  · (intro w hSw; (try dsimp only at hSw); go_simp; (try with_reducible rfl))
  simp only [List.set_cons_zero, List.set_cons_succ]
  refine f_takeC (i := 1) (d := 52) (v := ?_) [1] rfl rfl (by kernel_rfl) (by kernel_rfl) (by kernel_rfl) (by kernel_rfl) (by kernel_rfl) (by kernel_rfl) (fun _ _ _ h => h) (by decide) (Or.inl ⟨by rfl, ?_⟩) hHeld ?_
  rotate_left
  · (intro w hSw; (try dsimp only at hSw); go_simp; (try with_reducible rfl))
  simp only [List.set_cons_zero, List.set_cons_succ]
  refine f_takeC (i := 2) (d := 53) (v := ?_) [2] rfl rfl (by kernel_rfl) (by kernel_rfl) (by kernel_rfl) (by kernel_rfl) (by kernel_rfl) (by kernel_rfl) (fun _ _ _ h => h) (by decide) (Or.inl ⟨by rfl, ?_⟩) hHeld ?_
  rotate_left
  · (intro w hSw; (try dsimp only at hSw); go_simp; (try with_reducible rfl))
  simp only [List.set_cons_zero, List.set_cons_succ]
  refine f_takeC (i := 3) (d := 54) (v := ?_) [3] rfl rfl (by kernel_rfl) (by kernel_rfl) (by kernel_rfl) (by kernel_rfl) (by kernel_rfl) (by kernel_rfl) (fun _ _ _ h => h) (by decide) (Or.inl ⟨by rfl, ?_⟩) hHeld ?_
  rotate_left
  · (intro w hSw; (try dsimp only at hSw); go_simp; (try with_reducible rfl))
  simp only [List.set_cons_zero, List.set_cons_succ]
  refine f_takeC (i := 4) (d := 55) (v := ?_) [4] rfl rfl (by kernel_rfl) (by kernel_rfl) (by kernel_rfl) (by kernel_rfl) (by kernel_rfl) (by kernel_rfl) (fun _ _ _ h => h) (by decide) (Or.inl ⟨by rfl, ?_⟩) hHeld ?_
  rotate_left
  · (intro w hSw; (try dsimp only at hSw); go_simp; (try with_reducible rfl))
  simp only [List.set_cons_zero, List.set_cons_succ]
  refine f_takeC (i := 5) (d := 56) (v := ?_) [5] rfl rfl (by kernel_rfl) (by kernel_rfl) (by kernel_rfl) (by kernel_rfl) (by kernel_rfl) (by kernel_rfl) (fun _ _ _ h => h) (by decide) (Or.inl ⟨by rfl, ?_⟩) hHeld ?_
  rotate_left
  · (intro w hSw; (try dsimp only at hSw); go_simp; (try with_reducible rfl))
  simp only [List.set_cons_zero, List.set_cons_succ]
  refine f_takeC (i := 6) (d := 57) (v := ?_) [6] rfl rfl (by kernel_rfl) (by kernel_rfl) (by kernel_rfl) (by kernel_rfl) (by kernel_rfl) (by kernel_rfl) (fun _ _ _ h => h) (by decide) (Or.inl ⟨by rfl, ?_⟩) hHeld ?_
  rotate_left
  · (intro w hSw; (try dsimp only at hSw); go_simp; (try with_reducible rfl))
  simp only [List.set_cons_zero, List.set_cons_succ]
  refine f_takeC (i := 7) (d := 58) (v := ?_) [7] rfl rfl (by kernel_rfl) (by kernel_rfl) (by kernel_rfl) (by kernel_rfl) (by kernel_rfl) (by kernel_rfl) (fun _ _ _ h => h) (by decide) (Or.inl ⟨by rfl, ?_⟩) hHeld ?_
  rotate_left
  · (intro w hSw; (try dsimp only at hSw); go_simp; (try with_reducible rfl))
  simp only [List.set_cons_zero, List.set_cons_succ]
  refine f_takeC (i := 8) (d := 59) (v := ?_) [8] rfl rfl (by kernel_rfl) (by kernel_rfl) (by kernel_rfl) (by kernel_rfl) (by kernel_rfl) (by kernel_rfl) (fun _ _ _ h => h) (by decide) (Or.inl ⟨by rfl, ?_⟩) hHeld ?_
  rotate_left
  · (intro w hSw; (try dsimp only at hSw); go_simp; (try with_reducible rfl))
  simp only [List.set_cons_zero, List.set_cons_succ]
  refine f_takeC (i := 9) (d := 60) (v := ?_) [9] rfl rfl (by kernel_rfl) (by kernel_rfl) (by kernel_rfl) (by kernel_rfl) (by kernel_rfl) (by kernel_rfl) (fun _ _ _ h => h) (by decide) (Or.inl ⟨by rfl, ?_⟩) hHeld ?_
  rotate_left
  · (intro w hSw; (try dsimp only at hSw); go_simp; (try with_reducible rfl))
  simp only [List.set_cons_zero, List.set_cons_succ]
  refine f_takeC (i := 10) (d := 61) (v := ?_) [10] rfl rfl (by kernel_rfl) (by kernel_rfl) (by kernel_rfl) (by kernel_rfl) (by kernel_rfl) (by kernel_rfl) (fun _ _ _ h => h) (by decide) (Or.inl ⟨by rfl, ?_⟩) hHeld ?_
  rotate_left
  · (intro w hSw; (try dsimp only at hSw); go_simp; (try with_reducible rfl))
  simp only [List.set_cons_zero, List.set_cons_succ]
  refine f_takeC (i := 11) (d := 62) (v := ?_) [11] rfl rfl (by kernel_rfl) (by kernel_rfl) (by kernel_rfl) (by kernel_rfl) (by kernel_rfl) (by kernel_rfl) (fun _ _ _ h => h) (by decide) (Or.inl ⟨by rfl, ?_⟩) hHeld ?_
  rotate_left
  · (intro w hSw; (try dsimp only at hSw); go_simp; (try with_reducible rfl))
  simp only [List.set_cons_zero, List.set_cons_succ]
  refine f_step (i := 12) (by kernel_rfl) rfl (fun K hK => ?_)
  go_simp
  refine hK.out _ _ ?_ (fun hHeld => ?_)
  · (try dsimp only); exact ⟨trivial, Bl.cells (by (repeat (first | with_reducible assumption | with_reducible exact Bl.refl _ | with_reducible refine Bl.drewN ?_ _ | with_reducible refine Bl.drew ?_ | with_reducible refine Bl.alloc ?_ _ | with_reducible refine Bl.setCell ?_ (by first | (dsimp only; omega) | (simp; omega)) _ | (with_reducible refine Bl.call ?_ (by with_reducible assumption))))) kb, Bl.cells (by (repeat (first | with_reducible assumption | with_reducible exact Bl.refl _ | with_reducible refine Bl.drewN ?_ _ | with_reducible refine Bl.drew ?_ | with_reducible refine Bl.alloc ?_ _ | with_reducible refine Bl.setCell ?_ (by first | (dsimp only; omega) | (simp; omega)) _ | (with_reducible refine Bl.call ?_ (by with_reducible assumption))))) k1, Bl.cells (by (repeat (first | with_reducible assumption | with_reducible exact Bl.refl _ | with_reducible refine Bl.drewN ?_ _ | with_reducible refine Bl.drew ?_ | with_reducible refine Bl.alloc ?_ _ | with_reducible refine Bl.setCell ?_ (by first | (dsimp only; omega) | (simp; omega)) _ | (with_reducible refine Bl.call ?_ (by with_reducible assumption))))) k2, Bl.cells (by (repeat (first | with_reducible assumption | with_reducible exact Bl.refl _ | with_reducible refine Bl.drewN ?_ _ | with_reducible refine Bl.drew ?_ | with_reducible refine Bl.alloc ?_ _ | with_reducible refine Bl.setCell ?_ (by first | (dsimp only; omega) | (simp; omega)) _ | (with_reducible refine Bl.call ?_ (by with_reducible assumption))))) k3, Bl.cells (by (repeat (first | with_reducible assumption | with_reducible exact Bl.refl _ | with_reducible refine Bl.drewN ?_ _ | with_reducible refine Bl.drew ?_ | with_reducible refine Bl.alloc ?_ _ | with_reducible refine Bl.setCell ?_ (by first | (dsimp only; omega) | (simp; omega)) _ | (with_reducible refine Bl.call ?_ (by with_reducible assumption))))) k4⟩
  clear hK K
  (try simp only [Act.put]); (try simp only [List.setIfInBounds_toArray]); (try simp only [List.set_cons_succ]); (try simp only [List.set_cons_zero])
  refine f_takeC (i := 13) (d := 64) (v := ?_) [13] rfl rfl (by kernel_rfl) (by kernel_rfl) (by kernel_rfl) (by kernel_rfl) (by kernel_rfl) (by kernel_rfl) (fun _ _ _ h => h) (by decide) (Or.inl ⟨by rfl, ?_⟩) hHeld ?_
  rotate_left
  · (intro w hSw; (try dsimp only at hSw); go_simp; (try with_reducible rfl))
  simp only [List.set_cons_zero, List.set_cons_succ]
  refine f_last (i := 14) (by kernel_rfl) rfl (by simp) (fun K hK => ?_)
  go_simp
  refine hK.out _ _ ?_ (fun hHeld => ?_)
  · exact trivial
  clear hK K
  (try simp only [Act.put]); (try simp only [List.setIfInBounds_toArray]); (try simp only [List.set_cons_succ]); (try simp only [List.set_cons_zero])
  refine f_done (by kernel_rfl) ?_ _
  have hsz2 : w.heap.size ≤ W2.heap.size := hW2.sz
  have hO : OwnS w.heap.size ((((((((W2.setCell ⟨w.heap.size + 1, 0, none⟩ (.int .i64 3)).setCell ⟨w.heap.size + 1, 1, none⟩ (.string nm)).setCell ⟨w.heap.size + 1, 2, none⟩ (.string op)).setCell ⟨w.heap.size + 1, 3, none⟩ (.slice (some ⟨W2.heap.size, 0, none⟩) 2 2)).setCell ⟨w.heap.size + 1, 4, none⟩ (.int .i64 0)).setCell ⟨w.heap.size + 1, 5, none⟩ (.int .i64 0)).setCell ⟨w.heap.size + 1, 6, none⟩ (.int .i64 0)).alloc (.cells #[.string p, .string q] 9)) (some ⟨W2.heap.size, 0, none⟩) 2 2 [p, q] := own_strs (((((((W2.setCell ⟨w.heap.size + 1, 0, none⟩ (.int .i64 3)).setCell ⟨w.heap.size + 1, 1, none⟩ (.string nm)).setCell ⟨w.heap.size + 1, 2, none⟩ (.string op)).setCell ⟨w.heap.size + 1, 3, none⟩ (.slice (some ⟨W2.heap.size, 0, none⟩) 2 2)).setCell ⟨w.heap.size + 1, 4, none⟩ (.int .i64 0)).setCell ⟨w.heap.size + 1, 5, none⟩ (.int .i64 0)).setCell ⟨w.heap.size + 1, 6, none⟩ (.int .i64 0)) [p, q] (by simp [World.setCell]) hsz2 (by simp)
  have hO2 : OwnS w.heap.size ((((((((W2.setCell ⟨w.heap.size + 1, 0, none⟩ (.int .i64 3)).setCell ⟨w.heap.size + 1, 1, none⟩ (.string nm)).setCell ⟨w.heap.size + 1, 2, none⟩ (.string op)).setCell ⟨w.heap.size + 1, 3, none⟩ (.slice (some ⟨W2.heap.size, 0, none⟩) 2 2)).setCell ⟨w.heap.size + 1, 4, none⟩ (.int .i64 0)).setCell ⟨w.heap.size + 1, 5, none⟩ (.int .i64 0)).setCell ⟨w.heap.size + 1, 6, none⟩ (.int .i64 0)).alloc (.cells #[.string p, .string q] 9)).drew (some ⟨W2.heap.size, 0, none⟩) 2 2 [p, q] := OwnS.keep hO (Bl.drew (Bl.refl _))
  clear hO
  have hbz : Bl w ((((((((W2.setCell ⟨w.heap.size + 1, 0, none⟩ (.int .i64 3)).setCell ⟨w.heap.size + 1, 1, none⟩ (.string nm)).setCell ⟨w.heap.size + 1, 2, none⟩ (.string op)).setCell ⟨w.heap.size + 1, 3, none⟩ (.slice (some ⟨W2.heap.size, 0, none⟩) 2 2)).setCell ⟨w.heap.size + 1, 4, none⟩ (.int .i64 0)).setCell ⟨w.heap.size + 1, 5, none⟩ (.int .i64 0)).setCell ⟨w.heap.size + 1, 6, none⟩ (.int .i64 0)).alloc (.cells #[.string p, .string q] 9)).drew := (by (repeat (first | with_reducible assumption | with_reducible exact Bl.refl _ | with_reducible refine Bl.drewN ?_ _ | with_reducible refine Bl.drew ?_ | with_reducible refine Bl.alloc ?_ _ | with_reducible refine Bl.setCell ?_ (by first | (dsimp only; omega) | (simp; omega)) _ | (with_reducible refine Bl.call ?_ (by with_reducible assumption)))))
  have hRz : Blk ((((((((W2.setCell ⟨w.heap.size + 1, 0, none⟩ (.int .i64 3)).setCell ⟨w.heap.size + 1, 1, none⟩ (.string nm)).setCell ⟨w.heap.size + 1, 2, none⟩ (.string op)).setCell ⟨w.heap.size + 1, 3, none⟩ (.slice (some ⟨W2.heap.size, 0, none⟩) 2 2)).setCell ⟨w.heap.size + 1, 4, none⟩ (.int .i64 0)).setCell ⟨w.heap.size + 1, 5, none⟩ (.int .i64 0)).setCell ⟨w.heap.size + 1, 6, none⟩ (.int .i64 0)).alloc (.cells #[.string p, .string q] 9)).drew (w.heap.size + 1) 92 #[.int .i64 3, .string nm, .string op, .slice (some ⟨W2.heap.size, 0, none⟩) 2 2, .int .i64 0, .int .i64 0, .int .i64 0] := ((((((((hR.set_ 0 _).set_ 1 _).set_ 2 _).set_ 3 _).set_ 4 _).set_ 5 _).set_ 6 _).alloc _).drew
  generalize ((((((((W2.setCell ⟨w.heap.size + 1, 0, none⟩ (.int .i64 3)).setCell ⟨w.heap.size + 1, 1, none⟩ (.string nm)).setCell ⟨w.heap.size + 1, 2, none⟩ (.string op)).setCell ⟨w.heap.size + 1, 3, none⟩ (.slice (some ⟨W2.heap.size, 0, none⟩) 2 2)).setCell ⟨w.heap.size + 1, 4, none⟩ (.int .i64 0)).setCell ⟨w.heap.size + 1, 5, none⟩ (.int .i64 0)).setCell ⟨w.heap.size + 1, 6, none⟩ (.int .i64 0)).alloc (.cells #[.string p, .string q] 9)).drew = wz at hO2 hbz hRz ⊢
  clear hHeld hR hR_0 hR_1 hR_2 hR_3 hR_4 hR_5 hR_6 hR_l hR_f
  have hz_l := hRz.lt
  have hz_0 := hRz.cell 0 _ rfl
  have hz_1 := hRz.cell 1 _ rfl
  have hz_2 := hRz.cell 2 _ rfl
  have hz_3 := hRz.cell 3 _ rfl
  have hz_4 := hRz.cell 4 _ rfl
  have hz_5 := hRz.cell 5 _ rfl
  have hz_6 := hRz.cell 6 _ rfl
  go_wp2_with fail
  refine bodyPost_ret (v := .agg #[.int .i64 3, .string nm, .string op, .slice (some ⟨W2.heap.size, 0, none⟩) 2 2, .int .i64 0, .int .i64 0, .int .i64 0]) (by simp only [results, Tryz.results120]; go_simp) rfl ⟨_, _, _, rfl, hO2, hbz⟩
set_option maxRecDepth 20000 in
set_option maxHeartbeats 4000000 in
theorem impl_readLine_not (g c : Nat) (nm p : ByteArray) (w : World) (h : RdS w (some ⟨g, 0, none⟩) 3 c [⟨#[110, 111, 116]⟩, nm, p]) :
    Calls Tryz.prog 120 #[.slice (some ⟨g, 0, none⟩) 3 c] w fun e w' => ∃ A n' c', e = .returned (.agg #[.int .i64 4, .string nm, .string ⟨#[]⟩, .slice A n' c', .int .i64 0, .int .i64 0, .int .i64 0]) ∧ OwnS w.heap.size w' A n' c' [p] ∧ Bl w w' := by
  have e_input : ((⟨#[110, 111, 116]⟩ : ByteArray).toList == (⟨#[105, 110, 112, 117, 116]⟩ : ByteArray).toList) = false := by decide +kernel
  have e_const : ((⟨#[110, 111, 116]⟩ : ByteArray).toList == (⟨#[99, 111, 110, 115, 116]⟩ : ByteArray).toList) = false := by decide +kernel
  have e_let : ((⟨#[110, 111, 116]⟩ : ByteArray).toList == (⟨#[108, 101, 116]⟩ : ByteArray).toList) = false := by decide +kernel
  have e_not : ((⟨#[110, 111, 116]⟩ : ByteArray).toList == (⟨#[110, 111, 116]⟩ : ByteArray).toList) = true := by decide +kernel
  obtain ⟨hle1, hle2⟩ := h.le
  obtain ⟨x0, hgl_x, hx0, k0⟩ := h.at0_ (k := 0) (by omega)
  obtain rfl := Option.some.inj hx0
  obtain ⟨x1, _, hx1, k1⟩ := h.at0_ (k := 1) (by omega)
  obtain rfl := Option.some.inj hx1
  obtain ⟨x2, _, hx2, k2⟩ := h.at0_ (k := 2) (by omega)
  obtain rfl := Option.some.inj hx2
  have hW2 := ((Bl.refl w).alloc (.cells #[.slice (some ⟨g, 0, none⟩) 3 c] 65)).alloc (.cells #[.int .i64 0, .string ⟨#[]⟩, .string ⟨#[]⟩, .slice none 0 0, .int .i64 0, .int .i64 0, .int .i64 0] 92)
  have hX := (Blk.new w 65 #[.slice (some ⟨g, 0, none⟩) 3 c] (g := w.heap.size)).alloc (.cells #[.int .i64 0, .string ⟨#[]⟩, .string ⟨#[]⟩, .slice none 0 0, .int .i64 0, .int .i64 0, .int .i64 0] 92)
  have hR := Blk.new (w.alloc (.cells #[.slice (some ⟨g, 0, none⟩) 3 c] 65)) 92 #[.int .i64 0, .string ⟨#[]⟩, .string ⟨#[]⟩, .slice none 0 0, .int .i64 0, .int .i64 0, .int .i64 0] (g := w.heap.size + 1)
  go_enter Tryz.func120, Tryz.ntmps120
  go_wp2_with fail
  generalize hWW : ((w.alloc (.cells #[.slice (some ⟨g, 0, none⟩) 3 c] 65)).alloc (.cells #[.int .i64 0, .string ⟨#[]⟩, .string ⟨#[]⟩, .slice none 0 0, .int .i64 0, .int .i64 0, .int .i64 0] 92)) = W2
  rw [hWW] at hW2 hX hR
  have kb := hX.cell 0 _ rfl
  have kb0 := kb
  have hR9 := hR.lt
  have hR_l := hR.lt; have hR_f := hR.frozen; have hR_0 := hR.cell 0 _ rfl; have hR_1 := hR.cell 1 _ rfl; have hR_2 := hR.cell 2 _ rfl; have hR_3 := hR.cell 3 _ rfl; have hR_4 := hR.cell 4 _ rfl; have hR_5 := hR.cell 5 _ rfl; have hR_6 := hR.cell 6 _ rfl
  clear hX
  refine region_F (fun _ => True) (fun w' => w'.cell? ⟨w.heap.size, 0, none⟩ = some (.slice (some ⟨g, 0, none⟩) 3 c) ∧ w'.cell? ⟨g, 1, none⟩ = some (.string nm) ∧ w'.cell? ⟨g, 2, none⟩ = some (.string p)) 8 (by kernel_rfl) ?_ (fun hHeld => ?_)
  · (try dsimp only); exact ⟨trivial, Bl.cells (by (repeat (first | with_reducible assumption | with_reducible exact Bl.refl _ | with_reducible refine Bl.drewN ?_ _ | with_reducible refine Bl.drew ?_ | with_reducible refine Bl.alloc ?_ _ | with_reducible refine Bl.setCell ?_ (by first | (dsimp only; omega) | (simp; omega)) _ | (with_reducible refine Bl.call ?_ (by with_reducible assumption))))) kb, Bl.cells (by (repeat (first | with_reducible assumption | with_reducible exact Bl.refl _ | with_reducible refine Bl.drewN ?_ _ | with_reducible refine Bl.drew ?_ | with_reducible refine Bl.alloc ?_ _ | with_reducible refine Bl.setCell ?_ (by first | (dsimp only; omega) | (simp; omega)) _ | (with_reducible refine Bl.call ?_ (by with_reducible assumption))))) k1, Bl.cells (by (repeat (first | with_reducible assumption | with_reducible exact Bl.refl _ | with_reducible refine Bl.drewN ?_ _ | with_reducible refine Bl.drew ?_ | with_reducible refine Bl.alloc ?_ _ | with_reducible refine Bl.setCell ?_ (by first | (dsimp only; omega) | (simp; omega)) _ | (with_reducible refine Bl.call ?_ (by with_reducible assumption))))) k2⟩
  refine f_takeC (i := 0) (d := 74) (v := ?_) [0] rfl rfl (by kernel_rfl) (by kernel_rfl) (by kernel_rfl) (by kernel_rfl) (by kernel_rfl) (by kernel_rfl) (fun _ _ _ h => h) (by decide) (Or.inl ⟨by rfl, ?_⟩) hHeld ?_
  rotate_left
  · (intro w hSw; (try dsimp only at hSw); go_simp; (try with_reducible rfl))
  simp only [List.set_cons_zero, List.set_cons_succ]
  refine f_takeC (i := 1) (d := 75) (v := ?_) [1] rfl rfl (by kernel_rfl) (by kernel_rfl) (by kernel_rfl) (by kernel_rfl) (by kernel_rfl) (by kernel_rfl) (fun _ _ _ h => h) (by decide) (Or.inl ⟨by rfl, ?_⟩) hHeld ?_
  rotate_left
  · (intro w hSw; (try dsimp only at hSw); go_simp; (try with_reducible rfl))
  simp only [List.set_cons_zero, List.set_cons_succ]
  refine f_takeC (i := 2) (d := 76) (v := ?_) [2] rfl rfl (by kernel_rfl) (by kernel_rfl) (by kernel_rfl) (by kernel_rfl) (by kernel_rfl) (by kernel_rfl) (fun _ _ _ h => h) (by decide) (Or.inl ⟨by rfl, ?_⟩) hHeld ?_
  rotate_left
  · (intro w hSw; (try dsimp only at hSw); go_simp; (try with_reducible rfl))
  simp only [List.set_cons_zero, List.set_cons_succ]
  refine f_takeC (i := 3) (d := 77) (v := ?_) [3] rfl rfl (by kernel_rfl) (by kernel_rfl) (by kernel_rfl) (by kernel_rfl) (by kernel_rfl) (by kernel_rfl) (fun _ _ _ h => h) (by decide) (Or.inl ⟨by rfl, ?_⟩) hHeld ?_
  rotate_left
  · (intro w hSw; (try dsimp only at hSw); go_simp; (try with_reducible rfl))
  simp only [List.set_cons_zero, List.set_cons_succ]
  refine f_takeC (i := 4) (d := 78) (v := ?_) [4] rfl rfl (by kernel_rfl) (by kernel_rfl) (by kernel_rfl) (by kernel_rfl) (by kernel_rfl) (by kernel_rfl) (fun _ _ _ h => h) (by decide) (Or.inl ⟨by rfl, ?_⟩) hHeld ?_
  rotate_left
  · (intro w hSw; (try dsimp only at hSw); go_simp; (try with_reducible rfl))
  simp only [List.set_cons_zero, List.set_cons_succ]
  refine f_takeC (i := 5) (d := 79) (v := ?_) [5] rfl rfl (by kernel_rfl) (by kernel_rfl) (by kernel_rfl) (by kernel_rfl) (by kernel_rfl) (by kernel_rfl) (fun _ _ _ h => h) (by decide) (Or.inl ⟨by rfl, ?_⟩) hHeld ?_
  rotate_left
  · (intro w hSw; (try dsimp only at hSw); go_simp; (try with_reducible rfl))
  simp only [List.set_cons_zero, List.set_cons_succ]
  refine f_step (i := 6) (by kernel_rfl) rfl (fun K hK => ?_)
  go_simp
  refine hK.out _ _ ?_ (fun hHeld => ?_)
  · (try dsimp only); exact ⟨trivial, Bl.cells (by (repeat (first | with_reducible assumption | with_reducible exact Bl.refl _ | with_reducible refine Bl.drewN ?_ _ | with_reducible refine Bl.drew ?_ | with_reducible refine Bl.alloc ?_ _ | with_reducible refine Bl.setCell ?_ (by first | (dsimp only; omega) | (simp; omega)) _ | (with_reducible refine Bl.call ?_ (by with_reducible assumption))))) kb, Bl.cells (by (repeat (first | with_reducible assumption | with_reducible exact Bl.refl _ | with_reducible refine Bl.drewN ?_ _ | with_reducible refine Bl.drew ?_ | with_reducible refine Bl.alloc ?_ _ | with_reducible refine Bl.setCell ?_ (by first | (dsimp only; omega) | (simp; omega)) _ | (with_reducible refine Bl.call ?_ (by with_reducible assumption))))) k1, Bl.cells (by (repeat (first | with_reducible assumption | with_reducible exact Bl.refl _ | with_reducible refine Bl.drewN ?_ _ | with_reducible refine Bl.drew ?_ | with_reducible refine Bl.alloc ?_ _ | with_reducible refine Bl.setCell ?_ (by first | (dsimp only; omega) | (simp; omega)) _ | (with_reducible refine Bl.call ?_ (by with_reducible assumption))))) k2⟩
  clear hK K
  (try simp only [Act.put]); (try simp only [List.setIfInBounds_toArray]); (try simp only [List.set_cons_succ]); (try simp only [List.set_cons_zero])
  refine f_takeC (i := 7) (d := 81) (v := ?_) [7] rfl rfl (by kernel_rfl) (by kernel_rfl) (by kernel_rfl) (by kernel_rfl) (by kernel_rfl) (by kernel_rfl) (fun _ _ _ h => h) (by decide) (Or.inl ⟨by rfl, ?_⟩) hHeld ?_
  rotate_left
  · (intro w hSw; (try dsimp only at hSw); go_simp; (try with_reducible rfl))
  simp only [List.set_cons_zero, List.set_cons_succ]
  refine f_last (i := 8) (by kernel_rfl) rfl (by simp) (fun K hK => ?_)
  go_simp
  refine hK.out _ _ ?_ (fun hHeld => ?_)
  · exact trivial
  clear hK K
  (try simp only [Act.put]); (try simp only [List.setIfInBounds_toArray]); (try simp only [List.set_cons_succ]); (try simp only [List.set_cons_zero])
  refine f_done (by kernel_rfl) ?_ _
  have hsz2 : w.heap.size ≤ W2.heap.size := hW2.sz
  have hO : OwnS w.heap.size ((((((((W2.setCell ⟨w.heap.size + 1, 0, none⟩ (.int .i64 4)).setCell ⟨w.heap.size + 1, 1, none⟩ (.string nm)).setCell ⟨w.heap.size + 1, 2, none⟩ (.string ⟨#[]⟩)).setCell ⟨w.heap.size + 1, 3, none⟩ (.slice (some ⟨W2.heap.size, 0, none⟩) 1 1)).setCell ⟨w.heap.size + 1, 4, none⟩ (.int .i64 0)).setCell ⟨w.heap.size + 1, 5, none⟩ (.int .i64 0)).setCell ⟨w.heap.size + 1, 6, none⟩ (.int .i64 0)).alloc (.cells #[.string p] 9)) (some ⟨W2.heap.size, 0, none⟩) 1 1 [p] := own_strs (((((((W2.setCell ⟨w.heap.size + 1, 0, none⟩ (.int .i64 4)).setCell ⟨w.heap.size + 1, 1, none⟩ (.string nm)).setCell ⟨w.heap.size + 1, 2, none⟩ (.string ⟨#[]⟩)).setCell ⟨w.heap.size + 1, 3, none⟩ (.slice (some ⟨W2.heap.size, 0, none⟩) 1 1)).setCell ⟨w.heap.size + 1, 4, none⟩ (.int .i64 0)).setCell ⟨w.heap.size + 1, 5, none⟩ (.int .i64 0)).setCell ⟨w.heap.size + 1, 6, none⟩ (.int .i64 0)) [p] (by simp [World.setCell]) hsz2 (by simp)
  have hO2 : OwnS w.heap.size ((((((((W2.setCell ⟨w.heap.size + 1, 0, none⟩ (.int .i64 4)).setCell ⟨w.heap.size + 1, 1, none⟩ (.string nm)).setCell ⟨w.heap.size + 1, 2, none⟩ (.string ⟨#[]⟩)).setCell ⟨w.heap.size + 1, 3, none⟩ (.slice (some ⟨W2.heap.size, 0, none⟩) 1 1)).setCell ⟨w.heap.size + 1, 4, none⟩ (.int .i64 0)).setCell ⟨w.heap.size + 1, 5, none⟩ (.int .i64 0)).setCell ⟨w.heap.size + 1, 6, none⟩ (.int .i64 0)).alloc (.cells #[.string p] 9)).drew (some ⟨W2.heap.size, 0, none⟩) 1 1 [p] := OwnS.keep hO (Bl.drew (Bl.refl _))
  clear hO
  have hbz : Bl w ((((((((W2.setCell ⟨w.heap.size + 1, 0, none⟩ (.int .i64 4)).setCell ⟨w.heap.size + 1, 1, none⟩ (.string nm)).setCell ⟨w.heap.size + 1, 2, none⟩ (.string ⟨#[]⟩)).setCell ⟨w.heap.size + 1, 3, none⟩ (.slice (some ⟨W2.heap.size, 0, none⟩) 1 1)).setCell ⟨w.heap.size + 1, 4, none⟩ (.int .i64 0)).setCell ⟨w.heap.size + 1, 5, none⟩ (.int .i64 0)).setCell ⟨w.heap.size + 1, 6, none⟩ (.int .i64 0)).alloc (.cells #[.string p] 9)).drew := (by (repeat (first | with_reducible assumption | with_reducible exact Bl.refl _ | with_reducible refine Bl.drewN ?_ _ | with_reducible refine Bl.drew ?_ | with_reducible refine Bl.alloc ?_ _ | with_reducible refine Bl.setCell ?_ (by first | (dsimp only; omega) | (simp; omega)) _ | (with_reducible refine Bl.call ?_ (by with_reducible assumption)))))
  have hRz : Blk ((((((((W2.setCell ⟨w.heap.size + 1, 0, none⟩ (.int .i64 4)).setCell ⟨w.heap.size + 1, 1, none⟩ (.string nm)).setCell ⟨w.heap.size + 1, 2, none⟩ (.string ⟨#[]⟩)).setCell ⟨w.heap.size + 1, 3, none⟩ (.slice (some ⟨W2.heap.size, 0, none⟩) 1 1)).setCell ⟨w.heap.size + 1, 4, none⟩ (.int .i64 0)).setCell ⟨w.heap.size + 1, 5, none⟩ (.int .i64 0)).setCell ⟨w.heap.size + 1, 6, none⟩ (.int .i64 0)).alloc (.cells #[.string p] 9)).drew (w.heap.size + 1) 92 #[.int .i64 4, .string nm, .string ⟨#[]⟩, .slice (some ⟨W2.heap.size, 0, none⟩) 1 1, .int .i64 0, .int .i64 0, .int .i64 0] := ((((((((hR.set_ 0 _).set_ 1 _).set_ 2 _).set_ 3 _).set_ 4 _).set_ 5 _).set_ 6 _).alloc _).drew
  generalize ((((((((W2.setCell ⟨w.heap.size + 1, 0, none⟩ (.int .i64 4)).setCell ⟨w.heap.size + 1, 1, none⟩ (.string nm)).setCell ⟨w.heap.size + 1, 2, none⟩ (.string ⟨#[]⟩)).setCell ⟨w.heap.size + 1, 3, none⟩ (.slice (some ⟨W2.heap.size, 0, none⟩) 1 1)).setCell ⟨w.heap.size + 1, 4, none⟩ (.int .i64 0)).setCell ⟨w.heap.size + 1, 5, none⟩ (.int .i64 0)).setCell ⟨w.heap.size + 1, 6, none⟩ (.int .i64 0)).alloc (.cells #[.string p] 9)).drew = wz at hO2 hbz hRz ⊢
  clear hHeld hR hR_0 hR_1 hR_2 hR_3 hR_4 hR_5 hR_6 hR_l hR_f
  have hz_l := hRz.lt
  have hz_0 := hRz.cell 0 _ rfl
  have hz_1 := hRz.cell 1 _ rfl
  have hz_2 := hRz.cell 2 _ rfl
  have hz_3 := hRz.cell 3 _ rfl
  have hz_4 := hRz.cell 4 _ rfl
  have hz_5 := hRz.cell 5 _ rfl
  have hz_6 := hRz.cell 6 _ rfl
  go_wp2_with fail
  refine bodyPost_ret (v := .agg #[.int .i64 4, .string nm, .string ⟨#[]⟩, .slice (some ⟨W2.heap.size, 0, none⟩) 1 1, .int .i64 0, .int .i64 0, .int .i64 0]) (by simp only [results, Tryz.results120]; go_simp) rfl ⟨_, _, _, rfl, hO2, hbz⟩
set_option maxRecDepth 20000 in
set_option maxHeartbeats 4000000 in
theorem impl_readLine_pick (g c : Nat) (nm p q r : ByteArray) (w : World) (h : RdS w (some ⟨g, 0, none⟩) 5 c [⟨#[112, 105, 99, 107]⟩, nm, p, q, r]) :
    Calls Tryz.prog 120 #[.slice (some ⟨g, 0, none⟩) 5 c] w fun e w' => ∃ A n' c', e = .returned (.agg #[.int .i64 5, .string nm, .string ⟨#[]⟩, .slice A n' c', .int .i64 0, .int .i64 0, .int .i64 0]) ∧ OwnS w.heap.size w' A n' c' [p, q, r] ∧ Bl w w' := by
  have e_input : ((⟨#[112, 105, 99, 107]⟩ : ByteArray).toList == (⟨#[105, 110, 112, 117, 116]⟩ : ByteArray).toList) = false := by decide +kernel
  have e_const : ((⟨#[112, 105, 99, 107]⟩ : ByteArray).toList == (⟨#[99, 111, 110, 115, 116]⟩ : ByteArray).toList) = false := by decide +kernel
  have e_let : ((⟨#[112, 105, 99, 107]⟩ : ByteArray).toList == (⟨#[108, 101, 116]⟩ : ByteArray).toList) = false := by decide +kernel
  have e_not : ((⟨#[112, 105, 99, 107]⟩ : ByteArray).toList == (⟨#[110, 111, 116]⟩ : ByteArray).toList) = false := by decide +kernel
  have e_pick : ((⟨#[112, 105, 99, 107]⟩ : ByteArray).toList == (⟨#[112, 105, 99, 107]⟩ : ByteArray).toList) = true := by decide +kernel
  obtain ⟨hle1, hle2⟩ := h.le
  obtain ⟨x0, hgl_x, hx0, k0⟩ := h.at0_ (k := 0) (by omega)
  obtain rfl := Option.some.inj hx0
  obtain ⟨x1, _, hx1, k1⟩ := h.at0_ (k := 1) (by omega)
  obtain rfl := Option.some.inj hx1
  obtain ⟨x2, _, hx2, k2⟩ := h.at0_ (k := 2) (by omega)
  obtain rfl := Option.some.inj hx2
  obtain ⟨x3, _, hx3, k3⟩ := h.at0_ (k := 3) (by omega)
  obtain rfl := Option.some.inj hx3
  obtain ⟨x4, _, hx4, k4⟩ := h.at0_ (k := 4) (by omega)
  obtain rfl := Option.some.inj hx4
  have hW2 := ((Bl.refl w).alloc (.cells #[.slice (some ⟨g, 0, none⟩) 5 c] 65)).alloc (.cells #[.int .i64 0, .string ⟨#[]⟩, .string ⟨#[]⟩, .slice none 0 0, .int .i64 0, .int .i64 0, .int .i64 0] 92)
  have hX := (Blk.new w 65 #[.slice (some ⟨g, 0, none⟩) 5 c] (g := w.heap.size)).alloc (.cells #[.int .i64 0, .string ⟨#[]⟩, .string ⟨#[]⟩, .slice none 0 0, .int .i64 0, .int .i64 0, .int .i64 0] 92)
  have hR := Blk.new (w.alloc (.cells #[.slice (some ⟨g, 0, none⟩) 5 c] 65)) 92 #[.int .i64 0, .string ⟨#[]⟩, .string ⟨#[]⟩, .slice none 0 0, .int .i64 0, .int .i64 0, .int .i64 0] (g := w.heap.size + 1)
  go_enter Tryz.func120, Tryz.ntmps120
  go_wp2_with fail
  generalize hWW : ((w.alloc (.cells #[.slice (some ⟨g, 0, none⟩) 5 c] 65)).alloc (.cells #[.int .i64 0, .string ⟨#[]⟩, .string ⟨#[]⟩, .slice none 0 0, .int .i64 0, .int .i64 0, .int .i64 0] 92)) = W2
  rw [hWW] at hW2 hX hR
  have kb := hX.cell 0 _ rfl
  have kb0 := kb
  have hR9 := hR.lt
  have hR_l := hR.lt; have hR_f := hR.frozen; have hR_0 := hR.cell 0 _ rfl; have hR_1 := hR.cell 1 _ rfl; have hR_2 := hR.cell 2 _ rfl; have hR_3 := hR.cell 3 _ rfl; have hR_4 := hR.cell 4 _ rfl; have hR_5 := hR.cell 5 _ rfl; have hR_6 := hR.cell 6 _ rfl
  have hc2 : ¬ c = 2 := by omega
  have hcut : RdS w (some ⟨g, 2, none⟩) 3 (c - 2) [p, q, r] := (by have := h.cut (k := 2) (by omega) (by omega); exact this)
  refine region_F (fun _ => True) (fun w' => w'.cell? ⟨w.heap.size, 0, none⟩ = some (.slice (some ⟨g, 0, none⟩) 5 c) ∧ w'.cell? ⟨g, 1, none⟩ = some (.string nm)) 7 (by kernel_rfl) ?_ (fun hHeld => ?_)
  · (try dsimp only); exact ⟨trivial, Bl.cells (by (repeat (first | with_reducible assumption | with_reducible exact Bl.refl _ | with_reducible refine Bl.drewN ?_ _ | with_reducible refine Bl.drew ?_ | with_reducible refine Bl.alloc ?_ _ | with_reducible refine Bl.setCell ?_ (by first | (dsimp only; omega) | (simp; omega)) _ | (with_reducible refine Bl.call ?_ (by with_reducible assumption))))) kb, Bl.cells (by (repeat (first | with_reducible assumption | with_reducible exact Bl.refl _ | with_reducible refine Bl.drewN ?_ _ | with_reducible refine Bl.drew ?_ | with_reducible refine Bl.alloc ?_ _ | with_reducible refine Bl.setCell ?_ (by first | (dsimp only; omega) | (simp; omega)) _ | (with_reducible refine Bl.call ?_ (by with_reducible assumption))))) k1⟩
  refine f_takeC (i := 0) (d := 91) (v := ?_) [0] rfl rfl (by kernel_rfl) (by kernel_rfl) (by kernel_rfl) (by kernel_rfl) (by kernel_rfl) (by kernel_rfl) (fun _ _ _ h => h) (by decide) (Or.inl ⟨by rfl, ?_⟩) hHeld ?_
  rotate_left
  · (intro w hSw; (try dsimp only at hSw); go_simp; (try with_reducible rfl))
  simp only [List.set_cons_zero, List.set_cons_succ]
  refine f_takeC (i := 1) (d := 92) (v := ?_) [1] rfl rfl (by kernel_rfl) (by kernel_rfl) (by kernel_rfl) (by kernel_rfl) (by kernel_rfl) (by kernel_rfl) (fun _ _ _ h => h) (by decide) (Or.inl ⟨by rfl, ?_⟩) hHeld ?_
  rotate_left
  · (intro w hSw; (try dsimp only at hSw); go_simp; (try with_reducible rfl))
  simp only [List.set_cons_zero, List.set_cons_succ]
  refine f_takeC (i := 2) (d := 93) (v := ?_) [2] rfl rfl (by kernel_rfl) (by kernel_rfl) (by kernel_rfl) (by kernel_rfl) (by kernel_rfl) (by kernel_rfl) (fun _ _ _ h => h) (by decide) (Or.inl ⟨by rfl, ?_⟩) hHeld ?_
  rotate_left
  · (intro w hSw; (try dsimp only at hSw); go_simp; (try with_reducible rfl))
  simp only [List.set_cons_zero, List.set_cons_succ]
  refine f_takeC (i := 3) (d := 94) (v := ?_) [3] rfl rfl (by kernel_rfl) (by kernel_rfl) (by kernel_rfl) (by kernel_rfl) (by kernel_rfl) (by kernel_rfl) (fun _ _ _ h => h) (by decide) (Or.inl ⟨by rfl, ?_⟩) hHeld ?_
  rotate_left
  · (intro w hSw; (try dsimp only at hSw); go_simp; (try with_reducible rfl))
  simp only [List.set_cons_zero, List.set_cons_succ]
  refine f_takeC (i := 4) (d := 95) (v := ?_) [4] rfl rfl (by kernel_rfl) (by kernel_rfl) (by kernel_rfl) (by kernel_rfl) (by kernel_rfl) (by kernel_rfl) (fun _ _ _ h => h) (by decide) (Or.inl ⟨by rfl, ?_⟩) hHeld ?_
  rotate_left
  · (intro w hSw; (try dsimp only at hSw); go_simp; (try with_reducible rfl))
  simp only [List.set_cons_zero, List.set_cons_succ]
  refine f_step (i := 5) (by kernel_rfl) rfl (fun K hK => ?_)
  go_simp
  (go_at_call 164; refine (lib_Clone ⟨g, 2, none⟩ 3 (c - 2) [p, q, r] _ (RdS.keep (w' := W2.drew) hcut (Bl.drew hW2)) rfl (by omega) (by omega)).mono ?_; rintro e w7 ⟨A7, c7, rfl, ho7, hb7⟩; have hW7 : Bl W2 w7 := (by (repeat (first | with_reducible assumption | with_reducible exact Bl.refl _ | with_reducible refine Bl.drewN ?_ _ | with_reducible refine Bl.drew ?_ | with_reducible refine Bl.alloc ?_ _ | with_reducible refine Bl.setCell ?_ (by first | (dsimp only; omega) | (simp; omega)) _ | (with_reducible refine Bl.call ?_ (by with_reducible assumption))))); replace hR : Blk w7 (w.heap.size + 1) 92 #[.int .i64 0, .string ⟨#[]⟩, .string ⟨#[]⟩, .slice none 0 0, .int .i64 0, .int .i64 0, .int .i64 0] := (by refine Blk.keep ?_ hb7; exact hR); replace kb := hW7.cells kb0; have hR_l := hR.lt; have hR_f := hR.frozen; have hR_0 := hR.cell 0 _ rfl; have hR_1 := hR.cell 1 _ rfl; have hR_2 := hR.cell 2 _ rfl; have hR_3 := hR.cell 3 _ rfl; have hR_4 := hR.cell 4 _ rfl; have hR_5 := hR.cell 5 _ rfl; have hR_6 := hR.cell 6 _ rfl)
  go_wp2_with fail
  refine hK.out _ _ ?_ (fun hHeld => ?_)
  · (try dsimp only); exact ⟨trivial, Bl.cells (by (repeat (first | with_reducible assumption | with_reducible exact Bl.refl _ | with_reducible refine Bl.drewN ?_ _ | with_reducible refine Bl.drew ?_ | with_reducible refine Bl.alloc ?_ _ | with_reducible refine Bl.setCell ?_ (by first | (dsimp only; omega) | (simp; omega)) _ | (with_reducible refine Bl.call ?_ (by with_reducible assumption))))) kb, Bl.cells (by (repeat (first | with_reducible assumption | with_reducible exact Bl.refl _ | with_reducible refine Bl.drewN ?_ _ | with_reducible refine Bl.drew ?_ | with_reducible refine Bl.alloc ?_ _ | with_reducible refine Bl.setCell ?_ (by first | (dsimp only; omega) | (simp; omega)) _ | (with_reducible refine Bl.call ?_ (by with_reducible assumption))))) k1⟩
  clear hK K
  (try simp only [Act.put]); (try simp only [List.setIfInBounds_toArray]); (try simp only [List.set_cons_succ]); (try simp only [List.set_cons_zero])
  refine f_takeC (i := 6) (d := 97) (v := ?_) [6] rfl rfl (by kernel_rfl) (by kernel_rfl) (by kernel_rfl) (by kernel_rfl) (by kernel_rfl) (by kernel_rfl) (fun _ _ _ h => h) (by decide) (Or.inl ⟨by rfl, ?_⟩) hHeld ?_
  rotate_left
  · (intro w hSw; (try dsimp only at hSw); go_simp; (try with_reducible rfl))
  simp only [List.set_cons_zero, List.set_cons_succ]
  refine f_last (i := 7) (by kernel_rfl) rfl (by simp) (fun K hK => ?_)
  go_simp
  refine hK.out _ _ ?_ (fun hHeld => ?_)
  · exact trivial
  clear hK K
  (try simp only [Act.put]); (try simp only [List.setIfInBounds_toArray]); (try simp only [List.set_cons_succ]); (try simp only [List.set_cons_zero])
  refine f_done (by kernel_rfl) ?_ _
  have hlo : w.heap.size + 1 < W2.heap.size := hR9
  have hlo2 : w.heap.size ≤ W2.heap.size := by omega
  go_wp2_with fail
  refine bodyPost_ret (v := .agg #[.int .i64 5, .string nm, .string ⟨#[]⟩, .slice A7 3 c7, .int .i64 0, .int .i64 0, .int .i64 0]) (by simp only [results, Tryz.results120]; go_simp) rfl ⟨A7, 3, c7, rfl, OwnS.mono ((((((((ho7.low hlo _).low hlo _).low hlo _).low hlo _).low hlo _).low hlo _).low hlo _)) hlo2, (by (repeat (first | with_reducible assumption | with_reducible exact Bl.refl _ | with_reducible refine Bl.drewN ?_ _ | with_reducible refine Bl.drew ?_ | with_reducible refine Bl.alloc ?_ _ | with_reducible refine Bl.setCell ?_ (by first | (dsimp only; omega) | (simp; omega)) _ | (with_reducible refine Bl.call ?_ (by with_reducible assumption)))))⟩
end Go.Proofs.YtjggecbaladiiaaGreatDoor
