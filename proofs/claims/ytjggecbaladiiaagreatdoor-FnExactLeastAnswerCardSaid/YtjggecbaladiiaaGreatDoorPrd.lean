/- Contracts of the program's ProgramFor: the lines of a program of the dozen.
   Conditions: the library's tables are laid. -/
import Derived.Test.YtjggecbaladiiaaGreatDoorPrc
namespace Go.Proofs.YtjggecbaladiiaaGreatDoor
open Go.RowKit
set_option linter.unusedVariables false
/-- In the middle of programFor: the lines so far, the row of texts, the struct of the program's texts. -/
structure Pf (w wr : World) (b5 gT nt : Nat) (TX : List ByteArray) (cs : Array Value) (A : Option Addr) (n c : Nat) (l : List (Hd × Ln)) : Prop where
  own : OwnL w.heap.size wr A n c l
  rs : RdS wr (some ⟨gT, 0, none⟩) nt nt TX
  nb : Blk wr b5 88 cs
  ne : ∀ q, A.map (·.block) = some q → q ≠ gT ∧ q ≠ b5
  gt : gT < wr.heap.size
  bl : Bl w wr
section
variable {w wr wx w' : World} {b5 gT nt : Nat} {TX : List ByteArray} {cs : Array Value} {A : Option Addr} {n c : Nat} {l : List (Hd × Ln)}
theorem Pf.keep (h : Pf w wr b5 gT nt TX cs A n c l) (hb : Bl wr wx) : Pf w wx b5 gT nt TX cs A n c l :=
  ⟨h.own.keep hb, h.rs.keep hb, h.nb.keep hb, h.ne, Nat.lt_of_lt_of_le h.gt hb.sz, h.bl.call hb⟩
/-- One line more. -/
theorem Pf.snoc {A' : Option Addr} {c' : Nat} {hd : Hd} {x : Ln} (h : Pf w wr b5 gT nt TX cs A n c l) (hv : Bl wr wx) (hx : OwnS wr.heap.size wx hd.A hd.n hd.c x.ps)
    (hrow : OwnV 92 7 w.heap.size w' A' (n + 1) c' (encs encL (l ++ [(hd, x)]))) (hg : wx.grownBy w' (A.map (·.block))) (ha : A'.map (·.block) = A.map (·.block) ∨ A'.map (·.block) = some wx.heap.size) : Pf w w' b5 gT nt TX cs A' (n + 1) c' (l ++ [(hd, x)]) := by
  have h1 := h.gt; have h2 := h.nb.lt; have h3 := hv.sz
  refine ⟨h.own.snoc hv (OwnV.mono hx h.bl.sz) (fun k hk => (OwnV.blk hx k hk).1) (fun k hk => (OwnV.blk hx k hk).2) hrow hg ha, (h.rs.keep hv).grown hg (fun _ a ha2 e => ?_), (h.nb.keep hv).grown hg (fun e => (h.ne b5 e.symm).2 rfl), fun q hq => ?_, Nat.lt_of_lt_of_le (Nat.lt_of_lt_of_le h1 h3) hg.size, Bl.grown (h.bl.call hv) hg (fun q hq => (h.own.row.blk q hq).1)⟩
  · injection ha2 with ha2; subst ha2
    exact (h.ne gT e.symm).1 rfl
  · rcases ha with h4 | h4
    · exact h.ne q (h4.symm.trans hq)
    · have h5 := h4.symm.trans hq
      injection h5 with h5
      constructor <;> omega
/-- The texts are run through; other texts follow. -/
theorem Pf.next {gR nr : Nat} {RX : List ByteArray} (h : Pf w wr b5 gT nt TX cs A n c l) (hv : Bl wr wx) (hr : RdS wx (some ⟨gR, 0, none⟩) nr nr RX) (h1 : wr.heap.size ≤ gR) (h2 : gR < wx.heap.size) : Pf w wx b5 gR nr RX cs A n c l :=
  ⟨h.own.keep hv, hr, h.nb.keep hv, fun q hq => ⟨by have := (h.own.row.blk q hq).2; omega, (h.ne q hq).2⟩, h2, h.bl.call hv⟩
end
theorem map_snocL {f : ByteArray → Ln} {l : List (Hd × Ln)} {L0 : List Ln} {TX : List ByteArray} {k : Nat} {t : ByteArray} {p : Hd × Ln} (h : l.map (·.2) = L0 ++ (TX.take k).map f) (ht : TX[k]? = some t) (hp : p.2 = f t) : (l ++ [p]).map (·.2) = L0 ++ (TX.take (k + 1)).map f := by
  rw [take_mapI f ht, List.map_append, h, List.append_assoc]; simp [hp]
theorem clW_lt {l : List ByteArray} {a b c d : ByteArray} (h : clW l = .lt a b c d) : l = [⟨#[108, 101, 116]⟩, a, b, c, d] := by
  unfold clW at h
  split at h
  · split at h
    · rename_i h1; injection h with e1 e2 e3 e4; subst h1 e1 e2 e3 e4; rfl
    · split at h <;> cases h
  · split at h <;> cases h
  · cases h
theorem clW_nt {l : List ByteArray} {a b : ByteArray} (h : clW l = .nt a b) : l = [⟨#[110, 111, 116]⟩, a, b] := by
  unfold clW at h
  split at h
  · split at h
    · cases h
    · split at h <;> cases h
  · split at h
    · rename_i h1; injection h with e1 e2; subst h1 e1 e2; rfl
    · cases h
  · cases h
theorem clW_pk {l : List ByteArray} {a b c d : ByteArray} (h : clW l = .pk a b c d) : l = [⟨#[112, 105, 99, 107]⟩, a, b, c, d] := by
  unfold clW at h
  split at h
  · split at h
    · cases h
    · split at h
      · rename_i h1; injection h with e1 e2 e3 e4; subst h1 e1 e2 e3 e4; rfl
      · cases h
  · split at h <;> cases h
  · cases h
theorem pg_len : ∀ k, k < 12 → (spB ⟨#[44]⟩ (nL k)).length ≤ 100 ∧ (fdB (nR k)).length ≤ 100 ∧ 0 < (spB ⟨#[44]⟩ (nL k)).length := by decide +kernel
theorem pg_res : ∀ k, k < 12 → ¬ (fdB (nR k)).length = 0 := by decide +kernel
theorem clW_z {l : List ByteArray} : clW l ≠ .zero ∧ clW l ≠ .one := by
  unfold clW
  constructor <;> (split <;> (repeat' split) <;> (intro h; cases h))
set_option maxRecDepth 20000 in
set_option maxHeartbeats 4000000 in
theorem impl_programFor (k : Nat) (hk : k < 12) (wd : Int) (w : World) (ht : Tb w) :
    Calls Tryz.prog 70 #[.int .i64 (k : Nat), .int .i64 wd] w fun e w' => ∃ A n c l, e = .returned (.slice A n c) ∧ OwnL w.heap.size w' A n c l ∧ l.map (·.2) = pgL k wd ∧ Bl w w' := by
  obtain ⟨a1, a2, a3, a4, a5, a6⟩ := pg_ascii k hk
  rw [List.all_append, Bool.and_eq_true] at a6
  obtain ⟨f1, f2⟩ := a6
  have g1 := (asciiB_at a1).2.2
  have g2 := (asciiB_at a2).2.2
  have hTn : ¬ (spB ⟨#[44]⟩ (nL k)).length = 0 := by unfold spB; rw [Lib.splitB_all _ (by decide) 0 _ _ rfl]; omega
  have hPG := Lib.hid (pgI_eq k hk wd)
  go_enter Tryz.func70, Tryz.ntmps70
  go_wp2_with fail
  refine (impl_numberedFor k hk _).mono ?_
  rintro e w1 ⟨rfl, hb1⟩
  have hX := Blk.new w1 88 #[.string (nN k), .string (nF k), .string (nS k), .string (nL k), .string (nR k)] (g := w1.heap.size)
  have hW := hb1.alloc (.cells #[.string (nN k), .string (nF k), .string (nS k), .string (nL k), .string (nR k)] 88)
  go_wp2_with fail
  generalize w1.alloc (.cells #[.string (nN k), .string (nF k), .string (nS k), .string (nL k), .string (nR k)] 88) = u0 at hX hW ⊢
  generalize w1.heap.size = b5 at hX ⊢
  refine wp_region_held_drew (S := (fun w' => w'.cell? ⟨b5, 1, none⟩ = some (.string (nF k)) ∧ w'.cell? ⟨b5, 2, none⟩ = some (.string (nS k)))) (by kernel_rfl) ?_ (fun hHeld => ?_)
  · (try dsimp only); have q := hX.drew; exact ⟨q.cell 1 _ rfl, q.cell 2 _ rfl⟩
  refine held_take (i := 0) (d := 13) (v := ?_) rfl rfl (by kernel_rfl) (by kernel_rfl) (by kernel_rfl) (fun _ _ _ h => h) (Or.inl ⟨by rfl, ?_⟩) (by assumption) ?_
  rotate_left
  · (intro w hSw; (try dsimp only at hSw); go_simp; (try with_reducible rfl))
  (try simp only [List.set_cons_zero, List.set_cons_succ])
  refine held_take (i := 1) (d := 14) (v := ?_) rfl rfl (by kernel_rfl) (by kernel_rfl) (by kernel_rfl) (fun _ _ _ h => h) (Or.inl ⟨by rfl, ?_⟩) (by assumption) ?_
  rotate_left
  · (intro w hSw; (try dsimp only at hSw); go_simp; (try with_reducible rfl))
  (try simp only [List.set_cons_zero, List.set_cons_succ])
  refine held_take (i := 2) (d := 15) (v := ?_) rfl rfl (by kernel_rfl) (by kernel_rfl) (by kernel_rfl) (fun _ _ _ h => h) (Or.inl ⟨by rfl, ?_⟩) (by assumption) ?_
  rotate_left
  · (intro w hSw; (try dsimp only at hSw); go_simp; (try with_reducible rfl))
  (try simp only [List.set_cons_zero, List.set_cons_succ])
  refine held_take (i := 4) (d := 17) (v := ?_) rfl rfl (by kernel_rfl) (by kernel_rfl) (by kernel_rfl) (fun _ _ _ h => h) (Or.inl ⟨by rfl, ?_⟩) (by assumption) ?_
  rotate_left
  · (intro w hSw; (try dsimp only at hSw); go_simp; (try with_reducible rfl))
  (try simp only [List.set_cons_zero, List.set_cons_succ])
  refine held_take (i := 5) (d := 18) (v := ?_) rfl rfl (by kernel_rfl) (by kernel_rfl) (by kernel_rfl) (fun _ _ _ h => h) (Or.inl ⟨by rfl, ?_⟩) (by assumption) ?_
  rotate_left
  · (intro w hSw; (try dsimp only at hSw); go_simp; (try with_reducible rfl))
  (try simp only [List.set_cons_zero, List.set_cons_succ])
  refine held_take (i := 6) (d := 19) (v := ?_) rfl rfl (by kernel_rfl) (by kernel_rfl) (by kernel_rfl) (fun _ _ _ h => h) (Or.inl ⟨by rfl, ?_⟩) (by assumption) ?_
  rotate_left
  · (intro w hSw; (try dsimp only at hSw); go_simp; (try with_reducible rfl))
  (try simp only [List.set_cons_zero, List.set_cons_succ])
  refine wpAnyH_ready (rs := [3]) (by kernel_rfl) (by simp) ?_
  refine AllReadyH.cons rfl (fun K hK => ?_) AllReadyH.nil
  go_simp
  (go_at_call 118; refine (impl_inputLines 0 wd (nF k) _ a1 f1 (ht.keep hW.drew)).mono ?_; rintro e u1 ⟨A1, n1, c1, l1, rfl, o1, rfl, hb2⟩; have hX1 := hX.drew.keep hb2; have hW1 := hW.drew.call hb2; have hu1 := OwnL.mono o1 hW.drew.sz; have hn1 : (fdB (nF k)).length = n1 := (by have := o1.len; rwa [List.length_map] at this); have hA5 : ∀ q, A1.map (·.block) = some q → b5 < q := (fun q hq => by have h1 : u0.heap.size ≤ q := (o1.row.blk q hq).1; have := hX.lt; omega); clear hb2 o1)
  go_wp2_with fail
  refine hK.out _ _ ?_ (fun hHeld => ?_)
  · (try dsimp only); have q := hX1; exact ⟨q.cell 1 _ rfl, q.cell 2 _ rfl⟩
  clear hK K
  (try simp only [Act.put]); (try simp only [List.setIfInBounds_toArray]); (try simp only [List.set_cons_succ]); (try simp only [List.set_cons_zero])
  refine wpAnyH_ready (rs := [7]) (by kernel_rfl) (by simp) ?_
  refine AllReadyH.cons rfl (fun K hK => ?_) AllReadyH.nil
  go_simp
  (go_at_call 118; refine (impl_inputLines 1 wd (nS k) _ a2 f2 (ht.keep hW1)).mono ?_; rintro e u2 ⟨A2, n2, c2, l2, rfl, o2, rfl, hb3⟩; have hX2 := hX1.keep hb3; have hW2 := hW1.call hb3; have hu2 := hu1.keep hb3; have hn2 : (fdB (nS k)).length = n2 := (by have := o2.len; rwa [List.length_map] at this); have hr2 := o2.row.rd; have hA1 := fun q hq => (hu1.row.blk q hq).2; have hs2 := hb3.sz; clear hb3 o2)
  go_wp2_with fail
  refine hK.out _ _ ?_ (fun hHeld => ?_)
  · (try dsimp only); have q := hX2; exact ⟨q.cell 1 _ rfl, q.cell 2 _ rfl⟩
  clear hK K
  (try simp only [Act.put]); (try simp only [List.setIfInBounds_toArray]); (try simp only [List.set_cons_succ]); (try simp only [List.set_cons_zero])
  refine wpAnyH_ready (rs := [8]) (by kernel_rfl) (by simp) ?_
  refine AllReadyH.cons rfl (fun K hK => ?_) AllReadyH.nil
  refine ap_lines_step rfl rfl rfl hu2.row rfl hr2 (by omega) (by have := hW2.sz; omega) ?_; intro A3 c3 u3 hrow3 hg3 hat3; have hX3 := hX2.grown hg3 (fun e => by have := hA5 _ e.symm; omega)
  refine hK.out _ _ ?_ (fun hHeld => ?_)
  · (try dsimp only); have q := hX3; exact ⟨q.cell 1 _ rfl, q.cell 2 _ rfl⟩
  clear hK K
  (try simp only [Act.put]); (try simp only [List.setIfInBounds_toArray]); (try simp only [List.set_cons_succ]); (try simp only [List.set_cons_zero])
  refine held_take (i := 9) (d := 6) (v := ?_) rfl rfl (by kernel_rfl) (by kernel_rfl) (by kernel_rfl) (fun _ _ _ h => h) (Or.inl ⟨by rfl, ?_⟩) (by assumption) ?_
  rotate_left
  · (intro w hSw; (try dsimp only at hSw); go_simp; (try with_reducible rfl))
  (try simp only [List.set_cons_zero, List.set_cons_succ])
  refine wpAnyH_done (by kernel_rfl) ?_ _
  have hown := hu2.app (Bl.refl u2) (l' := (fdB (nS k)).map (fun t => (Hd.none, mkI 1 wd t))) (fun p hp => by obtain ⟨t, _, rfl⟩ := List.mem_map.1 hp; exact ⟨rfl, rfl⟩) (by rw [List.length_map]; exact hn2) hrow3 hg3 hat3
  have hW3 : Bl w u3 := Bl.grown hW2 hg3 (fun q hq => (hu2.row.blk q hq).1)
  have hne : ∀ q, A3.map (·.block) = some q → q ≠ b5 := fun q hq e => by
    subst e
    have h5 := (hown.row.blk q hq).1
    rcases hat3 with h3 | h3
    · have := hA5 q (h3.symm.trans hq); omega
    · have h4 := h3.symm.trans hq; injection h4 with h4; have := hX2.lt; omega
  have hmap : ((fdB (nF k)).map (fun t => (Hd.none, mkI 0 wd t)) ++ (fdB (nS k)).map (fun t => (Hd.none, mkI 1 wd t))).map (·.2) = (fdB (nF k)).map (mkI 0 wd) ++ (fdB (nS k)).map (mkI 1 wd) := by rw [List.map_append, List.map_map, List.map_map]; rfl
  have hl0 := hn1; have hl9 := hn2
  generalize (fdB (nF k)).map (fun t => (Hd.none, mkI 0 wd t)) ++ (fdB (nS k)).map (fun t => (Hd.none, mkI 1 wd t)) = L9 at hown hmap
  have hln := hown.len
  obtain ⟨N3, hN3⟩ : ∃ N3, n1 + n2 = N3 := ⟨_, rfl⟩
  have hNb : N3 ≤ 2000 := by omega
  rw [hN3] at hown hln ⊢
  clear hN3 hn1 hn2 hl0 hl9 hu2 hu1 hrow3 hg3 hat3 hr2 hA1 hA5
  have hX_l := hX3.lt; have hX_3 := hX3.cell 3 _ rfl; have hX_4 := hX3.cell 4 _ rfl
  go_wp2_with (go_at_call 119; refine (lib_Split ⟨#[44]⟩ (nL k) _ (asciiB_at a3).1 (by decide) (ht.keep hW3)).mono ?_; rintro e u4 ⟨nt, rfl, hr4, hb4⟩)
  clear hX_l hX_3 hX_4
  have hnt := hr4.length
  have hP : Pf w u4 b5 u3.heap.size nt (spB ⟨#[44]⟩ (nL k)) #[.string (nN k), .string (nF k), .string (nS k), .string (nL k), .string (nR k)] A3 N3 c3 L9 := ⟨hown.keep hb4, hr4, hX3.keep hb4, fun q hq => ⟨by have := (hown.row.blk q hq).2; omega, hne q hq⟩, by have h9 := hb4.sz; rcases Nat.eq_zero_or_pos nt with h0 | h0; exact absurd h0 (by rw [← hnt]; exact hTn); obtain ⟨v, hv, _⟩ := hr4.at0_ h0; exact hv, hW3.call hb4⟩
  clear hown hr4 hX3 hne hb4 hW3
  have HC := Lib.hid (fun t ht => (by have := List.all_eq_true.1 a5 t ht; rw [Bool.and_eq_true] at this; exact ⟨this.1, (asciiB_at this.2).1⟩ : (cls t).ok = true ∧ t.size ≤ 1000))
  have hnt1 := (pg_len k hk).1
  have hnr1 := (pg_len k hk).2.1
  rw [hnt] at hnt1
  have hm0 := Lib.hid hmap
  clear hmap a5 hTn hln
  generalize u3.heap.size = gT at hP ⊢
  obtain ⟨TX, hTX⟩ : ∃ TX, spB ⟨#[44]⟩ (nL k) = TX := ⟨_, rfl⟩
  have HTX := Lib.hid hTX
  rw [hTX] at hP HC hnt
  clear hTX
  obtain ⟨L0, hL0⟩ : ∃ L0, (fdB (nF k)).map (mkI 0 wd) ++ (fdB (nS k)).map (mkI 1 wd) = L0 := ⟨_, rfl⟩
  have HL0 := Lib.hid hL0
  rw [hL0] at hm0
  clear hL0
  have HNT := Lib.hid hnt
  clear hnt
  go_loopw [6, 26] (fun o i wr => ∃ (j n2 c2 : Nat) (A2 : Option Addr) (l : List (Hd × Ln)), j ≤ nt ∧ i = .int .i64 (j : Nat) ∧ o = .slice A2 n2 c2 ∧ Pf w wr b5 gT nt TX #[.string (nN k), .string (nF k), .string (nS k), .string (nL k), .string (nR k)] A2 n2 c2 l ∧ Hid (l.map (·.2) = L0 ++ (TX.take j).map (fun t => (cls t).ln wd)) ∧ n2 ≤ 2000 + j) (fun _ i _ => nt - (intOf i).toNat)
  case atStart => exact ⟨0, N3, c3, A3, L9, by omega, rfl, rfl, hP, Lib.hid (by rw [hm0.out]; simp), by omega⟩
  case round =>
    clear hP hm0
    obtain ⟨j, n2, c2, A2, l, hj, rfl, rfl, hP, hm, hn2⟩ := hrel
    by_cases hlt : j < nt
    · obtain ⟨t, hgt, hx0, hc⟩ := hP.rs.at0_ hlt
      obtain ⟨hok, hts⟩ := HC.out t (List.mem_of_getElem? hx0)
      have hx := Lib.hid hx0
      clear hx0
      have i1 : (j : Int) < nt := by omega
      by_cases h1 : t = ⟨#[99, 111, 110, 115, 116, 32, 122, 101, 114, 111]⟩
      · subst h1
        have e_const_zero : ((⟨#[99, 111, 110, 115, 116, 32, 122, 101, 114, 111]⟩ : ByteArray).toList == (⟨#[99, 111, 110, 115, 116, 32, 122, 101, 114, 111]⟩ : ByteArray).toList) = true := by decide +kernel
        have hcl := Lib.hid (show cls ⟨#[99, 111, 110, 115, 116, 32, 122, 101, 114, 111]⟩ = .zero by rfl)
        go_wp2_with (at_builtin; refine ap_lines rfl rfl (l' := [(Hd.none, ⟨2, ⟨#[122, 101, 114, 111]⟩, ⟨#[]⟩, [], 0, wd, 0⟩)]) rfl (OwnV.keep hP.own.row (by (repeat (first | with_reducible assumption | with_reducible exact Bl.refl _ | with_reducible refine Bl.drewN ?_ _ | with_reducible refine Bl.drew ?_ | with_reducible refine Bl.alloc ?_ _ | with_reducible refine Bl.setCell ?_ (by first | (dsimp only; omega) | (simp; omega)) _ | (with_reducible refine Bl.call ?_ (by with_reducible assumption)))))) rfl (rd_line _ (Hd.none) 2 ⟨#[122, 101, 114, 111]⟩ ⟨#[]⟩ 0 wd 0 []) (by omega) (by have := hP.bl.sz; simp; omega) ?_; intro A3 c3 w8 hrow3 hg3 hat3)
        go_roundw
        case rel => exact ⟨j + 1, n2 + 1, c3, A3, _, by omega, by go_num, rfl, hP.snoc ((Bl.refl _).alloc _) (OwnS.nil _ _) hrow3 hg3 hat3, Lib.hid (map_snocL hm.out hx.out (by rw [hcl.out]; rfl)), by omega⟩
        case measure => simp [intOf]; omega
      · by_cases h2 : t = ⟨#[99, 111, 110, 115, 116, 32, 111, 110, 101]⟩
        · subst h2
          have e_const_zero : ((⟨#[99, 111, 110, 115, 116, 32, 111, 110, 101]⟩ : ByteArray).toList == (⟨#[99, 111, 110, 115, 116, 32, 122, 101, 114, 111]⟩ : ByteArray).toList) = false := by decide +kernel
          have e_const_one : ((⟨#[99, 111, 110, 115, 116, 32, 111, 110, 101]⟩ : ByteArray).toList == (⟨#[99, 111, 110, 115, 116, 32, 111, 110, 101]⟩ : ByteArray).toList) = true := by decide +kernel
          have hcl := Lib.hid (show cls ⟨#[99, 111, 110, 115, 116, 32, 111, 110, 101]⟩ = .one by rfl)
          clear h1
          go_wp2_with (at_builtin; refine ap_lines rfl rfl (l' := [(Hd.none, ⟨2, ⟨#[111, 110, 101]⟩, ⟨#[]⟩, [], 0, wd, 1⟩)]) rfl (OwnV.keep hP.own.row (by (repeat (first | with_reducible assumption | with_reducible exact Bl.refl _ | with_reducible refine Bl.drewN ?_ _ | with_reducible refine Bl.drew ?_ | with_reducible refine Bl.alloc ?_ _ | with_reducible refine Bl.setCell ?_ (by first | (dsimp only; omega) | (simp; omega)) _ | (with_reducible refine Bl.call ?_ (by with_reducible assumption)))))) rfl (rd_line _ (Hd.none) 2 ⟨#[111, 110, 101]⟩ ⟨#[]⟩ 0 wd 1 []) (by omega) (by have := hP.bl.sz; simp; omega) ?_; intro A3 c3 w8 hrow3 hg3 hat3)
          go_roundw
          case rel => exact ⟨j + 1, n2 + 1, c3, A3, _, by omega, by go_num, rfl, hP.snoc ((Bl.refl _).alloc _) (OwnS.nil _ _) hrow3 hg3 hat3, Lib.hid (map_snocL hm.out hx.out (by rw [hcl.out]; rfl)), by omega⟩
          case measure => simp [intOf]; omega
        · have e1 : (t.toList == [99, 111, 110, 115, 116, 32, 122, 101, 114, 111]) = false := by rw [show ([99, 111, 110, 115, 116, 32, 122, 101, 114, 111] : List UInt8) = (⟨#[99, 111, 110, 115, 116, 32, 122, 101, 114, 111]⟩ : ByteArray).toList by decide +kernel, sb_eq]; simpa using h1
          have e2 : (t.toList == [99, 111, 110, 115, 116, 32, 111, 110, 101]) = false := by rw [show ([99, 111, 110, 115, 116, 32, 111, 110, 101] : List UInt8) = (⟨#[99, 111, 110, 115, 116, 32, 111, 110, 101]⟩ : ByteArray).toList by decide +kernel, sb_eq]; simpa using h2
          have hcd : cls t = clW (spB ⟨#[32]⟩ t) := by unfold cls; rw [if_neg h1, if_neg h2]
          clear h1 h2
          rcases hcw : clW (spB ⟨#[32]⟩ t) with _ | _ | ⟨nm, p, op, q⟩ | ⟨nm, p⟩ | ⟨nm, p, q, r⟩ | _
          · exact absurd hcw clW_z.1
          · exact absurd hcw clW_z.2
          · have hws := Lib.hid (clW_lt hcw)
            have hcl := Lib.hid (hcd.trans hcw)
            clear hcw hcd
            go_wp2_with (first | (go_at_call 119; refine (lib_Split ⟨#[32]⟩ t _ hts (by decide) (ht.keep hP.bl)).mono ?_; rintro e v5 ⟨n5, rfl, hr5, hb5_⟩; rw [hws.out] at hr5; obtain rfl : n5 = 5 := hr5.length.symm) | (go_at_call 120; refine (impl_readLine_let _ 5 nm p op q _ hr5).mono ?_; rintro e v6 ⟨A6, n6, c6, rfl, ho6, hb6_⟩) | (at_builtin; refine ap_lines rfl rfl (l' := [((⟨A6, n6, c6⟩ : Hd), ⟨3, nm, op, [p, q], 0, 0, 0⟩)]) rfl (OwnV.keep hP.own.row (by (repeat (first | with_reducible assumption | with_reducible exact Bl.refl _ | with_reducible refine Bl.drewN ?_ _ | with_reducible refine Bl.drew ?_ | with_reducible refine Bl.alloc ?_ _ | with_reducible refine Bl.setCell ?_ (by first | (dsimp only; omega) | (simp; omega)) _ | (with_reducible refine Bl.call ?_ (by with_reducible assumption)))))) rfl (rd_line _ ((⟨A6, n6, c6⟩ : Hd)) 3 nm op 0 0 0 [p, q]) (by omega) (by have := hP.bl.sz; have := hb5_.sz; have := hb6_.sz; simp; omega) ?_; intro A3 c3 w8 hrow3 hg3 hat3))
            go_roundw
            case rel => exact ⟨j + 1, n2 + 1, c3, A3, _, by omega, by go_num, rfl, hP.snoc ((hb5_.call hb6_).alloc _) (OwnS.keep (OwnS.mono ho6 hb5_.sz) ((Bl.refl _).alloc _)) hrow3 hg3 hat3, Lib.hid (map_snocL hm.out hx.out (by rw [hcl.out]; rfl)), by omega⟩
            case measure => simp [intOf]; omega
          · have hws := Lib.hid (clW_nt hcw)
            have hcl := Lib.hid (hcd.trans hcw)
            clear hcw hcd
            go_wp2_with (first | (go_at_call 119; refine (lib_Split ⟨#[32]⟩ t _ hts (by decide) (ht.keep hP.bl)).mono ?_; rintro e v5 ⟨n5, rfl, hr5, hb5_⟩; rw [hws.out] at hr5; obtain rfl : n5 = 3 := hr5.length.symm) | (go_at_call 120; refine (impl_readLine_not _ 3 nm p _ hr5).mono ?_; rintro e v6 ⟨A6, n6, c6, rfl, ho6, hb6_⟩) | (at_builtin; refine ap_lines rfl rfl (l' := [((⟨A6, n6, c6⟩ : Hd), ⟨4, nm, ⟨#[]⟩, [p], 0, 0, 0⟩)]) rfl (OwnV.keep hP.own.row (by (repeat (first | with_reducible assumption | with_reducible exact Bl.refl _ | with_reducible refine Bl.drewN ?_ _ | with_reducible refine Bl.drew ?_ | with_reducible refine Bl.alloc ?_ _ | with_reducible refine Bl.setCell ?_ (by first | (dsimp only; omega) | (simp; omega)) _ | (with_reducible refine Bl.call ?_ (by with_reducible assumption)))))) rfl (rd_line _ ((⟨A6, n6, c6⟩ : Hd)) 4 nm ⟨#[]⟩ 0 0 0 [p]) (by omega) (by have := hP.bl.sz; have := hb5_.sz; have := hb6_.sz; simp; omega) ?_; intro A3 c3 w8 hrow3 hg3 hat3))
            go_roundw
            case rel => exact ⟨j + 1, n2 + 1, c3, A3, _, by omega, by go_num, rfl, hP.snoc ((hb5_.call hb6_).alloc _) (OwnS.keep (OwnS.mono ho6 hb5_.sz) ((Bl.refl _).alloc _)) hrow3 hg3 hat3, Lib.hid (map_snocL hm.out hx.out (by rw [hcl.out]; rfl)), by omega⟩
            case measure => simp [intOf]; omega
          · have hws := Lib.hid (clW_pk hcw)
            have hcl := Lib.hid (hcd.trans hcw)
            clear hcw hcd
            go_wp2_with (first | (go_at_call 119; refine (lib_Split ⟨#[32]⟩ t _ hts (by decide) (ht.keep hP.bl)).mono ?_; rintro e v5 ⟨n5, rfl, hr5, hb5_⟩; rw [hws.out] at hr5; obtain rfl : n5 = 5 := hr5.length.symm) | (go_at_call 120; refine (impl_readLine_pick _ 5 nm p q r _ hr5).mono ?_; rintro e v6 ⟨A6, n6, c6, rfl, ho6, hb6_⟩) | (at_builtin; refine ap_lines rfl rfl (l' := [((⟨A6, n6, c6⟩ : Hd), ⟨5, nm, ⟨#[]⟩, [p, q, r], 0, 0, 0⟩)]) rfl (OwnV.keep hP.own.row (by (repeat (first | with_reducible assumption | with_reducible exact Bl.refl _ | with_reducible refine Bl.drewN ?_ _ | with_reducible refine Bl.drew ?_ | with_reducible refine Bl.alloc ?_ _ | with_reducible refine Bl.setCell ?_ (by first | (dsimp only; omega) | (simp; omega)) _ | (with_reducible refine Bl.call ?_ (by with_reducible assumption)))))) rfl (rd_line _ ((⟨A6, n6, c6⟩ : Hd)) 5 nm ⟨#[]⟩ 0 0 0 [p, q, r]) (by omega) (by have := hP.bl.sz; have := hb5_.sz; have := hb6_.sz; simp; omega) ?_; intro A3 c3 w8 hrow3 hg3 hat3))
            go_roundw
            case rel => exact ⟨j + 1, n2 + 1, c3, A3, _, by omega, by go_num, rfl, hP.snoc ((hb5_.call hb6_).alloc _) (OwnS.keep (OwnS.mono ho6 hb5_.sz) ((Bl.refl _).alloc _)) hrow3 hg3 hat3, Lib.hid (map_snocL hm.out hx.out (by rw [hcl.out]; rfl)), by omega⟩
            case measure => simp [intOf]; omega
          · rw [hcd, hcw] at hok; cases hok
    · obtain rfl : j = nt := by omega
      rw [List.take_of_length_le (by rw [HNT.out]; exact Nat.le_refl _)] at hm
      have hX_l := hP.nb.lt; have hX_4 := hP.nb.cell 4 _ rfl
      clear hlt hj
      go_wp2_with (go_at_call 121; refine (lib_Fields (nR k) _ a4 (ht.keep hP.bl)).mono ?_; rintro e v4 ⟨nr, rfl, hr4, hb4⟩)
      clear hX_l hX_4
      have hnr := hr4.length
      rw [hnr] at hnr1
      have hgr := hb4.sz
      rcases Nat.eq_zero_or_pos nr with hz | hz
      · exact absurd hz (by rw [← hnr]; exact pg_res k hk)
      obtain ⟨_, hgr2, _⟩ := hr4.at0_ hz
      have hP4 := hP.next hb4 hr4 (Nat.le_refl _) hgr2
      clear hP hr4 hb4 hgr2
      generalize wr.heap.size = gR at hP4 ⊢
      have hP := hP4
      clear hP4
      obtain ⟨RX, hRX⟩ : ∃ RX, fdB (nR k) = RX := ⟨_, rfl⟩
      have HRX := Lib.hid hRX
      rw [hRX] at hP hnr
      clear hRX
      have HNR := Lib.hid hnr
      clear hnr
      obtain ⟨L1, hL1⟩ : ∃ L1, L0 ++ TX.map (fun t => (cls t).ln wd) = L1 := ⟨_, rfl⟩
      have HL1 := Lib.hid hL1
      have hm1 := hm.out
      rw [hL1] at hm1
      have hm0 := Lib.hid hm1
      clear hm hm1 hL1
      go_loopw [6, 56] (fun o i wr => ∃ (j n2 c2 : Nat) (A2 : Option Addr) (l : List (Hd × Ln)), j ≤ nr ∧ i = .int .i64 (j : Nat) ∧ o = .slice A2 n2 c2 ∧ Pf w wr b5 gR nr RX #[.string (nN k), .string (nF k), .string (nS k), .string (nL k), .string (nR k)] A2 n2 c2 l ∧ Hid (l.map (·.2) = L1 ++ (RX.take j).map (mkO)) ∧ n2 ≤ 3000 + j) (fun _ i _ => nr - (intOf i).toNat)
      case atStart => exact ⟨0, n2, c2, A2, l, by omega, rfl, rfl, hP, Lib.hid (by rw [hm0.out]; simp), by omega⟩
      case round =>
        clear hP hm0 hn2
        obtain ⟨j, n2, c2, A2, l, hj, rfl, rfl, hP, hm, hn2⟩ := hrel
        by_cases hlt : j < nr
        · obtain ⟨t, hgt, hx0, hc⟩ := hP.rs.at0_ hlt
          have hx := Lib.hid hx0
          clear hx0
          have i1 : (j : Int) < nr := by omega
          have hol := own_strs wr [t] (base := wr.heap.size) rfl (Nat.le_refl _) (by simp)
          go_wp2_with (at_builtin; refine ap_lines rfl rfl (l' := [((⟨some ⟨wr.heap.size, 0, none⟩, 1, 1⟩ : Hd), ⟨6, ⟨#[]⟩, ⟨#[]⟩, [t], 0, 0, 0⟩)]) rfl (OwnV.keep hP.own.row (by (repeat (first | with_reducible assumption | with_reducible exact Bl.refl _ | with_reducible refine Bl.drewN ?_ _ | with_reducible refine Bl.drew ?_ | with_reducible refine Bl.alloc ?_ _ | with_reducible refine Bl.setCell ?_ (by first | (dsimp only; omega) | (simp; omega)) _ | (with_reducible refine Bl.call ?_ (by with_reducible assumption)))))) rfl (rd_line _ ((⟨some ⟨wr.heap.size, 0, none⟩, 1, 1⟩ : Hd)) 6 ⟨#[]⟩ ⟨#[]⟩ 0 0 0 [t]) (by omega) (by have := hP.bl.sz; simp; omega) ?_; intro A3 c3 w8 hrow3 hg3 hat3)
          go_roundw
          case rel => exact ⟨j + 1, n2 + 1, c3, A3, _, by omega, by go_num, rfl, hP.snoc (((Bl.refl _).alloc _).alloc _) (OwnS.keep hol ((Bl.refl _).alloc _)) hrow3 hg3 hat3, Lib.hid (map_snocL hm.out hx.out rfl), by omega⟩
          case measure => simp [intOf]; omega
        · obtain rfl : j = nr := by omega
          go_wp2_with fail
          go_ret
          refine ⟨A2, n2, c2, l, rfl, hP.own, ?_, hP.bl⟩
          rw [hm.out, List.take_of_length_le (by rw [HNR.out]; exact Nat.le_refl _), ← HL1.out, ← HL0.out, ← HTX.out, ← HRX.out]
          exact hPG.out
/-- There is such a program. -/
def pgB (a b : Int) : Bool := inR a 0 11 && inR b 1 4
def pgR (a b : Int) : List Ln := if pgB a b then pgL a.toNat b else []
theorem impl_isNumbered (a : Int) (w : World) : Calls Tryz.prog 44 #[.int .i64 a] w fun e w' => e = .returned (.bool (inR a 0 11)) ∧ w = w' := by
  go_enter Tryz.func44, Tryz.ntmps44
  go_wp2_with (go_at_call 45; refine (impl_within _ _ _ _).mono ?_; rintro e w1 ⟨rfl, rfl⟩)
  go_ret
  exact ⟨rfl, rfl⟩
theorem impl_isProgramWidth (a : Int) (w : World) : Calls Tryz.prog 69 #[.int .i64 a] w fun e w' => e = .returned (.bool (inR a 1 4)) ∧ w = w' := by
  go_enter Tryz.func69, Tryz.ntmps69
  go_wp2_with (go_at_call 45; refine (impl_within _ _ _ _).mono ?_; rintro e w1 ⟨rfl, rfl⟩)
  go_ret
  exact ⟨rfl, rfl⟩
theorem impl_ProgramFor (a b : Int) (w : World) (ht : Tb w) :
    Calls Tryz.prog 25 #[.int .i64 a, .int .i64 b] w fun e w' => ∃ A n c l, e = .returned (.tuple #[.slice A n c, .bool (pgB a b)]) ∧ OwnL w.heap.size w' A n c l ∧ l.map (·.2) = pgR a b ∧ Bl w w' := by
  rcases h1 : inR a 0 11
  · have HB := Lib.hid (show pgB a b = false by unfold pgB; rw [h1]; rfl)
    have HR := Lib.hid (show pgR a b = [] by unfold pgR; rw [HB.out]; rfl)
    go_enter Tryz.func25, Tryz.ntmps25
    go_wp2_with fail
    refine (impl_isNumbered a _).mono ?_
    rintro e w1 ⟨rfl, rfl⟩
    rw [h1]
    go_wp2_with fail
    go_ret2
    exact ⟨none, 0, 0, [], by rw [HB.out]; rfl, OwnL.nil _ _, by rw [HR.out]; rfl, Bl.refl _⟩
  · rcases h2 : inR b 1 4
    · have HB := Lib.hid (show pgB a b = false by unfold pgB; rw [h2, Bool.and_false])
      have HR := Lib.hid (show pgR a b = [] by unfold pgR; rw [HB.out]; rfl)
      go_enter Tryz.func25, Tryz.ntmps25
      go_wp2_with fail
      refine (impl_isNumbered a _).mono ?_
      rintro e w1 ⟨rfl, rfl⟩
      rw [h1]
      go_wp2_with fail
      refine (impl_isProgramWidth b _).mono ?_
      rintro e w1 ⟨rfl, rfl⟩
      rw [h2]
      go_wp2_with fail
      go_ret2
      exact ⟨none, 0, 0, [], by rw [HB.out]; rfl, OwnL.nil _ _, by rw [HR.out]; rfl, Bl.refl _⟩
    · have HB := Lib.hid (show pgB a b = true by unfold pgB; rw [h1, h2]; rfl)
      have ha := inR_iff.1 h1
      obtain ⟨k, rfl⟩ : ∃ k : Nat, a = (k : Int) := ⟨a.toNat, by omega⟩
      have HR := Lib.hid (show pgR (k : Int) b = pgL k b by unfold pgR; rw [if_pos HB.out, Int.toNat_natCast])
      have hk : k < 12 := by omega
      go_enter Tryz.func25, Tryz.ntmps25
      go_wp2_with fail
      refine (impl_isNumbered k _).mono ?_
      rintro e w1 ⟨rfl, rfl⟩
      rw [h1]
      go_wp2_with fail
      refine (impl_isProgramWidth b _).mono ?_
      rintro e w1 ⟨rfl, rfl⟩
      rw [h2]
      go_wp2_with fail
      refine (impl_programFor k hk b w ht).mono ?_
      rintro e w1 ⟨A, n, c, l, rfl, ho, hm, hb⟩
      have HM := Lib.hid hm
      clear hm
      go_wp2_with fail
      go_ret2
      exact ⟨A, n, c, l, by rw [HB.out]; rfl, ho, by rw [HR.out]; exact HM.out, hb⟩
end Go.Proofs.YtjggecbaladiiaaGreatDoor
