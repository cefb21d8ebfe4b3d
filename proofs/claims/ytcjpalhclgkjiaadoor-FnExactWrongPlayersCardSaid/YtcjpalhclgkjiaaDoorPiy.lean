/- Contracts: a player in memory of its own.
   Conditions: none. -/
import Derived.Test.YtcjpalhclgkjiaaDoorPgo
import Derived.Test.YtcjpalhclgkjiaaDoorBaseG
import Derived.Test.YtcjpalhclgkjiaaDoorPbx
namespace Go.Proofs.YtcjpalhclgkjiaaDoor
open Go.RowKit
set_option linter.unusedVariables false
theorem tg_one (l : List Tg) : ∀ u ∈ encs Tg.enc l, u.oneCell' = true := by
 intro u hu
 simp only [encs, List.mem_flatMap] at hu
 obtain ⟨x, _, hx⟩ := hu
 simp only [Tg.enc, List.mem_cons, List.not_mem_nil, or_false] at hx
 rcases hx with rfl | rfl <;> rfl
section
variable {ops : Array Oper} {rest : List Oper} {o : Oper} {a : Act} {Q : Exit → Act → World → Prop} {w : World}
theorem ap_tg (hgd : o.guard = none) {s x : Operand} (ho : o.op = .call { callee := .builtin .append, args := #[s, x], argTypes := #[32, 32] })
  {base n c m d : Nat} {A B : Option Addr} {l l' : List Tg} (hs : a.eval s = .slice A n c) (hown : OwnTg base w A n c l) (hx : a.eval x = .slice B m d) (hr : RdTg w B m d l')
  (hb : n + m ≤ 4398046511103) (hbase : base ≤ w.heap.size)
  (h : ∀ A' c' w', OwnTg base w' A' (n + m) c' (l ++ l') → w.grownBy w' (A.map (·.block)) → (A'.map (·.block) = A.map (·.block) ∨ A'.map (·.block) = some w.heap.size) →
   wpList Tryd.prog ops Q rest (a.put o.dst (.slice A' (n + m) c')) w') : wpList Tryd.prog ops Q (o :: rest) a w := by
 obtain ⟨i0, hi, hz0, hz1, hz2⟩ := info_parts Tg_info
 obtain ⟨A', c', w', hrun, h2, h3, h4⟩ := run_append_any (P := Tryd.prog) w base 32 o.type 93 i0 _ 2 16 Tryd.underlying32 hi hz0 hz1 hz2 rfl (by decide)
  (.slice A n c) n (encs Tg.enc l) hown.1 B m d (encs Tg.enc l') hr.1 (tg_one l') (by simp only [maxLen]; omega) (by omega) hbase
 rw [ownBlock_slice] at h3 h4
 refine wpList_plain hgd fun K hK => ?_
 unfold Oper.wp execOp
 simp only [ho, resolve, invoke, builtin, Sem.run_bind, Sem.run_pure, Result.andThen_ok, List.map_toArray, List.map_cons, List.map_nil, hs, hx, hrun]
 refine hK _ _ (h A' c' w' ⟨?_, by rw [List.length_append, hown.2, hr.2]⟩ h3 h4)
 rw [encs_append]
 exact h2
end
theorem own_made_tg0 (w : World) {g : Nat} (hg : w.heap.size = g := by first | with_reducible rfl | simp) : OwnTg w.heap.size (w.alloc (.cells #[] 93)) (some ⟨g, 0, none⟩) 0 0 [] := by
 subst hg
 exact ⟨World.ownsRow_made (size := 2) w #[] 0 (Nat.le_refl _) (by simp) (by simp), rfl⟩
theorem own_made_ss0 (w : World) {g : Nat} (hg : w.heap.size = g := by first | with_reducible rfl | simp) : OwnSS w.heap.size (w.alloc (.cells #[] 23)) (some ⟨g, 0, none⟩) 0 0 [] [] := by
 subst hg
 exact ⟨World.ownsRow_made (size := 1) w #[] 0 (Nat.le_refl _) (by simp) (by simp), rfl, by simp, by simp, by simp⟩
theorem slices_Clone_tg (A : Option Addr) (n c : Nat) (l : List Tg) (w : World) (h : RdTg w A n c l) (hn : n ≤ 4398046511103) :
  Calls Tryd.prog 115 #[.slice A n c] w fun e w' => ∃ A' c', e = .returned (.slice A' n c') ∧ OwnTg w.heap.size w' A' n c' l ∧ Bl w w' := by
 have hown := own_made_tg0 w
 have hr := h.keep ((Bl.refl w).alloc (.cells #[] 93))
 rcases A with _ | ad
 ·have h0 : n = 0 := by
   rcases Nat.eq_zero_or_pos n with h0 | h0
   ·exact h0
   ·obtain ⟨ad, x, y, e, _⟩ := h.at_ h0
    cases e
  subst h0
  have hl : l = [] := List.eq_nil_of_length_eq_zero h.2
  subst hl
  have hnil := fun (w : World) (n c : Nat) => Lib.run_eql_slice_nil (P := Tryd.prog) w 32 93 none n c 0 0 Tryd.underlying32
  go_enter Tryd.func115, Tryd.ntmps115
  go_wp2
  go_ret
  exact ⟨none, 0, by simp, OwnTg.nil _ _, Bl.refl _⟩
 ·have hnil := fun (w : World) (n c : Nat) => Lib.run_eql_slice_nil (P := Tryd.prog) w 32 93 (some ad) n c 0 0 Tryd.underlying32
  go_enter Tryd.func115, Tryd.ntmps115
  go_wp2_with (at_builtin; refine ap_tg rfl rfl rfl hown rfl hr (by omega) (by simp) ?_; intro A1 c1 w1 hown1 hg1 hat1)
  go_ret
  refine ⟨A1, c1, by simp, by simpa using hown1, ((Bl.refl w).alloc _).grown hg1 ?_⟩
  simp
/-- A player's slices in blocks of its own: those of the heard bodies from T on, the others below. -/
structure OwnP (base T : Nat) (w : World) (a : Pl) (As Ak Ah : Option Addr) (ns cs nk ck nh ch : Nat) (hs : List Hd) : Prop where
 sh : OwnTg base w As ns cs a.sh
 ks : OwnI base w Ak nk ck a.ks
 hd : OwnSS T w Ah nh ch hs a.hd
 bT : base ≤ T
 ls : ∀ k, As.map (·.block) = some k → k < T
 lk : ∀ k, Ak.map (·.block) = some k → k < T
 lsk : ∀ k, As.map (·.block) = some k → Ak.map (·.block) ≠ some k
 hT : T ≤ w.heap.size
section
variable {base T : Nat} {w w' : World} {a : Pl} {As Ak Ah : Option Addr} {ns cs nk ck nh ch : Nat} {hs : List Hd}
theorem OwnP.rd (h : OwnP base T w a As Ak Ah ns cs nk ck nh ch hs) : RdP w a As Ak Ah ns cs nk ck nh ch hs := ⟨h.sh.rd, h.ks.rd, h.hd.rd⟩
theorem OwnP.keep (h : OwnP base T w a As Ak Ah ns cs nk ck nh ch hs) (hb : Bl w w') : OwnP base T w' a As Ak Ah ns cs nk ck nh ch hs := ⟨h.sh.keep hb, h.ks.keep hb, h.hd.keep hb, h.bT, h.ls, h.lk, h.lsk, Nat.le_trans h.hT hb.sz⟩
theorem OwnP.mono {base' : Nat} (h : OwnP base T w a As Ak Ah ns cs nk ck nh ch hs) (hb : base' ≤ base) : OwnP base' T w a As Ak Ah ns cs nk ck nh ch hs := ⟨h.sh.mono hb, h.ks.mono hb, h.hd, Nat.le_trans hb h.bT, h.ls, h.lk, h.lsk, h.hT⟩
/-- Only blocks below the player's own have turned. -/
theorem OwnP.grownLow {row : Option Nat} (h : OwnP base T w a As Ak Ah ns cs nk ck nh ch hs) (hg : w.grownBy w' row) (hr : ∀ k, row = some k → k < base) : OwnP base T w' a As Ak Ah ns cs nk ck nh ch hs :=
 ⟨h.sh.grownR hg (fun k hk e => by have := h.sh.blk k hk; have := hr k e; omega), h.ks.grownR hg (fun k hk e => by have := h.ks.blk k hk; have := hr k e; omega), h.hd.grownLow hg (fun k e => by have := hr k e; have := h.bT; omega), h.bT, h.ls, h.lk, h.lsk, Nat.le_trans h.hT hg.size⟩
end
theorem OwnI.setLow {base n c g i : Nat} {w : World} {A : Option Addr} {l : List Int} (h : OwnI base w A n c l) (hg : g < base) (u : Value) : OwnI base (w.setCell ⟨g, i, none⟩ u) A n c l :=
 h.grownR (grownBy_setCell w g i u) (fun k hk e => by have := h.blk k hk; injection e with e; omega)
theorem OwnTg.setLow {base n c g i : Nat} {w : World} {A : Option Addr} {l : List Tg} (h : OwnTg base w A n c l) (hg : g < base) (u : Value) : OwnTg base (w.setCell ⟨g, i, none⟩ u) A n c l :=
 h.grownR (grownBy_setCell w g i u) (fun k hk e => by have := h.blk k hk; injection e with e; omega)
theorem OwnSS.setLow {base n c g i : Nat} {w : World} {A : Option Addr} {hs : List Hd} {LL : List (List Int)} (h : OwnSS base w A n c hs LL) (hg : g < base) (u : Value) : OwnSS base (w.setCell ⟨g, i, none⟩ u) A n c hs LL :=
 h.grownLow (grownBy_setCell w g i u) (fun k e => by injection e with e; omega)
theorem OwnP.setLow {base T g i : Nat} {w : World} {a : Pl} {As Ak Ah : Option Addr} {ns cs nk ck nh ch : Nat} {hs : List Hd} (h : OwnP base T w a As Ak Ah ns cs nk ck nh ch hs) (hg : g < base) (u : Value) : OwnP base T (w.setCell ⟨g, i, none⟩ u) a As Ak Ah ns cs nk ck nh ch hs :=
 h.grownLow (grownBy_setCell w g i u) (fun k e => by injection e with e; omega)
set_option maxRecDepth 20000 in
set_option maxHeartbeats 1000000 in
theorem impl_copyPlayer (a : Pl) (As Ak Ah : Option Addr) (ns cs nk ck nh ch : Nat) (hs : List Hd) (w : World) (h : RdP w a As Ak Ah ns cs nk ck nh ch hs) (hl : ns ≤ 1000000 ∧ nk ≤ 1000000 ∧ nh ≤ 1000000 ∧ ∀ b ∈ a.hd, b.length ≤ 1000000) :
  Calls Tryd.prog 93 #[.agg #[.int .i64 a.p, .int .i64 a.party, .int .i64 a.x, .int .i64 a.mask, .int .i64 a.delta, .slice As ns cs, .slice Ak nk ck, .int .i64 a.step, .slice Ah nh ch, .int .i64 a.status, .int .i64 a.out]] w fun e w' => ∃ As' Ak' Ah' cs' ck' ch' hs' T, e = .returned (.agg #[.int .i64 a.p, .int .i64 a.party, .int .i64 a.x, .int .i64 a.mask, .int .i64 a.delta, .slice As' ns cs', .slice Ak' nk ck', .int .i64 a.step, .slice Ah' nh ch', .int .i64 a.status, .int .i64 a.out]) ∧
   OwnP w.heap.size T w' a As' Ak' Ah' ns cs' nk ck' nh ch' hs' ∧ Bl w w' := by
 obtain ⟨hl1, hl2, hl3, hl4⟩ := hl
 have HL4 := Lib.hid hl4
 clear hl4
 obtain ⟨hh1, hh2⟩ := h.hd.le
 have hW : Bl w ((w.alloc (.cells #[.int .i64 a.p, .int .i64 a.party, .int .i64 a.x, .int .i64 a.mask, .int .i64 a.delta, .slice As ns cs, .slice Ak nk ck, .int .i64 a.step, .slice Ah nh ch, .int .i64 a.status, .int .i64 a.out] 34)).alloc (.cells #[.int .i64 0, .int .i64 0, .int .i64 0, .int .i64 0, .int .i64 0, .slice none 0 0, .slice none 0 0, .int .i64 0, .slice none 0 0, .int .i64 0, .int .i64 0] 34)) := Bl.a2
 have hB : Blk ((w.alloc (.cells #[.int .i64 a.p, .int .i64 a.party, .int .i64 a.x, .int .i64 a.mask, .int .i64 a.delta, .slice As ns cs, .slice Ak nk ck, .int .i64 a.step, .slice Ah nh ch, .int .i64 a.status, .int .i64 a.out] 34)).alloc (.cells #[.int .i64 0, .int .i64 0, .int .i64 0, .int .i64 0, .int .i64 0, .slice none 0 0, .slice none 0 0, .int .i64 0, .slice none 0 0, .int .i64 0, .int .i64 0] 34)) (w.heap.size) 34 #[.int .i64 a.p, .int .i64 a.party, .int .i64 a.x, .int .i64 a.mask, .int .i64 a.delta, .slice As ns cs, .slice Ak nk ck, .int .i64 a.step, .slice Ah nh ch, .int .i64 a.status, .int .i64 a.out] := ((Blk.new w 34 #[.int .i64 a.p, .int .i64 a.party, .int .i64 a.x, .int .i64 a.mask, .int .i64 a.delta, .slice As ns cs, .slice Ak nk ck, .int .i64 a.step, .slice Ah nh ch, .int .i64 a.status, .int .i64 a.out] (g := w.heap.size)).alloc (.cells #[.int .i64 0, .int .i64 0, .int .i64 0, .int .i64 0, .int .i64 0, .slice none 0 0, .slice none 0 0, .int .i64 0, .slice none 0 0, .int .i64 0, .int .i64 0] 34))
 have hR : Blk ((w.alloc (.cells #[.int .i64 a.p, .int .i64 a.party, .int .i64 a.x, .int .i64 a.mask, .int .i64 a.delta, .slice As ns cs, .slice Ak nk ck, .int .i64 a.step, .slice Ah nh ch, .int .i64 a.status, .int .i64 a.out] 34)).alloc (.cells #[.int .i64 0, .int .i64 0, .int .i64 0, .int .i64 0, .int .i64 0, .slice none 0 0, .slice none 0 0, .int .i64 0, .slice none 0 0, .int .i64 0, .int .i64 0] 34)) (w.heap.size + 1) 34 #[.int .i64 0, .int .i64 0, .int .i64 0, .int .i64 0, .int .i64 0, .slice none 0 0, .slice none 0 0, .int .i64 0, .slice none 0 0, .int .i64 0, .int .i64 0] := (Blk.new (w.alloc (.cells #[.int .i64 a.p, .int .i64 a.party, .int .i64 a.x, .int .i64 a.mask, .int .i64 a.delta, .slice As ns cs, .slice Ak nk ck, .int .i64 a.step, .slice Ah nh ch, .int .i64 a.status, .int .i64 a.out] 34)) 34 #[.int .i64 0, .int .i64 0, .int .i64 0, .int .i64 0, .int .i64 0, .slice none 0 0, .slice none 0 0, .int .i64 0, .slice none 0 0, .int .i64 0, .int .i64 0] (g := w.heap.size + 1))
 obtain ⟨B_l, B_f, B_0, B_1, B_2, B_3, B_4, B_5, B_6, B_7, B_8, B_9, B_10⟩ := hB.l11; obtain ⟨R_l, R_f, R_0, R_1, R_2, R_3, R_4, R_5, R_6, R_7, R_8, R_9, R_10⟩ := hR.l11
 go_enter Tryd.func93, Tryd.ntmps93
 go_wp2_with fail
 refine region_F (fun _ => True) (fun w' => Bl w w' ∧ w'.cell? ⟨w.heap.size, 5, none⟩ = some (.slice As ns cs) ∧ w'.cell? ⟨w.heap.size, 6, none⟩ = some (.slice Ak nk ck)) 7 (by kernel_rfl) ?_ (fun hHeld => ?_)
 ·(try dsimp only); exact ⟨trivial, Bl.a2, B_5, B_6⟩
 refine tC 0 6 [0] ?_ hHeld
 refine tC 1 7 [1] ?_ hHeld
 refine tC 3 9 [3] ?_ hHeld
 refine tC 4 10 [4] ?_ hHeld
 refine f_step (i := 2) (by kernel_rfl) rfl (fun K hK => ?_)
 go_simp
 go_at_call 115; refine (slices_Clone_tg As ns cs a.sh _ (h.sh.keep Bl.a2) (by omega)).mono ?_; rintro e w1 ⟨A5, c5, rfl, ho5, hb1⟩; have hsz1 := hb1.sz; replace hW : Bl w w1 := Bl.a2; replace hB := hB.kp hb1; replace hR := hR.kp hb1; (try clear B_l B_f B_0 B_1 B_2 B_3 B_4 B_5 B_6 B_7 B_8 B_9 B_10 R_l R_f R_0 R_1 R_2 R_3 R_4 R_5 R_6 R_7 R_8 R_9 R_10); obtain ⟨B_l, B_f, B_0, B_1, B_2, B_3, B_4, B_5, B_6, B_7, B_8, B_9, B_10⟩ := hB.l11; obtain ⟨R_l, R_f, R_0, R_1, R_2, R_3, R_4, R_5, R_6, R_7, R_8, R_9, R_10⟩ := hR.l11
 go_wp2_with fail
 refine ko hK ?_ fun hHeld => ?_
 ·(try dsimp only); exact ⟨trivial, Bl.a2, B_5, B_6⟩
 clear hK K
 refine tC 6 12 [6] ?_ hHeld
 refine f_step (i := 5) (by kernel_rfl) rfl (fun K hK => ?_)
 go_simp
 go_at_call 96; refine (slices_Clone Ak nk ck a.ks _ (h.ks.keep Bl.a2) (by omega)).mono ?_; rintro e w2 ⟨A6, c6, rfl, ho6, hb2⟩; replace hW : Bl w w2 := Bl.a2; replace hB := hB.kp hb2; replace hR := hR.kp hb2; (try clear B_l B_f B_0 B_1 B_2 B_3 B_4 B_5 B_6 B_7 B_8 B_9 B_10 R_l R_f R_0 R_1 R_2 R_3 R_4 R_5 R_6 R_7 R_8 R_9 R_10); obtain ⟨B_l, B_f, B_0, B_1, B_2, B_3, B_4, B_5, B_6, B_7, B_8, B_9, B_10⟩ := hB.l11; obtain ⟨R_l, R_f, R_0, R_1, R_2, R_3, R_4, R_5, R_6, R_7, R_8, R_9, R_10⟩ := hR.l11
 go_wp2_with fail
 refine ko hK ?_ fun hHeld => ?_
 ·(try dsimp only); exact ⟨trivial, Bl.a2, B_5, B_6⟩
 clear hK K
 refine f_last (i := 7) (by kernel_rfl) rfl (by simp) (fun K hK => ?_)
 go_simp
 refine ko hK ?_ fun hHeld => ?_
 ·exact trivial
 clear hK K
 refine tS 8 13 ?_ hHeld (fun h => by simp at h)
 refine f_last (i := 9) (by kernel_rfl) rfl (by simp) (fun K hK => ?_)
 go_simp
 refine ko hK ?_ fun hHeld => ?_
 ·exact trivial
 clear hK K
 refine f_done (by kernel_rfl) ?_ _
 have hsz2 : w1.heap.size ≤ w2.heap.size := hb2.sz
 have hlow : w.heap.size + 2 ≤ w1.heap.size := by have := R_l; have := hsz1; simp at this; omega
 have m5 : OwnTg (w.heap.size + 2) w2 A5 ns c5 a.sh := (ho5.mono (by simp)).keep hb2
 have m6 : OwnI (w.heap.size + 2) w2 A6 nk c6 a.ks := ho6.mono (by simpa using hlow)
 have m56 : ∀ k, A5.map (·.block) = some k → A6.map (·.block) ≠ some k := fun k h5 h6 => by
  have a5 := (ho5.blk k h5).2
  have a6 := (ho6.blk k h6).1
  omega
 (try clear B_l B_f B_0 B_1 B_2 B_3 B_4 B_5 B_6 B_7 B_8 B_9 B_10 R_l R_f R_0 R_1 R_2 R_3 R_4 R_5 R_6 R_7 R_8 R_9 R_10)
 replace hB : Blk ((w2.setCell ⟨w.heap.size, 5, none⟩ (.slice A5 ns c5)).setCell ⟨w.heap.size, 6, none⟩ (.slice A6 nk c6)) (w.heap.size) 34 #[.int .i64 a.p, .int .i64 a.party, .int .i64 a.x, .int .i64 a.mask, .int .i64 a.delta, .slice A5 ns c5, .slice A6 nk c6, .int .i64 a.step, .slice Ah nh ch, .int .i64 a.status, .int .i64 a.out] := (hB.set_ 5 _).set_ 6 _
 replace hR : Blk ((w2.setCell ⟨w.heap.size, 5, none⟩ (.slice A5 ns c5)).setCell ⟨w.heap.size, 6, none⟩ (.slice A6 nk c6)) (w.heap.size + 1) 34 #[.int .i64 0, .int .i64 0, .int .i64 0, .int .i64 0, .int .i64 0, .slice none 0 0, .slice none 0 0, .int .i64 0, .slice none 0 0, .int .i64 0, .int .i64 0] := (hR.far (by dsimp only; omega) _).far (by dsimp only; omega) _
 replace hW : Bl w ((w2.setCell ⟨w.heap.size, 5, none⟩ (.slice A5 ns c5)).setCell ⟨w.heap.size, 6, none⟩ (.slice A6 nk c6)) := Bl.a2
 replace m5 : OwnTg (w.heap.size + 2) ((w2.setCell ⟨w.heap.size, 5, none⟩ (.slice A5 ns c5)).setCell ⟨w.heap.size, 6, none⟩ (.slice A6 nk c6)) A5 ns c5 a.sh := (m5.setLow (by omega) _).setLow (by omega) _
 replace m6 : OwnI (w.heap.size + 2) ((w2.setCell ⟨w.heap.size, 5, none⟩ (.slice A5 ns c5)).setCell ⟨w.heap.size, 6, none⟩ (.slice A6 nk c6)) A6 nk c6 a.ks := (m6.setLow (by omega) _).setLow (by omega) _
 generalize ((w2.setCell ⟨w.heap.size, 5, none⟩ (.slice A5 ns c5)).setCell ⟨w.heap.size, 6, none⟩ (.slice A6 nk c6)) = wz at hB hR hW m5 m6 ⊢
 clear hb1 hb2 ho5 ho6 hsz1 hsz2 hlow
 obtain ⟨B_l, B_f, B_0, B_1, B_2, B_3, B_4, B_5, B_6, B_7, B_8, B_9, B_10⟩ := hB.l11; obtain ⟨R_l, R_f, R_0, R_1, R_2, R_3, R_4, R_5, R_6, R_7, R_8, R_9, R_10⟩ := hR.l11
 have hS := own_made_ss0 wz
 go_wp2
 go_loopw [18, 3] (fun i s wr => ∃ k : Nat, k ≤ nh ∧ i = .int .i64 k ∧ (∃ A c hs', s = .slice A k c ∧ OwnSS wz.heap.size wr A k c hs' (a.hd.take k)) ∧ Bl w wr ∧ Bl wz wr ∧ Blk wr (w.heap.size) 34 #[.int .i64 a.p, .int .i64 a.party, .int .i64 a.x, .int .i64 a.mask, .int .i64 a.delta, .slice A5 ns c5, .slice A6 nk c6, .int .i64 a.step, .slice Ah nh ch, .int .i64 a.status, .int .i64 a.out] ∧ Blk wr (w.heap.size + 1) 34 #[.int .i64 0, .int .i64 0, .int .i64 0, .int .i64 0, .int .i64 0, .slice none 0 0, .slice none 0 0, .int .i64 0, .slice none 0 0, .int .i64 0, .int .i64 0] ∧ OwnTg (w.heap.size + 2) wr A5 ns c5 a.sh ∧ OwnI (w.heap.size + 2) wr A6 nk c6 a.ks) (fun i _ _ => nh - (intOf i).toNat)
 case atStart => exact ⟨0, by omega, rfl, ⟨_, _, _, rfl, hS⟩, Bl.a2, Bl.a2, hB.alloc _, hR.alloc _, m5.keep Bl.a2, m6.keep Bl.a2⟩
 case round =>
  have z5 := Lib.hid (fun k hk => (m5.blk k hk).2)
  have z6 := Lib.hid (fun k hk => (m6.blk k hk).2)
  (try clear B_l B_f B_0 B_1 B_2 B_3 B_4 B_5 B_6 B_7 B_8 B_9 B_10 R_l R_f R_0 R_1 R_2 R_3 R_4 R_5 R_6 R_7 R_8 R_9 R_10)
  have hwz : w.heap.size + 2 ≤ wz.heap.size := by have := hR.lt; omega
  clear hW hB hR m5 m6 hS
  obtain ⟨k, hk, rfl, ⟨A, c, hs', rfl, hS⟩, hW, hZ, hB, hR, m5, m6⟩ := hrel
  obtain ⟨B_l, B_f, B_0, B_1, B_2, B_3, B_4, B_5, B_6, B_7, B_8, B_9, B_10⟩ := hB.l11; obtain ⟨R_l, R_f, R_0, R_1, R_2, R_3, R_4, R_5, R_6, R_7, R_8, R_9, R_10⟩ := hR.l11
  by_cases hlt : k < nh
  ·obtain ⟨ad, x, l, rfl, hl, hc, hrow⟩ := (h.hd.keep hW).at_ hlt
   have HX := Lib.hid hl
   have hxl : x.n ≤ 1000000 := by
    have := HL4.out l (List.mem_of_getElem? hl)
    rw [hrow.length] at this; exact this
   clear hl
   have i1 : (k : Int) < nh := by omega
   go_wp2_with fail
   refine (slices_Clone x.A x.n x.c l _ hrow (by omega)).mono ?_
   rintro e w1 ⟨A7, c7, rfl, ho7, hb1⟩
   have hu7 := hS.under
   have hS1 := hS.keep hb1
   have m51 := m5.keep hb1
   have m61 := m6.keep hb1
   have hsz := hb1.sz
   replace hW : Bl w w1 := Bl.a2; replace hB := hB.kp hb1; replace hR := hR.kp hb1; (try clear B_l B_f B_0 B_1 B_2 B_3 B_4 B_5 B_6 B_7 B_8 B_9 B_10 R_l R_f R_0 R_1 R_2 R_3 R_4 R_5 R_6 R_7 R_8 R_9 R_10); obtain ⟨B_l, B_f, B_0, B_1, B_2, B_3, B_4, B_5, B_6, B_7, B_8, B_9, B_10⟩ := hB.l11; obtain ⟨R_l, R_f, R_0, R_1, R_2, R_3, R_4, R_5, R_6, R_7, R_8, R_9, R_10⟩ := hR.l11
   have hZ1 : Bl wz w1 := Bl.call hZ hb1
   go_wp2_with (at_builtin; refine ap_ss (y := ⟨A7, x.n, c7⟩) (l := l) rfl rfl rfl (hS1.alloc _) rfl (rd_hd1 _ ⟨A7, x.n, c7⟩) (ho7.keep Bl.a2 |>.mono (by have := hZ.sz; omega)) (fun q hq e2 => by have a1 := (ho7.blk q hq).1; have a2 := hu7.1 q e2; omega) (fun i z hz q hq e2 => by have a1 := (ho7.blk q e2).1; have a2 := hu7.2 i z hz q hq; omega) (by omega) (by have := hZ1.sz; simp; omega) ?_; intro A8 c8 w8 ho8 hg8 hat8)
   have hab : ∀ q, A.map (·.block) = some q → wz.heap.size ≤ q := fun q hq => hS1.above.1 q hq
   go_roundw
   case rel => exact ⟨k + 1, by omega, by go_num, ⟨A8, c8, _, rfl, by rw [List.take_add_one, HX.out]; exact ho8⟩, (Bl.alloc hW _).grown hg8 (fun q hq => by have := hab q hq; omega), (Bl.alloc hZ1 _).grown hg8 (fun q hq => hab q hq), Blk.grown (hB.alloc _) hg8 (fun e => by have := hab _ e.symm; omega), Blk.grown (hR.alloc _) hg8 (fun e => by have := hab _ e.symm; omega),
     (m51.keep Bl.a2).grownR hg8 (fun q hq e => by have := z5.out q hq; have := hab q e; omega), (m61.keep Bl.a2).grownR hg8 (fun q hq e => by have := z6.out q hq; have := hab q e; omega)⟩
   case measure => simp [intOf]; omega
  ·have he : k = nh := by omega
   have htk := Lib.hid (show a.hd.take k = a.hd from List.take_of_length_le (by rw [he, h.hd.l_eq]; exact Nat.le_refl _))
   have hgz : w.heap.size < wz.heap.size := by omega
   clear hlt
   subst he
   have y5 := z5.out
   have y6 := z6.out
   clear z5 z6
   go_wp2
   have hR3 : Blk (((((((((((((wr.setCell ⟨w.heap.size, 8, none⟩ (.slice A k c)).setCell ⟨w.heap.size + 1, 0, none⟩ (.int .i64 a.p)).setCell ⟨w.heap.size + 1, 1, none⟩ (.int .i64 a.party)).setCell ⟨w.heap.size + 1, 2, none⟩ (.int .i64 a.x)).setCell ⟨w.heap.size + 1, 3, none⟩ (.int .i64 a.mask)).setCell ⟨w.heap.size + 1, 4, none⟩ (.int .i64 a.delta)).setCell ⟨w.heap.size + 1, 5, none⟩ (.slice A5 ns c5)).setCell ⟨w.heap.size + 1, 6, none⟩ (.slice A6 nk c6)).setCell ⟨w.heap.size + 1, 7, none⟩ (.int .i64 a.step)).setCell ⟨w.heap.size + 1, 8, none⟩ (.slice A k c)).setCell ⟨w.heap.size + 1, 9, none⟩ (.int .i64 a.status)).setCell ⟨w.heap.size + 1, 10, none⟩ (.int .i64 a.out))) (w.heap.size + 1) 34 #[.int .i64 a.p, .int .i64 a.party, .int .i64 a.x, .int .i64 a.mask, .int .i64 a.delta, .slice A5 ns c5, .slice A6 nk c6, .int .i64 a.step, .slice A k c, .int .i64 a.status, .int .i64 a.out] := put11_blk (hR.far (p := ⟨w.heap.size, 8, none⟩) (by dsimp only; omega) _) (.int .i64 a.p) (.int .i64 a.party) (.int .i64 a.x) (.int .i64 a.mask) (.int .i64 a.delta) (.slice A5 ns c5) (.slice A6 nk c6) (.int .i64 a.step) (.slice A k c) (.int .i64 a.status) (.int .i64 a.out)
   have hg3 : wr.grownBy (wr.setCell ⟨w.heap.size, 8, none⟩ (.slice A k c)) (some w.heap.size) := grownBy_setCell _ _ _ _
   have hg4 : (wr.setCell ⟨w.heap.size, 8, none⟩ (.slice A k c)).grownBy (((((((((((((wr.setCell ⟨w.heap.size, 8, none⟩ (.slice A k c)).setCell ⟨w.heap.size + 1, 0, none⟩ (.int .i64 a.p)).setCell ⟨w.heap.size + 1, 1, none⟩ (.int .i64 a.party)).setCell ⟨w.heap.size + 1, 2, none⟩ (.int .i64 a.x)).setCell ⟨w.heap.size + 1, 3, none⟩ (.int .i64 a.mask)).setCell ⟨w.heap.size + 1, 4, none⟩ (.int .i64 a.delta)).setCell ⟨w.heap.size + 1, 5, none⟩ (.slice A5 ns c5)).setCell ⟨w.heap.size + 1, 6, none⟩ (.slice A6 nk c6)).setCell ⟨w.heap.size + 1, 7, none⟩ (.int .i64 a.step)).setCell ⟨w.heap.size + 1, 8, none⟩ (.slice A k c)).setCell ⟨w.heap.size + 1, 9, none⟩ (.int .i64 a.status)).setCell ⟨w.heap.size + 1, 10, none⟩ (.int .i64 a.out))) (some (w.heap.size + 1)) := put11_grown _ _ (.int .i64 a.p) (.int .i64 a.party) (.int .i64 a.x) (.int .i64 a.mask) (.int .i64 a.delta) (.slice A5 ns c5) (.slice A6 nk c6) (.int .i64 a.step) (.slice A k c) (.int .i64 a.status) (.int .i64 a.out)
   have hW3 : Bl w (wr.setCell ⟨w.heap.size, 8, none⟩ (.slice A k c)) := hW.grown hg3 (fun k h => by injection h with h; omega)
   have hW4 := hW3.grown hg4 (fun k h => by injection h with h; omega)
   have k5 := (m5.grownR hg3 (fun q hq e => by have := m5.blk q hq; injection e with e; omega)).grownR hg4 (fun q hq e => by have := m5.blk q hq; injection e with e; omega)
   have k6 := (m6.grownR hg3 (fun q hq e => by have := m6.blk q hq; injection e with e; omega)).grownR hg4 (fun q hq e => by have := m6.blk q hq; injection e with e; omega)
   have kS := (hS.grownLow hg3 (fun k h => by injection h with h; omega)).grownLow hg4 (fun k h => by injection h with h; omega)
   rw [htk.out] at kS
   have hX : OwnP (w.heap.size + 2) wz.heap.size (((((((((((((wr.setCell ⟨w.heap.size, 8, none⟩ (.slice A k c)).setCell ⟨w.heap.size + 1, 0, none⟩ (.int .i64 a.p)).setCell ⟨w.heap.size + 1, 1, none⟩ (.int .i64 a.party)).setCell ⟨w.heap.size + 1, 2, none⟩ (.int .i64 a.x)).setCell ⟨w.heap.size + 1, 3, none⟩ (.int .i64 a.mask)).setCell ⟨w.heap.size + 1, 4, none⟩ (.int .i64 a.delta)).setCell ⟨w.heap.size + 1, 5, none⟩ (.slice A5 ns c5)).setCell ⟨w.heap.size + 1, 6, none⟩ (.slice A6 nk c6)).setCell ⟨w.heap.size + 1, 7, none⟩ (.int .i64 a.step)).setCell ⟨w.heap.size + 1, 8, none⟩ (.slice A k c)).setCell ⟨w.heap.size + 1, 9, none⟩ (.int .i64 a.status)).setCell ⟨w.heap.size + 1, 10, none⟩ (.int .i64 a.out))) a A5 A6 A ns c5 nk c6 k c hs' := ⟨k5, k6, kS, by omega, y5, y6, m56, Nat.le_trans hZ.sz (Nat.le_trans hg3.size hg4.size)⟩
   clear hg3 hg4 hW3 k5 k6 kS
   generalize ((((((((((((wr.setCell ⟨w.heap.size, 8, none⟩ (.slice A k c)).setCell ⟨w.heap.size + 1, 0, none⟩ (.int .i64 a.p)).setCell ⟨w.heap.size + 1, 1, none⟩ (.int .i64 a.party)).setCell ⟨w.heap.size + 1, 2, none⟩ (.int .i64 a.x)).setCell ⟨w.heap.size + 1, 3, none⟩ (.int .i64 a.mask)).setCell ⟨w.heap.size + 1, 4, none⟩ (.int .i64 a.delta)).setCell ⟨w.heap.size + 1, 5, none⟩ (.slice A5 ns c5)).setCell ⟨w.heap.size + 1, 6, none⟩ (.slice A6 nk c6)).setCell ⟨w.heap.size + 1, 7, none⟩ (.int .i64 a.step)).setCell ⟨w.heap.size + 1, 8, none⟩ (.slice A k c)).setCell ⟨w.heap.size + 1, 9, none⟩ (.int .i64 a.status)).setCell ⟨w.heap.size + 1, 10, none⟩ (.int .i64 a.out)) = wy at hW4 hR3 hX ⊢
   have R3_0 := hR3.cell 0 _ rfl; have R3_1 := hR3.cell 1 _ rfl; have R3_2 := hR3.cell 2 _ rfl; have R3_3 := hR3.cell 3 _ rfl; have R3_4 := hR3.cell 4 _ rfl; have R3_5 := hR3.cell 5 _ rfl; have R3_6 := hR3.cell 6 _ rfl; have R3_7 := hR3.cell 7 _ rfl; have R3_8 := hR3.cell 8 _ rfl; have R3_9 := hR3.cell 9 _ rfl; have R3_10 := hR3.cell 10 _ rfl
   refine bodyPost_ret (v := .agg #[.int .i64 a.p, .int .i64 a.party, .int .i64 a.x, .int .i64 a.mask, .int .i64 a.delta, .slice A5 ns c5, .slice A6 nk c6, .int .i64 a.step, .slice A k c, .int .i64 a.status, .int .i64 a.out]) (by simp [results, Tryd.results93, go_sem, R3_0, R3_1, R3_2, R3_3, R3_4, R3_5, R3_6, R3_7, R3_8, R3_9, R3_10]) rfl ?_
   exact ⟨A5, A6, A, c5, c6, c, hs', wz.heap.size, rfl, hX.mono (by omega), hW4⟩
end Go.Proofs.YtcjpalhclgkjiaaDoor
