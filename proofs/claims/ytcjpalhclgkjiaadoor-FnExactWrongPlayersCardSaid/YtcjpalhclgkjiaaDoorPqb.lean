/- Contracts: the reference's shares of d and e, its sums D and E, its share of z.
   Conditions: the player is valid. -/
import Derived.Test.YtcjpalhclgkjiaaDoorPqa
import Derived.Test.YtcjpalhclgkjiaaDoorPiy
namespace Go.Proofs.YtcjpalhclgkjiaaDoor
open Go.RowKit
set_option linter.unusedVariables false
theorem ap_tg_step {ops : Array Oper} {o : Oper} {a : Act} {w : World} {K : Act → World → Prop} {Q : Exit → Act → World → Prop} {E : Prop} (hgd : o.guard = none) {s x : Operand} (ho : o.op = .call { callee := .builtin .append, args := #[s, x], argTypes := #[32, 32] })
  {base n c m d : Nat} {A B : Option Addr} {l l' : List Tg} (hs : a.eval s = .slice A n c) (hown : OwnTg base w A n c l) (hx : a.eval x = .slice B m d) (hr : RdTg w B m d l')
  (hb : n + m ≤ 4398046511103) (hbase : base ≤ w.heap.size)
  (h : ∀ A' c' w', OwnTg base w' A' (n + m) c' (l ++ l') → w.grownBy w' (A.map (·.block)) → (A'.map (·.block) = A.map (·.block) ∨ A'.map (·.block) = some w.heap.size) →
   K (a.put o.dst (.slice A' (n + m) c')) w') : if Region.wanted o (yielded ops a.tmps) = true then Oper.wp Tryd.prog o a w K Q else E := by
 obtain ⟨i0, hi, hz0, hz1, hz2⟩ := info_parts Tg_info
 obtain ⟨A', c', w', hrun, h2, h3, h4⟩ := run_append_any (P := Tryd.prog) w base 32 o.type 93 i0 _ 2 16 Tryd.underlying32 hi hz0 hz1 hz2 rfl (by decide)
  (.slice A n c) n (encs Tg.enc l) hown.1 B m d (encs Tg.enc l') hr.1 (tg_one l') (by simp only [maxLen]; omega) (by omega) hbase
 rw [ownBlock_slice] at h3 h4
 have hw : Region.wanted o (yielded ops a.tmps) = true := by simp [Region.wanted, hgd]
 rw [if_pos hw]
 unfold Oper.wp execOp
 simp only [ho, resolve, invoke, builtin, Sem.run_bind, Sem.run_pure, Result.andThen_ok, List.map_toArray, List.map_cons, List.map_nil, hs, hx, hrun]
 refine h A' c' w' ⟨?_, by rw [List.length_append, hown.2, hr.2]⟩ h3 h4
 rw [encs_append]
 exact h2
theorem rd_tg1 (w : World) (v t : Int) {g : Nat} (hg : w.heap.size = g := by first | with_reducible rfl | simp) : RdTg (w.alloc (.cells #[.int .i64 v, .int .i64 t] 93)) (some ⟨g, 0, none⟩) 1 1 [⟨v, t⟩] := by
 subst hg
 refine ⟨⟨rfl, Nat.le_refl _, by simp only [maxLen]; omega, fun _ => ⟨_, rfl, by simp, fun j u hu => ?_⟩⟩, rfl⟩
 have hadd : (⟨w.heap.size, 0, none⟩ : Addr).add j = ⟨w.heap.size, j, none⟩ := by unfold Addr.add; split <;> simp_all
 rw [hadd, cell_of_row _ w.heap.size j #[.int .i64 v, .int .i64 t] 93 (0, 0) (heap_alloc_new w _)]
 simpa [encs, Tg.enc] using hu
/-- The value of a share behind the shift. -/
def shf (a : Pl) (j : Nat) : Int := if a.party = 0 then (shv a j + msk a j) % a.p else shv a j
section
variable {a : Pl} {k : Nat}
theorem Ok.shf (ok : Ok a k) (j : Nat) : 0 ≤ shf a j ∧ shf a j < a.p := by
 unfold Go.Proofs.YtcjpalhclgkjiaaDoor.shf
 split
 ·exact mod_rng _ ok.pos
 ·exact (ok.sh_rng j).1
theorem shf_0 (a : Pl) : (if a.party = 0 then (shv a 0 + msk a 0) % a.p else shv a 0) = shf a 0 := rfl
theorem shf_1 (a : Pl) : (if a.party = 0 then (shv a 1 + msk a 1) % a.p else shv a 1) = shf a 1 := rfl
theorem shf_sec (ok : Ok a k) (j : Nat) : (shf a j + (a.p - 1) * shv a (2 + j)) % a.p = secV a j := by
 unfold shf secV if0
 by_cases h : a.party = 0
 ·rw [if_pos h, if_pos h, spec_sec]
 ·rw [if_neg h, if_neg h, spec_sec0]
theorem sht_sec (a : Pl) (j : Nat) : (sht a j + (a.p - 1) * sht a (2 + j)) % a.p = secT a j := by
 unfold secT; rw [pm1]
/-- A share added. -/
theorem sec_add (ok : Ok a k) (j : Nat) (w : World) :
  Calls Tryd.prog 107 #[.int .i64 a.p, .agg #[.int .i64 (shf a j), .int .i64 (sht a j)], .agg #[.int .i64 (shv a (2 + j)), .int .i64 (sht a (2 + j))], .int .i64 (a.p - 1)] w fun e w' => e = .returned (.agg #[.int .i64 (secV a j), .int .i64 (secT a j)]) ∧ Bl w w' := by
 have p2 := ok.p2
 have c := spec_tgAdd a.p (shf a j) (sht a j) (shv a (2 + j)) (sht a (2 + j)) (a.p - 1) w p2 (ok.shf j) (ok.sh_rng j).2 (ok.sh_rng (2 + j)).1 (ok.sh_rng (2 + j)).2 (by omega)
 rw [shf_sec ok, sht_sec] at c
 exact c
def secL (a : Pl) : Nat → List Tg
 | 0 => []
 | 1 => [⟨secV a 0, secT a 0⟩]
 | _ => [⟨secV a 0, secT a 0⟩, ⟨secV a 1, secT a 1⟩]
end
set_option maxRecDepth 20000 in
set_option maxHeartbeats 4000000 in
theorem spec_ptSecond (a : Pl) (k : Nat) (As Ak Ah : Option Addr) (ns cs nk ck nh ch : Nat) (hs : List Hd) (w : World) (ok : Ok a k) (hk : 1 ≤ k) (h : RdP w a As Ak Ah ns cs nk ck nh ch hs) :
  Calls Tryd.prog 102 #[.agg #[.int .i64 a.p, .int .i64 a.party, .int .i64 a.x, .int .i64 a.mask, .int .i64 a.delta, .slice As ns cs, .slice Ak nk ck, .int .i64 a.step, .slice Ah nh ch, .int .i64 a.status, .int .i64 a.out]] w fun e w' => ∃ A c, e = .returned (.slice A 2 c) ∧ OwnTg w.heap.size w' A 2 c (secL a 2) ∧ Bl w w' := by
 have p2 := ok.p2
 have hns := h.ns_eq ok
 subst hns
 obtain ⟨ad, rfl, hc1, hc2, q0, q1, qs⟩ := h.share ok
 have HF := Lib.hid (fun (w' : World) (hb : Bl w w') => spec_ptFirst a k (some ad) Ak Ah 5 cs nk ck nh ch hs w' ok hk (h.keep hb))
 have HS0 := Lib.hid (fun (w' : World) => by have c := spec_ptShift a k (some ad) Ak Ah 5 cs nk ck nh ch hs (shv a 0) (sht a 0) (msk a 0) w' ok (ok.sh_rng 0).1 (ok.msk 0); rw [shf_0] at c; exact c)
 have HS1 := Lib.hid (fun (w' : World) => by have c := spec_ptShift a k (some ad) Ak Ah 5 cs nk ck nh ch hs (shv a 1) (sht a 1) (msk a 1) w' ok (ok.sh_rng 1).1 (ok.msk 1); rw [shf_1] at c; exact c)
 have HA0 := Lib.hid (fun (w' : World) => sec_add ok 0 w')
 have HA1 := Lib.hid (fun (w' : World) => sec_add ok 1 w')
 have Q := Lib.hid (show ∀ i, i < 5 → w.cell? (if i = 0 then ad else ⟨ad.block, ad.off + 2 * i, none⟩) = some (.int .i64 (shv a i)) ∧ w.cell? ⟨ad.block, ad.off + (2 * i + 1), none⟩ = some (.int .i64 (sht a i)) from fun i hi => by
  by_cases h0 : i = 0
  ·subst h0; exact ⟨q0, q1⟩
  ·rw [if_neg h0, Nat.mul_comm 2 i]; exact qs i (by omega) hi)
 clear q0 q1 qs
 have w2 : IntKind.i64.wrap 2 = 2 := rfl
 have w3 : IntKind.i64.wrap 3 = 3 := rfl
 have zp : IntKind.i64.wrap (a.p - 1) = a.p - 1 := IntWalk.i64_in _ (by omega)
 have hW : Bl w (w.alloc (.cells #[.int .i64 a.p, .int .i64 a.party, .int .i64 a.x, .int .i64 a.mask, .int .i64 a.delta, .slice (some ad) 5 cs, .slice Ak nk ck, .int .i64 a.step, .slice Ah nh ch, .int .i64 a.status, .int .i64 a.out] 34)) := Bl.a2
 have hB : Blk (w.alloc (.cells #[.int .i64 a.p, .int .i64 a.party, .int .i64 a.x, .int .i64 a.mask, .int .i64 a.delta, .slice (some ad) 5 cs, .slice Ak nk ck, .int .i64 a.step, .slice Ah nh ch, .int .i64 a.status, .int .i64 a.out] 34)) (w.heap.size) 34 #[.int .i64 a.p, .int .i64 a.party, .int .i64 a.x, .int .i64 a.mask, .int .i64 a.delta, .slice (some ad) 5 cs, .slice Ak nk ck, .int .i64 a.step, .slice Ah nh ch, .int .i64 a.status, .int .i64 a.out] := (Blk.new w 34 #[.int .i64 a.p, .int .i64 a.party, .int .i64 a.x, .int .i64 a.mask, .int .i64 a.delta, .slice (some ad) 5 cs, .slice Ak nk ck, .int .i64 a.step, .slice Ah nh ch, .int .i64 a.status, .int .i64 a.out] (g := w.heap.size))
 obtain ⟨B_l, B_f, B_0, B_1, B_2, B_3, B_4, B_5, B_6, B_7, B_8, B_9, B_10⟩ := hB.l11
 go_enter Tryd.func102, Tryd.ntmps102
 go_wp2_with (go_at_call 103; refine (HF.out _ Bl.a2).mono ?_; rintro e w1 ⟨gF, rfl, hF, hgF, hb1⟩; replace hW : Bl w w1 := Bl.a2; replace hB := hB.kp hb1; (try clear B_l B_f B_0 B_1 B_2 B_3 B_4 B_5 B_6 B_7 B_8 B_9 B_10); obtain ⟨B_l, B_f, B_0, B_1, B_2, B_3, B_4, B_5, B_6, B_7, B_8, B_9, B_10⟩ := hB.l11)
 have hgF1 : w.heap.size + 1 ≤ gF := by simpa using hgF
 clear hgF hb1
 go_loopw [5, 4] (fun i s wr => ∃ j : Nat, j ≤ 2 ∧ i = .int .i64 j ∧ (∃ A c, s = .slice A j c ∧ OwnTg (w.heap.size + 1) wr A j c (secL a j) ∧ ∀ q, A.map (·.block) = some q → q ≠ gF) ∧ Bl w wr ∧ Blk wr (w.heap.size) 34 #[.int .i64 a.p, .int .i64 a.party, .int .i64 a.x, .int .i64 a.mask, .int .i64 a.delta, .slice (some ad) 5 cs, .slice Ak nk ck, .int .i64 a.step, .slice Ah nh ch, .int .i64 a.status, .int .i64 a.out] ∧ Blk wr gF 3 #[.int .i64 (msk a 0), .int .i64 (msk a 1)]) (fun i _ _ => 2 - (intOf i).toNat)
 case atStart => exact ⟨0, by omega, rfl, ⟨none, 0, rfl, OwnTg.nil _ _, by simp⟩, hW, hB, hF⟩
 case round =>
  (try clear B_l B_f B_0 B_1 B_2 B_3 B_4 B_5 B_6 B_7 B_8 B_9 B_10)
  (try clear F_l F_f F_0 F_1)
  clear hW hB hF
  obtain ⟨j, hj, hie, ⟨A, c, rfl, hown, hap⟩, hW, hB, hF⟩ := hrel
  obtain ⟨B_l, B_f, B_0, B_1, B_2, B_3, B_4, B_5, B_6, B_7, B_8, B_9, B_10⟩ := hB.l11; obtain ⟨F_l, F_f, F_0, F_1⟩ := hF.l2
  obtain rfl | rfl | rfl : j = 0 ∨ j = 1 ∨ j = 2 := by omega
  ·obtain rfl := hie.trans (show _ = Value.int .i64 0 from rfl)
   clear hie hj
   have hst := Lib.hid (show secL a (0 + 1) = secL a 0 ++ [⟨secV a 0, secT a 0⟩] from rfl)
   have hl := hown.rd.le
   go_upto_region 6 with fail
   go_cut [6] (fun s6 wx => ∃ gX, s6 = .pointer (some ⟨gX, 0, none⟩) ∧ wr.heap.size ≤ gX ∧ Blk wx gX 93 #[.int .i64 (shf a 0), .int .i64 (sht a 0)] ∧ Bl wr wx)
   case first =>
    have q0 := hW.cells (Q.out 0 (by omega)).1; have q1 := hW.cells (Q.out 0 (by omega)).2
    refine wp_region_held_drew (S := (fun w' => w'.cell? ⟨w.heap.size, 0, none⟩ = some (.int .i64 a.p) ∧ w'.cell? ⟨w.heap.size, 1, none⟩ = some (.int .i64 a.party) ∧ w'.cell? ⟨w.heap.size, 2, none⟩ = some (.int .i64 a.x) ∧ w'.cell? ⟨w.heap.size, 3, none⟩ = some (.int .i64 a.mask) ∧ w'.cell? ⟨w.heap.size, 4, none⟩ = some (.int .i64 a.delta) ∧ w'.cell? ⟨w.heap.size, 5, none⟩ = some (.slice (some ad) 5 cs) ∧ w'.cell? ⟨w.heap.size, 6, none⟩ = some (.slice Ak nk ck) ∧ w'.cell? ⟨w.heap.size, 7, none⟩ = some (.int .i64 a.step) ∧ w'.cell? ⟨w.heap.size, 8, none⟩ = some (.slice Ah nh ch) ∧ w'.cell? ⟨w.heap.size, 9, none⟩ = some (.int .i64 a.status) ∧ w'.cell? ⟨w.heap.size, 10, none⟩ = some (.int .i64 a.out) ∧ w'.cell? ad = some (.int .i64 (shv a 0)) ∧ w'.cell? ⟨ad.block, ad.off + 1, none⟩ = some (.int .i64 (sht a 0)) ∧ w'.cell? ⟨gF, 0, none⟩ = some (.int .i64 (msk a 0)))) (by kernel_rfl) ?_ (fun hHeld => ?_)
    ·(try dsimp only); exact ⟨B_0, B_1, B_2, B_3, B_4, B_5, B_6, B_7, B_8, B_9, B_10, q0, q1, F_0⟩
    have hV : Bl wr wr.drew := (Bl.refl wr).drew
    generalize wr.drew = v0 at hV hHeld ⊢
    refine tkO 0 13 ?_
    refine tkO 1 14 ?_
    refine tkO 2 15 ?_
    refine tkO 3 16 ?_
    refine tkO 4 17 ?_
    refine tkO 5 18 ?_
    refine tkO 6 19 ?_
    refine tkO 7 20 ?_
    refine tkO 8 21 ?_
    refine tkO 9 22 ?_
    refine wpAnyH_ready (rs := [10, 11]) (by kernel_rfl) (by simp) ?_
    refine AllReadyH.cons rfl (fun K hK => ?_) (AllReadyH.cons rfl (fun K hK => ?_) AllReadyH.nil)
    ·go_simp
     go_at_call 108; refine (HS0.out _).mono ?_; rintro e v10 ⟨rfl, hb10⟩; have hsz10 := hb10.sz; replace hV := hV.call hb10
     go_wp2_with fail
     refine ko hK ?_ fun hHeld => ?_
     ·(try dsimp only); and_intros <;> exact hV.cells (by first | with_reducible assumption | assumption)
     clear hK K
     refine rdy1 11 fun K hK => ?_
     go_simp
     have hX := Blk.new v10 93 #[.int .i64 0, .int .i64 0] (g := v10.heap.size)
     have hgX := hV.sz
     replace hV := hV.alloc (.cells #[.int .i64 0, .int .i64 0] 93)
     generalize v10.alloc (.cells #[.int .i64 0, .int .i64 0] 93) = v11 at hX hV ⊢
     generalize v10.heap.size = gX at hX hgX ⊢
     refine ko hK ?_ fun hHeld => ?_
     ·(try dsimp only); and_intros <;> exact hV.cells (by first | with_reducible assumption | assumption)
     clear hK K
     refine rdy1 12 fun K hK => ?_
     refine wp_store_row 93 _ _ rfl (gX) #[.int .i64 (shf a 0), .int .i64 (sht a 0)] rfl rfl 93 #[.int .i64 0, .int .i64 0] hX (by kernel_rfl) rfl (by first | rfl | simp [Value.oneCell'] | kernel_rfl) ?_; replace hX := Blk.row (cs' := #[.int .i64 (shf a 0), .int .i64 (sht a 0)]) hX; replace hV := hV.row hgX #[.int .i64 (shf a 0), .int .i64 (sht a 0)]; generalize v11.setRow gX #[.int .i64 (shf a 0), .int .i64 (sht a 0)] = v12 at hX hV ⊢
     refine ko hK ?_ fun hHeld => ?_
     ·(try dsimp only); and_intros <;> exact hV.cells (by first | with_reducible assumption | assumption)
     clear hK K
     refine wpAnyH_done (by kernel_rfl) ?_ _
     go_wp2_with fail
     go_meet
     exact ⟨gX, rfl, hgX, hX, hV⟩
    ·go_simp
     have hX := Blk.new v0 93 #[.int .i64 0, .int .i64 0] (g := v0.heap.size)
     have hgX := hV.sz
     replace hV := hV.alloc (.cells #[.int .i64 0, .int .i64 0] 93)
     generalize v0.alloc (.cells #[.int .i64 0, .int .i64 0] 93) = v11 at hX hV ⊢
     generalize v0.heap.size = gX at hX hgX ⊢
     refine ko hK ?_ fun hHeld => ?_
     ·(try dsimp only); and_intros <;> exact hV.cells (by first | with_reducible assumption | assumption)
     clear hK K
     refine rdy1 10 fun K hK => ?_
     go_simp
     go_at_call 108; refine (HS0.out _).mono ?_; rintro e v10 ⟨rfl, hb10⟩; have hsz10 := hb10.sz; replace hX := hX.keep hb10; replace hV := hV.call hb10
     go_wp2_with fail
     refine ko hK ?_ fun hHeld => ?_
     ·(try dsimp only); and_intros <;> exact hV.cells (by first | with_reducible assumption | assumption)
     clear hK K
     refine rdy1 12 fun K hK => ?_
     refine wp_store_row 93 _ _ rfl (gX) #[.int .i64 (shf a 0), .int .i64 (sht a 0)] rfl rfl 93 #[.int .i64 0, .int .i64 0] hX (by kernel_rfl) rfl (by first | rfl | simp [Value.oneCell'] | kernel_rfl) ?_; replace hX := Blk.row (cs' := #[.int .i64 (shf a 0), .int .i64 (sht a 0)]) hX; replace hV := hV.row hgX #[.int .i64 (shf a 0), .int .i64 (sht a 0)]; generalize v10.setRow gX #[.int .i64 (shf a 0), .int .i64 (sht a 0)] = v12 at hX hV ⊢
     refine ko hK ?_ fun hHeld => ?_
     ·(try dsimp only); and_intros <;> exact hV.cells (by first | with_reducible assumption | assumption)
     clear hK K
     refine wpAnyH_done (by kernel_rfl) ?_ _
     go_wp2_with fail
     go_meet
     exact ⟨gX, rfl, hgX, hX, hV⟩
   case rest =>
   obtain ⟨gX, rfl, hgX, hX, hV⟩ := hcut
   (try clear B_l B_f B_0 B_1 B_2 B_3 B_4 B_5 B_6 B_7 B_8 B_9 B_10)
   (try clear F_l F_f F_0 F_1)
   replace hW := hW.call hV
   replace hB := hB.keep hV
   replace hF := hF.keep hV
   replace hown := hown.keep hV
   obtain ⟨B_l, B_f, B_0, B_1, B_2, B_3, B_4, B_5, B_6, B_7, B_8, B_9, B_10⟩ := hB.l11
   obtain ⟨X_l, X_f, X_0, X_1⟩ := hX.l2
   have q4 := hW.cells (Q.out 2 (by omega)).1; have q5 := hW.cells (Q.out 2 (by omega)).2
   go_wp2_with fail
   replace hown := hown.keep ((Bl.refl _).drew); replace hB := hB.drew; replace hF := hF.drew; replace hW := hW.drew
   refine region_F (fun _ => True) (fun w' => w'.cell? ⟨w.heap.size, 0, none⟩ = some (.int .i64 a.p) ∧ w'.cell? ⟨w.heap.size, 5, none⟩ = some (.slice (some ad) 5 cs) ∧ w'.cell? ⟨gX, 0, none⟩ = some (.int .i64 (shf a 0)) ∧ w'.cell? ⟨gX, 1, none⟩ = some (.int .i64 (sht a 0)) ∧ w'.cell? ⟨ad.block, ad.off + 4, none⟩ = some (.int .i64 (shv a 2)) ∧ w'.cell? ⟨ad.block, ad.off + 5, none⟩ = some (.int .i64 (sht a 2))) 15 (by kernel_rfl) ?_ (fun hHeld => ?_)
   ·(try dsimp only); exact ⟨trivial, B_0, B_5, X_0, X_1, q4, q5⟩
   refine tC 0 24 [0] ?_ hHeld
   refine tC 1 25 [13, 2, 1] ?_ hHeld
   refine tC 2 26 [13, 2] ?_ hHeld
   refine tC 3 27 [13, 3] ?_ hHeld
   refine tC 4 28 [13, 9, 8, 5, 4] ?_ hHeld
   refine tC 5 29 [13, 9, 8, 5] ?_ hHeld
   refine tC 6 30 [13, 9, 8, 7, 6] ?_ hHeld
   refine tC 7 31 [13, 9, 8, 7] ?_ hHeld
   refine tC 8 32 [13, 9, 8] ?_ hHeld
   refine tC 9 33 [13, 9] ?_ hHeld
   refine tC 10 34 [13, 12, 11, 10] ?_ hHeld
   refine tC 11 35 [13, 12, 11] ?_ hHeld
   refine tC 12 36 [13, 12] ?_ hHeld
   refine f_step (i := 13) (by kernel_rfl) rfl (fun K hK => ?_)
   go_simp
   go_at_call 107; refine (HA0.out _).mono ?_; rintro e w7 ⟨rfl, hb13⟩; have hsz7 := hb13.sz; replace hown := hown.keep hb13; replace hB := hB.keep hb13; replace hF := hF.keep hb13; replace hW := hW.call hb13
   go_wp2_with fail
   refine ko hK ?_ fun hHeld => ?_
   ·(try dsimp only); exact ⟨trivial, hb13.cells B_0, hb13.cells B_5, hb13.cells X_0, hb13.cells X_1, hb13.cells q4, hb13.cells q5⟩
   clear hK K
   refine f_step (i := 14) (by kernel_rfl) rfl (fun K hK => ?_)
   go_simp
   refine ko hK ?_ fun hHeld => ?_
   ·(try dsimp only); exact ⟨trivial, ((Bl.refl _).alloc _).cells (hb13.cells B_0), ((Bl.refl _).alloc _).cells (hb13.cells B_5), ((Bl.refl _).alloc _).cells (hb13.cells X_0), ((Bl.refl _).alloc _).cells (hb13.cells X_1), ((Bl.refl _).alloc _).cells (hb13.cells q4), ((Bl.refl _).alloc _).cells (hb13.cells q5)⟩
   clear hK K
   refine f_last (i := 15) (by kernel_rfl) rfl (by simp) (fun K hK => ?_)
   have hBl := hB.lt; refine ap_tg_step rfl rfl rfl (hown.keep ((Bl.refl _).alloc _)) rfl (rd_tg1 _ _ _) (by omega) (by simp; omega) ?_; intro A2 c2 w8 hown2 hg8 hat8
   refine ko hK ?_ fun hHeld => ?_
   ·exact trivial
   clear hK K
   refine tS 16 4 ?_ hHeld (fun h => by simp at h)
   refine f_done (by kernel_rfl) ?_ _
   have hab := fun q hq => (hown.blk q hq).1
   go_wp2_with fail
   go_roundw
   case rel => exact ⟨1, by omega, rfl, ⟨A2, c2, rfl, by rw [hst.out]; exact hown2, fun q hq e => by
     rcases hat8 with h1 | h1
     ·exact hap q (h1 ▸ hq) e
     ·rw [h1] at hq; injection hq with hq; have := hF.lt; simp at hq; omega⟩, (hW.alloc _).grown hg8 (fun q hq => by have := hab q hq; omega),
     Blk.grown (hB.alloc _) hg8 (fun e => by have := hab _ e.symm; omega), Blk.grown (hF.alloc _) hg8 (fun e => hap _ e.symm rfl)⟩
   case measure => simp [intOf]
  ·obtain rfl := hie.trans (show _ = Value.int .i64 1 from rfl)
   clear hie hj
   have hst := Lib.hid (show secL a (1 + 1) = secL a 1 ++ [⟨secV a 1, secT a 1⟩] from rfl)
   have hl := hown.rd.le
   go_upto_region 6 with fail
   go_cut [6] (fun s6 wx => ∃ gX, s6 = .pointer (some ⟨gX, 0, none⟩) ∧ wr.heap.size ≤ gX ∧ Blk wx gX 93 #[.int .i64 (shf a 1), .int .i64 (sht a 1)] ∧ Bl wr wx)
   case first =>
    have q2 := hW.cells (Q.out 1 (by omega)).1; have q3 := hW.cells (Q.out 1 (by omega)).2
    refine wp_region_held_drew (S := (fun w' => w'.cell? ⟨w.heap.size, 0, none⟩ = some (.int .i64 a.p) ∧ w'.cell? ⟨w.heap.size, 1, none⟩ = some (.int .i64 a.party) ∧ w'.cell? ⟨w.heap.size, 2, none⟩ = some (.int .i64 a.x) ∧ w'.cell? ⟨w.heap.size, 3, none⟩ = some (.int .i64 a.mask) ∧ w'.cell? ⟨w.heap.size, 4, none⟩ = some (.int .i64 a.delta) ∧ w'.cell? ⟨w.heap.size, 5, none⟩ = some (.slice (some ad) 5 cs) ∧ w'.cell? ⟨w.heap.size, 6, none⟩ = some (.slice Ak nk ck) ∧ w'.cell? ⟨w.heap.size, 7, none⟩ = some (.int .i64 a.step) ∧ w'.cell? ⟨w.heap.size, 8, none⟩ = some (.slice Ah nh ch) ∧ w'.cell? ⟨w.heap.size, 9, none⟩ = some (.int .i64 a.status) ∧ w'.cell? ⟨w.heap.size, 10, none⟩ = some (.int .i64 a.out) ∧ w'.cell? ⟨ad.block, ad.off + 2, none⟩ = some (.int .i64 (shv a 1)) ∧ w'.cell? ⟨ad.block, ad.off + 3, none⟩ = some (.int .i64 (sht a 1)) ∧ w'.cell? ⟨gF, 1, none⟩ = some (.int .i64 (msk a 1)))) (by kernel_rfl) ?_ (fun hHeld => ?_)
    ·(try dsimp only); exact ⟨B_0, B_1, B_2, B_3, B_4, B_5, B_6, B_7, B_8, B_9, B_10, q2, q3, F_1⟩
    have hV : Bl wr wr.drew := (Bl.refl wr).drew
    generalize wr.drew = v0 at hV hHeld ⊢
    refine tkO 0 13 ?_
    refine tkO 1 14 ?_
    refine tkO 2 15 ?_
    refine tkO 3 16 ?_
    refine tkO 4 17 ?_
    refine tkO 5 18 ?_
    refine tkO 6 19 ?_
    refine tkO 7 20 ?_
    refine tkO 8 21 ?_
    refine tkO 9 22 ?_
    refine wpAnyH_ready (rs := [10, 11]) (by kernel_rfl) (by simp) ?_
    refine AllReadyH.cons rfl (fun K hK => ?_) (AllReadyH.cons rfl (fun K hK => ?_) AllReadyH.nil)
    ·go_simp
     go_at_call 108; refine (HS1.out _).mono ?_; rintro e v10 ⟨rfl, hb10⟩; have hsz10 := hb10.sz; replace hV := hV.call hb10
     go_wp2_with fail
     refine ko hK ?_ fun hHeld => ?_
     ·(try dsimp only); and_intros <;> exact hV.cells (by first | with_reducible assumption | assumption)
     clear hK K
     refine rdy1 11 fun K hK => ?_
     go_simp
     have hX := Blk.new v10 93 #[.int .i64 0, .int .i64 0] (g := v10.heap.size)
     have hgX := hV.sz
     replace hV := hV.alloc (.cells #[.int .i64 0, .int .i64 0] 93)
     generalize v10.alloc (.cells #[.int .i64 0, .int .i64 0] 93) = v11 at hX hV ⊢
     generalize v10.heap.size = gX at hX hgX ⊢
     refine ko hK ?_ fun hHeld => ?_
     ·(try dsimp only); and_intros <;> exact hV.cells (by first | with_reducible assumption | assumption)
     clear hK K
     refine rdy1 12 fun K hK => ?_
     refine wp_store_row 93 _ _ rfl (gX) #[.int .i64 (shf a 1), .int .i64 (sht a 1)] rfl rfl 93 #[.int .i64 0, .int .i64 0] hX (by kernel_rfl) rfl (by first | rfl | simp [Value.oneCell'] | kernel_rfl) ?_; replace hX := Blk.row (cs' := #[.int .i64 (shf a 1), .int .i64 (sht a 1)]) hX; replace hV := hV.row hgX #[.int .i64 (shf a 1), .int .i64 (sht a 1)]; generalize v11.setRow gX #[.int .i64 (shf a 1), .int .i64 (sht a 1)] = v12 at hX hV ⊢
     refine ko hK ?_ fun hHeld => ?_
     ·(try dsimp only); and_intros <;> exact hV.cells (by first | with_reducible assumption | assumption)
     clear hK K
     refine wpAnyH_done (by kernel_rfl) ?_ _
     go_wp2_with fail
     go_meet
     exact ⟨gX, rfl, hgX, hX, hV⟩
    ·go_simp
     have hX := Blk.new v0 93 #[.int .i64 0, .int .i64 0] (g := v0.heap.size)
     have hgX := hV.sz
     replace hV := hV.alloc (.cells #[.int .i64 0, .int .i64 0] 93)
     generalize v0.alloc (.cells #[.int .i64 0, .int .i64 0] 93) = v11 at hX hV ⊢
     generalize v0.heap.size = gX at hX hgX ⊢
     refine ko hK ?_ fun hHeld => ?_
     ·(try dsimp only); and_intros <;> exact hV.cells (by first | with_reducible assumption | assumption)
     clear hK K
     refine rdy1 10 fun K hK => ?_
     go_simp
     go_at_call 108; refine (HS1.out _).mono ?_; rintro e v10 ⟨rfl, hb10⟩; have hsz10 := hb10.sz; replace hX := hX.keep hb10; replace hV := hV.call hb10
     go_wp2_with fail
     refine ko hK ?_ fun hHeld => ?_
     ·(try dsimp only); and_intros <;> exact hV.cells (by first | with_reducible assumption | assumption)
     clear hK K
     refine rdy1 12 fun K hK => ?_
     refine wp_store_row 93 _ _ rfl (gX) #[.int .i64 (shf a 1), .int .i64 (sht a 1)] rfl rfl 93 #[.int .i64 0, .int .i64 0] hX (by kernel_rfl) rfl (by first | rfl | simp [Value.oneCell'] | kernel_rfl) ?_; replace hX := Blk.row (cs' := #[.int .i64 (shf a 1), .int .i64 (sht a 1)]) hX; replace hV := hV.row hgX #[.int .i64 (shf a 1), .int .i64 (sht a 1)]; generalize v10.setRow gX #[.int .i64 (shf a 1), .int .i64 (sht a 1)] = v12 at hX hV ⊢
     refine ko hK ?_ fun hHeld => ?_
     ·(try dsimp only); and_intros <;> exact hV.cells (by first | with_reducible assumption | assumption)
     clear hK K
     refine wpAnyH_done (by kernel_rfl) ?_ _
     go_wp2_with fail
     go_meet
     exact ⟨gX, rfl, hgX, hX, hV⟩
   case rest =>
   obtain ⟨gX, rfl, hgX, hX, hV⟩ := hcut
   (try clear B_l B_f B_0 B_1 B_2 B_3 B_4 B_5 B_6 B_7 B_8 B_9 B_10)
   (try clear F_l F_f F_0 F_1)
   replace hW := hW.call hV
   replace hB := hB.keep hV
   replace hF := hF.keep hV
   replace hown := hown.keep hV
   obtain ⟨B_l, B_f, B_0, B_1, B_2, B_3, B_4, B_5, B_6, B_7, B_8, B_9, B_10⟩ := hB.l11
   obtain ⟨X_l, X_f, X_0, X_1⟩ := hX.l2
   have q6 := hW.cells (Q.out 3 (by omega)).1; have q7 := hW.cells (Q.out 3 (by omega)).2
   go_wp2_with fail
   replace hown := hown.keep ((Bl.refl _).drew); replace hB := hB.drew; replace hF := hF.drew; replace hW := hW.drew
   refine region_F (fun _ => True) (fun w' => w'.cell? ⟨w.heap.size, 0, none⟩ = some (.int .i64 a.p) ∧ w'.cell? ⟨w.heap.size, 5, none⟩ = some (.slice (some ad) 5 cs) ∧ w'.cell? ⟨gX, 0, none⟩ = some (.int .i64 (shf a 1)) ∧ w'.cell? ⟨gX, 1, none⟩ = some (.int .i64 (sht a 1)) ∧ w'.cell? ⟨ad.block, ad.off + 6, none⟩ = some (.int .i64 (shv a 3)) ∧ w'.cell? ⟨ad.block, ad.off + 7, none⟩ = some (.int .i64 (sht a 3))) 15 (by kernel_rfl) ?_ (fun hHeld => ?_)
   ·(try dsimp only); exact ⟨trivial, B_0, B_5, X_0, X_1, q6, q7⟩
   refine tC 0 24 [0] ?_ hHeld
   refine tC 1 25 [13, 2, 1] ?_ hHeld
   refine tC 2 26 [13, 2] ?_ hHeld
   refine tC 3 27 [13, 3] ?_ hHeld
   refine tC 4 28 [13, 9, 8, 5, 4] ?_ hHeld
   refine tC 5 29 [13, 9, 8, 5] ?_ hHeld
   refine tC 6 30 [13, 9, 8, 7, 6] ?_ hHeld
   refine tC 7 31 [13, 9, 8, 7] ?_ hHeld
   refine tC 8 32 [13, 9, 8] ?_ hHeld
   refine tC 9 33 [13, 9] ?_ hHeld
   refine tC 10 34 [13, 12, 11, 10] ?_ hHeld
   refine tC 11 35 [13, 12, 11] ?_ hHeld
   refine tC 12 36 [13, 12] ?_ hHeld
   refine f_step (i := 13) (by kernel_rfl) rfl (fun K hK => ?_)
   go_simp
   go_at_call 107; refine (HA1.out _).mono ?_; rintro e w7 ⟨rfl, hb13⟩; have hsz7 := hb13.sz; replace hown := hown.keep hb13; replace hB := hB.keep hb13; replace hF := hF.keep hb13; replace hW := hW.call hb13
   go_wp2_with fail
   refine ko hK ?_ fun hHeld => ?_
   ·(try dsimp only); exact ⟨trivial, hb13.cells B_0, hb13.cells B_5, hb13.cells X_0, hb13.cells X_1, hb13.cells q6, hb13.cells q7⟩
   clear hK K
   refine f_step (i := 14) (by kernel_rfl) rfl (fun K hK => ?_)
   go_simp
   refine ko hK ?_ fun hHeld => ?_
   ·(try dsimp only); exact ⟨trivial, ((Bl.refl _).alloc _).cells (hb13.cells B_0), ((Bl.refl _).alloc _).cells (hb13.cells B_5), ((Bl.refl _).alloc _).cells (hb13.cells X_0), ((Bl.refl _).alloc _).cells (hb13.cells X_1), ((Bl.refl _).alloc _).cells (hb13.cells q6), ((Bl.refl _).alloc _).cells (hb13.cells q7)⟩
   clear hK K
   refine f_last (i := 15) (by kernel_rfl) rfl (by simp) (fun K hK => ?_)
   have hBl := hB.lt; refine ap_tg_step rfl rfl rfl (hown.keep ((Bl.refl _).alloc _)) rfl (rd_tg1 _ _ _) (by omega) (by simp; omega) ?_; intro A2 c2 w8 hown2 hg8 hat8
   refine ko hK ?_ fun hHeld => ?_
   ·exact trivial
   clear hK K
   refine tS 16 4 ?_ hHeld (fun h => by simp at h)
   refine f_done (by kernel_rfl) ?_ _
   have hab := fun q hq => (hown.blk q hq).1
   go_wp2_with fail
   go_roundw
   case rel => exact ⟨2, by omega, rfl, ⟨A2, c2, rfl, by rw [hst.out]; exact hown2, fun q hq e => by
     rcases hat8 with h1 | h1
     ·exact hap q (h1 ▸ hq) e
     ·rw [h1] at hq; injection hq with hq; have := hF.lt; simp at hq; omega⟩, (hW.alloc _).grown hg8 (fun q hq => by have := hab q hq; omega),
     Blk.grown (hB.alloc _) hg8 (fun e => by have := hab _ e.symm; omega), Blk.grown (hF.alloc _) hg8 (fun e => hap _ e.symm rfl)⟩
   case measure => simp [intOf]
  ·obtain rfl := hie.trans (show _ = Value.int .i64 2 from rfl)
   go_wp2
   go_ret
   exact ⟨A, c, rfl, hown.mono (by omega), hW⟩
theorem OwnTg.two {base : Nat} {w : World} {A : Option Addr} {c : Nat} {x y : Tg} (h : OwnTg base w A 2 c [x, y]) : ∃ g, A = some ⟨g, 0, none⟩ ∧ 2 ≤ c ∧ c ≤ 9223372036854775807 ∧ base ≤ g ∧ g < w.heap.size ∧ w.cell? ⟨g, 0, none⟩ = some (.int .i64 x.v) ∧ w.cell? ⟨g, 1, none⟩ = some (.int .i64 x.t) ∧ w.cell? ⟨g, 2, none⟩ = some (.int .i64 y.v) ∧ w.cell? ⟨g, 3, none⟩ = some (.int .i64 y.t) := by
 obtain ⟨l1, l2⟩ := h.rd.le
 obtain ⟨g, rfl, hb, hl, hcell, hfr⟩ := h.1.form (by omega)
 exact ⟨g, rfl, l1, l2, hb, hl, hcell 0 _ rfl, hcell 1 _ rfl, hcell 2 _ rfl, hcell 3 _ rfl⟩
theorem third_v (a : Pl) : (if a.party = 0 then (((shv a 4 + dS a * shv a 3) % a.p + eS a * shv a 2) % a.p + dS a * eS a % a.p) % a.p else ((shv a 4 + dS a * shv a 3) % a.p + eS a * shv a 2) % a.p) = thV a := by
 unfold thV if0
 by_cases h : a.party = 0
 ·rw [if_pos h, if_pos h, spec_th0]
 ·rw [if_neg h, if_neg h, spec_th]
theorem third_t (a : Pl) : ((sht a 4 + dS a * sht a 3) % a.p + eS a * sht a 2) % a.p = thT a := by
 unfold thT; rw [spec_tht]
set_option maxRecDepth 20000 in
set_option maxHeartbeats 2000000 in
theorem spec_ptSums (a : Pl) (k : Nat) (As Ak Ah : Option Addr) (ns cs nk ck nh ch : Nat) (hs : List Hd) (w : World) (ok : Ok a k) (hk : 2 ≤ k) (h : RdP w a As Ak Ah ns cs nk ck nh ch hs) :
  Calls Tryd.prog 106 #[.agg #[.int .i64 a.p, .int .i64 a.party, .int .i64 a.x, .int .i64 a.mask, .int .i64 a.delta, .slice As ns cs, .slice Ak nk ck, .int .i64 a.step, .slice Ah nh ch, .int .i64 a.status, .int .i64 a.out]] w fun e w' => e = .returned (.tuple #[.int .i64 (dS a), .int .i64 (eS a)]) ∧ Bl w w' := by
 have p2 := ok.p2
 have b1 := ok.secV 0
 have b2 := ok.secV 1
 have b3 := ok.said_rng 1 0
 have b4 := ok.said_rng 1 2
 have E1 := Lib.hid (show (secV a 0 + said a 1 0) % a.p = dS a from rfl)
 have E2 := Lib.hid (show (secV a 1 + said a 1 2) % a.p = eS a from rfl)
 have HF := Lib.hid (fun (w' : World) (hb : Bl w w') => spec_ptSecond a k As Ak Ah ns cs nk ck nh ch hs w' ok (by omega) (h.keep hb))
 obtain ⟨ad, ad0, c0, rfl, hn, q0, hc1, hc2, q1, q2⟩ := h.hear1 ok hk
 have Q0 := Lib.hid q0
 have Q1 := Lib.hid q1
 have Q2 := Lib.hid q2
 clear q0 q1 q2
 have z1 : IntKind.i64.wrap (secV a 0 + said a 1 0) = secV a 0 + said a 1 0 := IntWalk.i64_in _ (by omega)
 have z2 : IntKind.i64.wrap (secV a 1 + said a 1 2) = secV a 1 + said a 1 2 := IntWalk.i64_in _ (by omega)
 have e1 : (secV a 0 + said a 1 0).tmod a.p = (secV a 0 + said a 1 0) % a.p := Int.tmod_eq_emod_of_nonneg (by omega)
 have e2 : (secV a 1 + said a 1 2).tmod a.p = (secV a 1 + said a 1 2) % a.p := Int.tmod_eq_emod_of_nonneg (by omega)
 have hp0 : (a.p == 0) = false := by simp; omega
 have hp1 : ¬ a.p = 0 := by omega
 have hW : Bl w (w.alloc (.cells #[.int .i64 a.p, .int .i64 a.party, .int .i64 a.x, .int .i64 a.mask, .int .i64 a.delta, .slice As ns cs, .slice Ak nk ck, .int .i64 a.step, .slice (some ad) nh ch, .int .i64 a.status, .int .i64 a.out] 34)) := Bl.a2
 have hB : Blk (w.alloc (.cells #[.int .i64 a.p, .int .i64 a.party, .int .i64 a.x, .int .i64 a.mask, .int .i64 a.delta, .slice As ns cs, .slice Ak nk ck, .int .i64 a.step, .slice (some ad) nh ch, .int .i64 a.status, .int .i64 a.out] 34)) (w.heap.size) 34 #[.int .i64 a.p, .int .i64 a.party, .int .i64 a.x, .int .i64 a.mask, .int .i64 a.delta, .slice As ns cs, .slice Ak nk ck, .int .i64 a.step, .slice (some ad) nh ch, .int .i64 a.status, .int .i64 a.out] := (Blk.new w 34 #[.int .i64 a.p, .int .i64 a.party, .int .i64 a.x, .int .i64 a.mask, .int .i64 a.delta, .slice As ns cs, .slice Ak nk ck, .int .i64 a.step, .slice (some ad) nh ch, .int .i64 a.status, .int .i64 a.out] (g := w.heap.size))
 obtain ⟨B_l, B_f, B_0, B_1, B_2, B_3, B_4, B_5, B_6, B_7, B_8, B_9, B_10⟩ := hB.l11
 go_enter Tryd.func106, Tryd.ntmps106
 go_wp2_with (go_at_call 102; refine (HF.out _ Bl.a2).mono ?_; rintro e w1 ⟨A, c, rfl, ho, hb1⟩; obtain ⟨g, rfl, hA1, hA2, hg1, hg2, r0, r1, r2, r3⟩ := ho.two; replace hW : Bl w w1 := Bl.a2; replace hB := hB.kp hb1; (try clear B_l B_f B_0 B_1 B_2 B_3 B_4 B_5 B_6 B_7 B_8 B_9 B_10); obtain ⟨B_l, B_f, B_0, B_1, B_2, B_3, B_4, B_5, B_6, B_7, B_8, B_9, B_10⟩ := hB.l11)
 have q0 := hW.cells Q0.out
 have q1 := hW.cells Q1.out
 have q2 := hW.cells Q2.out
 go_quiet (fail)
 go_wp2
 go_ret2
 exact ⟨by rw [E1.out, E2.out]; rfl, hW.drewN _⟩
set_option maxRecDepth 20000 in
set_option maxHeartbeats 2000000 in
theorem spec_ptThird (a : Pl) (k : Nat) (As Ak Ah : Option Addr) (ns cs nk ck nh ch : Nat) (hs : List Hd) (w : World) (ok : Ok a k) (hk : 2 ≤ k) (h : RdP w a As Ak Ah ns cs nk ck nh ch hs) :
  Calls Tryd.prog 82 #[.agg #[.int .i64 a.p, .int .i64 a.party, .int .i64 a.x, .int .i64 a.mask, .int .i64 a.delta, .slice As ns cs, .slice Ak nk ck, .int .i64 a.step, .slice Ah nh ch, .int .i64 a.status, .int .i64 a.out]] w fun e w' => e = .returned (.agg #[.int .i64 (thV a), .int .i64 (thT a)]) ∧ Bl w w' := by
 have p2 := ok.p2
 have hns := h.ns_eq ok
 subst hns
 have HF := Lib.hid (fun (w' : World) (hb : Bl w w') => spec_ptSums a k As Ak Ah 5 cs nk ck nh ch hs w' ok hk (h.keep hb))
 have bd := ok.dS
 have be := ok.eS
 have m1 := prod0 (dS a) (eS a) (by omega) (by omega) (by omega) (by omega)
 have ET := third_t a
 have EV := third_v a
 have HA1 := Lib.hid (fun (w' : World) => spec_tgAdd a.p (shv a 4) (sht a 4) (shv a 3) (sht a 3) (dS a) w' p2 (ok.sh_rng 4).1 (ok.sh_rng 4).2 (ok.sh_rng 3).1 (ok.sh_rng 3).2 bd)
 have rv := mod_rng (shv a 4 + dS a * shv a 3) p2.1
 have rt := mod_rng (sht a 4 + dS a * sht a 3) p2.1
 generalize (shv a 4 + dS a * shv a 3) % a.p = xv at HA1 EV rv
 generalize (sht a 4 + dS a * sht a 3) % a.p = xt at HA1 ET rt
 have HA2 := Lib.hid (fun (w' : World) => by have c := spec_tgAdd a.p xv xt (shv a 2) (sht a 2) (eS a) w' p2 rv rt (ok.sh_rng 2).1 (ok.sh_rng 2).2 be; rw [ET] at c; exact c)
 have rv2 := mod_rng (xv + eS a * shv a 2) p2.1
 generalize (xv + eS a * shv a 2) % a.p = yv at HA2 EV rv2
 have HS := Lib.hid (fun (w' : World) => by have c := spec_ptShift a k As Ak Ah 5 cs nk ck nh ch hs yv (thT a) (dS a * eS a % a.p) w' ok rv2 (mod_rng _ p2.1); rw [EV] at c; exact c)
 clear EV ET
 obtain ⟨ad, rfl, hc1, hc2, q0, q1, qs⟩ := h.share ok
 have Q := Lib.hid (show ∀ i, 0 < i → i < 5 → w.cell? ⟨ad.block, ad.off + 2 * i, none⟩ = some (.int .i64 (shv a i)) ∧ w.cell? ⟨ad.block, ad.off + (2 * i + 1), none⟩ = some (.int .i64 (sht a i)) from fun i h0 hi => by
  rw [Nat.mul_comm 2 i]; exact qs i h0 hi)
 clear q0 q1 qs
 have z1 : IntKind.i64.wrap (dS a * eS a) = dS a * eS a := IntWalk.i64_in _ (by omega)
 have e1 : (dS a * eS a).tmod a.p = dS a * eS a % a.p := Int.tmod_eq_emod_of_nonneg (by omega)
 have hp0 : (a.p == 0) = false := by simp; omega
 have hp1 : ¬ a.p = 0 := by omega
 have hW : Bl w ((w.alloc (.cells #[.int .i64 a.p, .int .i64 a.party, .int .i64 a.x, .int .i64 a.mask, .int .i64 a.delta, .slice (some ad) 5 cs, .slice Ak nk ck, .int .i64 a.step, .slice Ah nh ch, .int .i64 a.status, .int .i64 a.out] 34)).alloc (.cells #[.int .i64 0, .int .i64 0] 93)) := Bl.a2
 have hB : Blk ((w.alloc (.cells #[.int .i64 a.p, .int .i64 a.party, .int .i64 a.x, .int .i64 a.mask, .int .i64 a.delta, .slice (some ad) 5 cs, .slice Ak nk ck, .int .i64 a.step, .slice Ah nh ch, .int .i64 a.status, .int .i64 a.out] 34)).alloc (.cells #[.int .i64 0, .int .i64 0] 93)) (w.heap.size) 34 #[.int .i64 a.p, .int .i64 a.party, .int .i64 a.x, .int .i64 a.mask, .int .i64 a.delta, .slice (some ad) 5 cs, .slice Ak nk ck, .int .i64 a.step, .slice Ah nh ch, .int .i64 a.status, .int .i64 a.out] := ((Blk.new w 34 #[.int .i64 a.p, .int .i64 a.party, .int .i64 a.x, .int .i64 a.mask, .int .i64 a.delta, .slice (some ad) 5 cs, .slice Ak nk ck, .int .i64 a.step, .slice Ah nh ch, .int .i64 a.status, .int .i64 a.out] (g := w.heap.size)).alloc (.cells #[.int .i64 0, .int .i64 0] 93))
 have hR : Blk ((w.alloc (.cells #[.int .i64 a.p, .int .i64 a.party, .int .i64 a.x, .int .i64 a.mask, .int .i64 a.delta, .slice (some ad) 5 cs, .slice Ak nk ck, .int .i64 a.step, .slice Ah nh ch, .int .i64 a.status, .int .i64 a.out] 34)).alloc (.cells #[.int .i64 0, .int .i64 0] 93)) (w.heap.size + 1) 93 #[.int .i64 0, .int .i64 0] := (Blk.new (w.alloc (.cells #[.int .i64 a.p, .int .i64 a.party, .int .i64 a.x, .int .i64 a.mask, .int .i64 a.delta, .slice (some ad) 5 cs, .slice Ak nk ck, .int .i64 a.step, .slice Ah nh ch, .int .i64 a.status, .int .i64 a.out] 34)) 93 #[.int .i64 0, .int .i64 0] (g := w.heap.size + 1))
 obtain ⟨B_l, B_f, B_0, B_1, B_2, B_3, B_4, B_5, B_6, B_7, B_8, B_9, B_10⟩ := hB.l11; obtain ⟨R_l, R_f, R_0, R_1⟩ := hR.l2
 go_enter Tryd.func82, Tryd.ntmps82
 go_wp2_with (go_at_call 106; refine (HF.out _ Bl.a2).mono ?_; rintro e w1 ⟨rfl, hb1⟩; replace hW : Bl w w1 := Bl.a2; replace hB := hB.kp hb1; replace hR := hR.kp hb1; (try clear B_l B_f B_0 B_1 B_2 B_3 B_4 B_5 B_6 B_7 B_8 B_9 B_10 R_l R_f R_0 R_1); obtain ⟨B_l, B_f, B_0, B_1, B_2, B_3, B_4, B_5, B_6, B_7, B_8, B_9, B_10⟩ := hB.l11; obtain ⟨R_l, R_f, R_0, R_1⟩ := hR.l2)
 have hz1 : w.heap.size + 1 < w1.heap.size := R_l
 go_upto_region 2 with fail
 go_cut [5] (fun s5 wx => ∃ gX, s5 = .pointer (some ⟨gX, 0, none⟩) ∧ w1.heap.size ≤ gX ∧ Blk wx gX 93 #[.int .i64 xv, .int .i64 xt] ∧ Bl w1 wx)
 case first =>
  have q8 := hW.cells (Q.out 4 (by omega) (by omega)).1; have q9 := hW.cells (Q.out 4 (by omega) (by omega)).2; have q6 := hW.cells (Q.out 3 (by omega) (by omega)).1; have q7 := hW.cells (Q.out 3 (by omega) (by omega)).2
  refine wp_region_held_drew (S := (fun w' => w'.cell? ⟨w.heap.size, 0, none⟩ = some (.int .i64 a.p) ∧ w'.cell? ⟨w.heap.size, 5, none⟩ = some (.slice (some ad) 5 cs) ∧ w'.cell? ⟨ad.block, ad.off + 8, none⟩ = some (.int .i64 (shv a 4)) ∧ w'.cell? ⟨ad.block, ad.off + 9, none⟩ = some (.int .i64 (sht a 4)) ∧ w'.cell? ⟨ad.block, ad.off + 6, none⟩ = some (.int .i64 (shv a 3)) ∧ w'.cell? ⟨ad.block, ad.off + 7, none⟩ = some (.int .i64 (sht a 3)))) (by kernel_rfl) ?_ (fun hHeld => ?_)
  ·(try dsimp only); exact ⟨B_0, B_5, q8, q9, q6, q7⟩
  have hV : Bl w1 w1.drew := (Bl.refl w1).drew
  generalize w1.drew = v0 at hV hHeld ⊢
  refine tkO 0 11 ?_
  refine tkO 1 12 ?_
  refine tkO 2 13 ?_
  refine tkO 3 14 ?_
  refine tkO 4 15 ?_
  refine tkO 5 16 ?_
  refine tkO 6 17 ?_
  refine tkO 7 18 ?_
  refine tkO 8 19 ?_
  refine tkO 9 20 ?_
  refine tkO 10 21 ?_
  refine wpAnyH_ready (rs := [11, 12]) (by kernel_rfl) (by simp) ?_
  refine AllReadyH.cons rfl (fun K hK => ?_) (AllReadyH.cons rfl (fun K hK => ?_) AllReadyH.nil)
  ·go_simp
   go_at_call 107; refine (HA1.out _).mono ?_; rintro e v11 ⟨rfl, hb11⟩; have hsz11 := hb11.sz; replace hV := hV.call hb11
   go_wp2_with fail
   refine ko hK ?_ fun hHeld => ?_
   ·(try dsimp only); and_intros <;> exact hV.cells (by first | with_reducible assumption | assumption)
   clear hK K
   refine rdy1 12 fun K hK => ?_
   go_simp
   have hX := Blk.new v11 93 #[.int .i64 0, .int .i64 0] (g := v11.heap.size)
   have hgX := hV.sz
   replace hV := hV.alloc (.cells #[.int .i64 0, .int .i64 0] 93)
   generalize v11.alloc (.cells #[.int .i64 0, .int .i64 0] 93) = v12 at hX hV ⊢
   generalize v11.heap.size = gX at hX hgX ⊢
   refine ko hK ?_ fun hHeld => ?_
   ·(try dsimp only); and_intros <;> exact hV.cells (by first | with_reducible assumption | assumption)
   clear hK K
   refine rdy1 13 fun K hK => ?_
   refine wp_store_row 93 _ _ rfl (gX) #[.int .i64 xv, .int .i64 xt] rfl rfl 93 #[.int .i64 0, .int .i64 0] hX (by kernel_rfl) rfl (by first | rfl | simp [Value.oneCell'] | kernel_rfl) ?_; replace hX := Blk.row (cs' := #[.int .i64 xv, .int .i64 xt]) hX; replace hV := hV.row hgX #[.int .i64 xv, .int .i64 xt]; generalize v12.setRow gX #[.int .i64 xv, .int .i64 xt] = v13 at hX hV ⊢
   refine ko hK ?_ fun hHeld => ?_
   ·(try dsimp only); and_intros <;> exact hV.cells (by first | with_reducible assumption | assumption)
   clear hK K
   refine wpAnyH_done (by kernel_rfl) ?_ _
   go_wp2_with fail
   go_meet
   exact ⟨gX, rfl, hgX, hX, hV⟩
  ·go_simp
   have hX := Blk.new v0 93 #[.int .i64 0, .int .i64 0] (g := v0.heap.size)
   have hgX := hV.sz
   replace hV := hV.alloc (.cells #[.int .i64 0, .int .i64 0] 93)
   generalize v0.alloc (.cells #[.int .i64 0, .int .i64 0] 93) = v12 at hX hV ⊢
   generalize v0.heap.size = gX at hX hgX ⊢
   refine ko hK ?_ fun hHeld => ?_
   ·(try dsimp only); and_intros <;> exact hV.cells (by first | with_reducible assumption | assumption)
   clear hK K
   refine rdy1 11 fun K hK => ?_
   go_simp
   go_at_call 107; refine (HA1.out _).mono ?_; rintro e v11 ⟨rfl, hb11⟩; have hsz11 := hb11.sz; replace hX := hX.keep hb11; replace hV := hV.call hb11
   go_wp2_with fail
   refine ko hK ?_ fun hHeld => ?_
   ·(try dsimp only); and_intros <;> exact hV.cells (by first | with_reducible assumption | assumption)
   clear hK K
   refine rdy1 13 fun K hK => ?_
   refine wp_store_row 93 _ _ rfl (gX) #[.int .i64 xv, .int .i64 xt] rfl rfl 93 #[.int .i64 0, .int .i64 0] hX (by kernel_rfl) rfl (by first | rfl | simp [Value.oneCell'] | kernel_rfl) ?_; replace hX := Blk.row (cs' := #[.int .i64 xv, .int .i64 xt]) hX; replace hV := hV.row hgX #[.int .i64 xv, .int .i64 xt]; generalize v11.setRow gX #[.int .i64 xv, .int .i64 xt] = v13 at hX hV ⊢
   refine ko hK ?_ fun hHeld => ?_
   ·(try dsimp only); and_intros <;> exact hV.cells (by first | with_reducible assumption | assumption)
   clear hK K
   refine wpAnyH_done (by kernel_rfl) ?_ _
   go_wp2_with fail
   go_meet
   exact ⟨gX, rfl, hgX, hX, hV⟩
 case rest =>
 obtain ⟨gX, rfl, hgX, hX, hV⟩ := hcut
 replace hW := hW.call hV
 replace hB := hB.keep hV
 replace hR := hR.keep hV
 clear hb1 hV
 (try clear B_l B_f B_0 B_1 B_2 B_3 B_4 B_5 B_6 B_7 B_8 B_9 B_10 R_l R_f R_0 R_1)
 obtain ⟨B_l, B_f, B_0, B_1, B_2, B_3, B_4, B_5, B_6, B_7, B_8, B_9, B_10⟩ := hB.l11; obtain ⟨R_l, R_f, R_0, R_1⟩ := hR.l2
 obtain ⟨X_l, X_f, X_0, X_1⟩ := hX.l2
 have q4 := hW.cells (Q.out 2 (by omega) (by omega)).1; have q5 := hW.cells (Q.out 2 (by omega) (by omega)).2
 go_wp2_with fail
 refine region_F (fun _ => True) (fun w' => w'.cell? ⟨w.heap.size, 0, none⟩ = some (.int .i64 a.p) ∧ w'.cell? ⟨w.heap.size, 5, none⟩ = some (.slice (some ad) 5 cs) ∧ w'.cell? ⟨gX, 0, none⟩ = some (.int .i64 xv) ∧ w'.cell? ⟨gX, 1, none⟩ = some (.int .i64 xt) ∧ w'.cell? ⟨ad.block, ad.off + 4, none⟩ = some (.int .i64 (shv a 2)) ∧ w'.cell? ⟨ad.block, ad.off + 5, none⟩ = some (.int .i64 (sht a 2))) 9 (by kernel_rfl) ?_ (fun hHeld => ?_)
 ·(try dsimp only); exact ⟨trivial, B_0, B_5, X_0, X_1, q4, q5⟩
 refine tC 0 23 [0] ?_ hHeld
 refine tC 1 24 [1] ?_ hHeld
 refine tC 2 25 [2] ?_ hHeld
 refine tC 3 26 [3] ?_ hHeld
 refine tC 4 27 [4] ?_ hHeld
 refine tC 5 28 [5] ?_ hHeld
 refine tC 6 29 [6] ?_ hHeld
 refine tC 7 30 [7] ?_ hHeld
 refine f_step (i := 8) (by kernel_rfl) rfl (fun K hK => ?_)
 go_simp
 go_at_call 107; refine (HA2.out _).mono ?_; rintro e w2 ⟨rfl, hb2⟩; have hX2 := hX.drew.keep hb2
 go_wp2_with fail
 refine ko hK ?_ fun hHeld => ?_
 ·(try dsimp only); exact ⟨trivial, hb2.cells B_0, hb2.cells B_5, hb2.cells X_0, hb2.cells X_1, hb2.cells q4, hb2.cells q5⟩
 clear hK K
 refine f_last (i := 9) (by kernel_rfl) rfl (by simp) (fun K hK => ?_)
 refine wp_store_row 93 _ _ rfl (gX) #[.int .i64 yv, .int .i64 (thT a)] rfl rfl 93 #[.int .i64 xv, .int .i64 xt] hX2 (by kernel_rfl) rfl (by first | rfl | simp [Value.oneCell'] | kernel_rfl) ?_
 refine ko hK ?_ fun hHeld => ?_
 ·exact trivial
 clear hK K
 refine f_done (by kernel_rfl) ?_ _
 have hX3 := Blk.row (cs' := #[.int .i64 yv, .int .i64 (thT a)]) hX2
 have hW3 : Bl w (w2.setRow gX #[.int .i64 yv, .int .i64 (thT a)]) := (hW.drew.call hb2).row (by omega) _
 have hB3 := (hB.drew.keep hb2).farRow (k := gX) (cs' := #[.int .i64 yv, .int .i64 (thT a)]) (by omega)
 have hR3 := (hR.drew.keep hb2).farRow (k := gX) (cs' := #[.int .i64 yv, .int .i64 (thT a)]) (by omega)
 clear hX2 hb2 hX hB hR hW
 generalize w2.setRow gX #[.int .i64 yv, .int .i64 (thT a)] = w4 at hX3 hW3 hB3 hR3 ⊢
 have hX := hX3; have hW := hW3; have hB := hB3; have hR := hR3; clear hX3 hW3 hB3 hR3
 (try clear B_l B_f B_0 B_1 B_2 B_3 B_4 B_5 B_6 B_7 B_8 B_9 B_10 R_l R_f R_0 R_1)
 clear X_l X_f X_0 X_1 q4 q5
 obtain ⟨B_l, B_f, B_0, B_1, B_2, B_3, B_4, B_5, B_6, B_7, B_8, B_9, B_10⟩ := hB.l11; obtain ⟨R_l, R_f, R_0, R_1⟩ := hR.l2
 obtain ⟨X_l, X_f, X_0, X_1⟩ := hX.l2
 go_wp2_with fail
 refine region_F (fun _ => True) (fun w' => w'.cell? ⟨w.heap.size, 0, none⟩ = some (.int .i64 a.p) ∧ w'.cell? ⟨w.heap.size, 1, none⟩ = some (.int .i64 a.party) ∧ w'.cell? ⟨w.heap.size, 2, none⟩ = some (.int .i64 a.x) ∧ w'.cell? ⟨w.heap.size, 3, none⟩ = some (.int .i64 a.mask) ∧ w'.cell? ⟨w.heap.size, 4, none⟩ = some (.int .i64 a.delta) ∧ w'.cell? ⟨w.heap.size, 5, none⟩ = some (.slice (some ad) 5 cs) ∧ w'.cell? ⟨w.heap.size, 6, none⟩ = some (.slice Ak nk ck) ∧ w'.cell? ⟨w.heap.size, 7, none⟩ = some (.int .i64 a.step) ∧ w'.cell? ⟨w.heap.size, 8, none⟩ = some (.slice Ah nh ch) ∧ w'.cell? ⟨w.heap.size, 9, none⟩ = some (.int .i64 a.status) ∧ w'.cell? ⟨w.heap.size, 10, none⟩ = some (.int .i64 a.out) ∧ w'.cell? ⟨gX, 0, none⟩ = some (.int .i64 yv) ∧ w'.cell? ⟨gX, 1, none⟩ = some (.int .i64 (thT a))) 9 (by kernel_rfl) ?_ (fun hHeld => ?_)
 ·(try dsimp only); exact ⟨trivial, B_0, B_1, B_2, B_3, B_4, B_5, B_6, B_7, B_8, B_9, B_10, X_0, X_1⟩
 refine tC 0 32 [0] ?_ hHeld
 refine tC 1 33 [1] ?_ hHeld
 refine tC 2 34 [2] ?_ hHeld
 refine tC 3 35 [3] ?_ hHeld
 refine tC 4 36 [4] ?_ hHeld
 refine tC 5 37 [5] ?_ hHeld
 refine tC 6 38 [6] ?_ hHeld
 refine tC 7 39 [7] ?_ hHeld
 refine f_step (i := 8) (by kernel_rfl) rfl (fun K hK => ?_)
 go_simp
 go_at_call 108; refine (HS.out _).mono ?_; rintro e w3 ⟨rfl, hb3⟩; have hR2 := hR.drew.keep hb3
 go_wp2_with fail
 refine ko hK ?_ fun hHeld => ?_
 ·(try dsimp only); exact ⟨trivial, hb3.cells B_0, hb3.cells B_1, hb3.cells B_2, hb3.cells B_3, hb3.cells B_4, hb3.cells B_5, hb3.cells B_6, hb3.cells B_7, hb3.cells B_8, hb3.cells B_9, hb3.cells B_10, hb3.cells X_0, hb3.cells X_1⟩
 clear hK K
 refine f_last (i := 9) (by kernel_rfl) rfl (by simp) (fun K hK => ?_)
 refine wp_store_row 93 _ _ rfl (w.heap.size + 1) #[.int .i64 (thV a), .int .i64 (thT a)] rfl rfl 93 #[.int .i64 0, .int .i64 0] hR2 (by kernel_rfl) rfl (by first | rfl | simp [Value.oneCell'] | kernel_rfl) ?_
 refine ko hK ?_ fun hHeld => ?_
 ·exact trivial
 clear hK K
 refine f_done (by kernel_rfl) ?_ _
 go_wp2_with fail
 have hbz : Bl w (w3.setRow (w.heap.size + 1) #[.int .i64 (thV a), .int .i64 (thT a)]) := (hW.drew.call hb3).row (by omega) _
 have hR2 : Blk (w3.setRow (w.heap.size + 1) #[.int .i64 (thV a), .int .i64 (thT a)]) (w.heap.size + 1) 93 #[.int .i64 (thV a), .int .i64 (thT a)] := Blk.row hR2
 generalize (w3.setRow (w.heap.size + 1) #[.int .i64 (thV a), .int .i64 (thT a)]) = wz at hbz hR2 ⊢
 have R2_0 := hR2.cell 0 _ rfl
 have R2_1 := hR2.cell 1 _ rfl
 refine bodyPost_ret (v := .agg #[.int .i64 (thV a), .int .i64 (thT a)]) (by simp [results, Tryd.results82, go_sem, R2_0, R2_1]) rfl ⟨rfl, hbz⟩
end Go.Proofs.YtcjpalhclgkjiaaDoor
