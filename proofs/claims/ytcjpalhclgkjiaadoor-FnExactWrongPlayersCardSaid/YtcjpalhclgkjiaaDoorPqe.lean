/- Contracts: the reference's player takes a message.
   Conditions: the player is valid. -/
import Derived.Test.YtcjpalhclgkjiaaDoorPqd
import Derived.Test.YtcjpalhclgkjiaaDoorPim
import Derived.Test.YtcjpalhclgkjiaaDoorPgp
import Derived.Test.YtcjpalhclgkjiaaDoorPgx
namespace Go.Proofs.YtcjpalhclgkjiaaDoor
open Go.RowKit
set_option linter.unusedVariables false
theorem ap_hd_step {ops : Array Oper} {o : Oper} {a : Act} {w : World} {K : Act → World → Prop} {Q : Exit → Act → World → Prop} {E : Prop} (hgd : o.guard = none) {s x : Operand} (ho : o.op = .call { callee := .builtin .append, args := #[s, x], argTypes := #[24, 24] })
  {base n c m d : Nat} {A B : Option Addr} {xs ys : List Value} (hs_ : a.eval s = .slice A n c) (hown : OwnV 23 1 base w A n c xs) (hx : a.eval x = .slice B m d) (hr : Rd w 1 B m d ys) (h1 : ∀ u ∈ ys, u.oneCell' = true)
  (hb : n + m ≤ 3000000) (hbase : base ≤ w.heap.size)
  (h : ∀ A' c' w', OwnV 23 1 base w' A' (n + m) c' (xs ++ ys) → w.grownBy w' (A.map (·.block)) → (A'.map (·.block) = A.map (·.block) ∨ A'.map (·.block) = some w.heap.size) → K (a.put o.dst (.slice A' (n + m) c')) w') : if Region.wanted o (yielded ops a.tmps) = true then Oper.wp Tryd.prog o a w K Q else E := by
 obtain ⟨i0, hi, hz0, hz1, hz2⟩ := info_parts ints_info
 obtain ⟨A', c', w', hrun, h2, h3, h4⟩ := run_append_any (P := Tryd.prog) w base 24 o.type 23 i0 _ 1 24 Tryd.underlying24 hi hz0 hz1 hz2 rfl (by decide)
  (.slice A n c) n xs hown B m d ys hr h1 (by simp only [maxLen]; omega) (by omega) hbase
 rw [ownBlock_slice] at h3 h4
 have hw : Region.wanted o (yielded ops a.tmps) = true := by simp [Region.wanted, hgd]
 rw [if_pos hw]
 unfold Oper.wp execOp
 simp only [ho, resolve, invoke, builtin, Sem.run_bind, Sem.run_pure, Result.andThen_ok, List.map_toArray, List.map_cons, List.map_nil, hs_, hx, hrun]
 exact h A' c' w' h2 h3 h4
theorem own_hd0 (w : World) {g : Nat} (hg : w.heap.size = g := by first | with_reducible rfl | simp) : OwnV 23 1 g (w.alloc (.cells #[] 23)) (some ⟨g, 0, none⟩) 0 0 [] := by
 subst hg
 exact World.ownsRow_made (size := 1) w #[] 0 (Nat.le_refl _) (by simp) (by simp)
theorem hds_one (hs : List Hd) : ∀ u ∈ hs.map Hd.val, u.oneCell' = true := by
 intro u hu
 obtain ⟨x, _, rfl⟩ := List.mem_map.1 hu
 rfl
theorem hd_one1 (x : Hd) : ∀ u ∈ [x.val], u.oneCell' = true := fun u hu => by rw [List.mem_singleton] at hu; subst hu; rfl
theorem spec_ptHolds (a : Pl) (k : Nat) (As Ak Ah : Option Addr) (ns cs nk ck nh ch : Nat) (hs : List Hd) (A : Option Addr) (n c : Nat) (l : List Int) (w : World) (hk : k ≤ 2) (ok : Ok a k) (h : RdP w a As Ak Ah ns cs nk ck nh ch hs) (hb : RdI w A n c l) (hl : l.length = bodyN k) (hr : ∀ y ∈ l, 0 ≤ y ∧ y < a.p) :
  Calls Tryd.prog 81 #[.agg #[.int .i64 a.p, .int .i64 a.party, .int .i64 a.x, .int .i64 a.mask, .int .i64 a.delta, .slice As ns cs, .slice Ak nk ck, .int .i64 a.step, .slice Ah nh ch, .int .i64 a.status, .int .i64 a.out], .slice A n c] w fun e w' => e = .returned (.bool (holdsP a l)) ∧ Bl w w' := by
 obtain rfl | rfl | rfl : k = 0 ∨ k = 1 ∨ k = 2 := by omega
 ·exact spec_holds0 a As Ak Ah ns cs nk ck nh ch hs A n c l w ok h hb hl hr
 ·exact spec_holds1 a As Ak Ah ns cs nk ck nh ch hs A n c l w ok h hb hl hr
 ·exact spec_holds2 a As Ak Ah ns cs nk ck nh ch hs A n c l w ok h hb hl hr
/-- All blocks of a player's slices are of Q. -/
structure InP (Q : Nat → Prop) (As Ak Ah : Option Addr) (hs : List Hd) : Prop where
 s : ∀ k, As.map (·.block) = some k → Q k
 k : ∀ k, Ak.map (·.block) = some k → Q k
 h : ∀ k, Ah.map (·.block) = some k → Q k
 r : ∀ (i : Nat) (x : Hd), hs[i]? = some x → ∀ k, x.blk = some k → Q k
theorem RdSS.snoc {w : World} {A A0 : Option Addr} {n c n0 c0 : Nat} {hs : List Hd} {LL : List (List Int)} {x : Hd} {l : List Int} (h : RdSS w A0 n0 c0 hs LL) (hh : Rd w 1 A n c ((hs ++ [x]).map Hd.val)) (hx : RdI w x.A x.n x.c l) : RdSS w A n c (hs ++ [x]) (LL ++ [l]) := by
 refine ⟨hh, by simp [h.len], fun i y k h1 h2 => ?_⟩
 rcases getElem?_snoc h1 with ⟨h3, h4⟩ | ⟨h3, rfl⟩
 ·rw [List.getElem?_append_left (by rw [← h.len]; exact h4)] at h2
  exact h.row i y k h3 h2
 ·rw [h3, h.len, List.getElem?_append_right (Nat.le_refl _), Nat.sub_self] at h2
  injection h2 with h2
  subst h2
  exact hx
theorem InP.snoc {Q : Nat → Prop} {As Ak Ah Ah' : Option Addr} {hs : List Hd} {x : Hd} (h : InP Q As Ak Ah hs) (h1 : ∀ k, Ah'.map (·.block) = some k → Q k) (h2 : ∀ k, x.blk = some k → Q k) : InP Q As Ak Ah' (hs ++ [x]) :=
 ⟨h.s, h.k, h1, fun i y hy k hk => by
  rcases getElem?_snoc hy with ⟨h3, _⟩ | ⟨_, rfl⟩
  ·exact h.r i y h3 k hk
  ·exact h2 k hk⟩
set_option maxRecDepth 20000 in
set_option maxHeartbeats 20000000 in
theorem spec_ptTake (a : Pl) (m : Ms) (k : Nat) (As Ak Ah : Option Addr) (ns cs nk ck nh ch : Nat) (hs : List Hd) (Am : Option Addr) (nm cm : Nat) (w : World) (hk2 : k ≤ 2) (ok : Ok a k) (h : RdP w a As Ak Ah ns cs nk ck nh ch hs) (hm : RdI w Am nm cm m.b) (hnm : nm ≤ 1000) :
  Calls Tryd.prog 56 #[.agg #[.int .i64 a.p, .int .i64 a.party, .int .i64 a.x, .int .i64 a.mask, .int .i64 a.delta, .slice As ns cs, .slice Ak nk ck, .int .i64 a.step, .slice Ah nh ch, .int .i64 a.status, .int .i64 a.out], .agg #[.int .i64 m.f, .int .i64 m.s, .slice Am nm cm]] w fun e w' => ∃ Ah' nh' ch' hs', e = .returned (.agg #[.int .i64 (takeP a m).p, .int .i64 (takeP a m).party, .int .i64 (takeP a m).x, .int .i64 (takeP a m).mask, .int .i64 (takeP a m).delta, .slice As ns cs, .slice Ak nk ck, .int .i64 (takeP a m).step, .slice Ah' nh' ch', .int .i64 (takeP a m).status, .int .i64 (takeP a m).out]) ∧ RdP w' (takeP a m) As Ak Ah' ns cs nk ck nh' ch' hs' ∧ (∀ Q, InP Q As Ak Ah hs → (∀ k, w.heap.size ≤ k → k < w'.heap.size → Q k) → InP Q As Ak Ah' hs') ∧ Bl w w' := by
 have p2 := ok.p2
 have hst : a.step = k := ok.step
 have HS := Lib.hid hst
 have HS2 := Lib.hid (show a.step.toNat = k by omega)
 have hml := Lib.hid hm.length
 obtain ⟨hm1, hm2⟩ := hm.le
 have hnh : nh ≤ 2 := by have := h.nh_eq ok; omega
 have hpa := ok.party
 have zp : IntKind.i64.wrap (1 - a.party) = 1 - a.party := IntWalk.i64_in _ (by omega)
 have za : IntKind.i64.wrap (a.p - 1) = a.p - 1 := IntWalk.i64_in _ (by omega)
 have zs : IntKind.i64.wrap (a.step + 1) = a.step + 1 := IntWalk.i64_in _ (by omega)
 have z0 : IntKind.i64.wrap 0 = 0 := rfl
 have z1 : IntKind.i64.wrap 1 = 1 := rfl
 have HL := Lib.hid (fun (w' : World) => by have c := spec_ptLength k w' hk2; rw [← hst] at c; exact c)
 have HA := Lib.hid (fun (w' : World) (hb : Bl w w') => spec_l1All Am nm cm m.b 0 (a.p - 1) w' (hm.keep hb))
 clear hst hpa
 have hW : Bl w ((((w.alloc (.cells #[.int .i64 a.p, .int .i64 a.party, .int .i64 a.x, .int .i64 a.mask, .int .i64 a.delta, .slice As ns cs, .slice Ak nk ck, .int .i64 a.step, .slice Ah nh ch, .int .i64 a.status, .int .i64 a.out] 34)).alloc (.cells #[.int .i64 m.f, .int .i64 m.s, .slice Am nm cm] 87)).alloc (.cells #[.int .i64 0, .int .i64 0, .int .i64 0, .int .i64 0, .int .i64 0, .slice none 0 0, .slice none 0 0, .int .i64 0, .slice none 0 0, .int .i64 0, .int .i64 0] 34)).alloc (.cells #[.int .i64 a.p, .int .i64 a.party, .int .i64 a.x, .int .i64 a.mask, .int .i64 a.delta, .slice As ns cs, .slice Ak nk ck, .int .i64 a.step, .slice Ah nh ch, .int .i64 a.status, .int .i64 a.out] 34)) := Bl.a2
 have hB : Blk ((((w.alloc (.cells #[.int .i64 a.p, .int .i64 a.party, .int .i64 a.x, .int .i64 a.mask, .int .i64 a.delta, .slice As ns cs, .slice Ak nk ck, .int .i64 a.step, .slice Ah nh ch, .int .i64 a.status, .int .i64 a.out] 34)).alloc (.cells #[.int .i64 m.f, .int .i64 m.s, .slice Am nm cm] 87)).alloc (.cells #[.int .i64 0, .int .i64 0, .int .i64 0, .int .i64 0, .int .i64 0, .slice none 0 0, .slice none 0 0, .int .i64 0, .slice none 0 0, .int .i64 0, .int .i64 0] 34)).alloc (.cells #[.int .i64 a.p, .int .i64 a.party, .int .i64 a.x, .int .i64 a.mask, .int .i64 a.delta, .slice As ns cs, .slice Ak nk ck, .int .i64 a.step, .slice Ah nh ch, .int .i64 a.status, .int .i64 a.out] 34)) (w.heap.size) 34 #[.int .i64 a.p, .int .i64 a.party, .int .i64 a.x, .int .i64 a.mask, .int .i64 a.delta, .slice As ns cs, .slice Ak nk ck, .int .i64 a.step, .slice Ah nh ch, .int .i64 a.status, .int .i64 a.out] := ((((Blk.new w 34 #[.int .i64 a.p, .int .i64 a.party, .int .i64 a.x, .int .i64 a.mask, .int .i64 a.delta, .slice As ns cs, .slice Ak nk ck, .int .i64 a.step, .slice Ah nh ch, .int .i64 a.status, .int .i64 a.out] (g := w.heap.size)).alloc (.cells #[.int .i64 m.f, .int .i64 m.s, .slice Am nm cm] 87)).alloc (.cells #[.int .i64 0, .int .i64 0, .int .i64 0, .int .i64 0, .int .i64 0, .slice none 0 0, .slice none 0 0, .int .i64 0, .slice none 0 0, .int .i64 0, .int .i64 0] 34)).alloc (.cells #[.int .i64 a.p, .int .i64 a.party, .int .i64 a.x, .int .i64 a.mask, .int .i64 a.delta, .slice As ns cs, .slice Ak nk ck, .int .i64 a.step, .slice Ah nh ch, .int .i64 a.status, .int .i64 a.out] 34))
 have hM : Blk ((((w.alloc (.cells #[.int .i64 a.p, .int .i64 a.party, .int .i64 a.x, .int .i64 a.mask, .int .i64 a.delta, .slice As ns cs, .slice Ak nk ck, .int .i64 a.step, .slice Ah nh ch, .int .i64 a.status, .int .i64 a.out] 34)).alloc (.cells #[.int .i64 m.f, .int .i64 m.s, .slice Am nm cm] 87)).alloc (.cells #[.int .i64 0, .int .i64 0, .int .i64 0, .int .i64 0, .int .i64 0, .slice none 0 0, .slice none 0 0, .int .i64 0, .slice none 0 0, .int .i64 0, .int .i64 0] 34)).alloc (.cells #[.int .i64 a.p, .int .i64 a.party, .int .i64 a.x, .int .i64 a.mask, .int .i64 a.delta, .slice As ns cs, .slice Ak nk ck, .int .i64 a.step, .slice Ah nh ch, .int .i64 a.status, .int .i64 a.out] 34)) (w.heap.size + 1) 87 #[.int .i64 m.f, .int .i64 m.s, .slice Am nm cm] := (((Blk.new (w.alloc (.cells #[.int .i64 a.p, .int .i64 a.party, .int .i64 a.x, .int .i64 a.mask, .int .i64 a.delta, .slice As ns cs, .slice Ak nk ck, .int .i64 a.step, .slice Ah nh ch, .int .i64 a.status, .int .i64 a.out] 34)) 87 #[.int .i64 m.f, .int .i64 m.s, .slice Am nm cm] (g := w.heap.size + 1)).alloc (.cells #[.int .i64 0, .int .i64 0, .int .i64 0, .int .i64 0, .int .i64 0, .slice none 0 0, .slice none 0 0, .int .i64 0, .slice none 0 0, .int .i64 0, .int .i64 0] 34)).alloc (.cells #[.int .i64 a.p, .int .i64 a.party, .int .i64 a.x, .int .i64 a.mask, .int .i64 a.delta, .slice As ns cs, .slice Ak nk ck, .int .i64 a.step, .slice Ah nh ch, .int .i64 a.status, .int .i64 a.out] 34))
 have hR : Blk ((((w.alloc (.cells #[.int .i64 a.p, .int .i64 a.party, .int .i64 a.x, .int .i64 a.mask, .int .i64 a.delta, .slice As ns cs, .slice Ak nk ck, .int .i64 a.step, .slice Ah nh ch, .int .i64 a.status, .int .i64 a.out] 34)).alloc (.cells #[.int .i64 m.f, .int .i64 m.s, .slice Am nm cm] 87)).alloc (.cells #[.int .i64 0, .int .i64 0, .int .i64 0, .int .i64 0, .int .i64 0, .slice none 0 0, .slice none 0 0, .int .i64 0, .slice none 0 0, .int .i64 0, .int .i64 0] 34)).alloc (.cells #[.int .i64 a.p, .int .i64 a.party, .int .i64 a.x, .int .i64 a.mask, .int .i64 a.delta, .slice As ns cs, .slice Ak nk ck, .int .i64 a.step, .slice Ah nh ch, .int .i64 a.status, .int .i64 a.out] 34)) (w.heap.size + 1 + 1) 34 #[.int .i64 0, .int .i64 0, .int .i64 0, .int .i64 0, .int .i64 0, .slice none 0 0, .slice none 0 0, .int .i64 0, .slice none 0 0, .int .i64 0, .int .i64 0] := ((Blk.new ((w.alloc (.cells #[.int .i64 a.p, .int .i64 a.party, .int .i64 a.x, .int .i64 a.mask, .int .i64 a.delta, .slice As ns cs, .slice Ak nk ck, .int .i64 a.step, .slice Ah nh ch, .int .i64 a.status, .int .i64 a.out] 34)).alloc (.cells #[.int .i64 m.f, .int .i64 m.s, .slice Am nm cm] 87)) 34 #[.int .i64 0, .int .i64 0, .int .i64 0, .int .i64 0, .int .i64 0, .slice none 0 0, .slice none 0 0, .int .i64 0, .slice none 0 0, .int .i64 0, .int .i64 0] (g := w.heap.size + 1 + 1)).alloc (.cells #[.int .i64 a.p, .int .i64 a.party, .int .i64 a.x, .int .i64 a.mask, .int .i64 a.delta, .slice As ns cs, .slice Ak nk ck, .int .i64 a.step, .slice Ah nh ch, .int .i64 a.status, .int .i64 a.out] 34))
 have hO : Blk ((((w.alloc (.cells #[.int .i64 a.p, .int .i64 a.party, .int .i64 a.x, .int .i64 a.mask, .int .i64 a.delta, .slice As ns cs, .slice Ak nk ck, .int .i64 a.step, .slice Ah nh ch, .int .i64 a.status, .int .i64 a.out] 34)).alloc (.cells #[.int .i64 m.f, .int .i64 m.s, .slice Am nm cm] 87)).alloc (.cells #[.int .i64 0, .int .i64 0, .int .i64 0, .int .i64 0, .int .i64 0, .slice none 0 0, .slice none 0 0, .int .i64 0, .slice none 0 0, .int .i64 0, .int .i64 0] 34)).alloc (.cells #[.int .i64 a.p, .int .i64 a.party, .int .i64 a.x, .int .i64 a.mask, .int .i64 a.delta, .slice As ns cs, .slice Ak nk ck, .int .i64 a.step, .slice Ah nh ch, .int .i64 a.status, .int .i64 a.out] 34)) (w.heap.size + 1 + 1 + 1) 34 #[.int .i64 a.p, .int .i64 a.party, .int .i64 a.x, .int .i64 a.mask, .int .i64 a.delta, .slice As ns cs, .slice Ak nk ck, .int .i64 a.step, .slice Ah nh ch, .int .i64 a.status, .int .i64 a.out] := (Blk.new (((w.alloc (.cells #[.int .i64 a.p, .int .i64 a.party, .int .i64 a.x, .int .i64 a.mask, .int .i64 a.delta, .slice As ns cs, .slice Ak nk ck, .int .i64 a.step, .slice Ah nh ch, .int .i64 a.status, .int .i64 a.out] 34)).alloc (.cells #[.int .i64 m.f, .int .i64 m.s, .slice Am nm cm] 87)).alloc (.cells #[.int .i64 0, .int .i64 0, .int .i64 0, .int .i64 0, .int .i64 0, .slice none 0 0, .slice none 0 0, .int .i64 0, .slice none 0 0, .int .i64 0, .int .i64 0] 34)) 34 #[.int .i64 a.p, .int .i64 a.party, .int .i64 a.x, .int .i64 a.mask, .int .i64 a.delta, .slice As ns cs, .slice Ak nk ck, .int .i64 a.step, .slice Ah nh ch, .int .i64 a.status, .int .i64 a.out] (g := w.heap.size + 1 + 1 + 1))
 go_enter Tryd.func56, Tryd.ntmps56
 go_upto_region 2 with fail
 generalize ((((w.alloc (.cells #[.int .i64 a.p, .int .i64 a.party, .int .i64 a.x, .int .i64 a.mask, .int .i64 a.delta, .slice As ns cs, .slice Ak nk ck, .int .i64 a.step, .slice Ah nh ch, .int .i64 a.status, .int .i64 a.out] 34)).alloc (.cells #[.int .i64 m.f, .int .i64 m.s, .slice Am nm cm] 87)).alloc (.cells #[.int .i64 0, .int .i64 0, .int .i64 0, .int .i64 0, .int .i64 0, .slice none 0 0, .slice none 0 0, .int .i64 0, .slice none 0 0, .int .i64 0, .int .i64 0] 34)).alloc (.cells #[.int .i64 a.p, .int .i64 a.party, .int .i64 a.x, .int .i64 a.mask, .int .i64 a.delta, .slice As ns cs, .slice Ak nk ck, .int .i64 a.step, .slice Ah nh ch, .int .i64 a.status, .int .i64 a.out] 34)) = w0 at hW hB hM hR hO ⊢
 obtain ⟨B_l, B_f, B_0, B_1, B_2, B_3, B_4, B_5, B_6, B_7, B_8, B_9, B_10⟩ := hB.l11; obtain ⟨M_l, M_f, M_0, M_1, M_2⟩ := hM.l3; have R_l := hR.lt; have R_f := hR.frozen; have O_l := hO.lt; have O_f := hO.frozen
 go_cut [44] (fun s44 wx => s44 = .bool (!accP a m) ∧ Bl w wx ∧ Blk wx (w.heap.size) 34 #[.int .i64 a.p, .int .i64 a.party, .int .i64 a.x, .int .i64 a.mask, .int .i64 a.delta, .slice As ns cs, .slice Ak nk ck, .int .i64 a.step, .slice Ah nh ch, .int .i64 a.status, .int .i64 a.out] ∧ Blk wx (w.heap.size + 1) 87 #[.int .i64 m.f, .int .i64 m.s, .slice Am nm cm] ∧ Blk wx (w.heap.size + 1 + 1) 34 #[.int .i64 0, .int .i64 0, .int .i64 0, .int .i64 0, .int .i64 0, .slice none 0 0, .slice none 0 0, .int .i64 0, .slice none 0 0, .int .i64 0, .int .i64 0] ∧ Blk wx (w.heap.size + 1 + 1 + 1) 34 #[.int .i64 a.p, .int .i64 a.party, .int .i64 a.x, .int .i64 a.mask, .int .i64 a.delta, .slice As ns cs, .slice Ak nk ck, .int .i64 a.step, .slice Ah nh ch, .int .i64 a.status, .int .i64 a.out])
 case first =>
  rcases e1 : (m.f == 1 - a.party)
  ·have j1 := bn_f e1
   have k1 := nq_f e1
   have HR := Lib.hid (show accP a m = false by unfold accP shapeP; rw [e1]; rfl)
   refine wp_region_held_drew (S := (fun w' => w'.cell? ⟨w.heap.size, 0, none⟩ = some (.int .i64 a.p) ∧ w'.cell? ⟨w.heap.size, 1, none⟩ = some (.int .i64 a.party) ∧ w'.cell? ⟨w.heap.size, 2, none⟩ = some (.int .i64 a.x) ∧ w'.cell? ⟨w.heap.size, 3, none⟩ = some (.int .i64 a.mask) ∧ w'.cell? ⟨w.heap.size, 4, none⟩ = some (.int .i64 a.delta) ∧ w'.cell? ⟨w.heap.size, 5, none⟩ = some (.slice As ns cs) ∧ w'.cell? ⟨w.heap.size, 6, none⟩ = some (.slice Ak nk ck) ∧ w'.cell? ⟨w.heap.size, 7, none⟩ = some (.int .i64 a.step) ∧ w'.cell? ⟨w.heap.size, 8, none⟩ = some (.slice Ah nh ch) ∧ w'.cell? ⟨w.heap.size, 9, none⟩ = some (.int .i64 a.status) ∧ w'.cell? ⟨w.heap.size, 10, none⟩ = some (.int .i64 a.out) ∧ w'.cell? ⟨w.heap.size + 1, 0, none⟩ = some (.int .i64 m.f) ∧ w'.cell? ⟨w.heap.size + 1, 1, none⟩ = some (.int .i64 m.s) ∧ w'.cell? ⟨w.heap.size + 1, 2, none⟩ = some (.slice Am nm cm))) (by kernel_rfl) ?_ (fun hHeld => ?_)
   ·(try dsimp only); first | exact ⟨B_0, B_1, B_2, B_3, B_4, B_5, B_6, B_7, B_8, B_9, B_10, M_0, M_1, M_2⟩ | go_keep
   refine tkO 0 7 ?_
   refine tkO 1 8 ?_
   refine tkO 2 9 ?_
   refine tkO 3 10 ?_
   refine tkO 4 11 ?_
   refine tkO 5 12 ?_
   refine tkO 6 13 ?_
   refine tkz 7 14 ?_
   refine tkz 8 15 ?_
   refine tkz 9 16 ?_
   refine tkz 10 17 ?_
   refine tkz 11 18 ?_
   refine tkO 12 19 ?_
   refine tkO 13 20 ?_
   refine tkz 14 21 ?_
   refine tkz 15 22 ?_
   refine tkz 16 23 ?_
   refine tkz 17 24 ?_
   refine tkz 18 25 ?_
   refine tkz 19 26 ?_
   refine tkz 20 27 ?_
   refine tkO 21 28 ?_
   refine tkO 22 29 ?_
   refine tkz 23 30 ?_
   refine tkz 24 31 ?_
   refine tkz 25 32 ?_
   refine tkz 26 33 ?_
   refine tkz 27 34 ?_
   refine tkz 28 35 ?_
   refine tkz 29 36 ?_
   refine tkO 30 37 ?_
   refine tkO 31 38 ?_
   refine tkz 32 39 ?_
   refine tkz 33 40 ?_
   refine tkz 34 41 ?_
   refine tkz 35 42 ?_
   refine tkz 36 43 ?_
   refine tkO 37 44 ?_
   refine wpAnyH_done (by kernel_rfl) ?_ _
   go_wp2_with fail
   go_meet
   exact ⟨by rw [HR.out]; rfl, hW.drew, hB.drew, hM.drew, hR.drew, hO.drew⟩
  have j1 := bn_t e1
  have k1 := nq_t e1
  rcases e2 : (m.s == a.step)
  ·have j2 := bn_f e2
   have k2 := nq_f e2
   have HR := Lib.hid (show accP a m = false by unfold accP shapeP; rw [e1, e2]; rfl)
   clear k1
   refine wp_region_held_drew (S := (fun w' => w'.cell? ⟨w.heap.size, 0, none⟩ = some (.int .i64 a.p) ∧ w'.cell? ⟨w.heap.size, 1, none⟩ = some (.int .i64 a.party) ∧ w'.cell? ⟨w.heap.size, 2, none⟩ = some (.int .i64 a.x) ∧ w'.cell? ⟨w.heap.size, 3, none⟩ = some (.int .i64 a.mask) ∧ w'.cell? ⟨w.heap.size, 4, none⟩ = some (.int .i64 a.delta) ∧ w'.cell? ⟨w.heap.size, 5, none⟩ = some (.slice As ns cs) ∧ w'.cell? ⟨w.heap.size, 6, none⟩ = some (.slice Ak nk ck) ∧ w'.cell? ⟨w.heap.size, 7, none⟩ = some (.int .i64 a.step) ∧ w'.cell? ⟨w.heap.size, 8, none⟩ = some (.slice Ah nh ch) ∧ w'.cell? ⟨w.heap.size, 9, none⟩ = some (.int .i64 a.status) ∧ w'.cell? ⟨w.heap.size, 10, none⟩ = some (.int .i64 a.out) ∧ w'.cell? ⟨w.heap.size + 1, 0, none⟩ = some (.int .i64 m.f) ∧ w'.cell? ⟨w.heap.size + 1, 1, none⟩ = some (.int .i64 m.s) ∧ w'.cell? ⟨w.heap.size + 1, 2, none⟩ = some (.slice Am nm cm))) (by kernel_rfl) ?_ (fun hHeld => ?_)
   ·(try dsimp only); first | exact ⟨B_0, B_1, B_2, B_3, B_4, B_5, B_6, B_7, B_8, B_9, B_10, M_0, M_1, M_2⟩ | go_keep
   refine tkO 0 7 ?_
   refine tkO 1 8 ?_
   refine tkO 2 9 ?_
   refine tkO 3 10 ?_
   refine tkO 4 11 ?_
   refine tkO 5 12 ?_
   refine tkO 6 13 ?_
   refine tkO 7 14 ?_
   refine tkO 8 15 ?_
   refine tkO 9 16 ?_
   refine tkO 10 17 ?_
   refine tkO 11 18 ?_
   refine tkO 12 19 ?_
   refine tkO 13 20 ?_
   refine tkz 14 21 ?_
   refine tkz 15 22 ?_
   refine tkz 16 23 ?_
   refine tkz 17 24 ?_
   refine tkz 18 25 ?_
   refine tkz 19 26 ?_
   refine tkz 20 27 ?_
   refine tkO 21 28 ?_
   refine tkO 22 29 ?_
   refine tkz 23 30 ?_
   refine tkz 24 31 ?_
   refine tkz 25 32 ?_
   refine tkz 26 33 ?_
   refine tkz 27 34 ?_
   refine tkz 28 35 ?_
   refine tkz 29 36 ?_
   refine tkO 30 37 ?_
   refine tkO 31 38 ?_
   refine tkz 32 39 ?_
   refine tkz 33 40 ?_
   refine tkz 34 41 ?_
   refine tkz 35 42 ?_
   refine tkz 36 43 ?_
   refine tkO 37 44 ?_
   refine wpAnyH_done (by kernel_rfl) ?_ _
   go_wp2_with fail
   go_meet
   exact ⟨by rw [HR.out]; rfl, hW.drew, hB.drew, hM.drew, hR.drew, hO.drew⟩
  have j2 := bn_t e2
  have k2 := nq_t e2
  rcases e3 : decide (m.b.length = bodyN k)
  ·have e3' : ((nm : Int) == (bodyN k : Int)) = false := by
    have q := of_decide_eq_false e3
    have q2 := hml.out
    simp only [beq_eq_false_iff_ne]; omega
   have j3 := bn_f e3'
   have k3 := nq_f e3'
   have HR := Lib.hid (show accP a m = false by unfold accP shapeP; rw [e1, e2, HS2.out, e3]; rfl)
   clear k1 k2 e3
   refine wp_region_held_drew (S := (fun w' => w'.cell? ⟨w.heap.size, 0, none⟩ = some (.int .i64 a.p) ∧ w'.cell? ⟨w.heap.size, 1, none⟩ = some (.int .i64 a.party) ∧ w'.cell? ⟨w.heap.size, 2, none⟩ = some (.int .i64 a.x) ∧ w'.cell? ⟨w.heap.size, 3, none⟩ = some (.int .i64 a.mask) ∧ w'.cell? ⟨w.heap.size, 4, none⟩ = some (.int .i64 a.delta) ∧ w'.cell? ⟨w.heap.size, 5, none⟩ = some (.slice As ns cs) ∧ w'.cell? ⟨w.heap.size, 6, none⟩ = some (.slice Ak nk ck) ∧ w'.cell? ⟨w.heap.size, 7, none⟩ = some (.int .i64 a.step) ∧ w'.cell? ⟨w.heap.size, 8, none⟩ = some (.slice Ah nh ch) ∧ w'.cell? ⟨w.heap.size, 9, none⟩ = some (.int .i64 a.status) ∧ w'.cell? ⟨w.heap.size, 10, none⟩ = some (.int .i64 a.out) ∧ w'.cell? ⟨w.heap.size + 1, 0, none⟩ = some (.int .i64 m.f) ∧ w'.cell? ⟨w.heap.size + 1, 1, none⟩ = some (.int .i64 m.s) ∧ w'.cell? ⟨w.heap.size + 1, 2, none⟩ = some (.slice Am nm cm))) (by kernel_rfl) ?_ (fun hHeld => ?_)
   ·(try dsimp only); first | exact ⟨B_0, B_1, B_2, B_3, B_4, B_5, B_6, B_7, B_8, B_9, B_10, M_0, M_1, M_2⟩ | go_keep
   refine tkO 0 7 ?_
   refine tkO 1 8 ?_
   refine tkO 2 9 ?_
   refine tkO 3 10 ?_
   refine tkO 4 11 ?_
   refine tkO 5 12 ?_
   refine tkO 6 13 ?_
   refine tkO 7 14 ?_
   refine tkO 8 15 ?_
   refine tkO 9 16 ?_
   refine tkO 10 17 ?_
   refine tkO 11 18 ?_
   refine tkO 12 19 ?_
   refine tkO 13 20 ?_
   refine tkO 14 21 ?_
   refine tkO 15 22 ?_
   refine tkO 16 23 ?_
   refine tkO 17 24 ?_
   refine tkO 18 25 ?_
   refine rdy1 19 fun K hK => ?_
   go_simp
   (first | (go_at_call 79; refine (HL.out _).mono ?_; rintro e w1 ⟨rfl, hb1⟩; replace hW : Bl w w1 := Bl.a2; replace hB := hB.kp hb1; replace hM := hM.kp hb1; replace hR := hR.kp hb1; replace hO := hO.kp hb1; (try clear B_l B_f B_0 B_1 B_2 B_3 B_4 B_5 B_6 B_7 B_8 B_9 B_10 M_l M_f M_0 M_1 M_2 R_l R_f  O_l O_f ); obtain ⟨B_l, B_f, B_0, B_1, B_2, B_3, B_4, B_5, B_6, B_7, B_8, B_9, B_10⟩ := hB.l11; obtain ⟨M_l, M_f, M_0, M_1, M_2⟩ := hM.l3; have R_l := hR.lt; have R_f := hR.frozen; have O_l := hO.lt; have O_f := hO.frozen) | (go_at_call 80; refine (HA.out _ hW).mono ?_; rintro e w1 ⟨rfl, rfl⟩; rw [e4]) | (go_at_call 81; refine (HH.out _ hW).mono ?_; rintro e w1 ⟨rfl, hb1⟩; rw [e5]; replace hW : Bl w w1 := Bl.a2; replace hB := hB.kp hb1; replace hM := hM.kp hb1; replace hR := hR.kp hb1; replace hO := hO.kp hb1; (try clear B_l B_f B_0 B_1 B_2 B_3 B_4 B_5 B_6 B_7 B_8 B_9 B_10 M_l M_f M_0 M_1 M_2 R_l R_f  O_l O_f ); obtain ⟨B_l, B_f, B_0, B_1, B_2, B_3, B_4, B_5, B_6, B_7, B_8, B_9, B_10⟩ := hB.l11; obtain ⟨M_l, M_f, M_0, M_1, M_2⟩ := hM.l3; have R_l := hR.lt; have R_f := hR.frozen; have O_l := hO.lt; have O_f := hO.frozen))
   go_wp2_with fail
   refine ko hK ?_ fun hHeld => ?_
   ·(try dsimp only); first | exact ⟨B_0, B_1, B_2, B_3, B_4, B_5, B_6, B_7, B_8, B_9, B_10, M_0, M_1, M_2⟩ | go_keep
   clear hK K
   refine tkO 20 27 ?_
   refine tkO 21 28 ?_
   refine tkO 22 29 ?_
   refine tkz 23 30 ?_
   refine tkz 24 31 ?_
   refine tkz 25 32 ?_
   refine tkz 26 33 ?_
   refine tkz 27 34 ?_
   refine tkz 28 35 ?_
   refine tkz 29 36 ?_
   refine tkO 30 37 ?_
   refine tkO 31 38 ?_
   refine tkz 32 39 ?_
   refine tkz 33 40 ?_
   refine tkz 34 41 ?_
   refine tkz 35 42 ?_
   refine tkz 36 43 ?_
   refine tkO 37 44 ?_
   refine wpAnyH_done (by kernel_rfl) ?_ _
   go_wp2_with fail
   go_meet
   exact ⟨by rw [HR.out]; rfl, hW, hB, hM, hR, hO⟩
  have e3' : ((nm : Int) == (bodyN k : Int)) = true := by
   have q := of_decide_eq_true e3
   have q2 := hml.out
   simp only [beq_iff_eq]; omega
  have j3 := bn_t e3'
  have k3 := nq_t e3'
  rcases e4 : allR m.b 0 (a.p - 1)
  ·have HR := Lib.hid (show accP a m = false by unfold accP shapeP; rw [e1, e2, HS2.out, e3, e4]; rfl)
   clear k1 k2 k3 e3
   refine wp_region_held_drew (S := (fun w' => w'.cell? ⟨w.heap.size, 0, none⟩ = some (.int .i64 a.p) ∧ w'.cell? ⟨w.heap.size, 1, none⟩ = some (.int .i64 a.party) ∧ w'.cell? ⟨w.heap.size, 2, none⟩ = some (.int .i64 a.x) ∧ w'.cell? ⟨w.heap.size, 3, none⟩ = some (.int .i64 a.mask) ∧ w'.cell? ⟨w.heap.size, 4, none⟩ = some (.int .i64 a.delta) ∧ w'.cell? ⟨w.heap.size, 5, none⟩ = some (.slice As ns cs) ∧ w'.cell? ⟨w.heap.size, 6, none⟩ = some (.slice Ak nk ck) ∧ w'.cell? ⟨w.heap.size, 7, none⟩ = some (.int .i64 a.step) ∧ w'.cell? ⟨w.heap.size, 8, none⟩ = some (.slice Ah nh ch) ∧ w'.cell? ⟨w.heap.size, 9, none⟩ = some (.int .i64 a.status) ∧ w'.cell? ⟨w.heap.size, 10, none⟩ = some (.int .i64 a.out) ∧ w'.cell? ⟨w.heap.size + 1, 0, none⟩ = some (.int .i64 m.f) ∧ w'.cell? ⟨w.heap.size + 1, 1, none⟩ = some (.int .i64 m.s) ∧ w'.cell? ⟨w.heap.size + 1, 2, none⟩ = some (.slice Am nm cm))) (by kernel_rfl) ?_ (fun hHeld => ?_)
   ·(try dsimp only); first | exact ⟨B_0, B_1, B_2, B_3, B_4, B_5, B_6, B_7, B_8, B_9, B_10, M_0, M_1, M_2⟩ | go_keep
   refine tkO 0 7 ?_
   refine tkO 1 8 ?_
   refine tkO 2 9 ?_
   refine tkO 3 10 ?_
   refine tkO 4 11 ?_
   refine tkO 5 12 ?_
   refine tkO 6 13 ?_
   refine tkO 7 14 ?_
   refine tkO 8 15 ?_
   refine tkO 9 16 ?_
   refine tkO 10 17 ?_
   refine tkO 11 18 ?_
   refine tkO 12 19 ?_
   refine tkO 13 20 ?_
   refine tkO 14 21 ?_
   refine tkO 15 22 ?_
   refine tkO 16 23 ?_
   refine tkO 17 24 ?_
   refine tkO 18 25 ?_
   refine rdy1 19 fun K hK => ?_
   go_simp
   (first | (go_at_call 79; refine (HL.out _).mono ?_; rintro e w1 ⟨rfl, hb1⟩; replace hW : Bl w w1 := Bl.a2; replace hB := hB.kp hb1; replace hM := hM.kp hb1; replace hR := hR.kp hb1; replace hO := hO.kp hb1; (try clear B_l B_f B_0 B_1 B_2 B_3 B_4 B_5 B_6 B_7 B_8 B_9 B_10 M_l M_f M_0 M_1 M_2 R_l R_f  O_l O_f ); obtain ⟨B_l, B_f, B_0, B_1, B_2, B_3, B_4, B_5, B_6, B_7, B_8, B_9, B_10⟩ := hB.l11; obtain ⟨M_l, M_f, M_0, M_1, M_2⟩ := hM.l3; have R_l := hR.lt; have R_f := hR.frozen; have O_l := hO.lt; have O_f := hO.frozen) | (go_at_call 80; refine (HA.out _ hW).mono ?_; rintro e w1 ⟨rfl, rfl⟩; rw [e4]) | (go_at_call 81; refine (HH.out _ hW).mono ?_; rintro e w1 ⟨rfl, hb1⟩; rw [e5]; replace hW : Bl w w1 := Bl.a2; replace hB := hB.kp hb1; replace hM := hM.kp hb1; replace hR := hR.kp hb1; replace hO := hO.kp hb1; (try clear B_l B_f B_0 B_1 B_2 B_3 B_4 B_5 B_6 B_7 B_8 B_9 B_10 M_l M_f M_0 M_1 M_2 R_l R_f  O_l O_f ); obtain ⟨B_l, B_f, B_0, B_1, B_2, B_3, B_4, B_5, B_6, B_7, B_8, B_9, B_10⟩ := hB.l11; obtain ⟨M_l, M_f, M_0, M_1, M_2⟩ := hM.l3; have R_l := hR.lt; have R_f := hR.frozen; have O_l := hO.lt; have O_f := hO.frozen))
   go_wp2_with fail
   refine ko hK ?_ fun hHeld => ?_
   ·(try dsimp only); first | exact ⟨B_0, B_1, B_2, B_3, B_4, B_5, B_6, B_7, B_8, B_9, B_10, M_0, M_1, M_2⟩ | go_keep
   clear hK K
   refine tkO 20 27 ?_
   refine tkO 21 28 ?_
   refine tkO 22 29 ?_
   refine tkO 23 30 ?_
   refine tkO 24 31 ?_
   refine tkO 25 32 ?_
   refine tkO 26 33 ?_
   refine tkO 27 34 ?_
   refine rdy1 28 fun K hK => ?_
   go_simp
   (first | (go_at_call 79; refine (HL.out _).mono ?_; rintro e w1 ⟨rfl, hb1⟩; replace hW : Bl w w1 := Bl.a2; replace hB := hB.kp hb1; replace hM := hM.kp hb1; replace hR := hR.kp hb1; replace hO := hO.kp hb1; (try clear B_l B_f B_0 B_1 B_2 B_3 B_4 B_5 B_6 B_7 B_8 B_9 B_10 M_l M_f M_0 M_1 M_2 R_l R_f  O_l O_f ); obtain ⟨B_l, B_f, B_0, B_1, B_2, B_3, B_4, B_5, B_6, B_7, B_8, B_9, B_10⟩ := hB.l11; obtain ⟨M_l, M_f, M_0, M_1, M_2⟩ := hM.l3; have R_l := hR.lt; have R_f := hR.frozen; have O_l := hO.lt; have O_f := hO.frozen) | (go_at_call 80; refine (HA.out _ hW).mono ?_; rintro e w1 ⟨rfl, rfl⟩; rw [e4]) | (go_at_call 81; refine (HH.out _ hW).mono ?_; rintro e w1 ⟨rfl, hb1⟩; rw [e5]; replace hW : Bl w w1 := Bl.a2; replace hB := hB.kp hb1; replace hM := hM.kp hb1; replace hR := hR.kp hb1; replace hO := hO.kp hb1; (try clear B_l B_f B_0 B_1 B_2 B_3 B_4 B_5 B_6 B_7 B_8 B_9 B_10 M_l M_f M_0 M_1 M_2 R_l R_f  O_l O_f ); obtain ⟨B_l, B_f, B_0, B_1, B_2, B_3, B_4, B_5, B_6, B_7, B_8, B_9, B_10⟩ := hB.l11; obtain ⟨M_l, M_f, M_0, M_1, M_2⟩ := hM.l3; have R_l := hR.lt; have R_f := hR.frozen; have O_l := hO.lt; have O_f := hO.frozen))
   go_wp2_with fail
   refine ko hK ?_ fun hHeld => ?_
   ·(try dsimp only); first | exact ⟨B_0, B_1, B_2, B_3, B_4, B_5, B_6, B_7, B_8, B_9, B_10, M_0, M_1, M_2⟩ | go_keep
   clear hK K
   refine tkO 29 36 ?_
   refine tkO 30 37 ?_
   refine tkO 31 38 ?_
   refine tkz 32 39 ?_
   refine tkz 33 40 ?_
   refine tkz 34 41 ?_
   refine tkz 35 42 ?_
   refine tkz 36 43 ?_
   refine tkO 37 44 ?_
   refine wpAnyH_done (by kernel_rfl) ?_ _
   go_wp2_with fail
   go_meet
   exact ⟨by rw [HR.out]; rfl, hW, hB, hM, hR, hO⟩
  have HH := Lib.hid (fun (w' : World) (hb' : Bl w w') => spec_ptHolds a k As Ak Ah ns cs nk ck nh ch hs Am nm cm m.b w' hk2 ok (h.keep hb') (hm.keep hb') (of_decide_eq_true e3) (fun y hy => by have := allR_mem e4 hy; omega))
  have E3 := Lib.hid e3
  clear k1 k2 k3 e3
  rcases e5 : holdsP a m.b
  ·have HR := Lib.hid (show accP a m = false by unfold accP; rw [e5, Bool.and_false])
   refine wp_region_held_drew (S := (fun w' => w'.cell? ⟨w.heap.size, 0, none⟩ = some (.int .i64 a.p) ∧ w'.cell? ⟨w.heap.size, 1, none⟩ = some (.int .i64 a.party) ∧ w'.cell? ⟨w.heap.size, 2, none⟩ = some (.int .i64 a.x) ∧ w'.cell? ⟨w.heap.size, 3, none⟩ = some (.int .i64 a.mask) ∧ w'.cell? ⟨w.heap.size, 4, none⟩ = some (.int .i64 a.delta) ∧ w'.cell? ⟨w.heap.size, 5, none⟩ = some (.slice As ns cs) ∧ w'.cell? ⟨w.heap.size, 6, none⟩ = some (.slice Ak nk ck) ∧ w'.cell? ⟨w.heap.size, 7, none⟩ = some (.int .i64 a.step) ∧ w'.cell? ⟨w.heap.size, 8, none⟩ = some (.slice Ah nh ch) ∧ w'.cell? ⟨w.heap.size, 9, none⟩ = some (.int .i64 a.status) ∧ w'.cell? ⟨w.heap.size, 10, none⟩ = some (.int .i64 a.out) ∧ w'.cell? ⟨w.heap.size + 1, 0, none⟩ = some (.int .i64 m.f) ∧ w'.cell? ⟨w.heap.size + 1, 1, none⟩ = some (.int .i64 m.s) ∧ w'.cell? ⟨w.heap.size + 1, 2, none⟩ = some (.slice Am nm cm))) (by kernel_rfl) ?_ (fun hHeld => ?_)
   ·(try dsimp only); first | exact ⟨B_0, B_1, B_2, B_3, B_4, B_5, B_6, B_7, B_8, B_9, B_10, M_0, M_1, M_2⟩ | go_keep
   refine tkO 0 7 ?_
   refine tkO 1 8 ?_
   refine tkO 2 9 ?_
   refine tkO 3 10 ?_
   refine tkO 4 11 ?_
   refine tkO 5 12 ?_
   refine tkO 6 13 ?_
   refine tkO 7 14 ?_
   refine tkO 8 15 ?_
   refine tkO 9 16 ?_
   refine tkO 10 17 ?_
   refine tkO 11 18 ?_
   refine tkO 12 19 ?_
   refine tkO 13 20 ?_
   refine tkO 14 21 ?_
   refine tkO 15 22 ?_
   refine tkO 16 23 ?_
   refine tkO 17 24 ?_
   refine tkO 18 25 ?_
   refine rdy1 19 fun K hK => ?_
   go_simp
   (first | (go_at_call 79; refine (HL.out _).mono ?_; rintro e w1 ⟨rfl, hb1⟩; replace hW : Bl w w1 := Bl.a2; replace hB := hB.kp hb1; replace hM := hM.kp hb1; replace hR := hR.kp hb1; replace hO := hO.kp hb1; (try clear B_l B_f B_0 B_1 B_2 B_3 B_4 B_5 B_6 B_7 B_8 B_9 B_10 M_l M_f M_0 M_1 M_2 R_l R_f  O_l O_f ); obtain ⟨B_l, B_f, B_0, B_1, B_2, B_3, B_4, B_5, B_6, B_7, B_8, B_9, B_10⟩ := hB.l11; obtain ⟨M_l, M_f, M_0, M_1, M_2⟩ := hM.l3; have R_l := hR.lt; have R_f := hR.frozen; have O_l := hO.lt; have O_f := hO.frozen) | (go_at_call 80; refine (HA.out _ hW).mono ?_; rintro e w1 ⟨rfl, rfl⟩; rw [e4]) | (go_at_call 81; refine (HH.out _ hW).mono ?_; rintro e w1 ⟨rfl, hb1⟩; rw [e5]; replace hW : Bl w w1 := Bl.a2; replace hB := hB.kp hb1; replace hM := hM.kp hb1; replace hR := hR.kp hb1; replace hO := hO.kp hb1; (try clear B_l B_f B_0 B_1 B_2 B_3 B_4 B_5 B_6 B_7 B_8 B_9 B_10 M_l M_f M_0 M_1 M_2 R_l R_f  O_l O_f ); obtain ⟨B_l, B_f, B_0, B_1, B_2, B_3, B_4, B_5, B_6, B_7, B_8, B_9, B_10⟩ := hB.l11; obtain ⟨M_l, M_f, M_0, M_1, M_2⟩ := hM.l3; have R_l := hR.lt; have R_f := hR.frozen; have O_l := hO.lt; have O_f := hO.frozen))
   go_wp2_with fail
   refine ko hK ?_ fun hHeld => ?_
   ·(try dsimp only); first | exact ⟨B_0, B_1, B_2, B_3, B_4, B_5, B_6, B_7, B_8, B_9, B_10, M_0, M_1, M_2⟩ | go_keep
   clear hK K
   refine tkO 20 27 ?_
   refine tkO 21 28 ?_
   refine tkO 22 29 ?_
   refine tkO 23 30 ?_
   refine tkO 24 31 ?_
   refine tkO 25 32 ?_
   refine tkO 26 33 ?_
   refine tkO 27 34 ?_
   refine rdy1 28 fun K hK => ?_
   go_simp
   (first | (go_at_call 79; refine (HL.out _).mono ?_; rintro e w1 ⟨rfl, hb1⟩; replace hW : Bl w w1 := Bl.a2; replace hB := hB.kp hb1; replace hM := hM.kp hb1; replace hR := hR.kp hb1; replace hO := hO.kp hb1; (try clear B_l B_f B_0 B_1 B_2 B_3 B_4 B_5 B_6 B_7 B_8 B_9 B_10 M_l M_f M_0 M_1 M_2 R_l R_f  O_l O_f ); obtain ⟨B_l, B_f, B_0, B_1, B_2, B_3, B_4, B_5, B_6, B_7, B_8, B_9, B_10⟩ := hB.l11; obtain ⟨M_l, M_f, M_0, M_1, M_2⟩ := hM.l3; have R_l := hR.lt; have R_f := hR.frozen; have O_l := hO.lt; have O_f := hO.frozen) | (go_at_call 80; refine (HA.out _ hW).mono ?_; rintro e w1 ⟨rfl, rfl⟩; rw [e4]) | (go_at_call 81; refine (HH.out _ hW).mono ?_; rintro e w1 ⟨rfl, hb1⟩; rw [e5]; replace hW : Bl w w1 := Bl.a2; replace hB := hB.kp hb1; replace hM := hM.kp hb1; replace hR := hR.kp hb1; replace hO := hO.kp hb1; (try clear B_l B_f B_0 B_1 B_2 B_3 B_4 B_5 B_6 B_7 B_8 B_9 B_10 M_l M_f M_0 M_1 M_2 R_l R_f  O_l O_f ); obtain ⟨B_l, B_f, B_0, B_1, B_2, B_3, B_4, B_5, B_6, B_7, B_8, B_9, B_10⟩ := hB.l11; obtain ⟨M_l, M_f, M_0, M_1, M_2⟩ := hM.l3; have R_l := hR.lt; have R_f := hR.frozen; have O_l := hO.lt; have O_f := hO.frozen))
   go_wp2_with fail
   refine ko hK ?_ fun hHeld => ?_
   ·(try dsimp only); first | exact ⟨B_0, B_1, B_2, B_3, B_4, B_5, B_6, B_7, B_8, B_9, B_10, M_0, M_1, M_2⟩ | go_keep
   clear hK K
   refine tkO 29 36 ?_
   refine tkO 30 37 ?_
   refine tkO 31 38 ?_
   refine tkO 32 39 ?_
   refine tkO 33 40 ?_
   refine tkO 34 41 ?_
   refine rdy1 35 fun K hK => ?_
   go_simp
   (first | (go_at_call 79; refine (HL.out _).mono ?_; rintro e w1 ⟨rfl, hb1⟩; replace hW : Bl w w1 := Bl.a2; replace hB := hB.kp hb1; replace hM := hM.kp hb1; replace hR := hR.kp hb1; replace hO := hO.kp hb1; (try clear B_l B_f B_0 B_1 B_2 B_3 B_4 B_5 B_6 B_7 B_8 B_9 B_10 M_l M_f M_0 M_1 M_2 R_l R_f  O_l O_f ); obtain ⟨B_l, B_f, B_0, B_1, B_2, B_3, B_4, B_5, B_6, B_7, B_8, B_9, B_10⟩ := hB.l11; obtain ⟨M_l, M_f, M_0, M_1, M_2⟩ := hM.l3; have R_l := hR.lt; have R_f := hR.frozen; have O_l := hO.lt; have O_f := hO.frozen) | (go_at_call 80; refine (HA.out _ hW).mono ?_; rintro e w1 ⟨rfl, rfl⟩; rw [e4]) | (go_at_call 81; refine (HH.out _ hW).mono ?_; rintro e w1 ⟨rfl, hb1⟩; rw [e5]; replace hW : Bl w w1 := Bl.a2; replace hB := hB.kp hb1; replace hM := hM.kp hb1; replace hR := hR.kp hb1; replace hO := hO.kp hb1; (try clear B_l B_f B_0 B_1 B_2 B_3 B_4 B_5 B_6 B_7 B_8 B_9 B_10 M_l M_f M_0 M_1 M_2 R_l R_f  O_l O_f ); obtain ⟨B_l, B_f, B_0, B_1, B_2, B_3, B_4, B_5, B_6, B_7, B_8, B_9, B_10⟩ := hB.l11; obtain ⟨M_l, M_f, M_0, M_1, M_2⟩ := hM.l3; have R_l := hR.lt; have R_f := hR.frozen; have O_l := hO.lt; have O_f := hO.frozen))
   go_wp2_with fail
   refine ko hK ?_ fun hHeld => ?_
   ·(try dsimp only); first | exact ⟨B_0, B_1, B_2, B_3, B_4, B_5, B_6, B_7, B_8, B_9, B_10, M_0, M_1, M_2⟩ | go_keep
   clear hK K
   refine tkO 36 43 ?_
   refine tkO 37 44 ?_
   refine wpAnyH_done (by kernel_rfl) ?_ _
   go_wp2_with fail
   go_meet
   exact ⟨by rw [HR.out]; rfl, hW, hB, hM, hR, hO⟩
  have HR := Lib.hid (show accP a m = true by unfold accP shapeP; rw [e1, e2, HS2.out, E3.out, e4, e5]; rfl)
  refine wp_region_held_drew (S := (fun w' => w'.cell? ⟨w.heap.size, 0, none⟩ = some (.int .i64 a.p) ∧ w'.cell? ⟨w.heap.size, 1, none⟩ = some (.int .i64 a.party) ∧ w'.cell? ⟨w.heap.size, 2, none⟩ = some (.int .i64 a.x) ∧ w'.cell? ⟨w.heap.size, 3, none⟩ = some (.int .i64 a.mask) ∧ w'.cell? ⟨w.heap.size, 4, none⟩ = some (.int .i64 a.delta) ∧ w'.cell? ⟨w.heap.size, 5, none⟩ = some (.slice As ns cs) ∧ w'.cell? ⟨w.heap.size, 6, none⟩ = some (.slice Ak nk ck) ∧ w'.cell? ⟨w.heap.size, 7, none⟩ = some (.int .i64 a.step) ∧ w'.cell? ⟨w.heap.size, 8, none⟩ = some (.slice Ah nh ch) ∧ w'.cell? ⟨w.heap.size, 9, none⟩ = some (.int .i64 a.status) ∧ w'.cell? ⟨w.heap.size, 10, none⟩ = some (.int .i64 a.out) ∧ w'.cell? ⟨w.heap.size + 1, 0, none⟩ = some (.int .i64 m.f) ∧ w'.cell? ⟨w.heap.size + 1, 1, none⟩ = some (.int .i64 m.s) ∧ w'.cell? ⟨w.heap.size + 1, 2, none⟩ = some (.slice Am nm cm))) (by kernel_rfl) ?_ (fun hHeld => ?_)
  ·(try dsimp only); first | exact ⟨B_0, B_1, B_2, B_3, B_4, B_5, B_6, B_7, B_8, B_9, B_10, M_0, M_1, M_2⟩ | go_keep
  refine tkO 0 7 ?_
  refine tkO 1 8 ?_
  refine tkO 2 9 ?_
  refine tkO 3 10 ?_
  refine tkO 4 11 ?_
  refine tkO 5 12 ?_
  refine tkO 6 13 ?_
  refine tkO 7 14 ?_
  refine tkO 8 15 ?_
  refine tkO 9 16 ?_
  refine tkO 10 17 ?_
  refine tkO 11 18 ?_
  refine tkO 12 19 ?_
  refine tkO 13 20 ?_
  refine tkO 14 21 ?_
  refine tkO 15 22 ?_
  refine tkO 16 23 ?_
  refine tkO 17 24 ?_
  refine tkO 18 25 ?_
  refine rdy1 19 fun K hK => ?_
  go_simp
  (first | (go_at_call 79; refine (HL.out _).mono ?_; rintro e w1 ⟨rfl, hb1⟩; replace hW : Bl w w1 := Bl.a2; replace hB := hB.kp hb1; replace hM := hM.kp hb1; replace hR := hR.kp hb1; replace hO := hO.kp hb1; (try clear B_l B_f B_0 B_1 B_2 B_3 B_4 B_5 B_6 B_7 B_8 B_9 B_10 M_l M_f M_0 M_1 M_2 R_l R_f  O_l O_f ); obtain ⟨B_l, B_f, B_0, B_1, B_2, B_3, B_4, B_5, B_6, B_7, B_8, B_9, B_10⟩ := hB.l11; obtain ⟨M_l, M_f, M_0, M_1, M_2⟩ := hM.l3; have R_l := hR.lt; have R_f := hR.frozen; have O_l := hO.lt; have O_f := hO.frozen) | (go_at_call 80; refine (HA.out _ hW).mono ?_; rintro e w1 ⟨rfl, rfl⟩; rw [e4]) | (go_at_call 81; refine (HH.out _ hW).mono ?_; rintro e w1 ⟨rfl, hb1⟩; rw [e5]; replace hW : Bl w w1 := Bl.a2; replace hB := hB.kp hb1; replace hM := hM.kp hb1; replace hR := hR.kp hb1; replace hO := hO.kp hb1; (try clear B_l B_f B_0 B_1 B_2 B_3 B_4 B_5 B_6 B_7 B_8 B_9 B_10 M_l M_f M_0 M_1 M_2 R_l R_f  O_l O_f ); obtain ⟨B_l, B_f, B_0, B_1, B_2, B_3, B_4, B_5, B_6, B_7, B_8, B_9, B_10⟩ := hB.l11; obtain ⟨M_l, M_f, M_0, M_1, M_2⟩ := hM.l3; have R_l := hR.lt; have R_f := hR.frozen; have O_l := hO.lt; have O_f := hO.frozen))
  go_wp2_with fail
  refine ko hK ?_ fun hHeld => ?_
  ·(try dsimp only); first | exact ⟨B_0, B_1, B_2, B_3, B_4, B_5, B_6, B_7, B_8, B_9, B_10, M_0, M_1, M_2⟩ | go_keep
  clear hK K
  refine tkO 20 27 ?_
  refine tkO 21 28 ?_
  refine tkO 22 29 ?_
  refine tkO 23 30 ?_
  refine tkO 24 31 ?_
  refine tkO 25 32 ?_
  refine tkO 26 33 ?_
  refine tkO 27 34 ?_
  refine rdy1 28 fun K hK => ?_
  go_simp
  (first | (go_at_call 79; refine (HL.out _).mono ?_; rintro e w1 ⟨rfl, hb1⟩; replace hW : Bl w w1 := Bl.a2; replace hB := hB.kp hb1; replace hM := hM.kp hb1; replace hR := hR.kp hb1; replace hO := hO.kp hb1; (try clear B_l B_f B_0 B_1 B_2 B_3 B_4 B_5 B_6 B_7 B_8 B_9 B_10 M_l M_f M_0 M_1 M_2 R_l R_f  O_l O_f ); obtain ⟨B_l, B_f, B_0, B_1, B_2, B_3, B_4, B_5, B_6, B_7, B_8, B_9, B_10⟩ := hB.l11; obtain ⟨M_l, M_f, M_0, M_1, M_2⟩ := hM.l3; have R_l := hR.lt; have R_f := hR.frozen; have O_l := hO.lt; have O_f := hO.frozen) | (go_at_call 80; refine (HA.out _ hW).mono ?_; rintro e w1 ⟨rfl, rfl⟩; rw [e4]) | (go_at_call 81; refine (HH.out _ hW).mono ?_; rintro e w1 ⟨rfl, hb1⟩; rw [e5]; replace hW : Bl w w1 := Bl.a2; replace hB := hB.kp hb1; replace hM := hM.kp hb1; replace hR := hR.kp hb1; replace hO := hO.kp hb1; (try clear B_l B_f B_0 B_1 B_2 B_3 B_4 B_5 B_6 B_7 B_8 B_9 B_10 M_l M_f M_0 M_1 M_2 R_l R_f  O_l O_f ); obtain ⟨B_l, B_f, B_0, B_1, B_2, B_3, B_4, B_5, B_6, B_7, B_8, B_9, B_10⟩ := hB.l11; obtain ⟨M_l, M_f, M_0, M_1, M_2⟩ := hM.l3; have R_l := hR.lt; have R_f := hR.frozen; have O_l := hO.lt; have O_f := hO.frozen))
  go_wp2_with fail
  refine ko hK ?_ fun hHeld => ?_
  ·(try dsimp only); first | exact ⟨B_0, B_1, B_2, B_3, B_4, B_5, B_6, B_7, B_8, B_9, B_10, M_0, M_1, M_2⟩ | go_keep
  clear hK K
  refine tkO 29 36 ?_
  refine tkO 30 37 ?_
  refine tkO 31 38 ?_
  refine tkO 32 39 ?_
  refine tkO 33 40 ?_
  refine tkO 34 41 ?_
  refine rdy1 35 fun K hK => ?_
  go_simp
  (first | (go_at_call 79; refine (HL.out _).mono ?_; rintro e w1 ⟨rfl, hb1⟩; replace hW : Bl w w1 := Bl.a2; replace hB := hB.kp hb1; replace hM := hM.kp hb1; replace hR := hR.kp hb1; replace hO := hO.kp hb1; (try clear B_l B_f B_0 B_1 B_2 B_3 B_4 B_5 B_6 B_7 B_8 B_9 B_10 M_l M_f M_0 M_1 M_2 R_l R_f  O_l O_f ); obtain ⟨B_l, B_f, B_0, B_1, B_2, B_3, B_4, B_5, B_6, B_7, B_8, B_9, B_10⟩ := hB.l11; obtain ⟨M_l, M_f, M_0, M_1, M_2⟩ := hM.l3; have R_l := hR.lt; have R_f := hR.frozen; have O_l := hO.lt; have O_f := hO.frozen) | (go_at_call 80; refine (HA.out _ hW).mono ?_; rintro e w1 ⟨rfl, rfl⟩; rw [e4]) | (go_at_call 81; refine (HH.out _ hW).mono ?_; rintro e w1 ⟨rfl, hb1⟩; rw [e5]; replace hW : Bl w w1 := Bl.a2; replace hB := hB.kp hb1; replace hM := hM.kp hb1; replace hR := hR.kp hb1; replace hO := hO.kp hb1; (try clear B_l B_f B_0 B_1 B_2 B_3 B_4 B_5 B_6 B_7 B_8 B_9 B_10 M_l M_f M_0 M_1 M_2 R_l R_f  O_l O_f ); obtain ⟨B_l, B_f, B_0, B_1, B_2, B_3, B_4, B_5, B_6, B_7, B_8, B_9, B_10⟩ := hB.l11; obtain ⟨M_l, M_f, M_0, M_1, M_2⟩ := hM.l3; have R_l := hR.lt; have R_f := hR.frozen; have O_l := hO.lt; have O_f := hO.frozen))
  go_wp2_with fail
  refine ko hK ?_ fun hHeld => ?_
  ·(try dsimp only); first | exact ⟨B_0, B_1, B_2, B_3, B_4, B_5, B_6, B_7, B_8, B_9, B_10, M_0, M_1, M_2⟩ | go_keep
  clear hK K
  refine tkO 36 43 ?_
  refine tkO 37 44 ?_
  refine wpAnyH_done (by kernel_rfl) ?_ _
  go_wp2_with fail
  go_meet
  exact ⟨by rw [HR.out]; rfl, hW, hB, hM, hR, hO⟩
 case rest =>
 obtain ⟨rfl, hWc, hBc, hMc, hRc, hOc⟩ := hcut
 (try clear B_l B_f B_0 B_1 B_2 B_3 B_4 B_5 B_6 B_7 B_8 B_9 B_10 M_l M_f M_0 M_1 M_2 R_l R_f  O_l O_f )
 clear hW hB hM hR hO
 have hW := hWc; have hB := hBc; have hM := hMc; have hR := hRc; have hO := hOc
 clear hWc hBc hMc hRc hOc
 rcases e : accP a m
 ·have HR := Lib.hid e
  clear e
  obtain ⟨B_l, B_f, B_0, B_1, B_2, B_3, B_4, B_5, B_6, B_7, B_8, B_9, B_10⟩ := hB.l11; obtain ⟨M_l, M_f, M_0, M_1, M_2⟩ := hM.l3; have R_l := hR.lt; have R_f := hR.frozen; have O_l := hO.lt; have O_f := hO.frozen
  obtain ⟨O_l, O_f, O_0, O_1, O_2, O_3, O_4, O_5, O_6, O_7, O_8, O_9, O_10⟩ := hO.l11
  obtain ⟨R_l, R_f, R_0, R_1, R_2, R_3, R_4, R_5, R_6, R_7, R_8, R_9, R_10⟩ := hR.l11
  go_wp2_with fail
  have hRz : Blk (wc.setCell ⟨w.heap.size + 1 + 1 + 1, 9, none⟩ (.int .i64 2)) (w.heap.size + 1 + 1) 34 #[.int .i64 0, .int .i64 0, .int .i64 0, .int .i64 0, .int .i64 0, .slice none 0 0, .slice none 0 0, .int .i64 0, .slice none 0 0, .int .i64 0, .int .i64 0] := hR.far (by dsimp only; omega) _
  have hWz : Bl w (wc.setCell ⟨w.heap.size + 1 + 1 + 1, 9, none⟩ (.int .i64 2)) := hW.setCell (by dsimp only; omega) _
  have hR3 : Blk (((((((((((((wc.setCell ⟨w.heap.size + 1 + 1 + 1, 9, none⟩ (.int .i64 2)).setCell ⟨w.heap.size + 1 + 1, 0, none⟩ (.int .i64 a.p)).setCell ⟨w.heap.size + 1 + 1, 1, none⟩ (.int .i64 a.party)).setCell ⟨w.heap.size + 1 + 1, 2, none⟩ (.int .i64 a.x)).setCell ⟨w.heap.size + 1 + 1, 3, none⟩ (.int .i64 a.mask)).setCell ⟨w.heap.size + 1 + 1, 4, none⟩ (.int .i64 a.delta)).setCell ⟨w.heap.size + 1 + 1, 5, none⟩ (.slice As ns cs)).setCell ⟨w.heap.size + 1 + 1, 6, none⟩ (.slice Ak nk ck)).setCell ⟨w.heap.size + 1 + 1, 7, none⟩ (.int .i64 a.step)).setCell ⟨w.heap.size + 1 + 1, 8, none⟩ (.slice Ah nh ch)).setCell ⟨w.heap.size + 1 + 1, 9, none⟩ (.int .i64 2)).setCell ⟨w.heap.size + 1 + 1, 10, none⟩ (.int .i64 a.out))) (w.heap.size + 1 + 1) 34 #[.int .i64 a.p, .int .i64 a.party, .int .i64 a.x, .int .i64 a.mask, .int .i64 a.delta, .slice As ns cs, .slice Ak nk ck, .int .i64 a.step, .slice Ah nh ch, .int .i64 2, .int .i64 a.out] := put11_blk hRz (.int .i64 a.p) (.int .i64 a.party) (.int .i64 a.x) (.int .i64 a.mask) (.int .i64 a.delta) (.slice As ns cs) (.slice Ak nk ck) (.int .i64 a.step) (.slice Ah nh ch) (.int .i64 2) (.int .i64 a.out)
  have hg4 : World.grownBy (wc.setCell ⟨w.heap.size + 1 + 1 + 1, 9, none⟩ (.int .i64 2)) (((((((((((((wc.setCell ⟨w.heap.size + 1 + 1 + 1, 9, none⟩ (.int .i64 2)).setCell ⟨w.heap.size + 1 + 1, 0, none⟩ (.int .i64 a.p)).setCell ⟨w.heap.size + 1 + 1, 1, none⟩ (.int .i64 a.party)).setCell ⟨w.heap.size + 1 + 1, 2, none⟩ (.int .i64 a.x)).setCell ⟨w.heap.size + 1 + 1, 3, none⟩ (.int .i64 a.mask)).setCell ⟨w.heap.size + 1 + 1, 4, none⟩ (.int .i64 a.delta)).setCell ⟨w.heap.size + 1 + 1, 5, none⟩ (.slice As ns cs)).setCell ⟨w.heap.size + 1 + 1, 6, none⟩ (.slice Ak nk ck)).setCell ⟨w.heap.size + 1 + 1, 7, none⟩ (.int .i64 a.step)).setCell ⟨w.heap.size + 1 + 1, 8, none⟩ (.slice Ah nh ch)).setCell ⟨w.heap.size + 1 + 1, 9, none⟩ (.int .i64 2)).setCell ⟨w.heap.size + 1 + 1, 10, none⟩ (.int .i64 a.out))) (some (w.heap.size + 1 + 1)) := put11_grown _ _ (.int .i64 a.p) (.int .i64 a.party) (.int .i64 a.x) (.int .i64 a.mask) (.int .i64 a.delta) (.slice As ns cs) (.slice Ak nk ck) (.int .i64 a.step) (.slice Ah nh ch) (.int .i64 2) (.int .i64 a.out)
  have hW4 := hWz.grown hg4 (fun k h => by injection h with h; omega)
  generalize ((((((((((((wc.setCell ⟨w.heap.size + 1 + 1 + 1, 9, none⟩ (.int .i64 2)).setCell ⟨w.heap.size + 1 + 1, 0, none⟩ (.int .i64 a.p)).setCell ⟨w.heap.size + 1 + 1, 1, none⟩ (.int .i64 a.party)).setCell ⟨w.heap.size + 1 + 1, 2, none⟩ (.int .i64 a.x)).setCell ⟨w.heap.size + 1 + 1, 3, none⟩ (.int .i64 a.mask)).setCell ⟨w.heap.size + 1 + 1, 4, none⟩ (.int .i64 a.delta)).setCell ⟨w.heap.size + 1 + 1, 5, none⟩ (.slice As ns cs)).setCell ⟨w.heap.size + 1 + 1, 6, none⟩ (.slice Ak nk ck)).setCell ⟨w.heap.size + 1 + 1, 7, none⟩ (.int .i64 a.step)).setCell ⟨w.heap.size + 1 + 1, 8, none⟩ (.slice Ah nh ch)).setCell ⟨w.heap.size + 1 + 1, 9, none⟩ (.int .i64 2)).setCell ⟨w.heap.size + 1 + 1, 10, none⟩ (.int .i64 a.out)) = wy at hW4 hR3 ⊢
  have R3_0 := hR3.cell 0 _ rfl; have R3_1 := hR3.cell 1 _ rfl; have R3_2 := hR3.cell 2 _ rfl; have R3_3 := hR3.cell 3 _ rfl; have R3_4 := hR3.cell 4 _ rfl; have R3_5 := hR3.cell 5 _ rfl; have R3_6 := hR3.cell 6 _ rfl; have R3_7 := hR3.cell 7 _ rfl; have R3_8 := hR3.cell 8 _ rfl; have R3_9 := hR3.cell 9 _ rfl; have R3_10 := hR3.cell 10 _ rfl
  refine bodyPost_ret (v := .agg #[.int .i64 a.p, .int .i64 a.party, .int .i64 a.x, .int .i64 a.mask, .int .i64 a.delta, .slice As ns cs, .slice Ak nk ck, .int .i64 a.step, .slice Ah nh ch, .int .i64 2, .int .i64 a.out]) (by simp [results, Tryd.results56, go_sem, R3_0, R3_1, R3_2, R3_3, R3_4, R3_5, R3_6, R3_7, R3_8, R3_9, R3_10]) rfl ?_
  rw [take_n HR.out]
  exact ⟨Ah, nh, ch, hs, rfl, ⟨(h.keep hW4).sh, (h.keep hW4).ks, (h.keep hW4).hd⟩, fun Q q _ => q, hW4⟩
 ·have HR := Lib.hid e
  have hsh : m.b.length = bodyN k := by
   simp only [accP, Bool.and_eq_true] at e
   exact (shape_facts e.1 HS.out).2.2.1
  have HB := Lib.hid hsh
  have hbr := Lib.hid (show ∀ y ∈ m.b, 0 ≤ y ∧ y < a.p by
   simp only [accP, Bool.and_eq_true] at e
   exact (shape_facts e.1 HS.out).2.2.2)
  clear e hsh
  obtain ⟨B_l, B_f, B_0, B_1, B_2, B_3, B_4, B_5, B_6, B_7, B_8, B_9, B_10⟩ := hB.l11; obtain ⟨M_l, M_f, M_0, M_1, M_2⟩ := hM.l3; have R_l := hR.lt; have R_f := hR.frozen; have O_l := hO.lt; have O_f := hO.frozen
  go_wp2_with fail
  generalize wc = w0 at hW hB hM hR hO B_l B_f M_l M_f B_0 B_1 B_2 B_3 B_4 B_5 B_6 B_7 B_8 B_9 B_10 M_0 M_1 M_2 ⊢
  go_cut [] (fun wx => ∃ A c A9 c9 v, wx = v.setCell ⟨w.heap.size + 1 + 1 + 1, 8, none⟩ (.slice A (nh + 1) c) ∧ OwnV 23 1 w0.heap.size v A (nh + 1) c (hs.map Hd.val ++ [Hd.val ⟨A9, nm, c9⟩]) ∧ OwnI w0.heap.size v A9 nm c9 m.b ∧ Bl w0 v)
  case first =>
   refine wp_region_held_drew (S := (fun w' => w'.cell? ⟨w.heap.size, 8, none⟩ = some (.slice Ah nh ch) ∧ w'.cell? ⟨w.heap.size + 1, 2, none⟩ = some (.slice Am nm cm))) (by kernel_rfl) ?_ (fun hHeld => ?_)
   ·(try dsimp only); exact ⟨B_8, M_2⟩
   have hV : Bl w0 w0.drew := (Bl.refl w0).drew
   generalize w0.drew = vi at hV hHeld ⊢
   refine tkO 1 48 ?_
   refine tkO 2 49 ?_
   refine tkO 4 51 ?_
   refine tkO 5 52 ?_
   refine rdy1 0 fun K hK => ?_
   go_simp
   have oA : OwnV 23 1 w0.heap.size (vi.alloc (.cells #[] 23)) (some ⟨vi.heap.size, 0, none⟩) 0 0 [] := OwnV.mono (own_hd0 vi) hV.sz
   replace hV := hV.alloc (.cells #[] 23)
   generalize vi.alloc (.cells #[] 23) = v0 at oA hV ⊢
   generalize vi.heap.size = gA at oA ⊢
   refine ko hK ?_ fun hHeld => ?_
   ·(try dsimp only); exact ⟨hV.cells B_8, hV.cells M_2⟩
   clear hK K
   refine rdy1 3 fun K hK => ?_
   refine ap_hd_step rfl rfl rfl oA rfl (h.hd.hd.keep (hW.call hV)) (hds_one _) (by omega) (by have := hV.sz; omega) ?_; intro A3 c3 v3 oA3 hg3 hat3; rw [Nat.zero_add] at oA3 ⊢; rw [List.nil_append] at oA3; have hbA := fun k q => (OwnV.blk oA k q).1; have hzA := fun k q => (OwnV.blk oA k q).2; have hzb := hg3.size; replace hV := hV.grown hg3 hbA; clear oA hbA hzA; have oA := oA3; clear oA3 hat3 hg3
   refine ko hK ?_ fun hHeld => ?_
   ·(try dsimp only); exact ⟨hV.cells B_8, hV.cells M_2⟩
   clear hK K
   refine rdy1 6 fun K hK => ?_
   go_simp
   go_at_call 77; refine (spec_l1Own Am nm cm m.b _ (hm.keep (hW.call hV)) (by omega)).mono ?_; rintro e v6 ⟨A9, c9, rfl, o9, hb6⟩; have hzv := hV.sz; have hz6 := hb6.sz; have n9A : ∀ k, A9.map (·.block) = some k → A3.map (·.block) ≠ some k := fun k q1 q2 => (by have a1 := (o9.blk k q1).1; have a2 := (OwnV.blk oA k q2).2; omega); replace oA := OwnV.keep oA hb6; replace o9 := o9.mono (base' := w0.heap.size) hzv; replace hV := hV.call hb6; clear hb6
   go_wp2_with fail
   refine ko hK ?_ fun hHeld => ?_
   ·(try dsimp only); exact ⟨hV.cells B_8, hV.cells M_2⟩
   clear hK K
   refine rdy1 7 fun K hK => ?_
   go_simp
   have r7 := rd_hd1 v6 ⟨A9, nm, c9⟩ (g := v6.heap.size)
   have hg7 : v6.heap.size < (v6.alloc (.cells #[.slice A9 nm c9] 23)).heap.size := by simp
   have n7A : ∀ k, A3.map (·.block) = some k → k ≠ v6.heap.size := fun k q1 q2 => (by have a1 := (OwnV.blk oA k q1).2; omega)
   replace oA := OwnV.keep oA ((Bl.refl _).alloc (.cells #[.slice A9 nm c9] 23))
   replace o9 := o9.alloc (.cells #[.slice A9 nm c9] 23)
   replace hV := hV.alloc (.cells #[.slice A9 nm c9] 23)
   generalize v6.alloc (.cells #[.slice A9 nm c9] 23) = v7 at r7 hg7 hV o9 oA ⊢
   generalize v6.heap.size = g7 at r7 hg7 n7A ⊢
   refine ko hK ?_ fun hHeld => ?_
   ·(try dsimp only); exact ⟨hV.cells B_8, hV.cells M_2⟩
   clear hK K
   refine rdy1 8 fun K hK => ?_
   refine ap_hd_step rfl rfl rfl oA rfl (r7) (hd_one1 ⟨A9, nm, c9⟩) (by omega) (by have := hV.sz; omega) ?_; intro A8 c8 v8 oA8 hg8 hat8; have hbA := fun k q => (OwnV.blk oA k q).1; have hzA := fun k q => (OwnV.blk oA k q).2; have hzb := hg8.size; have n9B : ∀ k, A9.map (·.block) = some k → A8.map (·.block) ≠ some k := fun k q1 q2 => (by rcases hat8 with e | e; (exact n9A k q1 (e ▸ q2)); (have a1 := (o9.blk k q1).2; rw [e] at q2; injection q2 with q2; omega)); replace o9 := o9.grownR hg8 n9A; clear n9A; have n9A := n9B; clear n9B; replace hV := hV.grown hg8 hbA; clear oA hbA hzA; have oA := oA8; clear oA8 hat8 hg8
   refine ko hK ?_ fun hHeld => ?_
   ·(try dsimp only); exact ⟨hV.cells B_8, hV.cells M_2⟩
   clear hK K
   refine tkO 9 56 ?_
   refine rdy1 10 fun K hK => ?_
   have hOv := hO.keep hV; have hBv := hB.keep hV; have hMv := hM.keep hV; have O_l := hOv.lt; have O_f := hOv.frozen; have O_8 := hOv.cell 8 _ rfl; go_simp; clear hB hM; have hB := hBv; have hM := hMv; clear hBv hMv
   refine ko hK ?_ fun hHeld => ?_
   ·(try dsimp only); exact ⟨(hB.far (by dsimp only; omega) _).cell 8 _ rfl, (hM.far (by dsimp only; omega) _).cell 2 _ rfl⟩
   clear hK K
   refine wpAnyH_done (by kernel_rfl) ?_ _
   go_wp2_with fail
   go_meet
   exact ⟨A8, c8, A9, c9, v8, rfl, oA, o9, hV⟩
  case rest =>
  obtain ⟨A8, c8, A9, c9, v8, rfl, oA, o9, hV⟩ := hcut
  (try clear B_l B_f B_0 B_1 B_2 B_3 B_4 B_5 B_6 B_7 B_8 B_9 B_10 M_l M_f M_0 M_1 M_2 R_l R_f  O_l O_f )
  have hzw := hW.sz
  have hOl := hO.lt
  obtain ⟨PZ, hPZ⟩ : ∃ P : Nat → Prop, P = (fun k => k = w.heap.size + 1 + 1 + 1 ∨ k = w.heap.size + 1 + 1) := ⟨_, rfl⟩
  have pO : PZ (w.heap.size + 1 + 1 + 1) := by rw [hPZ]; exact .inl rfl
  have pR4 : ∀ k, some (w.heap.size + 1 + 1) = some k → PZ k ∨ v8.heap.size ≤ k := fun k e => by injection e with e; subst e; left; rw [hPZ]; exact .inr rfl
  have nP : ∀ k, w0.heap.size ≤ k → ¬ PZ k := fun k hk => by rw [hPZ]; intro e; rcases e with e | e <;> omega
  have nA8 : ∀ k, A8.map (·.block) = some k → ¬ PZ k := fun k e => nP k (OwnV.blk oA k e).1
  have nA9 : ∀ k, A9.map (·.block) = some k → ¬ PZ k := fun k e => nP k (o9.blk k e).1
  have HI := Lib.hid (fun (Q : Nat → Prop) (N : Nat) (hN : v8.heap.size ≤ N) (q : InP Q As Ak Ah hs) (hq : ∀ k, w.heap.size ≤ k → k < N → Q k) => q.snoc (Ah' := A8) (x := ⟨A9, nm, c9⟩) (fun k e => hq k (by have := (OwnV.blk oA k e).1; omega) (by have := (OwnV.blk oA k e).2; omega)) (fun k e => hq k (by have := (o9.blk k e).1; omega) (by have := (o9.blk k e).2; omega)))
  have HRD := Lib.hid (fun (wx : World) (hb : Bl w wx) (hg : Gp PZ v8 wx) => (⟨(h.keep hb).sh, (h.keep hb).ks, RdSS.snoc (h.keep hb).hd (by rw [List.map_append]; exact (Rd.of_own (OwnV.gp oA hg nA8))) (OwnI.gp o9 hg nA9).rd⟩ : RdP wx { a with hd := a.hd ++ [m.b] } As Ak A8 ns cs nk ck (nh + 1) c8 (hs ++ [⟨A9, nm, c9⟩])))
  have hGz : Gp PZ v8 (v8.setCell ⟨w.heap.size + 1 + 1 + 1, 8, none⟩ (.slice A8 (nh + 1) c8)) := (Gp.refl PZ v8).grown (grownBy_setCell _ _ _ _) (fun k e => .inl (by injection e with e; exact e ▸ pO))
  have hWz : Bl w (v8.setCell ⟨w.heap.size + 1 + 1 + 1, 8, none⟩ (.slice A8 (nh + 1) c8)) := (hW.call hV).setCell (by dsimp only; omega) _
  have hBz := (hB.keep hV).far (p := ⟨w.heap.size + 1 + 1 + 1, 8, none⟩) (by dsimp only; omega) (.slice A8 (nh + 1) c8)
  have hMz := (hM.keep hV).far (p := ⟨w.heap.size + 1 + 1 + 1, 8, none⟩) (by dsimp only; omega) (.slice A8 (nh + 1) c8)
  have hRz := (hR.keep hV).far (p := ⟨w.heap.size + 1 + 1 + 1, 8, none⟩) (by dsimp only; omega) (.slice A8 (nh + 1) c8)
  have hOz : Blk (v8.setCell ⟨w.heap.size + 1 + 1 + 1, 8, none⟩ (.slice A8 (nh + 1) c8)) (w.heap.size + 1 + 1 + 1) 34 #[.int .i64 a.p, .int .i64 a.party, .int .i64 a.x, .int .i64 a.mask, .int .i64 a.delta, .slice As ns cs, .slice Ak nk ck, .int .i64 a.step, .slice A8 (nh + 1) c8, .int .i64 a.status, .int .i64 a.out] := (hO.keep hV).set_ 8 _
  clear hW hB hM hR hO oA o9 hV nA8 nA9 nP hOl
  generalize v8.setCell ⟨w.heap.size + 1 + 1 + 1, 8, none⟩ (.slice A8 (nh + 1) c8) = wz at hGz hWz hBz hMz hRz hOz ⊢
  have hW := hWz; have hB := hBz; have hM := hMz; have hR := hRz; have hO := hOz; have hG := hGz
  clear hWz hBz hMz hRz hOz hGz
  by_cases h2 : k = 2
  ·subst h2
   have hs3 : (a.step + 1 == 3) = true := by have := HS.out; simp only [beq_iff_eq]; omega
   have HF := Lib.hid (fun (w' : World) (hb : Bl w w') => spec_ptThird a 2 As Ak Ah ns cs nk ck nh ch hs w' ok (by omega) (h.keep hb))
   have rT := ok.thV
   have rN := num_rng hbr.out p2.1 0
   have hnm2 : nm = 2 := by have q1 := HB.out; have q2 := hml.out; rw [show bodyN 2 = 2 from rfl] at q1; omega
   obtain ⟨adm, rfl, hadl, hz, _⟩ := hm.lit (by omega)
   have HZ := Lib.hid (show w.cell? adm = some (.int .i64 (num m.b 0)) from hz _ (num_at (by have := HB.out; have := bodyN_le 2; omega)))
   clear hz
   have zt : IntKind.i64.wrap (thV a + num m.b 0) = thV a + num m.b 0 := IntWalk.i64_in _ (by omega)
   have et : (thV a + num m.b 0).tmod a.p = (thV a + num m.b 0) % a.p := Int.tmod_eq_emod_of_nonneg (by omega)
   have hp0 : (a.p == 0) = false := by simp; omega
   have hp1 : ¬ a.p = 0 := by omega
   have hfd := run_fieldT0
   have hn0 : (0 : Int) < nm := by omega
   have hn1 : 0 < nm := by omega
   have hn2 : ¬ nm = 0 := by omega
   clear hnm2
   obtain ⟨O_l, O_f, O_0, O_1, O_2, O_3, O_4, O_5, O_6, O_7, O_8, O_9, O_10⟩ := hO.l11
   go_wp2_with fail
   have hW2 : Bl w ((wz.setCell ⟨w.heap.size + 1 + 1 + 1, 7, none⟩ (.int .i64 (a.step + 1))).setCell ⟨w.heap.size + 1 + 1 + 1, 9, none⟩ (.int .i64 1)) := (hW.setCell (by dsimp only; omega) _).setCell (by dsimp only; omega) _
   have hG2 : Gp PZ v8 ((wz.setCell ⟨w.heap.size + 1 + 1 + 1, 7, none⟩ (.int .i64 (a.step + 1))).setCell ⟨w.heap.size + 1 + 1 + 1, 9, none⟩ (.int .i64 1)) := (hG.grown (grownBy_setCell _ _ _ _) (fun k e => .inl (by injection e with e; exact e ▸ pO))).grown (grownBy_setCell _ _ _ _) (fun k e => .inl (by injection e with e; exact e ▸ pO))
   have hB2 := (hB.far (p := ⟨w.heap.size + 1 + 1 + 1, 7, none⟩) (by dsimp only; omega) (.int .i64 (a.step + 1))).far (p := ⟨w.heap.size + 1 + 1 + 1, 9, none⟩) (by dsimp only; omega) (.int .i64 1)
   have hM2 := (hM.far (p := ⟨w.heap.size + 1 + 1 + 1, 7, none⟩) (by dsimp only; omega) (.int .i64 (a.step + 1))).far (p := ⟨w.heap.size + 1 + 1 + 1, 9, none⟩) (by dsimp only; omega) (.int .i64 1)
   have hR2 := (hR.far (p := ⟨w.heap.size + 1 + 1 + 1, 7, none⟩) (by dsimp only; omega) (.int .i64 (a.step + 1))).far (p := ⟨w.heap.size + 1 + 1 + 1, 9, none⟩) (by dsimp only; omega) (.int .i64 1)
   have hO2 : Blk ((wz.setCell ⟨w.heap.size + 1 + 1 + 1, 7, none⟩ (.int .i64 (a.step + 1))).setCell ⟨w.heap.size + 1 + 1 + 1, 9, none⟩ (.int .i64 1)) (w.heap.size + 1 + 1 + 1) 34 #[.int .i64 a.p, .int .i64 a.party, .int .i64 a.x, .int .i64 a.mask, .int .i64 a.delta, .slice As ns cs, .slice Ak nk ck, .int .i64 (a.step + 1), .slice A8 (nh + 1) c8, .int .i64 1, .int .i64 a.out] := (hO.set_ 7 _).set_ 9 _
   clear hW hB hM hR hO hG
   (try clear O_l O_f O_0 O_1 O_2 O_3 O_4 O_5 O_6 O_7 O_8 O_9 O_10)
   generalize ((wz.setCell ⟨w.heap.size + 1 + 1 + 1, 7, none⟩ (.int .i64 (a.step + 1))).setCell ⟨w.heap.size + 1 + 1 + 1, 9, none⟩ (.int .i64 1)) = wq at hW2 hG2 hB2 hM2 hR2 hO2 ⊢
   have hW := hW2; have hB := hB2; have hM := hM2; have hR := hR2; have hO := hO2; have hG := hG2
   clear hW2 hB2 hM2 hR2 hO2 hG2
   obtain ⟨B_l, B_f, B_0, B_1, B_2, B_3, B_4, B_5, B_6, B_7, B_8, B_9, B_10⟩ := hB.l11; obtain ⟨M_l, M_f, M_0, M_1, M_2⟩ := hM.l3; have R_l := hR.lt; have R_f := hR.frozen; have O_l := hO.lt; have O_f := hO.frozen
   have qz := hW.cells HZ.out
   refine wp_region_held_drew (S := (fun w' => w'.cell? ⟨w.heap.size, 0, none⟩ = some (.int .i64 a.p) ∧ w'.cell? ⟨w.heap.size, 1, none⟩ = some (.int .i64 a.party) ∧ w'.cell? ⟨w.heap.size, 2, none⟩ = some (.int .i64 a.x) ∧ w'.cell? ⟨w.heap.size, 3, none⟩ = some (.int .i64 a.mask) ∧ w'.cell? ⟨w.heap.size, 4, none⟩ = some (.int .i64 a.delta) ∧ w'.cell? ⟨w.heap.size, 5, none⟩ = some (.slice As ns cs) ∧ w'.cell? ⟨w.heap.size, 6, none⟩ = some (.slice Ak nk ck) ∧ w'.cell? ⟨w.heap.size, 7, none⟩ = some (.int .i64 a.step) ∧ w'.cell? ⟨w.heap.size, 8, none⟩ = some (.slice Ah nh ch) ∧ w'.cell? ⟨w.heap.size, 9, none⟩ = some (.int .i64 a.status) ∧ w'.cell? ⟨w.heap.size, 10, none⟩ = some (.int .i64 a.out) ∧ w'.cell? ⟨w.heap.size + 1, 2, none⟩ = some (.slice (some adm) nm cm) ∧ w'.cell? adm = some (.int .i64 (num m.b 0)))) (by kernel_rfl) ?_ (fun hHeld => ?_)
   ·(try dsimp only); exact ⟨B_0, B_1, B_2, B_3, B_4, B_5, B_6, B_7, B_8, B_9, B_10, M_2, qz⟩
   refine tkO 0 65 ?_
   refine tkO 3 68 ?_
   refine tkO 4 69 ?_
   refine tkO 5 70 ?_
   refine tkO 6 71 ?_
   refine tkO 8 73 ?_
   refine tkO 9 74 ?_
   refine rdy1 1 fun K hK => ?_
   go_simp
   go_at_call 82; refine (HF.out _ hW.drew).mono ?_; rintro e w3 ⟨rfl, hb3⟩
   go_wp2_with fail
   refine ko hK ?_ fun hHeld => ?_
   ·(try dsimp only); and_intros <;> exact hb3.cells (by first | with_reducible assumption | assumption)
   clear hK K
   refine tkO 2 67 ?_
   refine tkO 7 72 ?_
   refine tkO 10 75 ?_
   refine tkO 11 76 ?_
   refine rdy1 12 fun K hK => ?_
   have hOv := hO.drew.keep hb3; have O_l := hOv.lt; have O_f := hOv.frozen; have O_10 := hOv.cell 10 _ rfl; have hBf := (hB.drew.keep hb3).far (p := ⟨w.heap.size + 1 + 1 + 1, 10, none⟩) (by dsimp only; omega) (.int .i64 ((thV a + num m.b 0) % a.p)); have hMf := (hM.drew.keep hb3).far (p := ⟨w.heap.size + 1 + 1 + 1, 10, none⟩) (by dsimp only; omega) (.int .i64 ((thV a + num m.b 0) % a.p)); have hWf := (hW.drew.call hb3).setCell (p := ⟨w.heap.size + 1 + 1 + 1, 10, none⟩) (by dsimp only; omega) (.int .i64 ((thV a + num m.b 0) % a.p)); have qzf := hWf.cells HZ.out; go_simp
   refine ko hK ?_ fun hHeld => ?_
   ·(try dsimp only); exact ⟨hBf.cell 0 _ rfl, hBf.cell 1 _ rfl, hBf.cell 2 _ rfl, hBf.cell 3 _ rfl, hBf.cell 4 _ rfl, hBf.cell 5 _ rfl, hBf.cell 6 _ rfl, hBf.cell 7 _ rfl, hBf.cell 8 _ rfl, hBf.cell 9 _ rfl, hBf.cell 10 _ rfl, hMf.cell 2 _ rfl, qzf⟩
   clear hK K
   refine wpAnyH_done (by kernel_rfl) ?_ _
   have hOq := hO.drew.keep hb3
   have hRq := hR.drew.keep hb3
   have hWq : Bl w w3 := hW.drew.call hb3
   have hGq : Gp PZ v8 w3 := hG.drew.call hb3
   obtain ⟨hRq_l, hRq_f, hRq_0, hRq_1, hRq_2, hRq_3, hRq_4, hRq_5, hRq_6, hRq_7, hRq_8, hRq_9, hRq_10⟩ := hRq.l11; obtain ⟨hOq_l, hOq_f, hOq_0, hOq_1, hOq_2, hOq_3, hOq_4, hOq_5, hOq_6, hOq_7, hOq_8, hOq_9, hOq_10⟩ := hOq.l11
   go_wp2_with fail
   have ET := Lib.hid (take_y2 HR.out HS.out)
   have hRz : Blk (w3.setCell ⟨w.heap.size + 1 + 1 + 1, 10, none⟩ (.int .i64 ((thV a + num m.b 0) % a.p))) (w.heap.size + 1 + 1) 34 #[.int .i64 0, .int .i64 0, .int .i64 0, .int .i64 0, .int .i64 0, .slice none 0 0, .slice none 0 0, .int .i64 0, .slice none 0 0, .int .i64 0, .int .i64 0] := hRq.far (by dsimp only; omega) _
   have hWz : Bl w (w3.setCell ⟨w.heap.size + 1 + 1 + 1, 10, none⟩ (.int .i64 ((thV a + num m.b 0) % a.p))) := hWq.setCell (by dsimp only; omega) _
   have hGz : Gp PZ v8 (w3.setCell ⟨w.heap.size + 1 + 1 + 1, 10, none⟩ (.int .i64 ((thV a + num m.b 0) % a.p))) := hGq.grown (grownBy_setCell _ _ _ _) (fun k e => .inl (by injection e with e; exact e ▸ pO))
   have hR3 : Blk (((((((((((((w3.setCell ⟨w.heap.size + 1 + 1 + 1, 10, none⟩ (.int .i64 ((thV a + num m.b 0) % a.p))).setCell ⟨w.heap.size + 1 + 1, 0, none⟩ (.int .i64 a.p)).setCell ⟨w.heap.size + 1 + 1, 1, none⟩ (.int .i64 a.party)).setCell ⟨w.heap.size + 1 + 1, 2, none⟩ (.int .i64 a.x)).setCell ⟨w.heap.size + 1 + 1, 3, none⟩ (.int .i64 a.mask)).setCell ⟨w.heap.size + 1 + 1, 4, none⟩ (.int .i64 a.delta)).setCell ⟨w.heap.size + 1 + 1, 5, none⟩ (.slice As ns cs)).setCell ⟨w.heap.size + 1 + 1, 6, none⟩ (.slice Ak nk ck)).setCell ⟨w.heap.size + 1 + 1, 7, none⟩ (.int .i64 (a.step + 1))).setCell ⟨w.heap.size + 1 + 1, 8, none⟩ (.slice A8 (nh + 1) c8)).setCell ⟨w.heap.size + 1 + 1, 9, none⟩ (.int .i64 1)).setCell ⟨w.heap.size + 1 + 1, 10, none⟩ (.int .i64 ((thV a + num m.b 0) % a.p)))) (w.heap.size + 1 + 1) 34 #[.int .i64 a.p, .int .i64 a.party, .int .i64 a.x, .int .i64 a.mask, .int .i64 a.delta, .slice As ns cs, .slice Ak nk ck, .int .i64 (a.step + 1), .slice A8 (nh + 1) c8, .int .i64 1, .int .i64 ((thV a + num m.b 0) % a.p)] := put11_blk hRz (.int .i64 a.p) (.int .i64 a.party) (.int .i64 a.x) (.int .i64 a.mask) (.int .i64 a.delta) (.slice As ns cs) (.slice Ak nk ck) (.int .i64 (a.step + 1)) (.slice A8 (nh + 1) c8) (.int .i64 1) (.int .i64 ((thV a + num m.b 0) % a.p))
   have hg4 : World.grownBy (w3.setCell ⟨w.heap.size + 1 + 1 + 1, 10, none⟩ (.int .i64 ((thV a + num m.b 0) % a.p))) (((((((((((((w3.setCell ⟨w.heap.size + 1 + 1 + 1, 10, none⟩ (.int .i64 ((thV a + num m.b 0) % a.p))).setCell ⟨w.heap.size + 1 + 1, 0, none⟩ (.int .i64 a.p)).setCell ⟨w.heap.size + 1 + 1, 1, none⟩ (.int .i64 a.party)).setCell ⟨w.heap.size + 1 + 1, 2, none⟩ (.int .i64 a.x)).setCell ⟨w.heap.size + 1 + 1, 3, none⟩ (.int .i64 a.mask)).setCell ⟨w.heap.size + 1 + 1, 4, none⟩ (.int .i64 a.delta)).setCell ⟨w.heap.size + 1 + 1, 5, none⟩ (.slice As ns cs)).setCell ⟨w.heap.size + 1 + 1, 6, none⟩ (.slice Ak nk ck)).setCell ⟨w.heap.size + 1 + 1, 7, none⟩ (.int .i64 (a.step + 1))).setCell ⟨w.heap.size + 1 + 1, 8, none⟩ (.slice A8 (nh + 1) c8)).setCell ⟨w.heap.size + 1 + 1, 9, none⟩ (.int .i64 1)).setCell ⟨w.heap.size + 1 + 1, 10, none⟩ (.int .i64 ((thV a + num m.b 0) % a.p)))) (some (w.heap.size + 1 + 1)) := put11_grown _ _ (.int .i64 a.p) (.int .i64 a.party) (.int .i64 a.x) (.int .i64 a.mask) (.int .i64 a.delta) (.slice As ns cs) (.slice Ak nk ck) (.int .i64 (a.step + 1)) (.slice A8 (nh + 1) c8) (.int .i64 1) (.int .i64 ((thV a + num m.b 0) % a.p))
   have hW4 := hWz.grown hg4 (fun k h => by injection h with h; omega)
   have hG4 : Gp PZ v8 (((((((((((((w3.setCell ⟨w.heap.size + 1 + 1 + 1, 10, none⟩ (.int .i64 ((thV a + num m.b 0) % a.p))).setCell ⟨w.heap.size + 1 + 1, 0, none⟩ (.int .i64 a.p)).setCell ⟨w.heap.size + 1 + 1, 1, none⟩ (.int .i64 a.party)).setCell ⟨w.heap.size + 1 + 1, 2, none⟩ (.int .i64 a.x)).setCell ⟨w.heap.size + 1 + 1, 3, none⟩ (.int .i64 a.mask)).setCell ⟨w.heap.size + 1 + 1, 4, none⟩ (.int .i64 a.delta)).setCell ⟨w.heap.size + 1 + 1, 5, none⟩ (.slice As ns cs)).setCell ⟨w.heap.size + 1 + 1, 6, none⟩ (.slice Ak nk ck)).setCell ⟨w.heap.size + 1 + 1, 7, none⟩ (.int .i64 (a.step + 1))).setCell ⟨w.heap.size + 1 + 1, 8, none⟩ (.slice A8 (nh + 1) c8)).setCell ⟨w.heap.size + 1 + 1, 9, none⟩ (.int .i64 1)).setCell ⟨w.heap.size + 1 + 1, 10, none⟩ (.int .i64 ((thV a + num m.b 0) % a.p)))) := Gp.grown hGz hg4 pR4
   generalize ((((((((((((w3.setCell ⟨w.heap.size + 1 + 1 + 1, 10, none⟩ (.int .i64 ((thV a + num m.b 0) % a.p))).setCell ⟨w.heap.size + 1 + 1, 0, none⟩ (.int .i64 a.p)).setCell ⟨w.heap.size + 1 + 1, 1, none⟩ (.int .i64 a.party)).setCell ⟨w.heap.size + 1 + 1, 2, none⟩ (.int .i64 a.x)).setCell ⟨w.heap.size + 1 + 1, 3, none⟩ (.int .i64 a.mask)).setCell ⟨w.heap.size + 1 + 1, 4, none⟩ (.int .i64 a.delta)).setCell ⟨w.heap.size + 1 + 1, 5, none⟩ (.slice As ns cs)).setCell ⟨w.heap.size + 1 + 1, 6, none⟩ (.slice Ak nk ck)).setCell ⟨w.heap.size + 1 + 1, 7, none⟩ (.int .i64 (a.step + 1))).setCell ⟨w.heap.size + 1 + 1, 8, none⟩ (.slice A8 (nh + 1) c8)).setCell ⟨w.heap.size + 1 + 1, 9, none⟩ (.int .i64 1)).setCell ⟨w.heap.size + 1 + 1, 10, none⟩ (.int .i64 ((thV a + num m.b 0) % a.p))) = wy at hW4 hR3 hG4 ⊢
   have R3_0 := hR3.cell 0 _ rfl; have R3_1 := hR3.cell 1 _ rfl; have R3_2 := hR3.cell 2 _ rfl; have R3_3 := hR3.cell 3 _ rfl; have R3_4 := hR3.cell 4 _ rfl; have R3_5 := hR3.cell 5 _ rfl; have R3_6 := hR3.cell 6 _ rfl; have R3_7 := hR3.cell 7 _ rfl; have R3_8 := hR3.cell 8 _ rfl; have R3_9 := hR3.cell 9 _ rfl; have R3_10 := hR3.cell 10 _ rfl
   refine bodyPost_ret (v := .agg #[.int .i64 a.p, .int .i64 a.party, .int .i64 a.x, .int .i64 a.mask, .int .i64 a.delta, .slice As ns cs, .slice Ak nk ck, .int .i64 (a.step + 1), .slice A8 (nh + 1) c8, .int .i64 1, .int .i64 ((thV a + num m.b 0) % a.p)]) (by simp [results, Tryd.results56, go_sem, R3_0, R3_1, R3_2, R3_3, R3_4, R3_5, R3_6, R3_7, R3_8, R3_9, R3_10]) rfl ?_
   rw [ET.out]
   exact ⟨A8, nh + 1, c8, hs ++ [⟨A9, nm, c9⟩], rfl, (fun r => ⟨r.sh, r.ks, r.hd⟩) (HRD.out wy hW4 hG4), fun Q => HI.out Q _ hG4.size, hW4⟩
  ·have hs3 : (a.step + 1 == 3) = false := by have := HS.out; simp only [beq_eq_false_iff_ne]; omega
   have h2' := Lib.hid h2
   clear h2
   obtain ⟨O_l, O_f, O_0, O_1, O_2, O_3, O_4, O_5, O_6, O_7, O_8, O_9, O_10⟩ := hO.l11
   obtain ⟨R_l, R_f, R_0, R_1, R_2, R_3, R_4, R_5, R_6, R_7, R_8, R_9, R_10⟩ := hR.l11
   go_wp2_with fail
   have ET := Lib.hid (take_y HR.out (by have := HS.out; have := h2'.out; omega))
   have hRz : Blk (wz.setCell ⟨w.heap.size + 1 + 1 + 1, 7, none⟩ (.int .i64 (a.step + 1))) (w.heap.size + 1 + 1) 34 #[.int .i64 0, .int .i64 0, .int .i64 0, .int .i64 0, .int .i64 0, .slice none 0 0, .slice none 0 0, .int .i64 0, .slice none 0 0, .int .i64 0, .int .i64 0] := hR.far (by dsimp only; omega) _
   have hWz : Bl w (wz.setCell ⟨w.heap.size + 1 + 1 + 1, 7, none⟩ (.int .i64 (a.step + 1))) := hW.setCell (by dsimp only; omega) _
   have hGz : Gp PZ v8 (wz.setCell ⟨w.heap.size + 1 + 1 + 1, 7, none⟩ (.int .i64 (a.step + 1))) := hG.grown (grownBy_setCell _ _ _ _) (fun k e => .inl (by injection e with e; exact e ▸ pO))
   have hR3 : Blk (((((((((((((wz.setCell ⟨w.heap.size + 1 + 1 + 1, 7, none⟩ (.int .i64 (a.step + 1))).setCell ⟨w.heap.size + 1 + 1, 0, none⟩ (.int .i64 a.p)).setCell ⟨w.heap.size + 1 + 1, 1, none⟩ (.int .i64 a.party)).setCell ⟨w.heap.size + 1 + 1, 2, none⟩ (.int .i64 a.x)).setCell ⟨w.heap.size + 1 + 1, 3, none⟩ (.int .i64 a.mask)).setCell ⟨w.heap.size + 1 + 1, 4, none⟩ (.int .i64 a.delta)).setCell ⟨w.heap.size + 1 + 1, 5, none⟩ (.slice As ns cs)).setCell ⟨w.heap.size + 1 + 1, 6, none⟩ (.slice Ak nk ck)).setCell ⟨w.heap.size + 1 + 1, 7, none⟩ (.int .i64 (a.step + 1))).setCell ⟨w.heap.size + 1 + 1, 8, none⟩ (.slice A8 (nh + 1) c8)).setCell ⟨w.heap.size + 1 + 1, 9, none⟩ (.int .i64 a.status)).setCell ⟨w.heap.size + 1 + 1, 10, none⟩ (.int .i64 a.out))) (w.heap.size + 1 + 1) 34 #[.int .i64 a.p, .int .i64 a.party, .int .i64 a.x, .int .i64 a.mask, .int .i64 a.delta, .slice As ns cs, .slice Ak nk ck, .int .i64 (a.step + 1), .slice A8 (nh + 1) c8, .int .i64 a.status, .int .i64 a.out] := put11_blk hRz (.int .i64 a.p) (.int .i64 a.party) (.int .i64 a.x) (.int .i64 a.mask) (.int .i64 a.delta) (.slice As ns cs) (.slice Ak nk ck) (.int .i64 (a.step + 1)) (.slice A8 (nh + 1) c8) (.int .i64 a.status) (.int .i64 a.out)
   have hg4 : World.grownBy (wz.setCell ⟨w.heap.size + 1 + 1 + 1, 7, none⟩ (.int .i64 (a.step + 1))) (((((((((((((wz.setCell ⟨w.heap.size + 1 + 1 + 1, 7, none⟩ (.int .i64 (a.step + 1))).setCell ⟨w.heap.size + 1 + 1, 0, none⟩ (.int .i64 a.p)).setCell ⟨w.heap.size + 1 + 1, 1, none⟩ (.int .i64 a.party)).setCell ⟨w.heap.size + 1 + 1, 2, none⟩ (.int .i64 a.x)).setCell ⟨w.heap.size + 1 + 1, 3, none⟩ (.int .i64 a.mask)).setCell ⟨w.heap.size + 1 + 1, 4, none⟩ (.int .i64 a.delta)).setCell ⟨w.heap.size + 1 + 1, 5, none⟩ (.slice As ns cs)).setCell ⟨w.heap.size + 1 + 1, 6, none⟩ (.slice Ak nk ck)).setCell ⟨w.heap.size + 1 + 1, 7, none⟩ (.int .i64 (a.step + 1))).setCell ⟨w.heap.size + 1 + 1, 8, none⟩ (.slice A8 (nh + 1) c8)).setCell ⟨w.heap.size + 1 + 1, 9, none⟩ (.int .i64 a.status)).setCell ⟨w.heap.size + 1 + 1, 10, none⟩ (.int .i64 a.out))) (some (w.heap.size + 1 + 1)) := put11_grown _ _ (.int .i64 a.p) (.int .i64 a.party) (.int .i64 a.x) (.int .i64 a.mask) (.int .i64 a.delta) (.slice As ns cs) (.slice Ak nk ck) (.int .i64 (a.step + 1)) (.slice A8 (nh + 1) c8) (.int .i64 a.status) (.int .i64 a.out)
   have hW4 := hWz.grown hg4 (fun k h => by injection h with h; omega)
   have hG4 : Gp PZ v8 (((((((((((((wz.setCell ⟨w.heap.size + 1 + 1 + 1, 7, none⟩ (.int .i64 (a.step + 1))).setCell ⟨w.heap.size + 1 + 1, 0, none⟩ (.int .i64 a.p)).setCell ⟨w.heap.size + 1 + 1, 1, none⟩ (.int .i64 a.party)).setCell ⟨w.heap.size + 1 + 1, 2, none⟩ (.int .i64 a.x)).setCell ⟨w.heap.size + 1 + 1, 3, none⟩ (.int .i64 a.mask)).setCell ⟨w.heap.size + 1 + 1, 4, none⟩ (.int .i64 a.delta)).setCell ⟨w.heap.size + 1 + 1, 5, none⟩ (.slice As ns cs)).setCell ⟨w.heap.size + 1 + 1, 6, none⟩ (.slice Ak nk ck)).setCell ⟨w.heap.size + 1 + 1, 7, none⟩ (.int .i64 (a.step + 1))).setCell ⟨w.heap.size + 1 + 1, 8, none⟩ (.slice A8 (nh + 1) c8)).setCell ⟨w.heap.size + 1 + 1, 9, none⟩ (.int .i64 a.status)).setCell ⟨w.heap.size + 1 + 1, 10, none⟩ (.int .i64 a.out))) := Gp.grown hGz hg4 pR4
   generalize ((((((((((((wz.setCell ⟨w.heap.size + 1 + 1 + 1, 7, none⟩ (.int .i64 (a.step + 1))).setCell ⟨w.heap.size + 1 + 1, 0, none⟩ (.int .i64 a.p)).setCell ⟨w.heap.size + 1 + 1, 1, none⟩ (.int .i64 a.party)).setCell ⟨w.heap.size + 1 + 1, 2, none⟩ (.int .i64 a.x)).setCell ⟨w.heap.size + 1 + 1, 3, none⟩ (.int .i64 a.mask)).setCell ⟨w.heap.size + 1 + 1, 4, none⟩ (.int .i64 a.delta)).setCell ⟨w.heap.size + 1 + 1, 5, none⟩ (.slice As ns cs)).setCell ⟨w.heap.size + 1 + 1, 6, none⟩ (.slice Ak nk ck)).setCell ⟨w.heap.size + 1 + 1, 7, none⟩ (.int .i64 (a.step + 1))).setCell ⟨w.heap.size + 1 + 1, 8, none⟩ (.slice A8 (nh + 1) c8)).setCell ⟨w.heap.size + 1 + 1, 9, none⟩ (.int .i64 a.status)).setCell ⟨w.heap.size + 1 + 1, 10, none⟩ (.int .i64 a.out)) = wy at hW4 hR3 hG4 ⊢
   have R3_0 := hR3.cell 0 _ rfl; have R3_1 := hR3.cell 1 _ rfl; have R3_2 := hR3.cell 2 _ rfl; have R3_3 := hR3.cell 3 _ rfl; have R3_4 := hR3.cell 4 _ rfl; have R3_5 := hR3.cell 5 _ rfl; have R3_6 := hR3.cell 6 _ rfl; have R3_7 := hR3.cell 7 _ rfl; have R3_8 := hR3.cell 8 _ rfl; have R3_9 := hR3.cell 9 _ rfl; have R3_10 := hR3.cell 10 _ rfl
   refine bodyPost_ret (v := .agg #[.int .i64 a.p, .int .i64 a.party, .int .i64 a.x, .int .i64 a.mask, .int .i64 a.delta, .slice As ns cs, .slice Ak nk ck, .int .i64 (a.step + 1), .slice A8 (nh + 1) c8, .int .i64 a.status, .int .i64 a.out]) (by simp [results, Tryd.results56, go_sem, R3_0, R3_1, R3_2, R3_3, R3_4, R3_5, R3_6, R3_7, R3_8, R3_9, R3_10]) rfl ?_
   rw [ET.out]
   exact ⟨A8, nh + 1, c8, hs ++ [⟨A9, nm, c9⟩], rfl, (fun r => ⟨r.sh, r.ks, r.hd⟩) (HRD.out wy hW4 hG4), fun Q => HI.out Q _ hG4.size, hW4⟩
end Go.Proofs.YtcjpalhclgkjiaaDoor
