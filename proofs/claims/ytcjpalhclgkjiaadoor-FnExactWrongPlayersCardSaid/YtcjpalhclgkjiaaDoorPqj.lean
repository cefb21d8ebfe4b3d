/- Contracts: the reference's run of two players, their messages meddled with.
   Conditions: both players are valid, the meddles too. -/
import Derived.Test.YtcjpalhclgkjiaaDoorPqi
import Derived.Test.YtcjpalhclgkjiaaDoorPqc
import Derived.Test.YtcjpalhclgkjiaaDoorPqf
import Derived.Test.YtcjpalhclgkjiaaDoorPqg
import Derived.Test.YtcjpalhclgkjiaaDoorPkj
namespace Go.Proofs.YtcjpalhclgkjiaaDoor
open Go.RowKit
set_option linter.unusedVariables false
theorem ap_ms_step {ops : Array Oper} {o : Oper} {a : Act} {w : World} {K : Act → World → Prop} {Q : Exit → Act → World → Prop} {E : Prop} (hgd : o.guard = none) {s x : Operand} (ho : o.op = .call { callee := .builtin .append, args := #[s, x], argTypes := #[60, 60] })
  {base n c m d : Nat} {A B : Option Addr} {xs ys : List Value} (hs : a.eval s = .slice A n c) (hown : OwnV 87 3 base w A n c xs) (hx : a.eval x = .slice B m d) (hr : Rd w 3 B m d ys) (h1 : ∀ u ∈ ys, u.oneCell' = true)
  (hb : n + m ≤ 3000000) (hbase : base ≤ w.heap.size)
  (h : ∀ A' c' w', OwnV 87 3 base w' A' (n + m) c' (xs ++ ys) → w.grownBy w' (A.map (·.block)) → (A'.map (·.block) = A.map (·.block) ∨ A'.map (·.block) = some w.heap.size) → K (a.put o.dst (.slice A' (n + m) c')) w') : if Region.wanted o (yielded ops a.tmps) = true then Oper.wp Tryd.prog o a w K Q else E := by
 obtain ⟨i0, hi, hz0, hz1, hz2⟩ := info_parts msg_info
 obtain ⟨A', c', w', hrun, h2, h3, h4⟩ := run_append_any (P := Tryd.prog) w base 60 o.type 87 i0 _ 3 40 Tryd.underlying60 hi hz0 hz1 hz2 rfl (by decide)
  (.slice A n c) n xs hown B m d ys hr h1 (by simp only [maxLen]; omega) (by omega) hbase
 rw [ownBlock_slice] at h3 h4
 have hw : Region.wanted o (yielded ops a.tmps) = true := by simp [Region.wanted, hgd]
 rw [if_pos hw]
 unfold Oper.wp execOp
 simp only [ho, resolve, invoke, builtin, Sem.run_bind, Sem.run_pure, Result.andThen_ok, List.map_toArray, List.map_cons, List.map_nil, hs, hx, hrun]
 exact h A' c' w' h2 h3 h4
theorem one6 (f s f' s' : Int) (A A' : Option Addr) (n c n' c' : Nat) : ∀ u ∈ (#[.int .i64 f, .int .i64 s, .slice A n c, .int .i64 f', .int .i64 s', .slice A' n' c'] : Array Value).toList, u.oneCell' = true := by
 intro u hu
 simp only [List.mem_cons, List.not_mem_nil, or_false] at hu
 rcases hu with rfl | rfl | rfl | rfl | rfl | rfl <;> rfl
theorem prev_ms {w : World} {L : List Hm} {sent : List Ms} {Q : Nat → Prop} (h : RdL w L sent Q) (hl : ∀ m ∈ sent, m.b.length ≤ 1000) {j : Nat} (hj : j < sent.length) : ∃ z, L[j]? = some z ∧ RdM w z (sent[j]?.getD ⟨0, 0, []⟩) ∧ z.n ≤ 1000 := by
 obtain ⟨z, h1, h2, h3⟩ := h j sent[j] (List.getElem?_eq_getElem hj)
 refine ⟨z, h1, by rw [List.getElem?_eq_getElem hj, Option.getD_some]; exact h2, ?_⟩
 have e1 := h2.b.length
 have e2 := hl sent[j] (List.getElem_mem hj)
 omega
set_option maxRecDepth 20000 in
set_option maxHeartbeats 40000000 in
theorem spec_nwRun (a b : Pl) (As Ak Ah : Option Addr) (ns cs nk ck nh ch : Nat) (hs : List Hd) (As2 Ak2 Ah2 : Option Addr) (ns2 cs2 nk2 ck2 nh2 ch2 : Nat) (hs2 : List Hd) (Al : Option Addr) (nl cl : Nat) (l : List Md) (w : World) (hl : RdMd w Al nl cl l) (hml : mdsB a.p l = true) (two : twoB a b = true) (ha : RdP w a As Ak Ah ns cs nk ck nh ch hs) (hb : RdP w b As2 Ak2 Ah2 ns2 cs2 nk2 ck2 nh2 ch2 hs2) (ua : UnderP w.heap.size As Ak Ah hs) (ub : UnderP w.heap.size As2 Ak2 Ah2 hs2) :
  Calls Tryd.prog 34 #[.agg #[.int .i64 a.p, .int .i64 a.party, .int .i64 a.x, .int .i64 a.mask, .int .i64 a.delta, .slice As ns cs, .slice Ak nk ck, .int .i64 a.step, .slice Ah nh ch, .int .i64 a.status, .int .i64 a.out], .agg #[.int .i64 b.p, .int .i64 b.party, .int .i64 b.x, .int .i64 b.mask, .int .i64 b.delta, .slice As2 ns2 cs2, .slice Ak2 nk2 ck2, .int .i64 b.step, .slice Ah2 nh2 ch2, .int .i64 b.status, .int .i64 b.out], .slice Al nl cl] w fun e w' => ∃ ra rb sent taken s1 s2 A n c, runM a b l = ⟨ra, rb, sent, taken⟩ ∧ e = .returned (.tuple #[valP ra s1, valP rb s2, .slice A n c]) ∧ n = taken.length ∧ Bl w w' := by
 have RQ := Lib.hid (RunQ.start (l := l) two)
 obtain ⟨ok1, ok2, hpp, hpa, hpb, hst1, hst2⟩ := two_facts two
 have hp2 := ok1.p2
 have HML := Lib.hid hml
 have SM := Lib.hid (And.intro (ok1.small (by omega)) (ok2.small (by omega)))
 clear ok1 ok2 hpp hpa hpb hst1 hst2 two hml
 have hW : Bl w ((((w.alloc (.cells #[.int .i64 a.p, .int .i64 a.party, .int .i64 a.x, .int .i64 a.mask, .int .i64 a.delta, .slice As ns cs, .slice Ak nk ck, .int .i64 a.step, .slice Ah nh ch, .int .i64 a.status, .int .i64 a.out] 34)).alloc (.cells #[.int .i64 b.p, .int .i64 b.party, .int .i64 b.x, .int .i64 b.mask, .int .i64 b.delta, .slice As2 ns2 cs2, .slice Ak2 nk2 ck2, .int .i64 b.step, .slice Ah2 nh2 ch2, .int .i64 b.status, .int .i64 b.out] 34)).alloc (.cells #[.int .i64 0, .int .i64 0, .int .i64 0, .int .i64 0, .int .i64 0, .slice none 0 0, .slice none 0 0, .int .i64 0, .slice none 0 0, .int .i64 0, .int .i64 0] 34)).alloc (.cells #[.int .i64 0, .int .i64 0, .int .i64 0, .int .i64 0, .int .i64 0, .slice none 0 0, .slice none 0 0, .int .i64 0, .slice none 0 0, .int .i64 0, .int .i64 0] 34)) := Bl.a2
 have hA : Blk ((((w.alloc (.cells #[.int .i64 a.p, .int .i64 a.party, .int .i64 a.x, .int .i64 a.mask, .int .i64 a.delta, .slice As ns cs, .slice Ak nk ck, .int .i64 a.step, .slice Ah nh ch, .int .i64 a.status, .int .i64 a.out] 34)).alloc (.cells #[.int .i64 b.p, .int .i64 b.party, .int .i64 b.x, .int .i64 b.mask, .int .i64 b.delta, .slice As2 ns2 cs2, .slice Ak2 nk2 ck2, .int .i64 b.step, .slice Ah2 nh2 ch2, .int .i64 b.status, .int .i64 b.out] 34)).alloc (.cells #[.int .i64 0, .int .i64 0, .int .i64 0, .int .i64 0, .int .i64 0, .slice none 0 0, .slice none 0 0, .int .i64 0, .slice none 0 0, .int .i64 0, .int .i64 0] 34)).alloc (.cells #[.int .i64 0, .int .i64 0, .int .i64 0, .int .i64 0, .int .i64 0, .slice none 0 0, .slice none 0 0, .int .i64 0, .slice none 0 0, .int .i64 0, .int .i64 0] 34)) (w.heap.size) 34 #[.int .i64 a.p, .int .i64 a.party, .int .i64 a.x, .int .i64 a.mask, .int .i64 a.delta, .slice As ns cs, .slice Ak nk ck, .int .i64 a.step, .slice Ah nh ch, .int .i64 a.status, .int .i64 a.out] := ((((Blk.new w 34 #[.int .i64 a.p, .int .i64 a.party, .int .i64 a.x, .int .i64 a.mask, .int .i64 a.delta, .slice As ns cs, .slice Ak nk ck, .int .i64 a.step, .slice Ah nh ch, .int .i64 a.status, .int .i64 a.out] (g := w.heap.size)).alloc (.cells #[.int .i64 b.p, .int .i64 b.party, .int .i64 b.x, .int .i64 b.mask, .int .i64 b.delta, .slice As2 ns2 cs2, .slice Ak2 nk2 ck2, .int .i64 b.step, .slice Ah2 nh2 ch2, .int .i64 b.status, .int .i64 b.out] 34)).alloc (.cells #[.int .i64 0, .int .i64 0, .int .i64 0, .int .i64 0, .int .i64 0, .slice none 0 0, .slice none 0 0, .int .i64 0, .slice none 0 0, .int .i64 0, .int .i64 0] 34)).alloc (.cells #[.int .i64 0, .int .i64 0, .int .i64 0, .int .i64 0, .int .i64 0, .slice none 0 0, .slice none 0 0, .int .i64 0, .slice none 0 0, .int .i64 0, .int .i64 0] 34))
 have hB : Blk ((((w.alloc (.cells #[.int .i64 a.p, .int .i64 a.party, .int .i64 a.x, .int .i64 a.mask, .int .i64 a.delta, .slice As ns cs, .slice Ak nk ck, .int .i64 a.step, .slice Ah nh ch, .int .i64 a.status, .int .i64 a.out] 34)).alloc (.cells #[.int .i64 b.p, .int .i64 b.party, .int .i64 b.x, .int .i64 b.mask, .int .i64 b.delta, .slice As2 ns2 cs2, .slice Ak2 nk2 ck2, .int .i64 b.step, .slice Ah2 nh2 ch2, .int .i64 b.status, .int .i64 b.out] 34)).alloc (.cells #[.int .i64 0, .int .i64 0, .int .i64 0, .int .i64 0, .int .i64 0, .slice none 0 0, .slice none 0 0, .int .i64 0, .slice none 0 0, .int .i64 0, .int .i64 0] 34)).alloc (.cells #[.int .i64 0, .int .i64 0, .int .i64 0, .int .i64 0, .int .i64 0, .slice none 0 0, .slice none 0 0, .int .i64 0, .slice none 0 0, .int .i64 0, .int .i64 0] 34)) (w.heap.size + 1) 34 #[.int .i64 b.p, .int .i64 b.party, .int .i64 b.x, .int .i64 b.mask, .int .i64 b.delta, .slice As2 ns2 cs2, .slice Ak2 nk2 ck2, .int .i64 b.step, .slice Ah2 nh2 ch2, .int .i64 b.status, .int .i64 b.out] := (((Blk.new (w.alloc (.cells #[.int .i64 a.p, .int .i64 a.party, .int .i64 a.x, .int .i64 a.mask, .int .i64 a.delta, .slice As ns cs, .slice Ak nk ck, .int .i64 a.step, .slice Ah nh ch, .int .i64 a.status, .int .i64 a.out] 34)) 34 #[.int .i64 b.p, .int .i64 b.party, .int .i64 b.x, .int .i64 b.mask, .int .i64 b.delta, .slice As2 ns2 cs2, .slice Ak2 nk2 ck2, .int .i64 b.step, .slice Ah2 nh2 ch2, .int .i64 b.status, .int .i64 b.out] (g := w.heap.size + 1)).alloc (.cells #[.int .i64 0, .int .i64 0, .int .i64 0, .int .i64 0, .int .i64 0, .slice none 0 0, .slice none 0 0, .int .i64 0, .slice none 0 0, .int .i64 0, .int .i64 0] 34)).alloc (.cells #[.int .i64 0, .int .i64 0, .int .i64 0, .int .i64 0, .int .i64 0, .slice none 0 0, .slice none 0 0, .int .i64 0, .slice none 0 0, .int .i64 0, .int .i64 0] 34))
 have hR : Blk ((((w.alloc (.cells #[.int .i64 a.p, .int .i64 a.party, .int .i64 a.x, .int .i64 a.mask, .int .i64 a.delta, .slice As ns cs, .slice Ak nk ck, .int .i64 a.step, .slice Ah nh ch, .int .i64 a.status, .int .i64 a.out] 34)).alloc (.cells #[.int .i64 b.p, .int .i64 b.party, .int .i64 b.x, .int .i64 b.mask, .int .i64 b.delta, .slice As2 ns2 cs2, .slice Ak2 nk2 ck2, .int .i64 b.step, .slice Ah2 nh2 ch2, .int .i64 b.status, .int .i64 b.out] 34)).alloc (.cells #[.int .i64 0, .int .i64 0, .int .i64 0, .int .i64 0, .int .i64 0, .slice none 0 0, .slice none 0 0, .int .i64 0, .slice none 0 0, .int .i64 0, .int .i64 0] 34)).alloc (.cells #[.int .i64 0, .int .i64 0, .int .i64 0, .int .i64 0, .int .i64 0, .slice none 0 0, .slice none 0 0, .int .i64 0, .slice none 0 0, .int .i64 0, .int .i64 0] 34)) (w.heap.size + 1 + 1) 34 #[.int .i64 0, .int .i64 0, .int .i64 0, .int .i64 0, .int .i64 0, .slice none 0 0, .slice none 0 0, .int .i64 0, .slice none 0 0, .int .i64 0, .int .i64 0] := ((Blk.new ((w.alloc (.cells #[.int .i64 a.p, .int .i64 a.party, .int .i64 a.x, .int .i64 a.mask, .int .i64 a.delta, .slice As ns cs, .slice Ak nk ck, .int .i64 a.step, .slice Ah nh ch, .int .i64 a.status, .int .i64 a.out] 34)).alloc (.cells #[.int .i64 b.p, .int .i64 b.party, .int .i64 b.x, .int .i64 b.mask, .int .i64 b.delta, .slice As2 ns2 cs2, .slice Ak2 nk2 ck2, .int .i64 b.step, .slice Ah2 nh2 ch2, .int .i64 b.status, .int .i64 b.out] 34)) 34 #[.int .i64 0, .int .i64 0, .int .i64 0, .int .i64 0, .int .i64 0, .slice none 0 0, .slice none 0 0, .int .i64 0, .slice none 0 0, .int .i64 0, .int .i64 0] (g := w.heap.size + 1 + 1)).alloc (.cells #[.int .i64 0, .int .i64 0, .int .i64 0, .int .i64 0, .int .i64 0, .slice none 0 0, .slice none 0 0, .int .i64 0, .slice none 0 0, .int .i64 0, .int .i64 0] 34))
 have hU : Blk ((((w.alloc (.cells #[.int .i64 a.p, .int .i64 a.party, .int .i64 a.x, .int .i64 a.mask, .int .i64 a.delta, .slice As ns cs, .slice Ak nk ck, .int .i64 a.step, .slice Ah nh ch, .int .i64 a.status, .int .i64 a.out] 34)).alloc (.cells #[.int .i64 b.p, .int .i64 b.party, .int .i64 b.x, .int .i64 b.mask, .int .i64 b.delta, .slice As2 ns2 cs2, .slice Ak2 nk2 ck2, .int .i64 b.step, .slice Ah2 nh2 ch2, .int .i64 b.status, .int .i64 b.out] 34)).alloc (.cells #[.int .i64 0, .int .i64 0, .int .i64 0, .int .i64 0, .int .i64 0, .slice none 0 0, .slice none 0 0, .int .i64 0, .slice none 0 0, .int .i64 0, .int .i64 0] 34)).alloc (.cells #[.int .i64 0, .int .i64 0, .int .i64 0, .int .i64 0, .int .i64 0, .slice none 0 0, .slice none 0 0, .int .i64 0, .slice none 0 0, .int .i64 0, .int .i64 0] 34)) (w.heap.size + 1 + 1 + 1) 34 #[.int .i64 0, .int .i64 0, .int .i64 0, .int .i64 0, .int .i64 0, .slice none 0 0, .slice none 0 0, .int .i64 0, .slice none 0 0, .int .i64 0, .int .i64 0] := (Blk.new (((w.alloc (.cells #[.int .i64 a.p, .int .i64 a.party, .int .i64 a.x, .int .i64 a.mask, .int .i64 a.delta, .slice As ns cs, .slice Ak nk ck, .int .i64 a.step, .slice Ah nh ch, .int .i64 a.status, .int .i64 a.out] 34)).alloc (.cells #[.int .i64 b.p, .int .i64 b.party, .int .i64 b.x, .int .i64 b.mask, .int .i64 b.delta, .slice As2 ns2 cs2, .slice Ak2 nk2 ck2, .int .i64 b.step, .slice Ah2 nh2 ch2, .int .i64 b.status, .int .i64 b.out] 34)).alloc (.cells #[.int .i64 0, .int .i64 0, .int .i64 0, .int .i64 0, .int .i64 0, .slice none 0 0, .slice none 0 0, .int .i64 0, .slice none 0 0, .int .i64 0, .int .i64 0] 34)) 34 #[.int .i64 0, .int .i64 0, .int .i64 0, .int .i64 0, .int .i64 0, .slice none 0 0, .slice none 0 0, .int .i64 0, .slice none 0 0, .int .i64 0, .int .i64 0] (g := w.heap.size + 1 + 1 + 1))
 have hQ : ∀ k, k < w.heap.size → Qs w.heap.size ((((w.alloc (.cells #[.int .i64 a.p, .int .i64 a.party, .int .i64 a.x, .int .i64 a.mask, .int .i64 a.delta, .slice As ns cs, .slice Ak nk ck, .int .i64 a.step, .slice Ah nh ch, .int .i64 a.status, .int .i64 a.out] 34)).alloc (.cells #[.int .i64 b.p, .int .i64 b.party, .int .i64 b.x, .int .i64 b.mask, .int .i64 b.delta, .slice As2 ns2 cs2, .slice Ak2 nk2 ck2, .int .i64 b.step, .slice Ah2 nh2 ch2, .int .i64 b.status, .int .i64 b.out] 34)).alloc (.cells #[.int .i64 0, .int .i64 0, .int .i64 0, .int .i64 0, .int .i64 0, .slice none 0 0, .slice none 0 0, .int .i64 0, .slice none 0 0, .int .i64 0, .int .i64 0] 34)).alloc (.cells #[.int .i64 0, .int .i64 0, .int .i64 0, .int .i64 0, .int .i64 0, .slice none 0 0, .slice none 0 0, .int .i64 0, .slice none 0 0, .int .i64 0, .int .i64 0] 34)).heap.size none none k := fun k hk => ⟨.inl hk, Nat.lt_of_lt_of_le hk hW.sz, by simp, by simp⟩
 have rs0 : RS w.heap.size w ((((w.alloc (.cells #[.int .i64 a.p, .int .i64 a.party, .int .i64 a.x, .int .i64 a.mask, .int .i64 a.delta, .slice As ns cs, .slice Ak nk ck, .int .i64 a.step, .slice Ah nh ch, .int .i64 a.status, .int .i64 a.out] 34)).alloc (.cells #[.int .i64 b.p, .int .i64 b.party, .int .i64 b.x, .int .i64 b.mask, .int .i64 b.delta, .slice As2 ns2 cs2, .slice Ak2 nk2 ck2, .int .i64 b.step, .slice Ah2 nh2 ch2, .int .i64 b.status, .int .i64 b.out] 34)).alloc (.cells #[.int .i64 0, .int .i64 0, .int .i64 0, .int .i64 0, .int .i64 0, .slice none 0 0, .slice none 0 0, .int .i64 0, .slice none 0 0, .int .i64 0, .int .i64 0] 34)).alloc (.cells #[.int .i64 0, .int .i64 0, .int .i64 0, .int .i64 0, .int .i64 0, .slice none 0 0, .slice none 0 0, .int .i64 0, .slice none 0 0, .int .i64 0, .int .i64 0] 34)) a b [] [] [] [] ⟨As, Ak, Ah, ns, cs, nk, ck, nh, ch, hs⟩ ⟨As2, Ak2, Ah2, ns2, cs2, nk2, ck2, nh2, ch2, hs2⟩ none none 0 0 0 0 :=
  ⟨hA, hB, hR, hU, OwnV.nil _ _ _ _, rfl, OwnV.nil _ _ _ _, rfl, RdL.nil _ _ _, RdW.nil _ _ _, ha.keep hW, InP.mono ua.inP hQ, hb.keep hW, InP.mono ub.inP hQ, by simp, hW, rfl⟩
 clear hQ ua ub ha hb
 go_enter Tryd.func34, Tryd.ntmps34
 go_wp2_with fail
 generalize ((((w.alloc (.cells #[.int .i64 a.p, .int .i64 a.party, .int .i64 a.x, .int .i64 a.mask, .int .i64 a.delta, .slice As ns cs, .slice Ak nk ck, .int .i64 a.step, .slice Ah nh ch, .int .i64 a.status, .int .i64 a.out] 34)).alloc (.cells #[.int .i64 b.p, .int .i64 b.party, .int .i64 b.x, .int .i64 b.mask, .int .i64 b.delta, .slice As2 ns2 cs2, .slice Ak2 nk2 ck2, .int .i64 b.step, .slice Ah2 nh2 ch2, .int .i64 b.status, .int .i64 b.out] 34)).alloc (.cells #[.int .i64 0, .int .i64 0, .int .i64 0, .int .i64 0, .int .i64 0, .slice none 0 0, .slice none 0 0, .int .i64 0, .slice none 0 0, .int .i64 0, .int .i64 0] 34)).alloc (.cells #[.int .i64 0, .int .i64 0, .int .i64 0, .int .i64 0, .int .i64 0, .slice none 0 0, .slice none 0 0, .int .i64 0, .slice none 0 0, .int .i64 0, .int .i64 0] 34)) = w0 at rs0 ⊢
 clear hW hA hB hR hU
 go_loopg [9, 10] 3 (fun k s t wr => (∃ (q n nt c ct : Nat) (ra rb : Pl) (sent taken : List Ms) (L M : List Hm) (s1 s2 : Sl) (A At : Option Addr), s = .slice A n c ∧ t = .slice At nt ct ∧ Hid (sent.length = n ∧ taken.length = nt ∧ n ≤ 6 ∧ nt ≤ 6) ∧ Hid (Sm ra ∧ Sm rb ∧ ∀ m ∈ sent, m.b.length ≤ 1000) ∧ Hid ((q ≤ 2 ∧ q + k = 3 ∧ n = 2 * q ∧ RunQ a b l q ra rb sent taken) ∨ (runM a b l = ⟨ra, rb, sent, taken⟩ ∧ ¬ (ra.status = 0 ∧ rb.status = 0))) ∧ RS w.heap.size w wr ra rb sent taken L M s1 s2 A At n c nt ct))
 case atStart => exact ⟨0, 0, 0, 0, 0, a, b, [], [], [], [], _, _, none, none, rfl, rfl, Lib.hid ⟨rfl, rfl, by omega, by omega⟩, Lib.hid ⟨SM.out.1, SM.out.2, by simp⟩, Lib.hid (.inl ⟨by omega, rfl, rfl, RQ.out⟩), rs0⟩
 case round =>
  clear rs0 RQ SM
  obtain ⟨q, n, nt, c, ct, ra, rb, sent, taken, L, M, ⟨As1, Ak1, Ah1, ns1, cs1, nk1, ck1, nh1, ch1, hs1⟩, ⟨As3, Ak3, Ah3, ns3, cs3, nk3, ck3, nh3, ch3, hs3⟩, A, At, rfl, rfl, HLN, HSM, HCS, rs⟩ := hrel
  have hA : Blk wr w.heap.size 34 #[.int .i64 ra.p, .int .i64 ra.party, .int .i64 ra.x, .int .i64 ra.mask, .int .i64 ra.delta, .slice As1 ns1 cs1, .slice Ak1 nk1 ck1, .int .i64 ra.step, .slice Ah1 nh1 ch1, .int .i64 ra.status, .int .i64 ra.out] := rs.bA; have hB : Blk wr (w.heap.size + 1) 34 #[.int .i64 rb.p, .int .i64 rb.party, .int .i64 rb.x, .int .i64 rb.mask, .int .i64 rb.delta, .slice As3 ns3 cs3, .slice Ak3 nk3 ck3, .int .i64 rb.step, .slice Ah3 nh3 ch3, .int .i64 rb.status, .int .i64 rb.out] := rs.bB; obtain ⟨A_l, A_f, A_0, A_1, A_2, A_3, A_4, A_5, A_6, A_7, A_8, A_9, A_10⟩ := hA.l11; obtain ⟨B_l, B_f, B_0, B_1, B_2, B_3, B_4, B_5, B_6, B_7, B_8, B_9, B_10⟩ := hB.l11
  have HZ := Lib.hid (show w.heap.size + 4 ≤ wr.heap.size by have := rs.bT.lt; omega)
  have hn6 := HLN.out.2.2.1
  have hnt6 := HLN.out.2.2.2
  have hcc := rs.oS.rd.cap
  have hct := rs.oT.rd.cap
  have hcm : c ≤ 9223372036854775807 := by have := rs.oS.rd.max; unfold maxLen at this; exact this
  have hcm2 : ct ≤ 9223372036854775807 := by have := rs.oT.rd.max; unfold maxLen at this; exact this
  rcases HCS.out with ⟨hq2, hqk, hnq, run⟩ | ⟨hrun, hnot⟩
  ·have HK := Lib.hid hqk
   have HN := Lib.hid hnq
   have RUN := Lib.hid run
   obtain ⟨ok1, ok2, st1, st2⟩ := run.on hq2
   have OK1 := Lib.hid ok1
   have OK2 := Lib.hid ok2
   have g1 : (ra.status == 0) = true := by rw [st1]; rfl
   have g2 : (rb.status == 0) = true := by rw [st2]; rfl
   clear ok1 ok2 st1 st2 hqk hnq run
   go_wp2_with fail
   refine region_F (fun _ => True) (fun w' => w'.cell? ⟨w.heap.size, 0, none⟩ = some (.int .i64 ra.p) ∧ w'.cell? ⟨w.heap.size, 1, none⟩ = some (.int .i64 ra.party) ∧ w'.cell? ⟨w.heap.size, 2, none⟩ = some (.int .i64 ra.x) ∧ w'.cell? ⟨w.heap.size, 3, none⟩ = some (.int .i64 ra.mask) ∧ w'.cell? ⟨w.heap.size, 4, none⟩ = some (.int .i64 ra.delta) ∧ w'.cell? ⟨w.heap.size, 5, none⟩ = some (.slice As1 ns1 cs1) ∧ w'.cell? ⟨w.heap.size, 6, none⟩ = some (.slice Ak1 nk1 ck1) ∧ w'.cell? ⟨w.heap.size, 7, none⟩ = some (.int .i64 ra.step) ∧ w'.cell? ⟨w.heap.size, 8, none⟩ = some (.slice Ah1 nh1 ch1) ∧ w'.cell? ⟨w.heap.size, 9, none⟩ = some (.int .i64 ra.status) ∧ w'.cell? ⟨w.heap.size, 10, none⟩ = some (.int .i64 ra.out) ∧ w'.cell? ⟨w.heap.size + 1, 0, none⟩ = some (.int .i64 rb.p) ∧ w'.cell? ⟨w.heap.size + 1, 1, none⟩ = some (.int .i64 rb.party) ∧ w'.cell? ⟨w.heap.size + 1, 2, none⟩ = some (.int .i64 rb.x) ∧ w'.cell? ⟨w.heap.size + 1, 3, none⟩ = some (.int .i64 rb.mask) ∧ w'.cell? ⟨w.heap.size + 1, 4, none⟩ = some (.int .i64 rb.delta) ∧ w'.cell? ⟨w.heap.size + 1, 5, none⟩ = some (.slice As3 ns3 cs3) ∧ w'.cell? ⟨w.heap.size + 1, 6, none⟩ = some (.slice Ak3 nk3 ck3) ∧ w'.cell? ⟨w.heap.size + 1, 7, none⟩ = some (.int .i64 rb.step) ∧ w'.cell? ⟨w.heap.size + 1, 8, none⟩ = some (.slice Ah3 nh3 ch3) ∧ w'.cell? ⟨w.heap.size + 1, 9, none⟩ = some (.int .i64 rb.status) ∧ w'.cell? ⟨w.heap.size + 1, 10, none⟩ = some (.int .i64 rb.out)) 6 (by kernel_rfl) ?_ (fun hHeld => ?_)
   ·(try dsimp only); exact ⟨trivial, A_0, A_1, A_2, A_3, A_4, A_5, A_6, A_7, A_8, A_9, A_10, B_0, B_1, B_2, B_3, B_4, B_5, B_6, B_7, B_8, B_9, B_10⟩
   refine tC 0 24 [0] ?_ hHeld
   refine tC 1 25 [5, 2, 1] ?_ hHeld
   refine tC 3 27 [4, 3] ?_ hHeld
   refine f_step (i := 2) (by kernel_rfl) rfl (fun K hK => ?_)
   go_simp
   go_at_call 54; refine (spec_ptMessage ra q As1 Ak1 Ah1 ns1 cs1 nk1 ck1 nh1 ch1 hs1 _ hq2 OK1.out (RdP.keep rs.r1 (Bl.refl wr).drew)).mono ?_; rintro e w1 ⟨A1, n1, c1, rfl, b1, hb1⟩; have hz1 := hb1.sz
   go_wp2_with fail
   refine ko hK ?_ fun hHeld => ?_
   ·(try dsimp only); exact ⟨trivial, hb1.cells A_0, hb1.cells A_1, hb1.cells A_2, hb1.cells A_3, hb1.cells A_4, hb1.cells A_5, hb1.cells A_6, hb1.cells A_7, hb1.cells A_8, hb1.cells A_9, hb1.cells A_10, hb1.cells B_0, hb1.cells B_1, hb1.cells B_2, hb1.cells B_3, hb1.cells B_4, hb1.cells B_5, hb1.cells B_6, hb1.cells B_7, hb1.cells B_8, hb1.cells B_9, hb1.cells B_10⟩
   clear hK K
   refine f_step (i := 4) (by kernel_rfl) rfl (fun K hK => ?_)
   go_simp
   go_at_call 54; refine (spec_ptMessage rb q As3 Ak3 Ah3 ns3 cs3 nk3 ck3 nh3 ch3 hs3 _ hq2 OK2.out (RdP.keep rs.r2 ((Bl.refl wr).drew.call hb1))).mono ?_; rintro e w2 ⟨A2, n2, c2, rfl, b2, hb2⟩; have hz2 := hb2.sz; replace b1 := b1.keep hb2; have hV := ((Bl.refl wr).drew.call hb1).call hb2
   go_wp2_with fail
   refine ko hK ?_ fun hHeld => ?_
   ·(try dsimp only); exact ⟨trivial, hb2.cells (hb1.cells A_0), hb2.cells (hb1.cells A_1), hb2.cells (hb1.cells A_2), hb2.cells (hb1.cells A_3), hb2.cells (hb1.cells A_4), hb2.cells (hb1.cells A_5), hb2.cells (hb1.cells A_6), hb2.cells (hb1.cells A_7), hb2.cells (hb1.cells A_8), hb2.cells (hb1.cells A_9), hb2.cells (hb1.cells A_10), hb2.cells (hb1.cells B_0), hb2.cells (hb1.cells B_1), hb2.cells (hb1.cells B_2), hb2.cells (hb1.cells B_3), hb2.cells (hb1.cells B_4), hb2.cells (hb1.cells B_5), hb2.cells (hb1.cells B_6), hb2.cells (hb1.cells B_7), hb2.cells (hb1.cells B_8), hb2.cells (hb1.cells B_9), hb2.cells (hb1.cells B_10)⟩
   clear hK K
   refine f_step (i := 5) (by kernel_rfl) rfl (fun K hK => ?_)
   go_simp
   refine ko hK ?_ fun hHeld => ?_
   ·(try dsimp only); exact ⟨trivial, ((Bl.refl _).alloc _).cells (hb2.cells (hb1.cells A_0)), ((Bl.refl _).alloc _).cells (hb2.cells (hb1.cells A_1)), ((Bl.refl _).alloc _).cells (hb2.cells (hb1.cells A_2)), ((Bl.refl _).alloc _).cells (hb2.cells (hb1.cells A_3)), ((Bl.refl _).alloc _).cells (hb2.cells (hb1.cells A_4)), ((Bl.refl _).alloc _).cells (hb2.cells (hb1.cells A_5)), ((Bl.refl _).alloc _).cells (hb2.cells (hb1.cells A_6)), ((Bl.refl _).alloc _).cells (hb2.cells (hb1.cells A_7)), ((Bl.refl _).alloc _).cells (hb2.cells (hb1.cells A_8)), ((Bl.refl _).alloc _).cells (hb2.cells (hb1.cells A_9)), ((Bl.refl _).alloc _).cells (hb2.cells (hb1.cells A_10)), ((Bl.refl _).alloc _).cells (hb2.cells (hb1.cells B_0)), ((Bl.refl _).alloc _).cells (hb2.cells (hb1.cells B_1)), ((Bl.refl _).alloc _).cells (hb2.cells (hb1.cells B_2)), ((Bl.refl _).alloc _).cells (hb2.cells (hb1.cells B_3)), ((Bl.refl _).alloc _).cells (hb2.cells (hb1.cells B_4)), ((Bl.refl _).alloc _).cells (hb2.cells (hb1.cells B_5)), ((Bl.refl _).alloc _).cells (hb2.cells (hb1.cells B_6)), ((Bl.refl _).alloc _).cells (hb2.cells (hb1.cells B_7)), ((Bl.refl _).alloc _).cells (hb2.cells (hb1.cells B_8)), ((Bl.refl _).alloc _).cells (hb2.cells (hb1.cells B_9)), ((Bl.refl _).alloc _).cells (hb2.cells (hb1.cells B_10))⟩
   clear hK K
   refine f_last (i := 6) (by kernel_rfl) rfl (by simp) (fun K hK => ?_)
   have rs2 := rs.bl (hV.alloc (.cells #[.int .i64 ra.party, .int .i64 ra.step, .slice A1 n1 c1, .int .i64 rb.party, .int .i64 rb.step, .slice A2 n2 c2] 87)); refine ap_ms_step rfl rfl rfl rs2.oS rfl (rd_msgs w2 #[.int .i64 ra.party, .int .i64 ra.step, .slice A1 n1 c1, .int .i64 rb.party, .int .i64 rb.step, .slice A2 n2 c2] 2 rfl (by omega)) (one6 _ _ _ _ _ _ _ _ _ _) (by omega) (by have := hV.sz; have := HZ.out; simp; omega) ?_; intro A4 c4 w4 o4 hg4 hat4
   refine ko hK ?_ fun hHeld => ?_
   ·exact trivial
   clear hK K
   refine tS 7 9 ?_ hHeld (fun h => by simp at h)
   refine f_done (by kernel_rfl) ?_ _
   have hzd : wr.drew.heap.size = wr.heap.size := rfl
   have hzB : w2.heap.size ≤ (w2.alloc (.cells #[.int .i64 ra.party, .int .i64 ra.step, .slice A1 n1 c1, .int .i64 rb.party, .int .i64 rb.step, .slice A2 n2 c2] 87)).heap.size := by simp
   replace b1 := b1.mono (base' := wr.heap.size) (by omega)
   replace b2 := b2.mono (base' := wr.heap.size) (by omega)
   have b1' := b1.alloc (.cells #[.int .i64 ra.party, .int .i64 ra.step, .slice A1 n1 c1, .int .i64 rb.party, .int .i64 rb.step, .slice A2 n2 c2] 87)
   have b2' := b2.alloc (.cells #[.int .i64 ra.party, .int .i64 ra.step, .slice A1 n1 c1, .int .i64 rb.party, .int .i64 rb.step, .slice A2 n2 c2] 87)
   have rs4 := rs2.send (x := ⟨ra.party, ra.step, A1, n1, c1⟩) (y := ⟨rb.party, rb.step, A2, n2, c2⟩) (m := msgP ra) (o := msgP rb) HLN.out.1 hg4 hat4 o4 ⟨rfl, rfl, b1'.rd⟩ ⟨rfl, rfl, b2'.rd⟩ (fun k hk => ⟨.inr (by have q1 := (b1.blk k hk).1; have q2 := HZ.out; omega), by have q1 := (b1.blk k hk).2; have q2 := hV.sz; have q3 := hzB; omega, fun e => by have q1 := (OwnV.blk rs.oS k e).2; have q2 := (b1.blk k hk).1; omega, fun e => by have q1 := (OwnV.blk rs.oT k e).2; have q2 := (b1.blk k hk).1; omega⟩) (fun k hk => ⟨.inr (by have q1 := (b2.blk k hk).1; have q2 := HZ.out; omega), by have q1 := (b2.blk k hk).2; have q2 := hV.sz; have q3 := hzB; omega, fun e => by have q1 := (OwnV.blk rs.oS k e).2; have q2 := (b2.blk k hk).1; omega, fun e => by have q1 := (OwnV.blk rs.oT k e).2; have q2 := (b2.blk k hk).1; omega⟩)
   have hz4r : wr.heap.size ≤ w4.heap.size := by have q1 := hg4.size; have q2 := hV.sz; omega
   (try clear A_l A_f A_0 A_1 A_2 A_3 A_4 A_5 A_6 A_7 A_8 A_9 A_10); (try clear B_l B_f B_0 B_1 B_2 B_3 B_4 B_5 B_6 B_7 B_8 B_9 B_10); (try clear hA hB)
   clear rs2 o4 hg4 hat4 b1 b2 b1' b2' hb1 hb2 hV hzB hzd hz1 hz2
   obtain ⟨mA, hmA⟩ : ∃ x, tkA l ⟨ra, rb, sent, taken⟩ = x := ⟨_, rfl⟩
   obtain ⟨mB, hmB⟩ : ∃ x, tkB l ⟨ra, rb, sent, taken⟩ = x := ⟨_, rfl⟩
   have HMA := Lib.hid hmA
   have HMB := Lib.hid hmB
   have hsn := HLN.out.1
   have HTA := Lib.hid (show takenP ra.p l (n : Int) (msgP ra) (sent[n - 2]?.getD ⟨0, 0, []⟩) = mA by rw [← hmA]; unfold tkA; simp only; rw [hsn])
   have HTB := Lib.hid (show takenP ra.p l ((n + 1 : Nat) : Int) (msgP rb) (sent[n + 1 - 2]?.getD ⟨0, 0, []⟩) = mB by rw [← hmB]; unfold tkB; simp only; rw [hsn, show n + 1 - 2 = n - 1 by omega]; rfl)
   have hlen : ∀ m ∈ sent ++ [msgP ra, msgP rb], m.b.length ≤ 1000 := fun m hm => by
    rcases List.mem_append.1 hm with h | h
    ·exact HSM.out.2.2 m h
    ·have e1 := (RUN.out.msgs hq2).1.1
     have e2 := (RUN.out.msgs hq2).2.1
     have e3 := bodyN_le q
     simp only [List.mem_cons, List.not_mem_nil, or_false] at h
     rcases h with rfl | rfl <;> omega
   have HLEN := Lib.hid hlen
   obtain ⟨⟨fx, sx, Ax, nx, cx⟩, hLx, hrx, -⟩ := rs4.sn n (msgP ra) (by rw [← hsn, List.getElem?_append_right (Nat.le_refl _), Nat.sub_self]; rfl)
   obtain ⟨⟨fy, sy, Ay, ny, cy⟩, hLy, hry, -⟩ := rs4.sn (n + 1) (msgP rb) (by rw [← hsn, List.getElem?_append_right (by omega), show sent.length + 1 - sent.length = 1 by omega]; rfl)
   have HC1 := Lib.hid (spec_nwTaken ra.p Al nl cl l A4 (n + 2) c4 _ n n rfl fx sx Ax nx cx (msgP ra) (sent[n - 2]?.getD ⟨0, 0, []⟩) w4 (hl.keep rs4.wb) rs4.oS.rd rs4.lS (by have := HN.out; omega) hLx hrx (by rw [RUN.out.qa]; exact HML.out) (by rw [RUN.out.qa]; exact hp2)
    (by rw [RUN.out.qa, show n / 2 = q by have := HN.out; omega]; exact (RUN.out.msgs hq2).1) (.inl RUN.out.pa) (fun h2 => by
     obtain ⟨z, e1, e2, e3⟩ := prev_ms rs4.sn HLEN.out (j := n - 2) (by rw [List.length_append]; omega)
     rw [List.getElem?_append_left (by omega)] at e2
     exact ⟨z, e1, e2, e3⟩))
   have HC2 := Lib.hid (fun (wx : World) (hb : Bl w4 wx) => spec_nwTaken ra.p Al nl cl l A4 (n + 2) c4 _ (n + 1) ((n : Int) + 1) (by omega) fy sy Ay ny cy (msgP rb) (sent[n + 1 - 2]?.getD ⟨0, 0, []⟩) wx (hl.keep (rs4.wb.call hb)) (rs4.oS.rd.keep hb) rs4.lS (by have := HN.out; omega) hLy (hry.keep hb) (by rw [RUN.out.qa]; exact HML.out) (by rw [RUN.out.qa]; exact hp2)
    (by rw [RUN.out.qa, show (n + 1) / 2 = q by have := HN.out; omega]; exact (RUN.out.msgs hq2).2) (.inr RUN.out.pb) (fun h2 => by
     obtain ⟨z, e1, e2, e3⟩ := prev_ms rs4.sn HLEN.out (j := n + 1 - 2) (by rw [List.length_append]; omega)
     rw [List.getElem?_append_left (by have := HN.out; omega)] at e2
     exact ⟨z, e1, e2.keep hb, e3⟩))
   have zn : IntKind.i64.wrap ((n : Int) + 1) = n + 1 := IntWalk.i64_in _ (by omega)
   clear hmA hmB hsn hlen hLx hrx hLy hry
   have hA : Blk w4 w.heap.size 34 #[.int .i64 ra.p, .int .i64 ra.party, .int .i64 ra.x, .int .i64 ra.mask, .int .i64 ra.delta, .slice As1 ns1 cs1, .slice Ak1 nk1 ck1, .int .i64 ra.step, .slice Ah1 nh1 ch1, .int .i64 ra.status, .int .i64 ra.out] := rs4.bA; have hB : Blk w4 (w.heap.size + 1) 34 #[.int .i64 rb.p, .int .i64 rb.party, .int .i64 rb.x, .int .i64 rb.mask, .int .i64 rb.delta, .slice As3 ns3 cs3, .slice Ak3 nk3 ck3, .int .i64 rb.step, .slice Ah3 nh3 ch3, .int .i64 rb.status, .int .i64 rb.out] := rs4.bB; obtain ⟨A_l, A_f, A_0, A_1, A_2, A_3, A_4, A_5, A_6, A_7, A_8, A_9, A_10⟩ := hA.l11; obtain ⟨B_l, B_f, B_0, B_1, B_2, B_3, B_4, B_5, B_6, B_7, B_8, B_9, B_10⟩ := hB.l11
   go_wp2_with fail
   refine HC1.out.mono ?_
   rintro e w5 ⟨f5, s5, A5, n5, c5, rfl, r5, a5, l5, hb5⟩
   rw [HTA.out] at r5
   obtain ⟨hf5, hs5, rb5⟩ := r5
   simp only at hf5 hs5
   subst hf5; subst hs5
   have rs5 := rs4.bl hb5
   have hz5 := hb5.sz
   (try clear A_l A_f A_0 A_1 A_2 A_3 A_4 A_5 A_6 A_7 A_8 A_9 A_10); (try clear B_l B_f B_0 B_1 B_2 B_3 B_4 B_5 B_6 B_7 B_8 B_9 B_10); (try clear hA hB)
   have hA : Blk w5 w.heap.size 34 #[.int .i64 ra.p, .int .i64 ra.party, .int .i64 ra.x, .int .i64 ra.mask, .int .i64 ra.delta, .slice As1 ns1 cs1, .slice Ak1 nk1 ck1, .int .i64 ra.step, .slice Ah1 nh1 ch1, .int .i64 ra.status, .int .i64 ra.out] := rs5.bA; have hB : Blk w5 (w.heap.size + 1) 34 #[.int .i64 rb.p, .int .i64 rb.party, .int .i64 rb.x, .int .i64 rb.mask, .int .i64 rb.delta, .slice As3 ns3 cs3, .slice Ak3 nk3 ck3, .int .i64 rb.step, .slice Ah3 nh3 ch3, .int .i64 rb.status, .int .i64 rb.out] := rs5.bB; obtain ⟨A_l, A_f, A_0, A_1, A_2, A_3, A_4, A_5, A_6, A_7, A_8, A_9, A_10⟩ := hA.l11; obtain ⟨B_l, B_f, B_0, B_1, B_2, B_3, B_4, B_5, B_6, B_7, B_8, B_9, B_10⟩ := hB.l11
   go_wp2_with fail
   refine (HC2.out _ (hb5.alloc (.cells #[.int .i64 mA.f, .int .i64 mA.s, .slice A5 n5 c5] 87))).mono ?_
   rintro e w6 ⟨f6, s6, A6, n6, c6, rfl, r6, a6, l6, hb6⟩
   rw [HTB.out] at r6
   obtain ⟨hf6, hs6, rb6⟩ := r6
   simp only at hf6 hs6
   subst hf6; subst hs6
   have rs6 := (rs5.bl ((Bl.refl w5).alloc (.cells #[.int .i64 mA.f, .int .i64 mA.s, .slice A5 n5 c5] 87))).bl hb6
   have hX := (Blk.new w5 87 #[.int .i64 mA.f, .int .i64 mA.s, .slice A5 n5 c5] (g := w5.heap.size)).keep hb6
   have hz6 := hb6.sz
   replace rb5 := (RdI.keep rb5 ((Bl.refl w5).alloc (.cells #[.int .i64 mA.f, .int .i64 mA.s, .slice A5 n5 c5] 87))).keep hb6
   simp only [World.size_alloc] at hz6 a6
   (try clear A_l A_f A_0 A_1 A_2 A_3 A_4 A_5 A_6 A_7 A_8 A_9 A_10); (try clear B_l B_f B_0 B_1 B_2 B_3 B_4 B_5 B_6 B_7 B_8 B_9 B_10); (try clear hA hB)
   have hA : Blk w6 w.heap.size 34 #[.int .i64 ra.p, .int .i64 ra.party, .int .i64 ra.x, .int .i64 ra.mask, .int .i64 ra.delta, .slice As1 ns1 cs1, .slice Ak1 nk1 ck1, .int .i64 ra.step, .slice Ah1 nh1 ch1, .int .i64 ra.status, .int .i64 ra.out] := rs6.bA; have hB : Blk w6 (w.heap.size + 1) 34 #[.int .i64 rb.p, .int .i64 rb.party, .int .i64 rb.x, .int .i64 rb.mask, .int .i64 rb.delta, .slice As3 ns3 cs3, .slice Ak3 nk3 ck3, .int .i64 rb.step, .slice Ah3 nh3 ch3, .int .i64 rb.status, .int .i64 rb.out] := rs6.bB; obtain ⟨A_l, A_f, A_0, A_1, A_2, A_3, A_4, A_5, A_6, A_7, A_8, A_9, A_10⟩ := hA.l11; obtain ⟨B_l, B_f, B_0, B_1, B_2, B_3, B_4, B_5, B_6, B_7, B_8, B_9, B_10⟩ := hB.l11
   obtain ⟨X_l, X_f, X_0, X_1, X_2⟩ := hX.l3
   have hY := Blk.new w6 87 #[.int .i64 mB.f, .int .i64 mB.s, .slice A6 n6 c6] (g := w6.heap.size)
   have rs7 := rs6.bl (((Bl.refl w6).alloc (.cells #[.int .i64 mB.f, .int .i64 mB.s, .slice A6 n6 c6] 87)).alloc (.cells #[.int .i64 mA.f, .int .i64 mA.s, .slice A5 n5 c5, .int .i64 mB.f, .int .i64 mB.s, .slice A6 n6 c6] 87))
   have hz7 : ((w6.alloc (.cells #[.int .i64 mB.f, .int .i64 mB.s, .slice A6 n6 c6] 87)).alloc (.cells #[.int .i64 mA.f, .int .i64 mA.s, .slice A5 n5 c5, .int .i64 mB.f, .int .i64 mB.s, .slice A6 n6 c6] 87)).heap.size = w6.heap.size + 2 := by simp
   have h46 : w4.heap.size ≤ w6.heap.size := by omega
   have hz4 : wr.heap.size ≤ w4.heap.size := hz4r
   have p5 : 0 < n5 → ∀ k, A5.map (·.block) = some k → Qs w.heap.size ((w6.alloc (.cells #[.int .i64 mB.f, .int .i64 mB.s, .slice A6 n6 c6] 87)).alloc (.cells #[.int .i64 mA.f, .int .i64 mA.s, .slice A5 n5 c5, .int .i64 mB.f, .int .i64 mB.s, .slice A6 n6 c6] 87)).heap.size A4 At k := fun h0 k hk => by
    have q1 := a5 k hk
    obtain ⟨ad, e, hlt, _⟩ := rb5.at0 h0
    have e' : A5 = some ad := e
    rw [e'] at hk
    have hk2 : ad.block = k := Option.some.inj hk
    rw [hk2] at hlt
    exact ⟨.inr (by have := HZ.out; omega), by omega, fun e2 => by have := (OwnV.blk rs4.oS k e2).2; omega, fun e2 => by have := (OwnV.blk rs4.oT k e2).2; omega⟩
   have p6 : 0 < n6 → ∀ k, A6.map (·.block) = some k → Qs w.heap.size ((w6.alloc (.cells #[.int .i64 mB.f, .int .i64 mB.s, .slice A6 n6 c6] 87)).alloc (.cells #[.int .i64 mA.f, .int .i64 mA.s, .slice A5 n5 c5, .int .i64 mB.f, .int .i64 mB.s, .slice A6 n6 c6] 87)).heap.size A4 At k := fun h0 k hk => by
    have q1 := a6 k hk
    obtain ⟨ad, e, hlt, _⟩ := rb6.at0 h0
    have e' : A6 = some ad := e
    rw [e'] at hk
    have hk2 : ad.block = k := Option.some.inj hk
    rw [hk2] at hlt
    exact ⟨.inr (by have := HZ.out; omega), by omega, fun e2 => by have := (OwnV.blk rs4.oS k e2).2; omega, fun e2 => by have := (OwnV.blk rs4.oT k e2).2; omega⟩
   go_wp2_with (at_builtin; refine ap_ms rfl rfl rfl rs7.oT rfl (rd_msgs (w6.alloc (.cells #[.int .i64 mB.f, .int .i64 mB.s, .slice A6 n6 c6] 87)) #[.int .i64 mA.f, .int .i64 mA.s, .slice A5 n5 c5, .int .i64 mB.f, .int .i64 mB.s, .slice A6 n6 c6] 2 rfl (by omega)) (one6 _ _ _ _ _ _ _ _ _ _) (by omega) (by have := HZ.out; omega) ?_; intro A7 c7 w7 o7 hg7 hat7; have rs8 := rs7.take (x := ⟨mA.f, mA.s, A5, n5, c5⟩) (y := ⟨mB.f, mB.s, A6, n6, c6⟩) (m := mA) (o := mB) HLN.out.2.1 hg7 hat7 o7 ⟨rfl, rfl, rb5.keep (((Bl.refl w6).alloc _).alloc _)⟩ ⟨rfl, rfl, rb6.keep (((Bl.refl w6).alloc _).alloc _)⟩ p5 p6; have nT : ∀ k, At.map (·.block) = some k → k < w4.heap.size := fun k e => (OwnV.blk rs4.oT k e).2; have hX7 := Blk.grown ((hX.alloc (.cells #[.int .i64 mB.f, .int .i64 mB.s, .slice A6 n6 c6] 87)).alloc (.cells #[.int .i64 mA.f, .int .i64 mA.s, .slice A5 n5 c5, .int .i64 mB.f, .int .i64 mB.s, .slice A6 n6 c6] 87)) hg7 (fun e => by have := nT _ e.symm; omega); have hY7 := Blk.grown (hY.alloc (.cells #[.int .i64 mA.f, .int .i64 mA.s, .slice A5 n5 c5, .int .i64 mB.f, .int .i64 mB.s, .slice A6 n6 c6] 87)) hg7 (fun e => by have := nT _ e.symm; omega); have gT : Gp (fun k => At.map (·.block) = some k) w6 w7 := ((Gp.of_bl (((Bl.refl w6).alloc (.cells #[.int .i64 mB.f, .int .i64 mB.s, .slice A6 n6 c6] 87)).alloc (.cells #[.int .i64 mA.f, .int .i64 mA.s, .slice A5 n5 c5, .int .i64 mB.f, .int .i64 mB.s, .slice A6 n6 c6] 87)))).trans (Gp.of_grown hg7 (fun k e => e)); have hz77 := gT.size; (try clear A_l A_f A_0 A_1 A_2 A_3 A_4 A_5 A_6 A_7 A_8 A_9 A_10); (try clear B_l B_f B_0 B_1 B_2 B_3 B_4 B_5 B_6 B_7 B_8 B_9 B_10); (try clear hA hB); (try clear X_l X_f X_0 X_1 X_2); clear hX hY; have hX := hX7; have hY := hY7; clear hX7 hY7; have hA : Blk w7 w.heap.size 34 #[.int .i64 ra.p, .int .i64 ra.party, .int .i64 ra.x, .int .i64 ra.mask, .int .i64 ra.delta, .slice As1 ns1 cs1, .slice Ak1 nk1 ck1, .int .i64 ra.step, .slice Ah1 nh1 ch1, .int .i64 ra.status, .int .i64 ra.out] := rs8.bA; have hB : Blk w7 (w.heap.size + 1) 34 #[.int .i64 rb.p, .int .i64 rb.party, .int .i64 rb.x, .int .i64 rb.mask, .int .i64 rb.delta, .slice As3 ns3 cs3, .slice Ak3 nk3 ck3, .int .i64 rb.step, .slice Ah3 nh3 ch3, .int .i64 rb.status, .int .i64 rb.out] := rs8.bB; obtain ⟨A_l, A_f, A_0, A_1, A_2, A_3, A_4, A_5, A_6, A_7, A_8, A_9, A_10⟩ := hA.l11; obtain ⟨B_l, B_f, B_0, B_1, B_2, B_3, B_4, B_5, B_6, B_7, B_8, B_9, B_10⟩ := hB.l11; obtain ⟨X_l, X_f, X_0, X_1, X_2⟩ := hX.l3; obtain ⟨Y_l, Y_f, Y_0, Y_1, Y_2⟩ := hY.l3)
   have rb5' : RdI w7 A5 n5 c5 mA.b := RdM.b (RdM.gpW (h := ⟨mA.f, mA.s, A5, n5, c5⟩) ⟨rfl, rfl, rb5⟩ gT (fun h0 k hk e => by have := (p5 h0 k hk).2.2.2; exact this e))
   have rb6' : RdI w7 A6 n6 c6 mB.b := RdM.b (RdM.gpW (h := ⟨mB.f, mB.s, A6, n6, c6⟩) ⟨rfl, rfl, rb6⟩ gT (fun h0 k hk e => by have := (p6 h0 k hk).2.2.2; exact this e))
   have hA5 : ∀ k, A5.map (·.block) = some k → k ≠ w.heap.size := fun k hk => by have q1 := a5 k hk; have q2 := HZ.out; omega
   clear rb5 rb6 p5 p6 rs7 rs6 rs5 gT nT a5 a6
   refine (spec_ptTake ra mB q As1 Ak1 Ah1 ns1 cs1 nk1 ck1 nh1 ch1 hs1 A6 n6 c6 _ hq2 OK1.out rs8.r1 rb6' l6).mono ?_
   rintro e w8 ⟨E8, en, e8, es, rfl, rp, ip, hb8⟩
   generalize hpa : takeP ra mB = pa at rp ⊢
   have HPA := Lib.hid hpa
   clear hpa
   have rs9 := rs8.bl hb8
   have hz8 := hb8.sz
   have i9 := ip (Qs w.heap.size w8.heap.size A4 A7) rs9.i1 (fun k h1 h2 => ⟨.inr (by have := HZ.out; omega), h2, fun e => by have := (OwnV.blk rs8.oS k e).2; omega, fun e => by have := (OwnV.blk rs8.oT k e).2; omega⟩)
   have rsA : RS w.heap.size w (w8.setRow w.heap.size #[.int .i64 pa.p, .int .i64 pa.party, .int .i64 pa.x, .int .i64 pa.mask, .int .i64 pa.delta, .slice As1 ns1 cs1, .slice Ak1 nk1 ck1, .int .i64 pa.step, .slice E8 en e8, .int .i64 pa.status, .int .i64 pa.out]) pa rb (sent ++ [msgP ra, msgP rb]) (taken ++ [mA, mB]) _ _ ⟨As1, Ak1, E8, ns1, cs1, nk1, ck1, en, e8, es⟩ ⟨As3, Ak3, Ah3, ns3, cs3, nk3, ck3, nh3, ch3, hs3⟩ A4 A7 (n + 2) c4 (nt + 2) c7 := rs9.setA (ra' := pa) (s1' := ⟨As1, Ak1, E8, ns1, cs1, nk1, ck1, en, e8, es⟩) rp i9
   have hX8 := (hX.keep hb8).farRow (k := w.heap.size) (cs' := #[.int .i64 pa.p, .int .i64 pa.party, .int .i64 pa.x, .int .i64 pa.mask, .int .i64 pa.delta, .slice As1 ns1 cs1, .slice Ak1 nk1 ck1, .int .i64 pa.step, .slice E8 en e8, .int .i64 pa.status, .int .i64 pa.out]) (by have := HZ.out; omega)
   replace rb5' := Rd.gp (P := fun k => k = w.heap.size) (rb5'.keep hb8) (Gp.of_grown (setRow_grown w8 w.heap.size #[.int .i64 pa.p, .int .i64 pa.party, .int .i64 pa.x, .int .i64 pa.mask, .int .i64 pa.delta, .slice As1 ns1 cs1, .slice Ak1 nk1 ck1, .int .i64 pa.step, .slice E8 en e8, .int .i64 pa.status, .int .i64 pa.out]) (fun k e => by injection e with e; exact e.symm)) (fun k hk e => hA5 k hk e)
   (try clear A_l A_f A_0 A_1 A_2 A_3 A_4 A_5 A_6 A_7 A_8 A_9 A_10); (try clear B_l B_f B_0 B_1 B_2 B_3 B_4 B_5 B_6 B_7 B_8 B_9 B_10); (try clear hA hB); (try clear X_l X_f X_0 X_1 X_2); (try clear Y_l Y_f Y_0 Y_1 Y_2)
   have hA : Blk w8 w.heap.size 34 #[.int .i64 ra.p, .int .i64 ra.party, .int .i64 ra.x, .int .i64 ra.mask, .int .i64 ra.delta, .slice As1 ns1 cs1, .slice Ak1 nk1 ck1, .int .i64 ra.step, .slice Ah1 nh1 ch1, .int .i64 ra.status, .int .i64 ra.out] := rs9.bA
   clear hX hY
   go_wp2_with (refine wpList_plain rfl fun K hK => ?_; refine wp_store_row 34 _ _ rfl (w.heap.size) #[.int .i64 pa.p, .int .i64 pa.party, .int .i64 pa.x, .int .i64 pa.mask, .int .i64 pa.delta, .slice As1 ns1 cs1, .slice Ak1 nk1 ck1, .int .i64 pa.step, .slice E8 en e8, .int .i64 pa.status, .int .i64 pa.out] rfl rfl 34 #[.int .i64 ra.p, .int .i64 ra.party, .int .i64 ra.x, .int .i64 ra.mask, .int .i64 ra.delta, .slice As1 ns1 cs1, .slice Ak1 nk1 ck1, .int .i64 ra.step, .slice Ah1 nh1 ch1, .int .i64 ra.status, .int .i64 ra.out] hA (by kernel_rfl) rfl (by first | rfl | simp [Value.oneCell'] | kernel_rfl) ?_; refine hK _ _ ?_; clear hK K hA; generalize w8.setRow w.heap.size #[.int .i64 pa.p, .int .i64 pa.party, .int .i64 pa.x, .int .i64 pa.mask, .int .i64 pa.delta, .slice As1 ns1 cs1, .slice Ak1 nk1 ck1, .int .i64 pa.step, .slice E8 en e8, .int .i64 pa.status, .int .i64 pa.out] = w9 at rsA hX8 rb5' ⊢; have hX := hX8; clear hX8; have hA : Blk w9 w.heap.size 34 #[.int .i64 pa.p, .int .i64 pa.party, .int .i64 pa.x, .int .i64 pa.mask, .int .i64 pa.delta, .slice As1 ns1 cs1, .slice Ak1 nk1 ck1, .int .i64 pa.step, .slice E8 en e8, .int .i64 pa.status, .int .i64 pa.out] := rsA.bA; have hB : Blk w9 (w.heap.size + 1) 34 #[.int .i64 rb.p, .int .i64 rb.party, .int .i64 rb.x, .int .i64 rb.mask, .int .i64 rb.delta, .slice As3 ns3 cs3, .slice Ak3 nk3 ck3, .int .i64 rb.step, .slice Ah3 nh3 ch3, .int .i64 rb.status, .int .i64 rb.out] := rsA.bB; obtain ⟨A_l, A_f, A_0, A_1, A_2, A_3, A_4, A_5, A_6, A_7, A_8, A_9, A_10⟩ := hA.l11; obtain ⟨B_l, B_f, B_0, B_1, B_2, B_3, B_4, B_5, B_6, B_7, B_8, B_9, B_10⟩ := hB.l11; obtain ⟨X_l, X_f, X_0, X_1, X_2⟩ := hX.l3)
   refine (spec_ptTake rb mA q As3 Ak3 Ah3 ns3 cs3 nk3 ck3 nh3 ch3 hs3 A5 n5 c5 _ hq2 OK2.out rsA.r2 rb5' l5).mono ?_
   rintro e w10 ⟨F8, fn, f8, fs, rfl, rp2, ip2, hb10⟩
   generalize hpb : takeP rb mA = pb at rp2 ⊢
   have HPB := Lib.hid hpb
   clear hpb
   have rsB := rsA.bl hb10
   have hz10 := hb10.sz
   have zA : ∀ k, A4.map (·.block) = some k → k < w9.heap.size := fun k e => (OwnV.blk rsA.oS k e).2
   have zT : ∀ k, A7.map (·.block) = some k → k < w9.heap.size := fun k e => (OwnV.blk rsA.oT k e).2
   have hz9 : w.heap.size + 4 ≤ w9.heap.size := by have := rsA.bT.lt; omega
   have i10 := ip2 (Qs w.heap.size w10.heap.size A4 A7) rsB.i2 (fun k h1 h2 => ⟨.inr (by omega), h2, fun e => by have := zA k e; omega, fun e => by have := zT k e; omega⟩)
   have rsC : RS w.heap.size w (w10.setRow (w.heap.size + 1) #[.int .i64 pb.p, .int .i64 pb.party, .int .i64 pb.x, .int .i64 pb.mask, .int .i64 pb.delta, .slice As3 ns3 cs3, .slice Ak3 nk3 ck3, .int .i64 pb.step, .slice F8 fn f8, .int .i64 pb.status, .int .i64 pb.out]) pa pb (sent ++ [msgP ra, msgP rb]) (taken ++ [mA, mB]) _ _ ⟨As1, Ak1, E8, ns1, cs1, nk1, ck1, en, e8, es⟩ ⟨As3, Ak3, F8, ns3, cs3, nk3, ck3, fn, f8, fs⟩ A4 A7 (n + 2) c4 (nt + 2) c7 := rsB.setB (rb' := pb) (s2' := ⟨As3, Ak3, F8, ns3, cs3, nk3, ck3, fn, f8, fs⟩) rp2 i10
   (try clear A_l A_f A_0 A_1 A_2 A_3 A_4 A_5 A_6 A_7 A_8 A_9 A_10); (try clear B_l B_f B_0 B_1 B_2 B_3 B_4 B_5 B_6 B_7 B_8 B_9 B_10); (try clear hA hB); (try clear X_l X_f X_0 X_1 X_2)
   have hB : Blk w10 (w.heap.size + 1) 34 #[.int .i64 rb.p, .int .i64 rb.party, .int .i64 rb.x, .int .i64 rb.mask, .int .i64 rb.delta, .slice As3 ns3 cs3, .slice Ak3 nk3 ck3, .int .i64 rb.step, .slice Ah3 nh3 ch3, .int .i64 rb.status, .int .i64 rb.out] := rsB.bB
   clear hX
   go_wp2_with (refine wpList_plain rfl fun K hK => ?_; refine wp_store_row 34 _ _ rfl (w.heap.size + 1) #[.int .i64 pb.p, .int .i64 pb.party, .int .i64 pb.x, .int .i64 pb.mask, .int .i64 pb.delta, .slice As3 ns3 cs3, .slice Ak3 nk3 ck3, .int .i64 pb.step, .slice F8 fn f8, .int .i64 pb.status, .int .i64 pb.out] rfl rfl 34 #[.int .i64 rb.p, .int .i64 rb.party, .int .i64 rb.x, .int .i64 rb.mask, .int .i64 rb.delta, .slice As3 ns3 cs3, .slice Ak3 nk3 ck3, .int .i64 rb.step, .slice Ah3 nh3 ch3, .int .i64 rb.status, .int .i64 rb.out] hB (by kernel_rfl) rfl (by first | rfl | simp [Value.oneCell'] | kernel_rfl) ?_; refine hK _ _ ?_; clear hK K hB; generalize w10.setRow (w.heap.size + 1) #[.int .i64 pb.p, .int .i64 pb.party, .int .i64 pb.x, .int .i64 pb.mask, .int .i64 pb.delta, .slice As3 ns3 cs3, .slice Ak3 nk3 ck3, .int .i64 pb.step, .slice F8 fn f8, .int .i64 pb.status, .int .i64 pb.out] = w11 at rsC ⊢)
   have HCS2 := Lib.hid (show (q + 1 ≤ 2 ∧ q + 1 + (2 - q) = 3 ∧ n + 2 = 2 * (q + 1) ∧ RunQ a b l (q + 1) pa pb (sent ++ [msgP ra, msgP rb]) (taken ++ [mA, mB])) ∨ (runM a b l = ⟨pa, pb, sent ++ [msgP ra, msgP rb], taken ++ [mA, mB]⟩ ∧ ¬ (pa.status = 0 ∧ pb.status = 0)) by
    have r := RUN.out.round hq2
    rw [HMA.out, HMB.out, HPA.out, HPB.out] at r
    rcases r with ⟨r1, r2⟩ | r
    ·exact .inl ⟨r1, by omega, by have := HN.out; omega, r2⟩
    ·exact .inr r)
   have SM2 := Lib.hid (show Sm pa ∧ Sm pb ∧ ∀ m ∈ sent ++ [msgP ra, msgP rb], m.b.length ≤ 1000 from ⟨HPA.out ▸ OK1.out.small_take hq2 mB, HPB.out ▸ OK2.out.small_take hq2 mA, HLEN.out⟩)
   have LN2 := Lib.hid (show (sent ++ [msgP ra, msgP rb]).length = n + 2 ∧ (taken ++ [mA, mB]).length = nt + 2 ∧ n + 2 ≤ 6 ∧ nt + 2 ≤ 6 by
    have e1 := HLN.out
    have e2 := HN.out
    have e3 := RUN.out.lt
    refine ⟨by rw [List.length_append, e1.1]; rfl, by rw [List.length_append, e1.2.1]; rfl, by omega, by omega⟩)
   go_roundg (2 - q)
   case measure => have := HK.out; omega
   case rel => exact ⟨q + 1, n + 2, nt + 2, c4, c7, pa, pb, _, _, _, _, ⟨As1, Ak1, E8, ns1, cs1, nk1, ck1, en, e8, es⟩, ⟨As3, Ak3, F8, ns3, cs3, nk3, ck3, fn, f8, fs⟩, A4, A7, rfl, rfl, LN2, SM2, HCS2, rsC⟩
  ·have HR := Lib.hid hrun
   have HNOT := Lib.hid hnot
   clear hrun hnot
   have SL1 := Lib.hid (show ns1 ≤ 1000000 ∧ nk1 ≤ 1000000 ∧ nh1 ≤ 1000000 ∧ ∀ b ∈ ra.hd, b.length ≤ 1000000 by
    have q1 := HSM.out.1
    have e1 : ra.sh.length = ns1 := rs.r1.sh.2
    have e2 : ra.ks.length = nk1 := rs.r1.ks.length
    have e3 : ra.hd.length = nh1 := rs.r1.hd.l_eq
    have := q1.s; have := q1.k; have := q1.h
    exact ⟨by omega, by omega, by omega, fun b hb => by have := q1.b b hb; omega⟩)
   have SL2 := Lib.hid (show ns3 ≤ 1000000 ∧ nk3 ≤ 1000000 ∧ nh3 ≤ 1000000 ∧ ∀ b ∈ rb.hd, b.length ≤ 1000000 by
    have q1 := HSM.out.2.1
    have e1 : rb.sh.length = ns3 := rs.r2.sh.2
    have e2 : rb.ks.length = nk3 := rs.r2.ks.length
    have e3 : rb.hd.length = nh3 := rs.r2.hd.l_eq
    have := q1.s; have := q1.k; have := q1.h
    exact ⟨by omega, by omega, by omega, fun b hb => by have := q1.b b hb; omega⟩)
   have LT := Lib.hid (show nt = taken.length from HLN.out.2.1.symm)
   clear hcc hct hcm hcm2 hn6 hnt6
   have hpart : (ra.status == 0) = false ∨ ((ra.status == 0) = true ∧ (rb.status == 0) = false) := by
    have q := HNOT.out
    by_cases e1 : ra.status = 0
    ·right; exact ⟨by rw [e1]; rfl, by rw [beq_eq_false_iff_ne]; exact fun e2 => q ⟨e1, e2⟩⟩
    ·left; rw [beq_eq_false_iff_ne]; exact e1
   rcases hpart with g1 | ⟨g1, g2⟩
   ·go_wp2_with fail
    refine region_F (fun _ => True) (fun w' => w'.cell? ⟨w.heap.size, 0, none⟩ = some (.int .i64 ra.p) ∧ w'.cell? ⟨w.heap.size, 1, none⟩ = some (.int .i64 ra.party) ∧ w'.cell? ⟨w.heap.size, 2, none⟩ = some (.int .i64 ra.x) ∧ w'.cell? ⟨w.heap.size, 3, none⟩ = some (.int .i64 ra.mask) ∧ w'.cell? ⟨w.heap.size, 4, none⟩ = some (.int .i64 ra.delta) ∧ w'.cell? ⟨w.heap.size, 5, none⟩ = some (.slice As1 ns1 cs1) ∧ w'.cell? ⟨w.heap.size, 6, none⟩ = some (.slice Ak1 nk1 ck1) ∧ w'.cell? ⟨w.heap.size, 7, none⟩ = some (.int .i64 ra.step) ∧ w'.cell? ⟨w.heap.size, 8, none⟩ = some (.slice Ah1 nh1 ch1) ∧ w'.cell? ⟨w.heap.size, 9, none⟩ = some (.int .i64 ra.status) ∧ w'.cell? ⟨w.heap.size, 10, none⟩ = some (.int .i64 ra.out) ∧ w'.cell? ⟨w.heap.size + 1, 0, none⟩ = some (.int .i64 rb.p) ∧ w'.cell? ⟨w.heap.size + 1, 1, none⟩ = some (.int .i64 rb.party) ∧ w'.cell? ⟨w.heap.size + 1, 2, none⟩ = some (.int .i64 rb.x) ∧ w'.cell? ⟨w.heap.size + 1, 3, none⟩ = some (.int .i64 rb.mask) ∧ w'.cell? ⟨w.heap.size + 1, 4, none⟩ = some (.int .i64 rb.delta) ∧ w'.cell? ⟨w.heap.size + 1, 5, none⟩ = some (.slice As3 ns3 cs3) ∧ w'.cell? ⟨w.heap.size + 1, 6, none⟩ = some (.slice Ak3 nk3 ck3) ∧ w'.cell? ⟨w.heap.size + 1, 7, none⟩ = some (.int .i64 rb.step) ∧ w'.cell? ⟨w.heap.size + 1, 8, none⟩ = some (.slice Ah3 nh3 ch3) ∧ w'.cell? ⟨w.heap.size + 1, 9, none⟩ = some (.int .i64 rb.status) ∧ w'.cell? ⟨w.heap.size + 1, 10, none⟩ = some (.int .i64 rb.out)) 5 (by kernel_rfl) ?_ (fun hHeld => ?_)
    ·(try dsimp only); exact ⟨trivial, A_0, A_1, A_2, A_3, A_4, A_5, A_6, A_7, A_8, A_9, A_10, B_0, B_1, B_2, B_3, B_4, B_5, B_6, B_7, B_8, B_9, B_10⟩
    refine tC 0 55 [0] ?_ hHeld
    refine tC 2 57 [3, 2] ?_ hHeld
    refine tS 4 59 ?_ hHeld.1 (fun _ => hHeld.2)
    refine f_step (i := 1) (by kernel_rfl) rfl (fun K hK => ?_)
    go_simp
    go_at_call 57; refine (spec_ptOwn ra As1 Ak1 Ah1 ns1 cs1 nk1 ck1 nh1 ch1 hs1 _ (RdP.keep rs.r1 (Bl.refl wr).drew) SL1.out).mono ?_; rintro e w1 ⟨X5, X6, X8, x5, x6, x8, xs, rfl, -, hb1⟩
    go_wp2_with fail
    refine ko hK ?_ fun hHeld => ?_
    ·(try dsimp only); exact ⟨trivial, hb1.cells A_0, hb1.cells A_1, hb1.cells A_2, hb1.cells A_3, hb1.cells A_4, hb1.cells A_5, hb1.cells A_6, hb1.cells A_7, hb1.cells A_8, hb1.cells A_9, hb1.cells A_10, hb1.cells B_0, hb1.cells B_1, hb1.cells B_2, hb1.cells B_3, hb1.cells B_4, hb1.cells B_5, hb1.cells B_6, hb1.cells B_7, hb1.cells B_8, hb1.cells B_9, hb1.cells B_10⟩
    clear hK K
    refine f_step (i := 3) (by kernel_rfl) rfl (fun K hK => ?_)
    go_simp
    go_at_call 57; refine (spec_ptOwn rb As3 Ak3 Ah3 ns3 cs3 nk3 ck3 nh3 ch3 hs3 _ (RdP.keep rs.r2 ((Bl.refl wr).drew.call hb1)) SL2.out).mono ?_; rintro e w2 ⟨Y5, Y6, Y8, y5, y6, y8, ys, rfl, -, hb2⟩; have rsE := rs.bl (((Bl.refl wr).drew.call hb1).call hb2); have hR : Blk w2 (w.heap.size + 1 + 1) 34 #[.int .i64 0, .int .i64 0, .int .i64 0, .int .i64 0, .int .i64 0, .slice none 0 0, .slice none 0 0, .int .i64 0, .slice none 0 0, .int .i64 0, .int .i64 0] := rsE.bR; have hU : Blk w2 (w.heap.size + 1 + 1 + 1) 34 #[.int .i64 0, .int .i64 0, .int .i64 0, .int .i64 0, .int .i64 0, .slice none 0 0, .slice none 0 0, .int .i64 0, .slice none 0 0, .int .i64 0, .int .i64 0] := rsE.bT
    go_wp2_with fail
    refine ko hK ?_ fun hHeld => ?_
    ·(try dsimp only); exact ⟨trivial, hb2.cells (hb1.cells A_0), hb2.cells (hb1.cells A_1), hb2.cells (hb1.cells A_2), hb2.cells (hb1.cells A_3), hb2.cells (hb1.cells A_4), hb2.cells (hb1.cells A_5), hb2.cells (hb1.cells A_6), hb2.cells (hb1.cells A_7), hb2.cells (hb1.cells A_8), hb2.cells (hb1.cells A_9), hb2.cells (hb1.cells A_10), hb2.cells (hb1.cells B_0), hb2.cells (hb1.cells B_1), hb2.cells (hb1.cells B_2), hb2.cells (hb1.cells B_3), hb2.cells (hb1.cells B_4), hb2.cells (hb1.cells B_5), hb2.cells (hb1.cells B_6), hb2.cells (hb1.cells B_7), hb2.cells (hb1.cells B_8), hb2.cells (hb1.cells B_9), hb2.cells (hb1.cells B_10)⟩
    clear hK K
    refine f_last (i := 5) (by kernel_rfl) rfl (by simp) (fun K hK => ?_)
    refine wp_store_row 34 _ _ rfl (w.heap.size + 1 + 1) #[.int .i64 ra.p, .int .i64 ra.party, .int .i64 ra.x, .int .i64 ra.mask, .int .i64 ra.delta, .slice X5 ns1 x5, .slice X6 nk1 x6, .int .i64 ra.step, .slice X8 nh1 x8, .int .i64 ra.status, .int .i64 ra.out] rfl rfl 34 #[.int .i64 0, .int .i64 0, .int .i64 0, .int .i64 0, .int .i64 0, .slice none 0 0, .slice none 0 0, .int .i64 0, .slice none 0 0, .int .i64 0, .int .i64 0] hR (by kernel_rfl) rfl (by first | rfl | simp [Value.oneCell'] | kernel_rfl) ?_
    refine ko hK ?_ fun hHeld => ?_
    ·exact trivial
    clear hK K
    refine f_last (i := 6) (by kernel_rfl) rfl (by simp) (fun K hK => ?_)
    refine wp_store_row 34 _ _ rfl (w.heap.size + 1 + 1 + 1) #[.int .i64 rb.p, .int .i64 rb.party, .int .i64 rb.x, .int .i64 rb.mask, .int .i64 rb.delta, .slice Y5 ns3 y5, .slice Y6 nk3 y6, .int .i64 rb.step, .slice Y8 nh3 y8, .int .i64 rb.status, .int .i64 rb.out] rfl rfl 34 #[.int .i64 0, .int .i64 0, .int .i64 0, .int .i64 0, .int .i64 0, .slice none 0 0, .slice none 0 0, .int .i64 0, .slice none 0 0, .int .i64 0, .int .i64 0] (hU.farRow (by omega)) (by kernel_rfl) rfl (by first | rfl | simp [Value.oneCell'] | kernel_rfl) ?_
    refine ko hK ?_ fun hHeld => ?_
    ·exact trivial
    clear hK K
    refine tS 7 8 ?_ hHeld (fun h => by simp at h)
    refine f_done (by kernel_rfl) ?_ _
    have hbz : Bl w ((w2.setRow (w.heap.size + 1 + 1) #[.int .i64 ra.p, .int .i64 ra.party, .int .i64 ra.x, .int .i64 ra.mask, .int .i64 ra.delta, .slice X5 ns1 x5, .slice X6 nk1 x6, .int .i64 ra.step, .slice X8 nh1 x8, .int .i64 ra.status, .int .i64 ra.out]).setRow (w.heap.size + 1 + 1 + 1) #[.int .i64 rb.p, .int .i64 rb.party, .int .i64 rb.x, .int .i64 rb.mask, .int .i64 rb.delta, .slice Y5 ns3 y5, .slice Y6 nk3 y6, .int .i64 rb.step, .slice Y8 nh3 y8, .int .i64 rb.status, .int .i64 rb.out]) := ((((rs.wb.drew.call hb1).call hb2).row (by omega) _).row (by omega) _)
    have hR9 : Blk ((w2.setRow (w.heap.size + 1 + 1) #[.int .i64 ra.p, .int .i64 ra.party, .int .i64 ra.x, .int .i64 ra.mask, .int .i64 ra.delta, .slice X5 ns1 x5, .slice X6 nk1 x6, .int .i64 ra.step, .slice X8 nh1 x8, .int .i64 ra.status, .int .i64 ra.out]).setRow (w.heap.size + 1 + 1 + 1) #[.int .i64 rb.p, .int .i64 rb.party, .int .i64 rb.x, .int .i64 rb.mask, .int .i64 rb.delta, .slice Y5 ns3 y5, .slice Y6 nk3 y6, .int .i64 rb.step, .slice Y8 nh3 y8, .int .i64 rb.status, .int .i64 rb.out]) (w.heap.size + 1 + 1) 34 #[.int .i64 ra.p, .int .i64 ra.party, .int .i64 ra.x, .int .i64 ra.mask, .int .i64 ra.delta, .slice X5 ns1 x5, .slice X6 nk1 x6, .int .i64 ra.step, .slice X8 nh1 x8, .int .i64 ra.status, .int .i64 ra.out] := (Blk.row hR).farRow (by omega)
    have hU9 : Blk ((w2.setRow (w.heap.size + 1 + 1) #[.int .i64 ra.p, .int .i64 ra.party, .int .i64 ra.x, .int .i64 ra.mask, .int .i64 ra.delta, .slice X5 ns1 x5, .slice X6 nk1 x6, .int .i64 ra.step, .slice X8 nh1 x8, .int .i64 ra.status, .int .i64 ra.out]).setRow (w.heap.size + 1 + 1 + 1) #[.int .i64 rb.p, .int .i64 rb.party, .int .i64 rb.x, .int .i64 rb.mask, .int .i64 rb.delta, .slice Y5 ns3 y5, .slice Y6 nk3 y6, .int .i64 rb.step, .slice Y8 nh3 y8, .int .i64 rb.status, .int .i64 rb.out]) (w.heap.size + 1 + 1 + 1) 34 #[.int .i64 rb.p, .int .i64 rb.party, .int .i64 rb.x, .int .i64 rb.mask, .int .i64 rb.delta, .slice Y5 ns3 y5, .slice Y6 nk3 y6, .int .i64 rb.step, .slice Y8 nh3 y8, .int .i64 rb.status, .int .i64 rb.out] := Blk.row (hU.farRow (by omega))
    generalize ((w2.setRow (w.heap.size + 1 + 1) #[.int .i64 ra.p, .int .i64 ra.party, .int .i64 ra.x, .int .i64 ra.mask, .int .i64 ra.delta, .slice X5 ns1 x5, .slice X6 nk1 x6, .int .i64 ra.step, .slice X8 nh1 x8, .int .i64 ra.status, .int .i64 ra.out]).setRow (w.heap.size + 1 + 1 + 1) #[.int .i64 rb.p, .int .i64 rb.party, .int .i64 rb.x, .int .i64 rb.mask, .int .i64 rb.delta, .slice Y5 ns3 y5, .slice Y6 nk3 y6, .int .i64 rb.step, .slice Y8 nh3 y8, .int .i64 rb.status, .int .i64 rb.out]) = wf at hbz hR9 hU9 ⊢
    (try clear A_l A_f A_0 A_1 A_2 A_3 A_4 A_5 A_6 A_7 A_8 A_9 A_10); (try clear B_l B_f B_0 B_1 B_2 B_3 B_4 B_5 B_6 B_7 B_8 B_9 B_10); (try clear hA hB)
    clear hR hU
    go_wp2_with fail
    refine bodyPost_ret (v := .tuple #[.agg #[.int .i64 ra.p, .int .i64 ra.party, .int .i64 ra.x, .int .i64 ra.mask, .int .i64 ra.delta, .slice X5 ns1 x5, .slice X6 nk1 x6, .int .i64 ra.step, .slice X8 nh1 x8, .int .i64 ra.status, .int .i64 ra.out], .agg #[.int .i64 rb.p, .int .i64 rb.party, .int .i64 rb.x, .int .i64 rb.mask, .int .i64 rb.delta, .slice Y5 ns3 y5, .slice Y6 nk3 y6, .int .i64 rb.step, .slice Y8 nh3 y8, .int .i64 rb.status, .int .i64 rb.out], .slice At nt ct]) (by rw [results_cct Tryd.results34]; simp [asAddr, load_player hR9 rfl, load_player hU9 rfl]) rfl ?_
    exact ⟨ra, rb, sent, taken, ⟨X5, X6, X8, ns1, x5, nk1, x6, nh1, x8, xs⟩, ⟨Y5, Y6, Y8, ns3, y5, nk3, y6, nh3, y8, ys⟩, At, nt, ct, HR.out, rfl, LT.out, hbz⟩
   ·go_wp2_with fail
    refine region_F (fun _ => True) (fun w' => w'.cell? ⟨w.heap.size, 0, none⟩ = some (.int .i64 ra.p) ∧ w'.cell? ⟨w.heap.size, 1, none⟩ = some (.int .i64 ra.party) ∧ w'.cell? ⟨w.heap.size, 2, none⟩ = some (.int .i64 ra.x) ∧ w'.cell? ⟨w.heap.size, 3, none⟩ = some (.int .i64 ra.mask) ∧ w'.cell? ⟨w.heap.size, 4, none⟩ = some (.int .i64 ra.delta) ∧ w'.cell? ⟨w.heap.size, 5, none⟩ = some (.slice As1 ns1 cs1) ∧ w'.cell? ⟨w.heap.size, 6, none⟩ = some (.slice Ak1 nk1 ck1) ∧ w'.cell? ⟨w.heap.size, 7, none⟩ = some (.int .i64 ra.step) ∧ w'.cell? ⟨w.heap.size, 8, none⟩ = some (.slice Ah1 nh1 ch1) ∧ w'.cell? ⟨w.heap.size, 9, none⟩ = some (.int .i64 ra.status) ∧ w'.cell? ⟨w.heap.size, 10, none⟩ = some (.int .i64 ra.out) ∧ w'.cell? ⟨w.heap.size + 1, 0, none⟩ = some (.int .i64 rb.p) ∧ w'.cell? ⟨w.heap.size + 1, 1, none⟩ = some (.int .i64 rb.party) ∧ w'.cell? ⟨w.heap.size + 1, 2, none⟩ = some (.int .i64 rb.x) ∧ w'.cell? ⟨w.heap.size + 1, 3, none⟩ = some (.int .i64 rb.mask) ∧ w'.cell? ⟨w.heap.size + 1, 4, none⟩ = some (.int .i64 rb.delta) ∧ w'.cell? ⟨w.heap.size + 1, 5, none⟩ = some (.slice As3 ns3 cs3) ∧ w'.cell? ⟨w.heap.size + 1, 6, none⟩ = some (.slice Ak3 nk3 ck3) ∧ w'.cell? ⟨w.heap.size + 1, 7, none⟩ = some (.int .i64 rb.step) ∧ w'.cell? ⟨w.heap.size + 1, 8, none⟩ = some (.slice Ah3 nh3 ch3) ∧ w'.cell? ⟨w.heap.size + 1, 9, none⟩ = some (.int .i64 rb.status) ∧ w'.cell? ⟨w.heap.size + 1, 10, none⟩ = some (.int .i64 rb.out)) 5 (by kernel_rfl) ?_ (fun hHeld => ?_)
    ·(try dsimp only); exact ⟨trivial, A_0, A_1, A_2, A_3, A_4, A_5, A_6, A_7, A_8, A_9, A_10, B_0, B_1, B_2, B_3, B_4, B_5, B_6, B_7, B_8, B_9, B_10⟩
    refine tC 0 55 [0] ?_ hHeld
    refine tC 2 57 [3, 2] ?_ hHeld
    refine tS 4 59 ?_ hHeld.1 (fun _ => hHeld.2)
    refine f_step (i := 1) (by kernel_rfl) rfl (fun K hK => ?_)
    go_simp
    go_at_call 57; refine (spec_ptOwn ra As1 Ak1 Ah1 ns1 cs1 nk1 ck1 nh1 ch1 hs1 _ (RdP.keep rs.r1 (Bl.refl wr).drew) SL1.out).mono ?_; rintro e w1 ⟨X5, X6, X8, x5, x6, x8, xs, rfl, -, hb1⟩
    go_wp2_with fail
    refine ko hK ?_ fun hHeld => ?_
    ·(try dsimp only); exact ⟨trivial, hb1.cells A_0, hb1.cells A_1, hb1.cells A_2, hb1.cells A_3, hb1.cells A_4, hb1.cells A_5, hb1.cells A_6, hb1.cells A_7, hb1.cells A_8, hb1.cells A_9, hb1.cells A_10, hb1.cells B_0, hb1.cells B_1, hb1.cells B_2, hb1.cells B_3, hb1.cells B_4, hb1.cells B_5, hb1.cells B_6, hb1.cells B_7, hb1.cells B_8, hb1.cells B_9, hb1.cells B_10⟩
    clear hK K
    refine f_step (i := 3) (by kernel_rfl) rfl (fun K hK => ?_)
    go_simp
    go_at_call 57; refine (spec_ptOwn rb As3 Ak3 Ah3 ns3 cs3 nk3 ck3 nh3 ch3 hs3 _ (RdP.keep rs.r2 ((Bl.refl wr).drew.call hb1)) SL2.out).mono ?_; rintro e w2 ⟨Y5, Y6, Y8, y5, y6, y8, ys, rfl, -, hb2⟩; have rsE := rs.bl (((Bl.refl wr).drew.call hb1).call hb2); have hR : Blk w2 (w.heap.size + 1 + 1) 34 #[.int .i64 0, .int .i64 0, .int .i64 0, .int .i64 0, .int .i64 0, .slice none 0 0, .slice none 0 0, .int .i64 0, .slice none 0 0, .int .i64 0, .int .i64 0] := rsE.bR; have hU : Blk w2 (w.heap.size + 1 + 1 + 1) 34 #[.int .i64 0, .int .i64 0, .int .i64 0, .int .i64 0, .int .i64 0, .slice none 0 0, .slice none 0 0, .int .i64 0, .slice none 0 0, .int .i64 0, .int .i64 0] := rsE.bT
    go_wp2_with fail
    refine ko hK ?_ fun hHeld => ?_
    ·(try dsimp only); exact ⟨trivial, hb2.cells (hb1.cells A_0), hb2.cells (hb1.cells A_1), hb2.cells (hb1.cells A_2), hb2.cells (hb1.cells A_3), hb2.cells (hb1.cells A_4), hb2.cells (hb1.cells A_5), hb2.cells (hb1.cells A_6), hb2.cells (hb1.cells A_7), hb2.cells (hb1.cells A_8), hb2.cells (hb1.cells A_9), hb2.cells (hb1.cells A_10), hb2.cells (hb1.cells B_0), hb2.cells (hb1.cells B_1), hb2.cells (hb1.cells B_2), hb2.cells (hb1.cells B_3), hb2.cells (hb1.cells B_4), hb2.cells (hb1.cells B_5), hb2.cells (hb1.cells B_6), hb2.cells (hb1.cells B_7), hb2.cells (hb1.cells B_8), hb2.cells (hb1.cells B_9), hb2.cells (hb1.cells B_10)⟩
    clear hK K
    refine f_last (i := 5) (by kernel_rfl) rfl (by simp) (fun K hK => ?_)
    refine wp_store_row 34 _ _ rfl (w.heap.size + 1 + 1) #[.int .i64 ra.p, .int .i64 ra.party, .int .i64 ra.x, .int .i64 ra.mask, .int .i64 ra.delta, .slice X5 ns1 x5, .slice X6 nk1 x6, .int .i64 ra.step, .slice X8 nh1 x8, .int .i64 ra.status, .int .i64 ra.out] rfl rfl 34 #[.int .i64 0, .int .i64 0, .int .i64 0, .int .i64 0, .int .i64 0, .slice none 0 0, .slice none 0 0, .int .i64 0, .slice none 0 0, .int .i64 0, .int .i64 0] hR (by kernel_rfl) rfl (by first | rfl | simp [Value.oneCell'] | kernel_rfl) ?_
    refine ko hK ?_ fun hHeld => ?_
    ·exact trivial
    clear hK K
    refine f_last (i := 6) (by kernel_rfl) rfl (by simp) (fun K hK => ?_)
    refine wp_store_row 34 _ _ rfl (w.heap.size + 1 + 1 + 1) #[.int .i64 rb.p, .int .i64 rb.party, .int .i64 rb.x, .int .i64 rb.mask, .int .i64 rb.delta, .slice Y5 ns3 y5, .slice Y6 nk3 y6, .int .i64 rb.step, .slice Y8 nh3 y8, .int .i64 rb.status, .int .i64 rb.out] rfl rfl 34 #[.int .i64 0, .int .i64 0, .int .i64 0, .int .i64 0, .int .i64 0, .slice none 0 0, .slice none 0 0, .int .i64 0, .slice none 0 0, .int .i64 0, .int .i64 0] (hU.farRow (by omega)) (by kernel_rfl) rfl (by first | rfl | simp [Value.oneCell'] | kernel_rfl) ?_
    refine ko hK ?_ fun hHeld => ?_
    ·exact trivial
    clear hK K
    refine tS 7 8 ?_ hHeld (fun h => by simp at h)
    refine f_done (by kernel_rfl) ?_ _
    have hbz : Bl w ((w2.setRow (w.heap.size + 1 + 1) #[.int .i64 ra.p, .int .i64 ra.party, .int .i64 ra.x, .int .i64 ra.mask, .int .i64 ra.delta, .slice X5 ns1 x5, .slice X6 nk1 x6, .int .i64 ra.step, .slice X8 nh1 x8, .int .i64 ra.status, .int .i64 ra.out]).setRow (w.heap.size + 1 + 1 + 1) #[.int .i64 rb.p, .int .i64 rb.party, .int .i64 rb.x, .int .i64 rb.mask, .int .i64 rb.delta, .slice Y5 ns3 y5, .slice Y6 nk3 y6, .int .i64 rb.step, .slice Y8 nh3 y8, .int .i64 rb.status, .int .i64 rb.out]) := ((((rs.wb.drew.call hb1).call hb2).row (by omega) _).row (by omega) _)
    have hR9 : Blk ((w2.setRow (w.heap.size + 1 + 1) #[.int .i64 ra.p, .int .i64 ra.party, .int .i64 ra.x, .int .i64 ra.mask, .int .i64 ra.delta, .slice X5 ns1 x5, .slice X6 nk1 x6, .int .i64 ra.step, .slice X8 nh1 x8, .int .i64 ra.status, .int .i64 ra.out]).setRow (w.heap.size + 1 + 1 + 1) #[.int .i64 rb.p, .int .i64 rb.party, .int .i64 rb.x, .int .i64 rb.mask, .int .i64 rb.delta, .slice Y5 ns3 y5, .slice Y6 nk3 y6, .int .i64 rb.step, .slice Y8 nh3 y8, .int .i64 rb.status, .int .i64 rb.out]) (w.heap.size + 1 + 1) 34 #[.int .i64 ra.p, .int .i64 ra.party, .int .i64 ra.x, .int .i64 ra.mask, .int .i64 ra.delta, .slice X5 ns1 x5, .slice X6 nk1 x6, .int .i64 ra.step, .slice X8 nh1 x8, .int .i64 ra.status, .int .i64 ra.out] := (Blk.row hR).farRow (by omega)
    have hU9 : Blk ((w2.setRow (w.heap.size + 1 + 1) #[.int .i64 ra.p, .int .i64 ra.party, .int .i64 ra.x, .int .i64 ra.mask, .int .i64 ra.delta, .slice X5 ns1 x5, .slice X6 nk1 x6, .int .i64 ra.step, .slice X8 nh1 x8, .int .i64 ra.status, .int .i64 ra.out]).setRow (w.heap.size + 1 + 1 + 1) #[.int .i64 rb.p, .int .i64 rb.party, .int .i64 rb.x, .int .i64 rb.mask, .int .i64 rb.delta, .slice Y5 ns3 y5, .slice Y6 nk3 y6, .int .i64 rb.step, .slice Y8 nh3 y8, .int .i64 rb.status, .int .i64 rb.out]) (w.heap.size + 1 + 1 + 1) 34 #[.int .i64 rb.p, .int .i64 rb.party, .int .i64 rb.x, .int .i64 rb.mask, .int .i64 rb.delta, .slice Y5 ns3 y5, .slice Y6 nk3 y6, .int .i64 rb.step, .slice Y8 nh3 y8, .int .i64 rb.status, .int .i64 rb.out] := Blk.row (hU.farRow (by omega))
    generalize ((w2.setRow (w.heap.size + 1 + 1) #[.int .i64 ra.p, .int .i64 ra.party, .int .i64 ra.x, .int .i64 ra.mask, .int .i64 ra.delta, .slice X5 ns1 x5, .slice X6 nk1 x6, .int .i64 ra.step, .slice X8 nh1 x8, .int .i64 ra.status, .int .i64 ra.out]).setRow (w.heap.size + 1 + 1 + 1) #[.int .i64 rb.p, .int .i64 rb.party, .int .i64 rb.x, .int .i64 rb.mask, .int .i64 rb.delta, .slice Y5 ns3 y5, .slice Y6 nk3 y6, .int .i64 rb.step, .slice Y8 nh3 y8, .int .i64 rb.status, .int .i64 rb.out]) = wf at hbz hR9 hU9 ⊢
    (try clear A_l A_f A_0 A_1 A_2 A_3 A_4 A_5 A_6 A_7 A_8 A_9 A_10); (try clear B_l B_f B_0 B_1 B_2 B_3 B_4 B_5 B_6 B_7 B_8 B_9 B_10); (try clear hA hB)
    clear hR hU
    go_wp2_with fail
    refine bodyPost_ret (v := .tuple #[.agg #[.int .i64 ra.p, .int .i64 ra.party, .int .i64 ra.x, .int .i64 ra.mask, .int .i64 ra.delta, .slice X5 ns1 x5, .slice X6 nk1 x6, .int .i64 ra.step, .slice X8 nh1 x8, .int .i64 ra.status, .int .i64 ra.out], .agg #[.int .i64 rb.p, .int .i64 rb.party, .int .i64 rb.x, .int .i64 rb.mask, .int .i64 rb.delta, .slice Y5 ns3 y5, .slice Y6 nk3 y6, .int .i64 rb.step, .slice Y8 nh3 y8, .int .i64 rb.status, .int .i64 rb.out], .slice At nt ct]) (by rw [results_cct Tryd.results34]; simp [asAddr, load_player hR9 rfl, load_player hU9 rfl]) rfl ?_
    exact ⟨ra, rb, sent, taken, ⟨X5, X6, X8, ns1, x5, nk1, x6, nh1, x8, xs⟩, ⟨Y5, Y6, Y8, ns3, y5, nk3, y6, nh3, y8, ys⟩, At, nt, ct, HR.out, rfl, LT.out, hbz⟩
end Go.Proofs.YtcjpalhclgkjiaaDoor
