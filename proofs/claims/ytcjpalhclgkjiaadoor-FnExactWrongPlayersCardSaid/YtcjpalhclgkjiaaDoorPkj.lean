/- Contracts: two players run, their messages meddled with.
   Conditions: both players are valid, the meddles too. -/
import Derived.Test.YtcjpalhclgkjiaaDoorPkhG
import Derived.Test.YtcjpalhclgkjiaaDoorPkl
namespace Go.Proofs.YtcjpalhclgkjiaaDoor
open Go.RowKit
set_option linter.unusedVariables false
def six0 : List Hm := [Hm.zero, Hm.zero, Hm.zero, Hm.zero, Hm.zero, Hm.zero]
theorem enters_change : Enters 67 := fun _ _ => by kernel_rfl
/-- The closure's contract at a number that is written as it stands. -/
theorem change_at (j : Nat) (i : Int) (hi : i = (j : Int)) (hj : j < 6) (p : Int) (f s : Int) (A : Option Addr) (n c : Nat) (L M : List Hm) (hL : L.length = 6) (hM : M.length = 6) (m mo : Ms) (gs gt gl ga : Nat) (Al : Option Addr) (nl cl : Nat) (l : List Md) (W0 w : World) (hb0 : Bl W0 w) (hgs : W0.heap.size ≤ gs) (hgt : W0.heap.size ≤ gt) (hne : gs ≠ gt) (hp : 2 ≤ p ∧ p ≤ 251)
  (kl : W0.cell? ⟨gl, 0, none⟩ = some (.slice Al nl cl)) (ka : W0.cell? ⟨ga, 0, none⟩ = some (.int .i64 p)) (hl : RdMd W0 Al nl cl l) (hml : mdsB p l = true) (hS : Blk w gs 101 (six L)) (hT : Blk w gt 101 (six M))
  (hm : RdM w ⟨f, s, A, n, c⟩ m) (hmb : m.b.length = bodyN (j / 2) ∧ ∀ y ∈ m.b, 0 ≤ y ∧ y < p) (hmf : m.f = 0 ∨ m.f = 1) (Q : Nat → Prop) (hQT : ∀ k, Q k → ¬ Two gs gt k) (hQn : ∀ k, w.heap.size ≤ k → Q k) (hna : ∀ k, A.map (·.block) = some k → Q k) (hm0 : j < 2 → mo = ⟨0, 0, []⟩)
  (ho : ∀ x, 2 ≤ j → L[j - 2]? = some x → RdM w x mo ∧ ∀ k, x.blk = some k → Q k) :
  Calls Tryd.prog 67 #[.int .i64 i, .agg #[.int .i64 f, .int .i64 s, .slice A n c], .pointer (some ⟨gs, 0, none⟩), .pointer (some ⟨gl, 0, none⟩), .pointer (some ⟨ga, 0, none⟩), .pointer (some ⟨gt, 0, none⟩)] w
   fun e w' => ∃ f' s' A' n' c', e = .returned (.agg #[.int .i64 f', .int .i64 s', .slice A' n' c']) ∧ RdM w' ⟨f', s', A', n', c'⟩ (takenP p l i m mo) ∧ (∀ k, (⟨f', s', A', n', c'⟩ : Hm).blk = some k → Q k) ∧ Blk w' gs 101 (six (L.set j ⟨f, s, A, n, c⟩)) ∧ Blk w' gt 101 (six (M.set j ⟨f', s', A', n', c'⟩)) ∧ Gp (Two gs gt) w w' := by
 subst hi
 rw [show (#[.int .i64 (j : Int), .agg #[.int .i64 f, .int .i64 s, .slice A n c], .pointer (some ⟨gs, 0, none⟩), .pointer (some ⟨gl, 0, none⟩), .pointer (some ⟨ga, 0, none⟩), .pointer (some ⟨gt, 0, none⟩)] : Array Value) = #[.int .i64 (j : Int), .agg #[.int .i64 f, .int .i64 s, .slice A n c]] ++ #[.pointer (some ⟨gs, 0, none⟩), .pointer (some ⟨gl, 0, none⟩), .pointer (some ⟨ga, 0, none⟩), .pointer (some ⟨gt, 0, none⟩)] from by simp]
 refine (change_any j hj p ⟨f, s, A, n, c⟩ L M hL hM m mo gs gt gl ga Al nl cl l W0 w hb0 hgs hgt hne hp kl ka hl hml hS hT hm hmb hmf Q hQT hQn hna hm0 ho).mono ?_
 rintro e w' ⟨⟨f', s', A', n', c'⟩, rfl, h1, h2, h3, h4, h5⟩
 exact ⟨f', s', A', n', c', rfl, h1, h2, h3, h4, h5⟩
theorem load_player {w : World} {g : Nat} {cs : Array Value} (h : Blk w g 34 cs) (hs : cs.size = 11) : (loadVar 34 ⟨g, 0, none⟩).run Tryd.prog w = .ok (.agg cs) w :=
 run_loadVar_row w g 34 34 cs (0, 0) _ h Tryd.underlying34 rfl (by rw [hs]; kernel_rfl)
theorem results_cct {fn : Func} {p q u : Tmp} {ty ty' : TypeId} (h : fn.results = #[.cell p ty, .cell q ty', .tmp u]) (tmps : Array Value) (P : Program) (w : World) :
  (results fn tmps).run P w = ((asAddr (tmps.getD p undef)).run P w).andThen fun a w₁ => ((loadVar ty a).run P w₁).andThen fun v w₂ => ((asAddr (tmps.getD q undef)).run P w₂).andThen fun a' w₃ => ((loadVar ty' a').run P w₃).andThen fun v' w₄ => .ok (.tuple #[v, v', tmps.getD u undef]) w₄ := by
 simp only [results, h]
 simp [Sem.run_bind, Result.andThen]
theorem prev_msg {w : World} {L : List Hm} {sent : List Ms} {Q : Nat → Prop} (h : RdL w L sent Q) {j : Nat} (hj : j < sent.length) {x : Hm} (hx : L[j]? = some x) : RdM w x (sent[j]?.getD ⟨0, 0, []⟩) ∧ ∀ k, x.blk = some k → Q k := by
 obtain ⟨z, h1, h2, h3⟩ := h j sent[j] (List.getElem?_eq_getElem hj)
 rw [hx] at h1
 injection h1 with h1
 subst h1
 rw [List.getElem?_eq_getElem hj, Option.getD_some]
 exact ⟨h2, h3⟩
set_option maxRecDepth 20000 in
set_option maxHeartbeats 40000000 in
theorem impl_runPlayers (a b : Pl) (As Ak Ah : Option Addr) (ns cs nk ck nh ch : Nat) (hs : List Hd) (As2 Ak2 Ah2 : Option Addr) (ns2 cs2 nk2 ck2 nh2 ch2 : Nat) (hs2 : List Hd) (gs gt gl ga : Nat) (Al : Option Addr) (nl cl : Nat) (l : List Md) (W0 w : World) (hTb : Tab W0) (hb0 : Bl W0 w) (hgs : W0.heap.size ≤ gs) (hgt : W0.heap.size ≤ gt) (hne : gs ≠ gt)
  (kl : W0.cell? ⟨gl, 0, none⟩ = some (.slice Al nl cl)) (ka : W0.cell? ⟨ga, 0, none⟩ = some (.int .i64 a.p)) (hl : RdMd W0 Al nl cl l) (hml : mdsB a.p l = true) (two : twoB a b = true) (ha : RdP w a As Ak Ah ns cs nk ck nh ch hs) (hb : RdP w b As2 Ak2 Ah2 ns2 cs2 nk2 ck2 nh2 ch2 hs2) (hS : Blk w gs 101 (six six0)) (hT : Blk w gt 101 (six six0)) :
  Calls Tryd.prog 66 #[.agg #[.int .i64 a.p, .int .i64 a.party, .int .i64 a.x, .int .i64 a.mask, .int .i64 a.delta, .slice As ns cs, .slice Ak nk ck, .int .i64 a.step, .slice Ah nh ch, .int .i64 a.status, .int .i64 a.out], .agg #[.int .i64 b.p, .int .i64 b.party, .int .i64 b.x, .int .i64 b.mask, .int .i64 b.delta, .slice As2 ns2 cs2, .slice Ak2 nk2 ck2, .int .i64 b.step, .slice Ah2 nh2 ch2, .int .i64 b.status, .int .i64 b.out], .func (.func 67) #[] #[.pointer (some ⟨gs, 0, none⟩), .pointer (some ⟨gl, 0, none⟩), .pointer (some ⟨ga, 0, none⟩), .pointer (some ⟨gt, 0, none⟩)]] w
   fun e w' => ∃ ra rb sent taken M s1 s2 B1 T1 N1 T2 A n c, runM a b l = ⟨ra, rb, sent, taken⟩ ∧ e = .returned (.tuple #[valP ra s1, valP rb s2, .slice A n c]) ∧ n = taken.length ∧ n ≤ 6 ∧ n ≤ c ∧ OwnS B1 T1 w' ra s1 ∧ UnderS N1 s1 ∧ OwnS N1 T2 w' rb s2 ∧ w.heap.size ≤ B1 ∧ B1 ≤ N1 ∧ M.length = 6 ∧ Blk w' gt 101 (six M) ∧ RdW w' M taken (fun _ => True) ∧ Gp (Two gs gt) w w' := by
 obtain ⟨ok1, ok2, hpp, hpa, hpb, hst1, hst2⟩ := two_facts two
 have lens : ∀ {x : Pl}, Ok x 0 → ∀ b ∈ x.hd, b.length ≤ 1000000 := fun {x} okx b hb => by
  obtain ⟨i, hi⟩ := List.mem_iff_getElem?.1 hb
  have := (okx.hd i b hi).1
  have := bodyN_le i
  omega
 have HCa := Lib.hid (fun (w' : World) (hb' : Bl w w') => impl_copyPlayer a As Ak Ah ns cs nk ck nh ch hs w' (ha.keep hb') ⟨by have := ha.ns_eq ok1; omega, by have := ha.nk_eq ok1; omega, by have := ha.nh_eq ok1; omega, lens ok1⟩)
 have HCb := Lib.hid (fun (w' : World) (hb' : Bl w w') => impl_copyPlayer b As2 Ak2 Ah2 ns2 cs2 nk2 ck2 nh2 ch2 hs2 w' (hb.keep hb') ⟨by have := hb.ns_eq ok2; omega, by have := hb.nk_eq ok2; omega, by have := hb.nh_eq ok2; omega, lens ok2⟩)
 have hp2 := ok1.p2
 have RQ := Lib.hid (RunQ.start (l := l) two)
 have hen := enters_change
 unfold Enters at hen
 have hgs0 := hS.lt
 have hgt0 := hT.lt
 clear ok1 ok2 hpp hpa hpb hst1 hst2 lens
 have hW : Bl w ((((w.alloc (.cells #[.int .i64 a.p, .int .i64 a.party, .int .i64 a.x, .int .i64 a.mask, .int .i64 a.delta, .slice As ns cs, .slice Ak nk ck, .int .i64 a.step, .slice Ah nh ch, .int .i64 a.status, .int .i64 a.out] 34)).alloc (.cells #[.int .i64 b.p, .int .i64 b.party, .int .i64 b.x, .int .i64 b.mask, .int .i64 b.delta, .slice As2 ns2 cs2, .slice Ak2 nk2 ck2, .int .i64 b.step, .slice Ah2 nh2 ch2, .int .i64 b.status, .int .i64 b.out] 34)).alloc (.cells #[.int .i64 0, .int .i64 0, .int .i64 0, .int .i64 0, .int .i64 0, .slice none 0 0, .slice none 0 0, .int .i64 0, .slice none 0 0, .int .i64 0, .int .i64 0] 34)).alloc (.cells #[.int .i64 0, .int .i64 0, .int .i64 0, .int .i64 0, .int .i64 0, .slice none 0 0, .slice none 0 0, .int .i64 0, .slice none 0 0, .int .i64 0, .int .i64 0] 34)) := Bl.a3
 have hA : Blk ((((w.alloc (.cells #[.int .i64 a.p, .int .i64 a.party, .int .i64 a.x, .int .i64 a.mask, .int .i64 a.delta, .slice As ns cs, .slice Ak nk ck, .int .i64 a.step, .slice Ah nh ch, .int .i64 a.status, .int .i64 a.out] 34)).alloc (.cells #[.int .i64 b.p, .int .i64 b.party, .int .i64 b.x, .int .i64 b.mask, .int .i64 b.delta, .slice As2 ns2 cs2, .slice Ak2 nk2 ck2, .int .i64 b.step, .slice Ah2 nh2 ch2, .int .i64 b.status, .int .i64 b.out] 34)).alloc (.cells #[.int .i64 0, .int .i64 0, .int .i64 0, .int .i64 0, .int .i64 0, .slice none 0 0, .slice none 0 0, .int .i64 0, .slice none 0 0, .int .i64 0, .int .i64 0] 34)).alloc (.cells #[.int .i64 0, .int .i64 0, .int .i64 0, .int .i64 0, .int .i64 0, .slice none 0 0, .slice none 0 0, .int .i64 0, .slice none 0 0, .int .i64 0, .int .i64 0] 34)) (w.heap.size) 34 #[.int .i64 a.p, .int .i64 a.party, .int .i64 a.x, .int .i64 a.mask, .int .i64 a.delta, .slice As ns cs, .slice Ak nk ck, .int .i64 a.step, .slice Ah nh ch, .int .i64 a.status, .int .i64 a.out] := ((((Blk.new w 34 #[.int .i64 a.p, .int .i64 a.party, .int .i64 a.x, .int .i64 a.mask, .int .i64 a.delta, .slice As ns cs, .slice Ak nk ck, .int .i64 a.step, .slice Ah nh ch, .int .i64 a.status, .int .i64 a.out] (g := w.heap.size)).alloc (.cells #[.int .i64 b.p, .int .i64 b.party, .int .i64 b.x, .int .i64 b.mask, .int .i64 b.delta, .slice As2 ns2 cs2, .slice Ak2 nk2 ck2, .int .i64 b.step, .slice Ah2 nh2 ch2, .int .i64 b.status, .int .i64 b.out] 34)).alloc (.cells #[.int .i64 0, .int .i64 0, .int .i64 0, .int .i64 0, .int .i64 0, .slice none 0 0, .slice none 0 0, .int .i64 0, .slice none 0 0, .int .i64 0, .int .i64 0] 34)).alloc (.cells #[.int .i64 0, .int .i64 0, .int .i64 0, .int .i64 0, .int .i64 0, .slice none 0 0, .slice none 0 0, .int .i64 0, .slice none 0 0, .int .i64 0, .int .i64 0] 34))
 have hB : Blk ((((w.alloc (.cells #[.int .i64 a.p, .int .i64 a.party, .int .i64 a.x, .int .i64 a.mask, .int .i64 a.delta, .slice As ns cs, .slice Ak nk ck, .int .i64 a.step, .slice Ah nh ch, .int .i64 a.status, .int .i64 a.out] 34)).alloc (.cells #[.int .i64 b.p, .int .i64 b.party, .int .i64 b.x, .int .i64 b.mask, .int .i64 b.delta, .slice As2 ns2 cs2, .slice Ak2 nk2 ck2, .int .i64 b.step, .slice Ah2 nh2 ch2, .int .i64 b.status, .int .i64 b.out] 34)).alloc (.cells #[.int .i64 0, .int .i64 0, .int .i64 0, .int .i64 0, .int .i64 0, .slice none 0 0, .slice none 0 0, .int .i64 0, .slice none 0 0, .int .i64 0, .int .i64 0] 34)).alloc (.cells #[.int .i64 0, .int .i64 0, .int .i64 0, .int .i64 0, .int .i64 0, .slice none 0 0, .slice none 0 0, .int .i64 0, .slice none 0 0, .int .i64 0, .int .i64 0] 34)) (w.heap.size + 1) 34 #[.int .i64 b.p, .int .i64 b.party, .int .i64 b.x, .int .i64 b.mask, .int .i64 b.delta, .slice As2 ns2 cs2, .slice Ak2 nk2 ck2, .int .i64 b.step, .slice Ah2 nh2 ch2, .int .i64 b.status, .int .i64 b.out] := (((Blk.new (w.alloc (.cells #[.int .i64 a.p, .int .i64 a.party, .int .i64 a.x, .int .i64 a.mask, .int .i64 a.delta, .slice As ns cs, .slice Ak nk ck, .int .i64 a.step, .slice Ah nh ch, .int .i64 a.status, .int .i64 a.out] 34)) 34 #[.int .i64 b.p, .int .i64 b.party, .int .i64 b.x, .int .i64 b.mask, .int .i64 b.delta, .slice As2 ns2 cs2, .slice Ak2 nk2 ck2, .int .i64 b.step, .slice Ah2 nh2 ch2, .int .i64 b.status, .int .i64 b.out] (g := w.heap.size + 1)).alloc (.cells #[.int .i64 0, .int .i64 0, .int .i64 0, .int .i64 0, .int .i64 0, .slice none 0 0, .slice none 0 0, .int .i64 0, .slice none 0 0, .int .i64 0, .int .i64 0] 34)).alloc (.cells #[.int .i64 0, .int .i64 0, .int .i64 0, .int .i64 0, .int .i64 0, .slice none 0 0, .slice none 0 0, .int .i64 0, .slice none 0 0, .int .i64 0, .int .i64 0] 34))
 have hR : Blk ((((w.alloc (.cells #[.int .i64 a.p, .int .i64 a.party, .int .i64 a.x, .int .i64 a.mask, .int .i64 a.delta, .slice As ns cs, .slice Ak nk ck, .int .i64 a.step, .slice Ah nh ch, .int .i64 a.status, .int .i64 a.out] 34)).alloc (.cells #[.int .i64 b.p, .int .i64 b.party, .int .i64 b.x, .int .i64 b.mask, .int .i64 b.delta, .slice As2 ns2 cs2, .slice Ak2 nk2 ck2, .int .i64 b.step, .slice Ah2 nh2 ch2, .int .i64 b.status, .int .i64 b.out] 34)).alloc (.cells #[.int .i64 0, .int .i64 0, .int .i64 0, .int .i64 0, .int .i64 0, .slice none 0 0, .slice none 0 0, .int .i64 0, .slice none 0 0, .int .i64 0, .int .i64 0] 34)).alloc (.cells #[.int .i64 0, .int .i64 0, .int .i64 0, .int .i64 0, .int .i64 0, .slice none 0 0, .slice none 0 0, .int .i64 0, .slice none 0 0, .int .i64 0, .int .i64 0] 34)) (w.heap.size + 1 + 1) 34 #[.int .i64 0, .int .i64 0, .int .i64 0, .int .i64 0, .int .i64 0, .slice none 0 0, .slice none 0 0, .int .i64 0, .slice none 0 0, .int .i64 0, .int .i64 0] := ((Blk.new ((w.alloc (.cells #[.int .i64 a.p, .int .i64 a.party, .int .i64 a.x, .int .i64 a.mask, .int .i64 a.delta, .slice As ns cs, .slice Ak nk ck, .int .i64 a.step, .slice Ah nh ch, .int .i64 a.status, .int .i64 a.out] 34)).alloc (.cells #[.int .i64 b.p, .int .i64 b.party, .int .i64 b.x, .int .i64 b.mask, .int .i64 b.delta, .slice As2 ns2 cs2, .slice Ak2 nk2 ck2, .int .i64 b.step, .slice Ah2 nh2 ch2, .int .i64 b.status, .int .i64 b.out] 34)) 34 #[.int .i64 0, .int .i64 0, .int .i64 0, .int .i64 0, .int .i64 0, .slice none 0 0, .slice none 0 0, .int .i64 0, .slice none 0 0, .int .i64 0, .int .i64 0] (g := w.heap.size + 1 + 1)).alloc (.cells #[.int .i64 0, .int .i64 0, .int .i64 0, .int .i64 0, .int .i64 0, .slice none 0 0, .slice none 0 0, .int .i64 0, .slice none 0 0, .int .i64 0, .int .i64 0] 34))
 have hU : Blk ((((w.alloc (.cells #[.int .i64 a.p, .int .i64 a.party, .int .i64 a.x, .int .i64 a.mask, .int .i64 a.delta, .slice As ns cs, .slice Ak nk ck, .int .i64 a.step, .slice Ah nh ch, .int .i64 a.status, .int .i64 a.out] 34)).alloc (.cells #[.int .i64 b.p, .int .i64 b.party, .int .i64 b.x, .int .i64 b.mask, .int .i64 b.delta, .slice As2 ns2 cs2, .slice Ak2 nk2 ck2, .int .i64 b.step, .slice Ah2 nh2 ch2, .int .i64 b.status, .int .i64 b.out] 34)).alloc (.cells #[.int .i64 0, .int .i64 0, .int .i64 0, .int .i64 0, .int .i64 0, .slice none 0 0, .slice none 0 0, .int .i64 0, .slice none 0 0, .int .i64 0, .int .i64 0] 34)).alloc (.cells #[.int .i64 0, .int .i64 0, .int .i64 0, .int .i64 0, .int .i64 0, .slice none 0 0, .slice none 0 0, .int .i64 0, .slice none 0 0, .int .i64 0, .int .i64 0] 34)) (w.heap.size + 1 + 1 + 1) 34 #[.int .i64 0, .int .i64 0, .int .i64 0, .int .i64 0, .int .i64 0, .slice none 0 0, .slice none 0 0, .int .i64 0, .slice none 0 0, .int .i64 0, .int .i64 0] := (Blk.new (((w.alloc (.cells #[.int .i64 a.p, .int .i64 a.party, .int .i64 a.x, .int .i64 a.mask, .int .i64 a.delta, .slice As ns cs, .slice Ak nk ck, .int .i64 a.step, .slice Ah nh ch, .int .i64 a.status, .int .i64 a.out] 34)).alloc (.cells #[.int .i64 b.p, .int .i64 b.party, .int .i64 b.x, .int .i64 b.mask, .int .i64 b.delta, .slice As2 ns2 cs2, .slice Ak2 nk2 ck2, .int .i64 b.step, .slice Ah2 nh2 ch2, .int .i64 b.status, .int .i64 b.out] 34)).alloc (.cells #[.int .i64 0, .int .i64 0, .int .i64 0, .int .i64 0, .int .i64 0, .slice none 0 0, .slice none 0 0, .int .i64 0, .slice none 0 0, .int .i64 0, .int .i64 0] 34)) 34 #[.int .i64 0, .int .i64 0, .int .i64 0, .int .i64 0, .int .i64 0, .slice none 0 0, .slice none 0 0, .int .i64 0, .slice none 0 0, .int .i64 0, .int .i64 0] (g := w.heap.size + 1 + 1 + 1))
 obtain ⟨A_l, A_f, A_0, A_1, A_2, A_3, A_4, A_5, A_6, A_7, A_8, A_9, A_10⟩ := hA.l11; obtain ⟨B_l, B_f, B_0, B_1, B_2, B_3, B_4, B_5, B_6, B_7, B_8, B_9, B_10⟩ := hB.l11; obtain ⟨R_l, R_f, R_0, R_1, R_2, R_3, R_4, R_5, R_6, R_7, R_8, R_9, R_10⟩ := hR.l11; obtain ⟨U_l, U_f, U_0, U_1, U_2, U_3, U_4, U_5, U_6, U_7, U_8, U_9, U_10⟩ := hU.l11
 go_enter Tryd.func66, Tryd.ntmps66
 go_wp2_with fail
 refine region_F (fun _ => True) (fun w' => w'.cell? ⟨w.heap.size, 0, none⟩ = some (.int .i64 a.p) ∧ w'.cell? ⟨w.heap.size, 1, none⟩ = some (.int .i64 a.party) ∧ w'.cell? ⟨w.heap.size, 2, none⟩ = some (.int .i64 a.x) ∧ w'.cell? ⟨w.heap.size, 3, none⟩ = some (.int .i64 a.mask) ∧ w'.cell? ⟨w.heap.size, 4, none⟩ = some (.int .i64 a.delta) ∧ w'.cell? ⟨w.heap.size, 5, none⟩ = some (.slice As ns cs) ∧ w'.cell? ⟨w.heap.size, 6, none⟩ = some (.slice Ak nk ck) ∧ w'.cell? ⟨w.heap.size, 7, none⟩ = some (.int .i64 a.step) ∧ w'.cell? ⟨w.heap.size, 8, none⟩ = some (.slice Ah nh ch) ∧ w'.cell? ⟨w.heap.size, 9, none⟩ = some (.int .i64 a.status) ∧ w'.cell? ⟨w.heap.size, 10, none⟩ = some (.int .i64 a.out) ∧ w'.cell? ⟨w.heap.size + 1, 0, none⟩ = some (.int .i64 b.p) ∧ w'.cell? ⟨w.heap.size + 1, 1, none⟩ = some (.int .i64 b.party) ∧ w'.cell? ⟨w.heap.size + 1, 2, none⟩ = some (.int .i64 b.x) ∧ w'.cell? ⟨w.heap.size + 1, 3, none⟩ = some (.int .i64 b.mask) ∧ w'.cell? ⟨w.heap.size + 1, 4, none⟩ = some (.int .i64 b.delta) ∧ w'.cell? ⟨w.heap.size + 1, 5, none⟩ = some (.slice As2 ns2 cs2) ∧ w'.cell? ⟨w.heap.size + 1, 6, none⟩ = some (.slice Ak2 nk2 ck2) ∧ w'.cell? ⟨w.heap.size + 1, 7, none⟩ = some (.int .i64 b.step) ∧ w'.cell? ⟨w.heap.size + 1, 8, none⟩ = some (.slice Ah2 nh2 ch2) ∧ w'.cell? ⟨w.heap.size + 1, 9, none⟩ = some (.int .i64 b.status) ∧ w'.cell? ⟨w.heap.size + 1, 10, none⟩ = some (.int .i64 b.out)) 4 (by kernel_rfl) ?_ (fun hHeld => ?_)
 ·(try dsimp only); exact ⟨trivial, A_0, A_1, A_2, A_3, A_4, A_5, A_6, A_7, A_8, A_9, A_10, B_0, B_1, B_2, B_3, B_4, B_5, B_6, B_7, B_8, B_9, B_10⟩
 refine tC 0 13 [0] ?_ hHeld
 refine tC 2 15 [3, 2] ?_ hHeld
 refine f_step (i := 1) (by kernel_rfl) rfl (fun K hK => ?_)
 go_simp
 go_at_call 93; refine (HCa.out _ Bl.a3).mono ?_; rintro e w1 ⟨A5, A6, A8, c5, c6, c8, hs8, T1, rfl, hp1, hb1⟩; have hsz1 : w.heap.size + 4 ≤ w1.heap.size := (by have := U_l; have := hb1.sz; simp at this; omega); replace hW : Bl w w1 := Bl.a3; replace hA := hA.kp hb1; replace hB := hB.kp hb1; replace hR := hR.kp hb1; replace hU := hU.kp hb1; (try clear A_l A_f A_0 A_1 A_2 A_3 A_4 A_5 A_6 A_7 A_8 A_9 A_10 B_l B_f B_0 B_1 B_2 B_3 B_4 B_5 B_6 B_7 B_8 B_9 B_10 R_l R_f R_0 R_1 R_2 R_3 R_4 R_5 R_6 R_7 R_8 R_9 R_10 U_l U_f U_0 U_1 U_2 U_3 U_4 U_5 U_6 U_7 U_8 U_9 U_10); obtain ⟨A_l, A_f, A_0, A_1, A_2, A_3, A_4, A_5, A_6, A_7, A_8, A_9, A_10⟩ := hA.l11; obtain ⟨B_l, B_f, B_0, B_1, B_2, B_3, B_4, B_5, B_6, B_7, B_8, B_9, B_10⟩ := hB.l11; obtain ⟨R_l, R_f, R_0, R_1, R_2, R_3, R_4, R_5, R_6, R_7, R_8, R_9, R_10⟩ := hR.l11; obtain ⟨U_l, U_f, U_0, U_1, U_2, U_3, U_4, U_5, U_6, U_7, U_8, U_9, U_10⟩ := hU.l11; replace hp1 := hp1.mono (base' := w.heap.size + 4) (by simp); have hu1 := hp1.under
 go_wp2_with fail
 refine ko hK ?_ fun hHeld => ?_
 ·(try dsimp only); exact ⟨trivial, A_0, A_1, A_2, A_3, A_4, A_5, A_6, A_7, A_8, A_9, A_10, B_0, B_1, B_2, B_3, B_4, B_5, B_6, B_7, B_8, B_9, B_10⟩
 clear hK K
 refine f_step (i := 3) (by kernel_rfl) rfl (fun K hK => ?_)
 go_simp
 go_at_call 93; refine (HCb.out _ Bl.a3).mono ?_; rintro e w2 ⟨D5, D6, D8, d5, d6, d8, ks8, T2, rfl, hpB, hb2⟩; have hsz2 := hb2.sz; replace hW : Bl w w2 := Bl.a3; replace hA := hA.kp hb2; replace hB := hB.kp hb2; replace hR := hR.kp hb2; replace hU := hU.kp hb2; (try clear A_l A_f A_0 A_1 A_2 A_3 A_4 A_5 A_6 A_7 A_8 A_9 A_10 B_l B_f B_0 B_1 B_2 B_3 B_4 B_5 B_6 B_7 B_8 B_9 B_10 R_l R_f R_0 R_1 R_2 R_3 R_4 R_5 R_6 R_7 R_8 R_9 R_10 U_l U_f U_0 U_1 U_2 U_3 U_4 U_5 U_6 U_7 U_8 U_9 U_10); obtain ⟨A_l, A_f, A_0, A_1, A_2, A_3, A_4, A_5, A_6, A_7, A_8, A_9, A_10⟩ := hA.l11; obtain ⟨B_l, B_f, B_0, B_1, B_2, B_3, B_4, B_5, B_6, B_7, B_8, B_9, B_10⟩ := hB.l11; obtain ⟨R_l, R_f, R_0, R_1, R_2, R_3, R_4, R_5, R_6, R_7, R_8, R_9, R_10⟩ := hR.l11; obtain ⟨U_l, U_f, U_0, U_1, U_2, U_3, U_4, U_5, U_6, U_7, U_8, U_9, U_10⟩ := hU.l11; replace hp1 := hp1.keep hb2
 go_wp2_with fail
 refine ko hK ?_ fun hHeld => ?_
 ·(try dsimp only); exact ⟨trivial, A_0, A_1, A_2, A_3, A_4, A_5, A_6, A_7, A_8, A_9, A_10, B_0, B_1, B_2, B_3, B_4, B_5, B_6, B_7, B_8, B_9, B_10⟩
 clear hK K
 refine f_last (i := 4) (by kernel_rfl) rfl (by simp) (fun K hK => ?_)
 refine wp_store_row 34 _ _ rfl (w.heap.size) #[.int .i64 a.p, .int .i64 a.party, .int .i64 a.x, .int .i64 a.mask, .int .i64 a.delta, .slice A5 ns c5, .slice A6 nk c6, .int .i64 a.step, .slice A8 nh c8, .int .i64 a.status, .int .i64 a.out] rfl rfl 34 #[.int .i64 a.p, .int .i64 a.party, .int .i64 a.x, .int .i64 a.mask, .int .i64 a.delta, .slice As ns cs, .slice Ak nk ck, .int .i64 a.step, .slice Ah nh ch, .int .i64 a.status, .int .i64 a.out] hA (by kernel_rfl) rfl (by first | rfl | simp [Value.oneCell'] | kernel_rfl) ?_
 refine ko hK ?_ fun hHeld => ?_
 ·exact trivial
 clear hK K
 refine f_last (i := 5) (by kernel_rfl) rfl (by simp) (fun K hK => ?_)
 refine wp_store_row 34 _ _ rfl (w.heap.size + 1) #[.int .i64 b.p, .int .i64 b.party, .int .i64 b.x, .int .i64 b.mask, .int .i64 b.delta, .slice D5 ns2 d5, .slice D6 nk2 d6, .int .i64 b.step, .slice D8 nh2 d8, .int .i64 b.status, .int .i64 b.out] rfl rfl 34 #[.int .i64 b.p, .int .i64 b.party, .int .i64 b.x, .int .i64 b.mask, .int .i64 b.delta, .slice As2 ns2 cs2, .slice Ak2 nk2 ck2, .int .i64 b.step, .slice Ah2 nh2 ch2, .int .i64 b.status, .int .i64 b.out] (hB.farRow (by omega)) (by kernel_rfl) rfl (by first | rfl | simp [Value.oneCell'] | kernel_rfl) ?_
 refine ko hK ?_ fun hHeld => ?_
 ·exact trivial
 clear hK K
 refine f_done (by kernel_rfl) ?_ _
 have hbw := hb0.call (Bl.a3 : Bl w w2)
 have rcS : RC w.heap.size gs gt W0 w ((w2.setRow w.heap.size #[.int .i64 a.p, .int .i64 a.party, .int .i64 a.x, .int .i64 a.mask, .int .i64 a.delta, .slice A5 ns c5, .slice A6 nk c6, .int .i64 a.step, .slice A8 nh c8, .int .i64 a.status, .int .i64 a.out]).setRow (w.heap.size + 1) #[.int .i64 b.p, .int .i64 b.party, .int .i64 b.x, .int .i64 b.mask, .int .i64 b.delta, .slice D5 ns2 d5, .slice D6 nk2 d6, .int .i64 b.step, .slice D8 nh2 d8, .int .i64 b.status, .int .i64 b.out]) a b [] [] six0 six0 ⟨A5, A6, A8, ns, c5, nk, c6, nh, c8, hs8⟩ ⟨D5, D6, D8, ns2, d5, nk2, d6, nh2, d8, ks8⟩ (w.heap.size + 4) T1 w1.heap.size T2 w2.heap.size none :=
  RC.start (ra := a) (rb := b) (s1 := ⟨A5, A6, A8, ns, c5, nk, c6, nh, c8, hs8⟩) (s2 := ⟨D5, D6, D8, ns2, d5, nk2, d6, nh2, d8, ks8⟩) (csA := #[.int .i64 a.p, .int .i64 a.party, .int .i64 a.x, .int .i64 a.mask, .int .i64 a.delta, .slice As ns cs, .slice Ak nk ck, .int .i64 a.step, .slice Ah nh ch, .int .i64 a.status, .int .i64 a.out]) (csB := #[.int .i64 b.p, .int .i64 b.party, .int .i64 b.x, .int .i64 b.mask, .int .i64 b.delta, .slice As2 ns2 cs2, .slice Ak2 nk2 ck2, .int .i64 b.step, .slice Ah2 nh2 ch2, .int .i64 b.status, .int .i64 b.out]) hA hB hR hU (hS.keep hW) (hT.keep hW) hgs0 hgt0 rfl rfl hp1 hu1 hpB (Nat.le_refl _) hsz1 hsz2 hbw (Gp.of_bl hW) rfl ⟨hgs, hgt⟩
 (try clear A_l A_f A_0 A_1 A_2 A_3 A_4 A_5 A_6 A_7 A_8 A_9 A_10); (try clear B_l B_f B_0 B_1 B_2 B_3 B_4 B_5 B_6 B_7 B_8 B_9 B_10); (try clear hA hB)
 clear hW hR hU hS hT hb0 ha hb HCa HCb hp1 hpB hu1 hsz1 hsz2 hbw hb1 hb2 hgs0 hgt0
 generalize ((w2.setRow w.heap.size #[.int .i64 a.p, .int .i64 a.party, .int .i64 a.x, .int .i64 a.mask, .int .i64 a.delta, .slice A5 ns c5, .slice A6 nk c6, .int .i64 a.step, .slice A8 nh c8, .int .i64 a.status, .int .i64 a.out]).setRow (w.heap.size + 1) #[.int .i64 b.p, .int .i64 b.party, .int .i64 b.x, .int .i64 b.mask, .int .i64 b.delta, .slice D5 ns2 d5, .slice D6 nk2 d6, .int .i64 b.step, .slice D8 nh2 d8, .int .i64 b.status, .int .i64 b.out]) = w3 at rcS ⊢
 go_wp2_with fail
 have rc0 := rcS.app (wx := w3.alloc (.cells #[] 87)) (A' := some ⟨w3.heap.size, 0, none⟩) (alloc_grown _ _ _) (Or.inr rfl) (fun k hk => by injection hk with hk; subst hk; simp)
 have out0 : OwnV 87 3 (w.heap.size + 4) (w3.alloc (.cells #[] 87)) (some ⟨w3.heap.size, 0, none⟩) 0 0 [] :=
  OwnV.mono (World.ownsRow_made (size := 3) w3 #[] 0 (Nat.le_refl _) (by simp) (by simp)) (by have := rcS.b1; have := rcS.b2; have := rcS.b3; have := rcS.b4; omega)
 clear rcS
 go_loopg [18, 9] 3 (fun k i s wr => ∃ (q n : Nat) (ra rb : Pl) (sent taken : List Ms) (L M : List Hm) (s1 s2 : Sl) (B1 T1 N1 T2 N2 : Nat) (A : Option Addr) (c : Nat) (xs : List Value), q + k = 3 ∧ i = .int .i64 (q : Int) ∧ s = .slice A n c ∧ Hid (n = 2 * q) ∧ Hid (RunQ a b l q ra rb sent taken) ∧ RC w.heap.size gs gt W0 w wr ra rb sent taken L M s1 s2 B1 T1 N1 T2 N2 A ∧ OwnV 87 3 (w.heap.size + 4) wr A n c xs)
 case atStart => exact ⟨0, 0, a, b, [], [], six0, six0, _, _, _, _, _, _, _, _, _, _, rfl, rfl, rfl, Lib.hid rfl, RQ, rc0, out0⟩
 case round =>
  clear rc0 out0 RQ
  obtain ⟨q, n, ra, rb, sent, taken, L, M, ⟨As1, Ak1, Ah1, ns1, cs1, nk1, ck1, nh1, ch1, hs1⟩, ⟨As3, Ak3, Ah3, ns3, cs3, nk3, ck3, nh3, ch3, hs3⟩, B1, T1, N1, T2, N2, A, c, xs, hqk, rfl, rfl, hn, run, rc, out⟩ := hrel
  have hA : Blk wr w.heap.size 34 #[.int .i64 ra.p, .int .i64 ra.party, .int .i64 ra.x, .int .i64 ra.mask, .int .i64 ra.delta, .slice As1 ns1 cs1, .slice Ak1 nk1 ck1, .int .i64 ra.step, .slice Ah1 nh1 ch1, .int .i64 ra.status, .int .i64 ra.out] := rc.bA; have hB : Blk wr (w.heap.size + 1) 34 #[.int .i64 rb.p, .int .i64 rb.party, .int .i64 rb.x, .int .i64 rb.mask, .int .i64 rb.delta, .slice As3 ns3 cs3, .slice Ak3 nk3 ck3, .int .i64 rb.step, .slice Ah3 nh3 ch3, .int .i64 rb.status, .int .i64 rb.out] := rc.bB; obtain ⟨A_l, A_f, A_0, A_1, A_2, A_3, A_4, A_5, A_6, A_7, A_8, A_9, A_10⟩ := hA.l11; obtain ⟨B_l, B_f, B_0, B_1, B_2, B_3, B_4, B_5, B_6, B_7, B_8, B_9, B_10⟩ := hB.l11
  have hle := out.rd.cap
  by_cases hq : q < 3
  ·have i1 : (q : Int) < 3 := by omega
   have hq2 : q ≤ 2 := by omega
   have HK := Lib.hid hqk
   obtain ⟨ok1, ok2, st1, st2⟩ := run.out.on hq2
   have OK1 := Lib.hid ok1
   have OK2 := Lib.hid ok2
   have ST1 := Lib.hid st1
   have ST2 := Lib.hid st2
   have o1 : OwnP B1 T1 wr ra As1 Ak1 Ah1 ns1 cs1 nk1 ck1 nh1 ch1 hs1 := rc.o1
   have o2 : OwnP N1 T2 wr rb As3 Ak3 Ah3 ns3 cs3 nk3 ck3 nh3 ch3 hs3 := rc.o2
   clear ok1 ok2 st1 st2 hqk hq
   go_upto_region 5 with fail
   go_cut [10, 11] (fun s10 s11 wx => ∃ (gX gY : Nat) (A1 : Option Addr) (n1 c1 : Nat) (A2 : Option Addr) (n2 c2 : Nat), s10 = .pointer (some ⟨gX, 0, none⟩) ∧ s11 = .pointer (some ⟨gY, 0, none⟩) ∧ wr.heap.size ≤ gX ∧ wr.heap.size ≤ gY ∧ gX ≠ gY ∧ Blk wx gX 87 #[.int .i64 0, .int .i64 ra.step, .slice A1 n1 c1] ∧ Blk wx gY 87 #[.int .i64 1, .int .i64 rb.step, .slice A2 n2 c2] ∧ OwnI wr.heap.size wx A1 n1 c1 (bodyP ra) ∧ OwnI wr.heap.size wx A2 n2 c2 (bodyP rb) ∧ Bl wr wx)
   case first =>
    refine wp_region_held_drew (S := (fun w' => w'.cell? ⟨w.heap.size, 0, none⟩ = some (.int .i64 ra.p) ∧ w'.cell? ⟨w.heap.size, 1, none⟩ = some (.int .i64 ra.party) ∧ w'.cell? ⟨w.heap.size, 2, none⟩ = some (.int .i64 ra.x) ∧ w'.cell? ⟨w.heap.size, 3, none⟩ = some (.int .i64 ra.mask) ∧ w'.cell? ⟨w.heap.size, 4, none⟩ = some (.int .i64 ra.delta) ∧ w'.cell? ⟨w.heap.size, 5, none⟩ = some (.slice As1 ns1 cs1) ∧ w'.cell? ⟨w.heap.size, 6, none⟩ = some (.slice Ak1 nk1 ck1) ∧ w'.cell? ⟨w.heap.size, 7, none⟩ = some (.int .i64 ra.step) ∧ w'.cell? ⟨w.heap.size, 8, none⟩ = some (.slice Ah1 nh1 ch1) ∧ w'.cell? ⟨w.heap.size, 9, none⟩ = some (.int .i64 ra.status) ∧ w'.cell? ⟨w.heap.size, 10, none⟩ = some (.int .i64 ra.out) ∧ w'.cell? ⟨w.heap.size + 1, 0, none⟩ = some (.int .i64 rb.p) ∧ w'.cell? ⟨w.heap.size + 1, 1, none⟩ = some (.int .i64 rb.party) ∧ w'.cell? ⟨w.heap.size + 1, 2, none⟩ = some (.int .i64 rb.x) ∧ w'.cell? ⟨w.heap.size + 1, 3, none⟩ = some (.int .i64 rb.mask) ∧ w'.cell? ⟨w.heap.size + 1, 4, none⟩ = some (.int .i64 rb.delta) ∧ w'.cell? ⟨w.heap.size + 1, 5, none⟩ = some (.slice As3 ns3 cs3) ∧ w'.cell? ⟨w.heap.size + 1, 6, none⟩ = some (.slice Ak3 nk3 ck3) ∧ w'.cell? ⟨w.heap.size + 1, 7, none⟩ = some (.int .i64 rb.step) ∧ w'.cell? ⟨w.heap.size + 1, 8, none⟩ = some (.slice Ah3 nh3 ch3) ∧ w'.cell? ⟨w.heap.size + 1, 9, none⟩ = some (.int .i64 rb.status) ∧ w'.cell? ⟨w.heap.size + 1, 10, none⟩ = some (.int .i64 rb.out))) (by kernel_rfl) ?_ (fun hHeld => ?_)
    ·(try dsimp only); exact ⟨A_0, A_1, A_2, A_3, A_4, A_5, A_6, A_7, A_8, A_9, A_10, B_0, B_1, B_2, B_3, B_4, B_5, B_6, B_7, B_8, B_9, B_10⟩
    have hV : Bl wr wr.drew := (Bl.refl wr).drew
    generalize wr.drew = v0 at hV hHeld ⊢
    refine tkO 0 20 ?_
    refine tkO 1 21 ?_
    refine tkO 2 22 ?_
    refine tkO 5 25 ?_
    refine tkO 6 26 ?_
    refine tkO 7 27 ?_
    refine wpAnyH_ready (rs := [3, 10, 11]) (by kernel_rfl) (by simp) ?_
    refine AllReadyH.cons rfl (fun K hK => ?_) (AllReadyH.cons rfl (fun K hK => ?_) (AllReadyH.cons rfl (fun K hK => ?_) AllReadyH.nil))
    ·go_simp
     go_at_call 94; refine (impl_body ra q As1 Ak1 Ah1 ns1 cs1 nk1 ck1 nh1 ch1 hs1 _ hq2 OK1.out (OwnP.rd (OwnP.keep o1 hV))).mono ?_; rintro e v3 ⟨A1, n1, c1, rfl, b1, hb3⟩; have hsz3 := hV.sz; replace b1 := b1.mono (base' := wr.heap.size) hsz3; replace hV := hV.call hb3
     go_wp2_with fail
     refine ko hK ?_ fun hHeld => ?_
     ·(try dsimp only); and_intros <;> exact hV.cells (by first | with_reducible assumption | assumption)
     clear hK K
     refine tkO 4 24 ?_
     refine wpAnyH_ready (rs := [8, 10, 11]) (by kernel_rfl) (by simp) ?_
     refine AllReadyH.cons rfl (fun K hK => ?_) (AllReadyH.cons rfl (fun K hK => ?_) (AllReadyH.cons rfl (fun K hK => ?_) AllReadyH.nil))
     ·go_simp
      go_at_call 94; refine (impl_body rb q As3 Ak3 Ah3 ns3 cs3 nk3 ck3 nh3 ch3 hs3 _ hq2 OK2.out (OwnP.rd (OwnP.keep o2 hV))).mono ?_; rintro e v8 ⟨A2, n2, c2, rfl, b2, hb8⟩; have hsz8 := hV.sz; replace b1 := b1.keep hb8; replace b2 := b2.mono (base' := wr.heap.size) hsz8; replace hV := hV.call hb8
      go_wp2_with fail
      refine ko hK ?_ fun hHeld => ?_
      ·(try dsimp only); and_intros <;> exact hV.cells (by first | with_reducible assumption | assumption)
      clear hK K
      refine tkO 9 29 ?_
      refine wpAnyH_ready (rs := [10, 11]) (by kernel_rfl) (by simp) ?_
      refine AllReadyH.cons rfl (fun K hK => ?_) (AllReadyH.cons rfl (fun K hK => ?_) AllReadyH.nil)
      ·go_simp
       have hX := Blk.new v8 87 #[.int .i64 0, .int .i64 0, .slice none 0 0] (g := v8.heap.size)
       have hgX := hV.sz
       have n1X : ∀ k, A1.map (·.block) = some k → k ≠ v8.heap.size := fun k hk => (by have q1 := (b1.blk k hk).2; omega)
       replace b1 := b1.alloc (.cells #[.int .i64 0, .int .i64 0, .slice none 0 0] 87)
       have n2X : ∀ k, A2.map (·.block) = some k → k ≠ v8.heap.size := fun k hk => (by have q1 := (b2.blk k hk).2; omega)
       replace b2 := b2.alloc (.cells #[.int .i64 0, .int .i64 0, .slice none 0 0] 87)
       replace hV := hV.alloc (.cells #[.int .i64 0, .int .i64 0, .slice none 0 0] 87)
       generalize v8.alloc (.cells #[.int .i64 0, .int .i64 0, .slice none 0 0] 87) = v10 at hX hV b1 b2 ⊢
       generalize v8.heap.size = gX at hX hgX n1X n2X ⊢
       refine ko hK ?_ fun hHeld => ?_
       ·(try dsimp only); and_intros <;> exact hV.cells (by first | with_reducible assumption | assumption)
       clear hK K
       refine rdy1 11 fun K hK => ?_
       go_simp
       have hY := Blk.new v10 87 #[.int .i64 0, .int .i64 0, .slice none 0 0] (g := v10.heap.size)
       have hgY := hV.sz
       have hXY : gX ≠ v10.heap.size := Nat.ne_of_lt hX.lt
       replace hX := hX.alloc (.cells #[.int .i64 0, .int .i64 0, .slice none 0 0] 87)
       have n1Y : ∀ k, A1.map (·.block) = some k → k ≠ v10.heap.size := fun k hk => (by have q1 := (b1.blk k hk).2; omega)
       replace b1 := b1.alloc (.cells #[.int .i64 0, .int .i64 0, .slice none 0 0] 87)
       have n2Y : ∀ k, A2.map (·.block) = some k → k ≠ v10.heap.size := fun k hk => (by have q1 := (b2.blk k hk).2; omega)
       replace b2 := b2.alloc (.cells #[.int .i64 0, .int .i64 0, .slice none 0 0] 87)
       replace hV := hV.alloc (.cells #[.int .i64 0, .int .i64 0, .slice none 0 0] 87)
       generalize v10.alloc (.cells #[.int .i64 0, .int .i64 0, .slice none 0 0] 87) = v11 at hY hV hX b1 b2 ⊢
       generalize v10.heap.size = gY at hY hgY hXY n1Y n2Y ⊢
       refine ko hK ?_ fun hHeld => ?_
       ·(try dsimp only); and_intros <;> exact hV.cells (by first | with_reducible assumption | assumption)
       clear hK K
       refine rdy1 12 fun K hK => ?_
       refine wp_store_row 87 _ _ rfl gX #[.int .i64 0, .int .i64 ra.step, .slice A1 n1 c1] rfl rfl 87 #[.int .i64 0, .int .i64 0, .slice none 0 0] hX (by kernel_rfl) rfl (by first | rfl | simp [Value.oneCell'] | kernel_rfl) ?_; replace hX := Blk.row (cs' := #[.int .i64 0, .int .i64 ra.step, .slice A1 n1 c1]) hX; replace hY := hY.farRow (k := gX) (cs' := #[.int .i64 0, .int .i64 ra.step, .slice A1 n1 c1]) (by omega); replace b1 := OwnI.grownR b1 (setRow_grown v11 gX #[.int .i64 0, .int .i64 ra.step, .slice A1 n1 c1]) (fun k hk e => n1X k hk (by injection e with e; exact e.symm)); replace b2 := OwnI.grownR b2 (setRow_grown v11 gX #[.int .i64 0, .int .i64 ra.step, .slice A1 n1 c1]) (fun k hk e => n2X k hk (by injection e with e; exact e.symm)); replace hV := hV.row hgX #[.int .i64 0, .int .i64 ra.step, .slice A1 n1 c1]; generalize v11.setRow gX #[.int .i64 0, .int .i64 ra.step, .slice A1 n1 c1] = v12 at hX hY b1 b2 hV ⊢
       refine ko hK ?_ fun hHeld => ?_
       ·(try dsimp only); and_intros <;> exact hV.cells (by first | with_reducible assumption | assumption)
       clear hK K
       refine rdy1 13 fun K hK => ?_
       refine wp_store_row 87 _ _ rfl gY #[.int .i64 1, .int .i64 rb.step, .slice A2 n2 c2] rfl rfl 87 #[.int .i64 0, .int .i64 0, .slice none 0 0] hY (by kernel_rfl) rfl (by first | rfl | simp [Value.oneCell'] | kernel_rfl) ?_; replace hY := Blk.row (cs' := #[.int .i64 1, .int .i64 rb.step, .slice A2 n2 c2]) hY; replace hX := hX.farRow (k := gY) (cs' := #[.int .i64 1, .int .i64 rb.step, .slice A2 n2 c2]) (by omega); replace b1 := OwnI.grownR b1 (setRow_grown v12 gY #[.int .i64 1, .int .i64 rb.step, .slice A2 n2 c2]) (fun k hk e => n1Y k hk (by injection e with e; exact e.symm)); replace b2 := OwnI.grownR b2 (setRow_grown v12 gY #[.int .i64 1, .int .i64 rb.step, .slice A2 n2 c2]) (fun k hk e => n2Y k hk (by injection e with e; exact e.symm)); replace hV := hV.row hgY #[.int .i64 1, .int .i64 rb.step, .slice A2 n2 c2]; generalize v12.setRow gY #[.int .i64 1, .int .i64 rb.step, .slice A2 n2 c2] = v13 at hX hY b1 b2 hV ⊢
       refine ko hK ?_ fun hHeld => ?_
       ·(try dsimp only); and_intros <;> exact hV.cells (by first | with_reducible assumption | assumption)
       clear hK K
       refine wpAnyH_done (by kernel_rfl) ?_ _
       go_wp2_with fail
       go_meet
       exact ⟨gX, gY, A1, n1, c1, A2, n2, c2, rfl, rfl, hgX, hgY, hXY, hX, hY, b1, b2, hV⟩
      ·go_simp
       have hY := Blk.new v8 87 #[.int .i64 0, .int .i64 0, .slice none 0 0] (g := v8.heap.size)
       have hgY := hV.sz
       have n1Y : ∀ k, A1.map (·.block) = some k → k ≠ v8.heap.size := fun k hk => (by have q1 := (b1.blk k hk).2; omega)
       replace b1 := b1.alloc (.cells #[.int .i64 0, .int .i64 0, .slice none 0 0] 87)
       have n2Y : ∀ k, A2.map (·.block) = some k → k ≠ v8.heap.size := fun k hk => (by have q1 := (b2.blk k hk).2; omega)
       replace b2 := b2.alloc (.cells #[.int .i64 0, .int .i64 0, .slice none 0 0] 87)
       replace hV := hV.alloc (.cells #[.int .i64 0, .int .i64 0, .slice none 0 0] 87)
       generalize v8.alloc (.cells #[.int .i64 0, .int .i64 0, .slice none 0 0] 87) = v11 at hY hV b1 b2 ⊢
       generalize v8.heap.size = gY at hY hgY n1Y n2Y ⊢
       refine ko hK ?_ fun hHeld => ?_
       ·(try dsimp only); and_intros <;> exact hV.cells (by first | with_reducible assumption | assumption)
       clear hK K
       refine rdy1 10 fun K hK => ?_
       go_simp
       have hX := Blk.new v11 87 #[.int .i64 0, .int .i64 0, .slice none 0 0] (g := v11.heap.size)
       have hgX := hV.sz
       have hXY : v11.heap.size ≠ gY := Ne.symm (Nat.ne_of_lt hY.lt)
       replace hY := hY.alloc (.cells #[.int .i64 0, .int .i64 0, .slice none 0 0] 87)
       have n1X : ∀ k, A1.map (·.block) = some k → k ≠ v11.heap.size := fun k hk => (by have q1 := (b1.blk k hk).2; omega)
       replace b1 := b1.alloc (.cells #[.int .i64 0, .int .i64 0, .slice none 0 0] 87)
       have n2X : ∀ k, A2.map (·.block) = some k → k ≠ v11.heap.size := fun k hk => (by have q1 := (b2.blk k hk).2; omega)
       replace b2 := b2.alloc (.cells #[.int .i64 0, .int .i64 0, .slice none 0 0] 87)
       replace hV := hV.alloc (.cells #[.int .i64 0, .int .i64 0, .slice none 0 0] 87)
       generalize v11.alloc (.cells #[.int .i64 0, .int .i64 0, .slice none 0 0] 87) = v10 at hX hV hY b1 b2 ⊢
       generalize v11.heap.size = gX at hX hgX hXY n1X n2X ⊢
       refine ko hK ?_ fun hHeld => ?_
       ·(try dsimp only); and_intros <;> exact hV.cells (by first | with_reducible assumption | assumption)
       clear hK K
       refine rdy1 12 fun K hK => ?_
       refine wp_store_row 87 _ _ rfl gX #[.int .i64 0, .int .i64 ra.step, .slice A1 n1 c1] rfl rfl 87 #[.int .i64 0, .int .i64 0, .slice none 0 0] hX (by kernel_rfl) rfl (by first | rfl | simp [Value.oneCell'] | kernel_rfl) ?_; replace hX := Blk.row (cs' := #[.int .i64 0, .int .i64 ra.step, .slice A1 n1 c1]) hX; replace hY := hY.farRow (k := gX) (cs' := #[.int .i64 0, .int .i64 ra.step, .slice A1 n1 c1]) (by omega); replace b1 := OwnI.grownR b1 (setRow_grown v10 gX #[.int .i64 0, .int .i64 ra.step, .slice A1 n1 c1]) (fun k hk e => n1X k hk (by injection e with e; exact e.symm)); replace b2 := OwnI.grownR b2 (setRow_grown v10 gX #[.int .i64 0, .int .i64 ra.step, .slice A1 n1 c1]) (fun k hk e => n2X k hk (by injection e with e; exact e.symm)); replace hV := hV.row hgX #[.int .i64 0, .int .i64 ra.step, .slice A1 n1 c1]; generalize v10.setRow gX #[.int .i64 0, .int .i64 ra.step, .slice A1 n1 c1] = v12 at hX hY b1 b2 hV ⊢
       refine ko hK ?_ fun hHeld => ?_
       ·(try dsimp only); and_intros <;> exact hV.cells (by first | with_reducible assumption | assumption)
       clear hK K
       refine rdy1 13 fun K hK => ?_
       refine wp_store_row 87 _ _ rfl gY #[.int .i64 1, .int .i64 rb.step, .slice A2 n2 c2] rfl rfl 87 #[.int .i64 0, .int .i64 0, .slice none 0 0] hY (by kernel_rfl) rfl (by first | rfl | simp [Value.oneCell'] | kernel_rfl) ?_; replace hY := Blk.row (cs' := #[.int .i64 1, .int .i64 rb.step, .slice A2 n2 c2]) hY; replace hX := hX.farRow (k := gY) (cs' := #[.int .i64 1, .int .i64 rb.step, .slice A2 n2 c2]) (by omega); replace b1 := OwnI.grownR b1 (setRow_grown v12 gY #[.int .i64 1, .int .i64 rb.step, .slice A2 n2 c2]) (fun k hk e => n1Y k hk (by injection e with e; exact e.symm)); replace b2 := OwnI.grownR b2 (setRow_grown v12 gY #[.int .i64 1, .int .i64 rb.step, .slice A2 n2 c2]) (fun k hk e => n2Y k hk (by injection e with e; exact e.symm)); replace hV := hV.row hgY #[.int .i64 1, .int .i64 rb.step, .slice A2 n2 c2]; generalize v12.setRow gY #[.int .i64 1, .int .i64 rb.step, .slice A2 n2 c2] = v13 at hX hY b1 b2 hV ⊢
       refine ko hK ?_ fun hHeld => ?_
       ·(try dsimp only); and_intros <;> exact hV.cells (by first | with_reducible assumption | assumption)
       clear hK K
       refine wpAnyH_done (by kernel_rfl) ?_ _
       go_wp2_with fail
       go_meet
       exact ⟨gX, gY, A1, n1, c1, A2, n2, c2, rfl, rfl, hgX, hgY, hXY, hX, hY, b1, b2, hV⟩
     ·go_simp
      have hX := Blk.new v3 87 #[.int .i64 0, .int .i64 0, .slice none 0 0] (g := v3.heap.size)
      have hgX := hV.sz
      have n1X : ∀ k, A1.map (·.block) = some k → k ≠ v3.heap.size := fun k hk => (by have q1 := (b1.blk k hk).2; omega)
      replace b1 := b1.alloc (.cells #[.int .i64 0, .int .i64 0, .slice none 0 0] 87)
      replace hV := hV.alloc (.cells #[.int .i64 0, .int .i64 0, .slice none 0 0] 87)
      generalize v3.alloc (.cells #[.int .i64 0, .int .i64 0, .slice none 0 0] 87) = v10 at hX hV b1 ⊢
      generalize v3.heap.size = gX at hX hgX n1X ⊢
      refine ko hK ?_ fun hHeld => ?_
      ·(try dsimp only); and_intros <;> exact hV.cells (by first | with_reducible assumption | assumption)
      clear hK K
      refine wpAnyH_ready (rs := [8, 11]) (by kernel_rfl) (by simp) ?_
      refine AllReadyH.cons rfl (fun K hK => ?_) (AllReadyH.cons rfl (fun K hK => ?_) AllReadyH.nil)
      ·go_simp
       go_at_call 94; refine (impl_body rb q As3 Ak3 Ah3 ns3 cs3 nk3 ck3 nh3 ch3 hs3 _ hq2 OK2.out (OwnP.rd (OwnP.keep o2 hV))).mono ?_; rintro e v8 ⟨A2, n2, c2, rfl, b2, hb8⟩; have hsz8 := hV.sz; have n2X : ∀ k, A2.map (·.block) = some k → k ≠ gX := fun k hk => (by have q1 := (b2.blk k hk).1; have q2 := hX.lt; omega); replace hX := hX.keep hb8; replace b1 := b1.keep hb8; replace b2 := b2.mono (base' := wr.heap.size) hsz8; replace hV := hV.call hb8
       go_wp2_with fail
       refine ko hK ?_ fun hHeld => ?_
       ·(try dsimp only); and_intros <;> exact hV.cells (by first | with_reducible assumption | assumption)
       clear hK K
       refine tkO 9 29 ?_
       refine rdy1 11 fun K hK => ?_
       go_simp
       have hY := Blk.new v8 87 #[.int .i64 0, .int .i64 0, .slice none 0 0] (g := v8.heap.size)
       have hgY := hV.sz
       have hXY : gX ≠ v8.heap.size := Nat.ne_of_lt hX.lt
       replace hX := hX.alloc (.cells #[.int .i64 0, .int .i64 0, .slice none 0 0] 87)
       have n1Y : ∀ k, A1.map (·.block) = some k → k ≠ v8.heap.size := fun k hk => (by have q1 := (b1.blk k hk).2; omega)
       replace b1 := b1.alloc (.cells #[.int .i64 0, .int .i64 0, .slice none 0 0] 87)
       have n2Y : ∀ k, A2.map (·.block) = some k → k ≠ v8.heap.size := fun k hk => (by have q1 := (b2.blk k hk).2; omega)
       replace b2 := b2.alloc (.cells #[.int .i64 0, .int .i64 0, .slice none 0 0] 87)
       replace hV := hV.alloc (.cells #[.int .i64 0, .int .i64 0, .slice none 0 0] 87)
       generalize v8.alloc (.cells #[.int .i64 0, .int .i64 0, .slice none 0 0] 87) = v11 at hY hV hX b1 b2 ⊢
       generalize v8.heap.size = gY at hY hgY hXY n1Y n2Y ⊢
       refine ko hK ?_ fun hHeld => ?_
       ·(try dsimp only); and_intros <;> exact hV.cells (by first | with_reducible assumption | assumption)
       clear hK K
       refine rdy1 12 fun K hK => ?_
       refine wp_store_row 87 _ _ rfl gX #[.int .i64 0, .int .i64 ra.step, .slice A1 n1 c1] rfl rfl 87 #[.int .i64 0, .int .i64 0, .slice none 0 0] hX (by kernel_rfl) rfl (by first | rfl | simp [Value.oneCell'] | kernel_rfl) ?_; replace hX := Blk.row (cs' := #[.int .i64 0, .int .i64 ra.step, .slice A1 n1 c1]) hX; replace hY := hY.farRow (k := gX) (cs' := #[.int .i64 0, .int .i64 ra.step, .slice A1 n1 c1]) (by omega); replace b1 := OwnI.grownR b1 (setRow_grown v11 gX #[.int .i64 0, .int .i64 ra.step, .slice A1 n1 c1]) (fun k hk e => n1X k hk (by injection e with e; exact e.symm)); replace b2 := OwnI.grownR b2 (setRow_grown v11 gX #[.int .i64 0, .int .i64 ra.step, .slice A1 n1 c1]) (fun k hk e => n2X k hk (by injection e with e; exact e.symm)); replace hV := hV.row hgX #[.int .i64 0, .int .i64 ra.step, .slice A1 n1 c1]; generalize v11.setRow gX #[.int .i64 0, .int .i64 ra.step, .slice A1 n1 c1] = v12 at hX hY b1 b2 hV ⊢
       refine ko hK ?_ fun hHeld => ?_
       ·(try dsimp only); and_intros <;> exact hV.cells (by first | with_reducible assumption | assumption)
       clear hK K
       refine rdy1 13 fun K hK => ?_
       refine wp_store_row 87 _ _ rfl gY #[.int .i64 1, .int .i64 rb.step, .slice A2 n2 c2] rfl rfl 87 #[.int .i64 0, .int .i64 0, .slice none 0 0] hY (by kernel_rfl) rfl (by first | rfl | simp [Value.oneCell'] | kernel_rfl) ?_; replace hY := Blk.row (cs' := #[.int .i64 1, .int .i64 rb.step, .slice A2 n2 c2]) hY; replace hX := hX.farRow (k := gY) (cs' := #[.int .i64 1, .int .i64 rb.step, .slice A2 n2 c2]) (by omega); replace b1 := OwnI.grownR b1 (setRow_grown v12 gY #[.int .i64 1, .int .i64 rb.step, .slice A2 n2 c2]) (fun k hk e => n1Y k hk (by injection e with e; exact e.symm)); replace b2 := OwnI.grownR b2 (setRow_grown v12 gY #[.int .i64 1, .int .i64 rb.step, .slice A2 n2 c2]) (fun k hk e => n2Y k hk (by injection e with e; exact e.symm)); replace hV := hV.row hgY #[.int .i64 1, .int .i64 rb.step, .slice A2 n2 c2]; generalize v12.setRow gY #[.int .i64 1, .int .i64 rb.step, .slice A2 n2 c2] = v13 at hX hY b1 b2 hV ⊢
       refine ko hK ?_ fun hHeld => ?_
       ·(try dsimp only); and_intros <;> exact hV.cells (by first | with_reducible assumption | assumption)
       clear hK K
       refine wpAnyH_done (by kernel_rfl) ?_ _
       go_wp2_with fail
       go_meet
       exact ⟨gX, gY, A1, n1, c1, A2, n2, c2, rfl, rfl, hgX, hgY, hXY, hX, hY, b1, b2, hV⟩
      ·go_simp
       have hY := Blk.new v10 87 #[.int .i64 0, .int .i64 0, .slice none 0 0] (g := v10.heap.size)
       have hgY := hV.sz
       have hXY : gX ≠ v10.heap.size := Nat.ne_of_lt hX.lt
       replace hX := hX.alloc (.cells #[.int .i64 0, .int .i64 0, .slice none 0 0] 87)
       have n1Y : ∀ k, A1.map (·.block) = some k → k ≠ v10.heap.size := fun k hk => (by have q1 := (b1.blk k hk).2; omega)
       replace b1 := b1.alloc (.cells #[.int .i64 0, .int .i64 0, .slice none 0 0] 87)
       replace hV := hV.alloc (.cells #[.int .i64 0, .int .i64 0, .slice none 0 0] 87)
       generalize v10.alloc (.cells #[.int .i64 0, .int .i64 0, .slice none 0 0] 87) = v11 at hY hV hX b1 ⊢
       generalize v10.heap.size = gY at hY hgY hXY n1Y ⊢
       refine ko hK ?_ fun hHeld => ?_
       ·(try dsimp only); and_intros <;> exact hV.cells (by first | with_reducible assumption | assumption)
       clear hK K
       refine rdy1 8 fun K hK => ?_
       go_simp
       go_at_call 94; refine (impl_body rb q As3 Ak3 Ah3 ns3 cs3 nk3 ck3 nh3 ch3 hs3 _ hq2 OK2.out (OwnP.rd (OwnP.keep o2 hV))).mono ?_; rintro e v8 ⟨A2, n2, c2, rfl, b2, hb8⟩; have hsz8 := hV.sz; have n2X : ∀ k, A2.map (·.block) = some k → k ≠ gX := fun k hk => (by have q1 := (b2.blk k hk).1; have q2 := hX.lt; omega); replace hX := hX.keep hb8; have n2Y : ∀ k, A2.map (·.block) = some k → k ≠ gY := fun k hk => (by have q1 := (b2.blk k hk).1; have q2 := hY.lt; omega); replace hY := hY.keep hb8; replace b1 := b1.keep hb8; replace b2 := b2.mono (base' := wr.heap.size) hsz8; replace hV := hV.call hb8
       go_wp2_with fail
       refine ko hK ?_ fun hHeld => ?_
       ·(try dsimp only); and_intros <;> exact hV.cells (by first | with_reducible assumption | assumption)
       clear hK K
       refine tkO 9 29 ?_
       refine rdy1 12 fun K hK => ?_
       refine wp_store_row 87 _ _ rfl gX #[.int .i64 0, .int .i64 ra.step, .slice A1 n1 c1] rfl rfl 87 #[.int .i64 0, .int .i64 0, .slice none 0 0] hX (by kernel_rfl) rfl (by first | rfl | simp [Value.oneCell'] | kernel_rfl) ?_; replace hX := Blk.row (cs' := #[.int .i64 0, .int .i64 ra.step, .slice A1 n1 c1]) hX; replace hY := hY.farRow (k := gX) (cs' := #[.int .i64 0, .int .i64 ra.step, .slice A1 n1 c1]) (by omega); replace b1 := OwnI.grownR b1 (setRow_grown v8 gX #[.int .i64 0, .int .i64 ra.step, .slice A1 n1 c1]) (fun k hk e => n1X k hk (by injection e with e; exact e.symm)); replace b2 := OwnI.grownR b2 (setRow_grown v8 gX #[.int .i64 0, .int .i64 ra.step, .slice A1 n1 c1]) (fun k hk e => n2X k hk (by injection e with e; exact e.symm)); replace hV := hV.row hgX #[.int .i64 0, .int .i64 ra.step, .slice A1 n1 c1]; generalize v8.setRow gX #[.int .i64 0, .int .i64 ra.step, .slice A1 n1 c1] = v12 at hX hY b1 b2 hV ⊢
       refine ko hK ?_ fun hHeld => ?_
       ·(try dsimp only); and_intros <;> exact hV.cells (by first | with_reducible assumption | assumption)
       clear hK K
       refine rdy1 13 fun K hK => ?_
       refine wp_store_row 87 _ _ rfl gY #[.int .i64 1, .int .i64 rb.step, .slice A2 n2 c2] rfl rfl 87 #[.int .i64 0, .int .i64 0, .slice none 0 0] hY (by kernel_rfl) rfl (by first | rfl | simp [Value.oneCell'] | kernel_rfl) ?_; replace hY := Blk.row (cs' := #[.int .i64 1, .int .i64 rb.step, .slice A2 n2 c2]) hY; replace hX := hX.farRow (k := gY) (cs' := #[.int .i64 1, .int .i64 rb.step, .slice A2 n2 c2]) (by omega); replace b1 := OwnI.grownR b1 (setRow_grown v12 gY #[.int .i64 1, .int .i64 rb.step, .slice A2 n2 c2]) (fun k hk e => n1Y k hk (by injection e with e; exact e.symm)); replace b2 := OwnI.grownR b2 (setRow_grown v12 gY #[.int .i64 1, .int .i64 rb.step, .slice A2 n2 c2]) (fun k hk e => n2Y k hk (by injection e with e; exact e.symm)); replace hV := hV.row hgY #[.int .i64 1, .int .i64 rb.step, .slice A2 n2 c2]; generalize v12.setRow gY #[.int .i64 1, .int .i64 rb.step, .slice A2 n2 c2] = v13 at hX hY b1 b2 hV ⊢
       refine ko hK ?_ fun hHeld => ?_
       ·(try dsimp only); and_intros <;> exact hV.cells (by first | with_reducible assumption | assumption)
       clear hK K
       refine wpAnyH_done (by kernel_rfl) ?_ _
       go_wp2_with fail
       go_meet
       exact ⟨gX, gY, A1, n1, c1, A2, n2, c2, rfl, rfl, hgX, hgY, hXY, hX, hY, b1, b2, hV⟩
     ·go_simp
      have hY := Blk.new v3 87 #[.int .i64 0, .int .i64 0, .slice none 0 0] (g := v3.heap.size)
      have hgY := hV.sz
      have n1Y : ∀ k, A1.map (·.block) = some k → k ≠ v3.heap.size := fun k hk => (by have q1 := (b1.blk k hk).2; omega)
      replace b1 := b1.alloc (.cells #[.int .i64 0, .int .i64 0, .slice none 0 0] 87)
      replace hV := hV.alloc (.cells #[.int .i64 0, .int .i64 0, .slice none 0 0] 87)
      generalize v3.alloc (.cells #[.int .i64 0, .int .i64 0, .slice none 0 0] 87) = v11 at hY hV b1 ⊢
      generalize v3.heap.size = gY at hY hgY n1Y ⊢
      refine ko hK ?_ fun hHeld => ?_
      ·(try dsimp only); and_intros <;> exact hV.cells (by first | with_reducible assumption | assumption)
      clear hK K
      refine wpAnyH_ready (rs := [8, 10]) (by kernel_rfl) (by simp) ?_
      refine AllReadyH.cons rfl (fun K hK => ?_) (AllReadyH.cons rfl (fun K hK => ?_) AllReadyH.nil)
      ·go_simp
       go_at_call 94; refine (impl_body rb q As3 Ak3 Ah3 ns3 cs3 nk3 ck3 nh3 ch3 hs3 _ hq2 OK2.out (OwnP.rd (OwnP.keep o2 hV))).mono ?_; rintro e v8 ⟨A2, n2, c2, rfl, b2, hb8⟩; have hsz8 := hV.sz; have n2Y : ∀ k, A2.map (·.block) = some k → k ≠ gY := fun k hk => (by have q1 := (b2.blk k hk).1; have q2 := hY.lt; omega); replace hY := hY.keep hb8; replace b1 := b1.keep hb8; replace b2 := b2.mono (base' := wr.heap.size) hsz8; replace hV := hV.call hb8
       go_wp2_with fail
       refine ko hK ?_ fun hHeld => ?_
       ·(try dsimp only); and_intros <;> exact hV.cells (by first | with_reducible assumption | assumption)
       clear hK K
       refine tkO 9 29 ?_
       refine rdy1 10 fun K hK => ?_
       go_simp
       have hX := Blk.new v8 87 #[.int .i64 0, .int .i64 0, .slice none 0 0] (g := v8.heap.size)
       have hgX := hV.sz
       have hXY : v8.heap.size ≠ gY := Ne.symm (Nat.ne_of_lt hY.lt)
       replace hY := hY.alloc (.cells #[.int .i64 0, .int .i64 0, .slice none 0 0] 87)
       have n1X : ∀ k, A1.map (·.block) = some k → k ≠ v8.heap.size := fun k hk => (by have q1 := (b1.blk k hk).2; omega)
       replace b1 := b1.alloc (.cells #[.int .i64 0, .int .i64 0, .slice none 0 0] 87)
       have n2X : ∀ k, A2.map (·.block) = some k → k ≠ v8.heap.size := fun k hk => (by have q1 := (b2.blk k hk).2; omega)
       replace b2 := b2.alloc (.cells #[.int .i64 0, .int .i64 0, .slice none 0 0] 87)
       replace hV := hV.alloc (.cells #[.int .i64 0, .int .i64 0, .slice none 0 0] 87)
       generalize v8.alloc (.cells #[.int .i64 0, .int .i64 0, .slice none 0 0] 87) = v10 at hX hV hY b1 b2 ⊢
       generalize v8.heap.size = gX at hX hgX hXY n1X n2X ⊢
       refine ko hK ?_ fun hHeld => ?_
       ·(try dsimp only); and_intros <;> exact hV.cells (by first | with_reducible assumption | assumption)
       clear hK K
       refine rdy1 12 fun K hK => ?_
       refine wp_store_row 87 _ _ rfl gX #[.int .i64 0, .int .i64 ra.step, .slice A1 n1 c1] rfl rfl 87 #[.int .i64 0, .int .i64 0, .slice none 0 0] hX (by kernel_rfl) rfl (by first | rfl | simp [Value.oneCell'] | kernel_rfl) ?_; replace hX := Blk.row (cs' := #[.int .i64 0, .int .i64 ra.step, .slice A1 n1 c1]) hX; replace hY := hY.farRow (k := gX) (cs' := #[.int .i64 0, .int .i64 ra.step, .slice A1 n1 c1]) (by omega); replace b1 := OwnI.grownR b1 (setRow_grown v10 gX #[.int .i64 0, .int .i64 ra.step, .slice A1 n1 c1]) (fun k hk e => n1X k hk (by injection e with e; exact e.symm)); replace b2 := OwnI.grownR b2 (setRow_grown v10 gX #[.int .i64 0, .int .i64 ra.step, .slice A1 n1 c1]) (fun k hk e => n2X k hk (by injection e with e; exact e.symm)); replace hV := hV.row hgX #[.int .i64 0, .int .i64 ra.step, .slice A1 n1 c1]; generalize v10.setRow gX #[.int .i64 0, .int .i64 ra.step, .slice A1 n1 c1] = v12 at hX hY b1 b2 hV ⊢
       refine ko hK ?_ fun hHeld => ?_
       ·(try dsimp only); and_intros <;> exact hV.cells (by first | with_reducible assumption | assumption)
       clear hK K
       refine rdy1 13 fun K hK => ?_
       refine wp_store_row 87 _ _ rfl gY #[.int .i64 1, .int .i64 rb.step, .slice A2 n2 c2] rfl rfl 87 #[.int .i64 0, .int .i64 0, .slice none 0 0] hY (by kernel_rfl) rfl (by first | rfl | simp [Value.oneCell'] | kernel_rfl) ?_; replace hY := Blk.row (cs' := #[.int .i64 1, .int .i64 rb.step, .slice A2 n2 c2]) hY; replace hX := hX.farRow (k := gY) (cs' := #[.int .i64 1, .int .i64 rb.step, .slice A2 n2 c2]) (by omega); replace b1 := OwnI.grownR b1 (setRow_grown v12 gY #[.int .i64 1, .int .i64 rb.step, .slice A2 n2 c2]) (fun k hk e => n1Y k hk (by injection e with e; exact e.symm)); replace b2 := OwnI.grownR b2 (setRow_grown v12 gY #[.int .i64 1, .int .i64 rb.step, .slice A2 n2 c2]) (fun k hk e => n2Y k hk (by injection e with e; exact e.symm)); replace hV := hV.row hgY #[.int .i64 1, .int .i64 rb.step, .slice A2 n2 c2]; generalize v12.setRow gY #[.int .i64 1, .int .i64 rb.step, .slice A2 n2 c2] = v13 at hX hY b1 b2 hV ⊢
       refine ko hK ?_ fun hHeld => ?_
       ·(try dsimp only); and_intros <;> exact hV.cells (by first | with_reducible assumption | assumption)
       clear hK K
       refine wpAnyH_done (by kernel_rfl) ?_ _
       go_wp2_with fail
       go_meet
       exact ⟨gX, gY, A1, n1, c1, A2, n2, c2, rfl, rfl, hgX, hgY, hXY, hX, hY, b1, b2, hV⟩
      ·go_simp
       have hX := Blk.new v11 87 #[.int .i64 0, .int .i64 0, .slice none 0 0] (g := v11.heap.size)
       have hgX := hV.sz
       have hXY : v11.heap.size ≠ gY := Ne.symm (Nat.ne_of_lt hY.lt)
       replace hY := hY.alloc (.cells #[.int .i64 0, .int .i64 0, .slice none 0 0] 87)
       have n1X : ∀ k, A1.map (·.block) = some k → k ≠ v11.heap.size := fun k hk => (by have q1 := (b1.blk k hk).2; omega)
       replace b1 := b1.alloc (.cells #[.int .i64 0, .int .i64 0, .slice none 0 0] 87)
       replace hV := hV.alloc (.cells #[.int .i64 0, .int .i64 0, .slice none 0 0] 87)
       generalize v11.alloc (.cells #[.int .i64 0, .int .i64 0, .slice none 0 0] 87) = v10 at hX hV hY b1 ⊢
       generalize v11.heap.size = gX at hX hgX hXY n1X ⊢
       refine ko hK ?_ fun hHeld => ?_
       ·(try dsimp only); and_intros <;> exact hV.cells (by first | with_reducible assumption | assumption)
       clear hK K
       refine rdy1 8 fun K hK => ?_
       go_simp
       go_at_call 94; refine (impl_body rb q As3 Ak3 Ah3 ns3 cs3 nk3 ck3 nh3 ch3 hs3 _ hq2 OK2.out (OwnP.rd (OwnP.keep o2 hV))).mono ?_; rintro e v8 ⟨A2, n2, c2, rfl, b2, hb8⟩; have hsz8 := hV.sz; have n2X : ∀ k, A2.map (·.block) = some k → k ≠ gX := fun k hk => (by have q1 := (b2.blk k hk).1; have q2 := hX.lt; omega); replace hX := hX.keep hb8; have n2Y : ∀ k, A2.map (·.block) = some k → k ≠ gY := fun k hk => (by have q1 := (b2.blk k hk).1; have q2 := hY.lt; omega); replace hY := hY.keep hb8; replace b1 := b1.keep hb8; replace b2 := b2.mono (base' := wr.heap.size) hsz8; replace hV := hV.call hb8
       go_wp2_with fail
       refine ko hK ?_ fun hHeld => ?_
       ·(try dsimp only); and_intros <;> exact hV.cells (by first | with_reducible assumption | assumption)
       clear hK K
       refine tkO 9 29 ?_
       refine rdy1 12 fun K hK => ?_
       refine wp_store_row 87 _ _ rfl gX #[.int .i64 0, .int .i64 ra.step, .slice A1 n1 c1] rfl rfl 87 #[.int .i64 0, .int .i64 0, .slice none 0 0] hX (by kernel_rfl) rfl (by first | rfl | simp [Value.oneCell'] | kernel_rfl) ?_; replace hX := Blk.row (cs' := #[.int .i64 0, .int .i64 ra.step, .slice A1 n1 c1]) hX; replace hY := hY.farRow (k := gX) (cs' := #[.int .i64 0, .int .i64 ra.step, .slice A1 n1 c1]) (by omega); replace b1 := OwnI.grownR b1 (setRow_grown v8 gX #[.int .i64 0, .int .i64 ra.step, .slice A1 n1 c1]) (fun k hk e => n1X k hk (by injection e with e; exact e.symm)); replace b2 := OwnI.grownR b2 (setRow_grown v8 gX #[.int .i64 0, .int .i64 ra.step, .slice A1 n1 c1]) (fun k hk e => n2X k hk (by injection e with e; exact e.symm)); replace hV := hV.row hgX #[.int .i64 0, .int .i64 ra.step, .slice A1 n1 c1]; generalize v8.setRow gX #[.int .i64 0, .int .i64 ra.step, .slice A1 n1 c1] = v12 at hX hY b1 b2 hV ⊢
       refine ko hK ?_ fun hHeld => ?_
       ·(try dsimp only); and_intros <;> exact hV.cells (by first | with_reducible assumption | assumption)
       clear hK K
       refine rdy1 13 fun K hK => ?_
       refine wp_store_row 87 _ _ rfl gY #[.int .i64 1, .int .i64 rb.step, .slice A2 n2 c2] rfl rfl 87 #[.int .i64 0, .int .i64 0, .slice none 0 0] hY (by kernel_rfl) rfl (by first | rfl | simp [Value.oneCell'] | kernel_rfl) ?_; replace hY := Blk.row (cs' := #[.int .i64 1, .int .i64 rb.step, .slice A2 n2 c2]) hY; replace hX := hX.farRow (k := gY) (cs' := #[.int .i64 1, .int .i64 rb.step, .slice A2 n2 c2]) (by omega); replace b1 := OwnI.grownR b1 (setRow_grown v12 gY #[.int .i64 1, .int .i64 rb.step, .slice A2 n2 c2]) (fun k hk e => n1Y k hk (by injection e with e; exact e.symm)); replace b2 := OwnI.grownR b2 (setRow_grown v12 gY #[.int .i64 1, .int .i64 rb.step, .slice A2 n2 c2]) (fun k hk e => n2Y k hk (by injection e with e; exact e.symm)); replace hV := hV.row hgY #[.int .i64 1, .int .i64 rb.step, .slice A2 n2 c2]; generalize v12.setRow gY #[.int .i64 1, .int .i64 rb.step, .slice A2 n2 c2] = v13 at hX hY b1 b2 hV ⊢
       refine ko hK ?_ fun hHeld => ?_
       ·(try dsimp only); and_intros <;> exact hV.cells (by first | with_reducible assumption | assumption)
       clear hK K
       refine wpAnyH_done (by kernel_rfl) ?_ _
       go_wp2_with fail
       go_meet
       exact ⟨gX, gY, A1, n1, c1, A2, n2, c2, rfl, rfl, hgX, hgY, hXY, hX, hY, b1, b2, hV⟩
    ·go_simp
     have hX := Blk.new v0 87 #[.int .i64 0, .int .i64 0, .slice none 0 0] (g := v0.heap.size)
     have hgX := hV.sz
     replace hV := hV.alloc (.cells #[.int .i64 0, .int .i64 0, .slice none 0 0] 87)
     generalize v0.alloc (.cells #[.int .i64 0, .int .i64 0, .slice none 0 0] 87) = v10 at hX hV ⊢
     generalize v0.heap.size = gX at hX hgX ⊢
     refine ko hK ?_ fun hHeld => ?_
     ·(try dsimp only); and_intros <;> exact hV.cells (by first | with_reducible assumption | assumption)
     clear hK K
     refine wpAnyH_ready (rs := [3, 11]) (by kernel_rfl) (by simp) ?_
     refine AllReadyH.cons rfl (fun K hK => ?_) (AllReadyH.cons rfl (fun K hK => ?_) AllReadyH.nil)
     ·go_simp
      go_at_call 94; refine (impl_body ra q As1 Ak1 Ah1 ns1 cs1 nk1 ck1 nh1 ch1 hs1 _ hq2 OK1.out (OwnP.rd (OwnP.keep o1 hV))).mono ?_; rintro e v3 ⟨A1, n1, c1, rfl, b1, hb3⟩; have hsz3 := hV.sz; have n1X : ∀ k, A1.map (·.block) = some k → k ≠ gX := fun k hk => (by have q1 := (b1.blk k hk).1; have q2 := hX.lt; omega); replace hX := hX.keep hb3; replace b1 := b1.mono (base' := wr.heap.size) hsz3; replace hV := hV.call hb3
      go_wp2_with fail
      refine ko hK ?_ fun hHeld => ?_
      ·(try dsimp only); and_intros <;> exact hV.cells (by first | with_reducible assumption | assumption)
      clear hK K
      refine tkO 4 24 ?_
      refine wpAnyH_ready (rs := [8, 11]) (by kernel_rfl) (by simp) ?_
      refine AllReadyH.cons rfl (fun K hK => ?_) (AllReadyH.cons rfl (fun K hK => ?_) AllReadyH.nil)
      ·go_simp
       go_at_call 94; refine (impl_body rb q As3 Ak3 Ah3 ns3 cs3 nk3 ck3 nh3 ch3 hs3 _ hq2 OK2.out (OwnP.rd (OwnP.keep o2 hV))).mono ?_; rintro e v8 ⟨A2, n2, c2, rfl, b2, hb8⟩; have hsz8 := hV.sz; have n2X : ∀ k, A2.map (·.block) = some k → k ≠ gX := fun k hk => (by have q1 := (b2.blk k hk).1; have q2 := hX.lt; omega); replace hX := hX.keep hb8; replace b1 := b1.keep hb8; replace b2 := b2.mono (base' := wr.heap.size) hsz8; replace hV := hV.call hb8
       go_wp2_with fail
       refine ko hK ?_ fun hHeld => ?_
       ·(try dsimp only); and_intros <;> exact hV.cells (by first | with_reducible assumption | assumption)
       clear hK K
       refine tkO 9 29 ?_
       refine rdy1 11 fun K hK => ?_
       go_simp
       have hY := Blk.new v8 87 #[.int .i64 0, .int .i64 0, .slice none 0 0] (g := v8.heap.size)
       have hgY := hV.sz
       have hXY : gX ≠ v8.heap.size := Nat.ne_of_lt hX.lt
       replace hX := hX.alloc (.cells #[.int .i64 0, .int .i64 0, .slice none 0 0] 87)
       have n1Y : ∀ k, A1.map (·.block) = some k → k ≠ v8.heap.size := fun k hk => (by have q1 := (b1.blk k hk).2; omega)
       replace b1 := b1.alloc (.cells #[.int .i64 0, .int .i64 0, .slice none 0 0] 87)
       have n2Y : ∀ k, A2.map (·.block) = some k → k ≠ v8.heap.size := fun k hk => (by have q1 := (b2.blk k hk).2; omega)
       replace b2 := b2.alloc (.cells #[.int .i64 0, .int .i64 0, .slice none 0 0] 87)
       replace hV := hV.alloc (.cells #[.int .i64 0, .int .i64 0, .slice none 0 0] 87)
       generalize v8.alloc (.cells #[.int .i64 0, .int .i64 0, .slice none 0 0] 87) = v11 at hY hV hX b1 b2 ⊢
       generalize v8.heap.size = gY at hY hgY hXY n1Y n2Y ⊢
       refine ko hK ?_ fun hHeld => ?_
       ·(try dsimp only); and_intros <;> exact hV.cells (by first | with_reducible assumption | assumption)
       clear hK K
       refine rdy1 12 fun K hK => ?_
       refine wp_store_row 87 _ _ rfl gX #[.int .i64 0, .int .i64 ra.step, .slice A1 n1 c1] rfl rfl 87 #[.int .i64 0, .int .i64 0, .slice none 0 0] hX (by kernel_rfl) rfl (by first | rfl | simp [Value.oneCell'] | kernel_rfl) ?_; replace hX := Blk.row (cs' := #[.int .i64 0, .int .i64 ra.step, .slice A1 n1 c1]) hX; replace hY := hY.farRow (k := gX) (cs' := #[.int .i64 0, .int .i64 ra.step, .slice A1 n1 c1]) (by omega); replace b1 := OwnI.grownR b1 (setRow_grown v11 gX #[.int .i64 0, .int .i64 ra.step, .slice A1 n1 c1]) (fun k hk e => n1X k hk (by injection e with e; exact e.symm)); replace b2 := OwnI.grownR b2 (setRow_grown v11 gX #[.int .i64 0, .int .i64 ra.step, .slice A1 n1 c1]) (fun k hk e => n2X k hk (by injection e with e; exact e.symm)); replace hV := hV.row hgX #[.int .i64 0, .int .i64 ra.step, .slice A1 n1 c1]; generalize v11.setRow gX #[.int .i64 0, .int .i64 ra.step, .slice A1 n1 c1] = v12 at hX hY b1 b2 hV ⊢
       refine ko hK ?_ fun hHeld => ?_
       ·(try dsimp only); and_intros <;> exact hV.cells (by first | with_reducible assumption | assumption)
       clear hK K
       refine rdy1 13 fun K hK => ?_
       refine wp_store_row 87 _ _ rfl gY #[.int .i64 1, .int .i64 rb.step, .slice A2 n2 c2] rfl rfl 87 #[.int .i64 0, .int .i64 0, .slice none 0 0] hY (by kernel_rfl) rfl (by first | rfl | simp [Value.oneCell'] | kernel_rfl) ?_; replace hY := Blk.row (cs' := #[.int .i64 1, .int .i64 rb.step, .slice A2 n2 c2]) hY; replace hX := hX.farRow (k := gY) (cs' := #[.int .i64 1, .int .i64 rb.step, .slice A2 n2 c2]) (by omega); replace b1 := OwnI.grownR b1 (setRow_grown v12 gY #[.int .i64 1, .int .i64 rb.step, .slice A2 n2 c2]) (fun k hk e => n1Y k hk (by injection e with e; exact e.symm)); replace b2 := OwnI.grownR b2 (setRow_grown v12 gY #[.int .i64 1, .int .i64 rb.step, .slice A2 n2 c2]) (fun k hk e => n2Y k hk (by injection e with e; exact e.symm)); replace hV := hV.row hgY #[.int .i64 1, .int .i64 rb.step, .slice A2 n2 c2]; generalize v12.setRow gY #[.int .i64 1, .int .i64 rb.step, .slice A2 n2 c2] = v13 at hX hY b1 b2 hV ⊢
       refine ko hK ?_ fun hHeld => ?_
       ·(try dsimp only); and_intros <;> exact hV.cells (by first | with_reducible assumption | assumption)
       clear hK K
       refine wpAnyH_done (by kernel_rfl) ?_ _
       go_wp2_with fail
       go_meet
       exact ⟨gX, gY, A1, n1, c1, A2, n2, c2, rfl, rfl, hgX, hgY, hXY, hX, hY, b1, b2, hV⟩
      ·go_simp
       have hY := Blk.new v3 87 #[.int .i64 0, .int .i64 0, .slice none 0 0] (g := v3.heap.size)
       have hgY := hV.sz
       have hXY : gX ≠ v3.heap.size := Nat.ne_of_lt hX.lt
       replace hX := hX.alloc (.cells #[.int .i64 0, .int .i64 0, .slice none 0 0] 87)
       have n1Y : ∀ k, A1.map (·.block) = some k → k ≠ v3.heap.size := fun k hk => (by have q1 := (b1.blk k hk).2; omega)
       replace b1 := b1.alloc (.cells #[.int .i64 0, .int .i64 0, .slice none 0 0] 87)
       replace hV := hV.alloc (.cells #[.int .i64 0, .int .i64 0, .slice none 0 0] 87)
       generalize v3.alloc (.cells #[.int .i64 0, .int .i64 0, .slice none 0 0] 87) = v11 at hY hV hX b1 ⊢
       generalize v3.heap.size = gY at hY hgY hXY n1Y ⊢
       refine ko hK ?_ fun hHeld => ?_
       ·(try dsimp only); and_intros <;> exact hV.cells (by first | with_reducible assumption | assumption)
       clear hK K
       refine rdy1 8 fun K hK => ?_
       go_simp
       go_at_call 94; refine (impl_body rb q As3 Ak3 Ah3 ns3 cs3 nk3 ck3 nh3 ch3 hs3 _ hq2 OK2.out (OwnP.rd (OwnP.keep o2 hV))).mono ?_; rintro e v8 ⟨A2, n2, c2, rfl, b2, hb8⟩; have hsz8 := hV.sz; have n2X : ∀ k, A2.map (·.block) = some k → k ≠ gX := fun k hk => (by have q1 := (b2.blk k hk).1; have q2 := hX.lt; omega); replace hX := hX.keep hb8; have n2Y : ∀ k, A2.map (·.block) = some k → k ≠ gY := fun k hk => (by have q1 := (b2.blk k hk).1; have q2 := hY.lt; omega); replace hY := hY.keep hb8; replace b1 := b1.keep hb8; replace b2 := b2.mono (base' := wr.heap.size) hsz8; replace hV := hV.call hb8
       go_wp2_with fail
       refine ko hK ?_ fun hHeld => ?_
       ·(try dsimp only); and_intros <;> exact hV.cells (by first | with_reducible assumption | assumption)
       clear hK K
       refine tkO 9 29 ?_
       refine rdy1 12 fun K hK => ?_
       refine wp_store_row 87 _ _ rfl gX #[.int .i64 0, .int .i64 ra.step, .slice A1 n1 c1] rfl rfl 87 #[.int .i64 0, .int .i64 0, .slice none 0 0] hX (by kernel_rfl) rfl (by first | rfl | simp [Value.oneCell'] | kernel_rfl) ?_; replace hX := Blk.row (cs' := #[.int .i64 0, .int .i64 ra.step, .slice A1 n1 c1]) hX; replace hY := hY.farRow (k := gX) (cs' := #[.int .i64 0, .int .i64 ra.step, .slice A1 n1 c1]) (by omega); replace b1 := OwnI.grownR b1 (setRow_grown v8 gX #[.int .i64 0, .int .i64 ra.step, .slice A1 n1 c1]) (fun k hk e => n1X k hk (by injection e with e; exact e.symm)); replace b2 := OwnI.grownR b2 (setRow_grown v8 gX #[.int .i64 0, .int .i64 ra.step, .slice A1 n1 c1]) (fun k hk e => n2X k hk (by injection e with e; exact e.symm)); replace hV := hV.row hgX #[.int .i64 0, .int .i64 ra.step, .slice A1 n1 c1]; generalize v8.setRow gX #[.int .i64 0, .int .i64 ra.step, .slice A1 n1 c1] = v12 at hX hY b1 b2 hV ⊢
       refine ko hK ?_ fun hHeld => ?_
       ·(try dsimp only); and_intros <;> exact hV.cells (by first | with_reducible assumption | assumption)
       clear hK K
       refine rdy1 13 fun K hK => ?_
       refine wp_store_row 87 _ _ rfl gY #[.int .i64 1, .int .i64 rb.step, .slice A2 n2 c2] rfl rfl 87 #[.int .i64 0, .int .i64 0, .slice none 0 0] hY (by kernel_rfl) rfl (by first | rfl | simp [Value.oneCell'] | kernel_rfl) ?_; replace hY := Blk.row (cs' := #[.int .i64 1, .int .i64 rb.step, .slice A2 n2 c2]) hY; replace hX := hX.farRow (k := gY) (cs' := #[.int .i64 1, .int .i64 rb.step, .slice A2 n2 c2]) (by omega); replace b1 := OwnI.grownR b1 (setRow_grown v12 gY #[.int .i64 1, .int .i64 rb.step, .slice A2 n2 c2]) (fun k hk e => n1Y k hk (by injection e with e; exact e.symm)); replace b2 := OwnI.grownR b2 (setRow_grown v12 gY #[.int .i64 1, .int .i64 rb.step, .slice A2 n2 c2]) (fun k hk e => n2Y k hk (by injection e with e; exact e.symm)); replace hV := hV.row hgY #[.int .i64 1, .int .i64 rb.step, .slice A2 n2 c2]; generalize v12.setRow gY #[.int .i64 1, .int .i64 rb.step, .slice A2 n2 c2] = v13 at hX hY b1 b2 hV ⊢
       refine ko hK ?_ fun hHeld => ?_
       ·(try dsimp only); and_intros <;> exact hV.cells (by first | with_reducible assumption | assumption)
       clear hK K
       refine wpAnyH_done (by kernel_rfl) ?_ _
       go_wp2_with fail
       go_meet
       exact ⟨gX, gY, A1, n1, c1, A2, n2, c2, rfl, rfl, hgX, hgY, hXY, hX, hY, b1, b2, hV⟩
     ·go_simp
      have hY := Blk.new v10 87 #[.int .i64 0, .int .i64 0, .slice none 0 0] (g := v10.heap.size)
      have hgY := hV.sz
      have hXY : gX ≠ v10.heap.size := Nat.ne_of_lt hX.lt
      replace hX := hX.alloc (.cells #[.int .i64 0, .int .i64 0, .slice none 0 0] 87)
      replace hV := hV.alloc (.cells #[.int .i64 0, .int .i64 0, .slice none 0 0] 87)
      generalize v10.alloc (.cells #[.int .i64 0, .int .i64 0, .slice none 0 0] 87) = v11 at hY hV hX ⊢
      generalize v10.heap.size = gY at hY hgY hXY ⊢
      refine ko hK ?_ fun hHeld => ?_
      ·(try dsimp only); and_intros <;> exact hV.cells (by first | with_reducible assumption | assumption)
      clear hK K
      refine rdy1 3 fun K hK => ?_
      go_simp
      go_at_call 94; refine (impl_body ra q As1 Ak1 Ah1 ns1 cs1 nk1 ck1 nh1 ch1 hs1 _ hq2 OK1.out (OwnP.rd (OwnP.keep o1 hV))).mono ?_; rintro e v3 ⟨A1, n1, c1, rfl, b1, hb3⟩; have hsz3 := hV.sz; have n1X : ∀ k, A1.map (·.block) = some k → k ≠ gX := fun k hk => (by have q1 := (b1.blk k hk).1; have q2 := hX.lt; omega); replace hX := hX.keep hb3; have n1Y : ∀ k, A1.map (·.block) = some k → k ≠ gY := fun k hk => (by have q1 := (b1.blk k hk).1; have q2 := hY.lt; omega); replace hY := hY.keep hb3; replace b1 := b1.mono (base' := wr.heap.size) hsz3; replace hV := hV.call hb3
      go_wp2_with fail
      refine ko hK ?_ fun hHeld => ?_
      ·(try dsimp only); and_intros <;> exact hV.cells (by first | with_reducible assumption | assumption)
      clear hK K
      refine tkO 4 24 ?_
      refine rdy1 8 fun K hK => ?_
      go_simp
      go_at_call 94; refine (impl_body rb q As3 Ak3 Ah3 ns3 cs3 nk3 ck3 nh3 ch3 hs3 _ hq2 OK2.out (OwnP.rd (OwnP.keep o2 hV))).mono ?_; rintro e v8 ⟨A2, n2, c2, rfl, b2, hb8⟩; have hsz8 := hV.sz; have n2X : ∀ k, A2.map (·.block) = some k → k ≠ gX := fun k hk => (by have q1 := (b2.blk k hk).1; have q2 := hX.lt; omega); replace hX := hX.keep hb8; have n2Y : ∀ k, A2.map (·.block) = some k → k ≠ gY := fun k hk => (by have q1 := (b2.blk k hk).1; have q2 := hY.lt; omega); replace hY := hY.keep hb8; replace b1 := b1.keep hb8; replace b2 := b2.mono (base' := wr.heap.size) hsz8; replace hV := hV.call hb8
      go_wp2_with fail
      refine ko hK ?_ fun hHeld => ?_
      ·(try dsimp only); and_intros <;> exact hV.cells (by first | with_reducible assumption | assumption)
      clear hK K
      refine tkO 9 29 ?_
      refine rdy1 12 fun K hK => ?_
      refine wp_store_row 87 _ _ rfl gX #[.int .i64 0, .int .i64 ra.step, .slice A1 n1 c1] rfl rfl 87 #[.int .i64 0, .int .i64 0, .slice none 0 0] hX (by kernel_rfl) rfl (by first | rfl | simp [Value.oneCell'] | kernel_rfl) ?_; replace hX := Blk.row (cs' := #[.int .i64 0, .int .i64 ra.step, .slice A1 n1 c1]) hX; replace hY := hY.farRow (k := gX) (cs' := #[.int .i64 0, .int .i64 ra.step, .slice A1 n1 c1]) (by omega); replace b1 := OwnI.grownR b1 (setRow_grown v8 gX #[.int .i64 0, .int .i64 ra.step, .slice A1 n1 c1]) (fun k hk e => n1X k hk (by injection e with e; exact e.symm)); replace b2 := OwnI.grownR b2 (setRow_grown v8 gX #[.int .i64 0, .int .i64 ra.step, .slice A1 n1 c1]) (fun k hk e => n2X k hk (by injection e with e; exact e.symm)); replace hV := hV.row hgX #[.int .i64 0, .int .i64 ra.step, .slice A1 n1 c1]; generalize v8.setRow gX #[.int .i64 0, .int .i64 ra.step, .slice A1 n1 c1] = v12 at hX hY b1 b2 hV ⊢
      refine ko hK ?_ fun hHeld => ?_
      ·(try dsimp only); and_intros <;> exact hV.cells (by first | with_reducible assumption | assumption)
      clear hK K
      refine rdy1 13 fun K hK => ?_
      refine wp_store_row 87 _ _ rfl gY #[.int .i64 1, .int .i64 rb.step, .slice A2 n2 c2] rfl rfl 87 #[.int .i64 0, .int .i64 0, .slice none 0 0] hY (by kernel_rfl) rfl (by first | rfl | simp [Value.oneCell'] | kernel_rfl) ?_; replace hY := Blk.row (cs' := #[.int .i64 1, .int .i64 rb.step, .slice A2 n2 c2]) hY; replace hX := hX.farRow (k := gY) (cs' := #[.int .i64 1, .int .i64 rb.step, .slice A2 n2 c2]) (by omega); replace b1 := OwnI.grownR b1 (setRow_grown v12 gY #[.int .i64 1, .int .i64 rb.step, .slice A2 n2 c2]) (fun k hk e => n1Y k hk (by injection e with e; exact e.symm)); replace b2 := OwnI.grownR b2 (setRow_grown v12 gY #[.int .i64 1, .int .i64 rb.step, .slice A2 n2 c2]) (fun k hk e => n2Y k hk (by injection e with e; exact e.symm)); replace hV := hV.row hgY #[.int .i64 1, .int .i64 rb.step, .slice A2 n2 c2]; generalize v12.setRow gY #[.int .i64 1, .int .i64 rb.step, .slice A2 n2 c2] = v13 at hX hY b1 b2 hV ⊢
      refine ko hK ?_ fun hHeld => ?_
      ·(try dsimp only); and_intros <;> exact hV.cells (by first | with_reducible assumption | assumption)
      clear hK K
      refine wpAnyH_done (by kernel_rfl) ?_ _
      go_wp2_with fail
      go_meet
      exact ⟨gX, gY, A1, n1, c1, A2, n2, c2, rfl, rfl, hgX, hgY, hXY, hX, hY, b1, b2, hV⟩
    ·go_simp
     have hY := Blk.new v0 87 #[.int .i64 0, .int .i64 0, .slice none 0 0] (g := v0.heap.size)
     have hgY := hV.sz
     replace hV := hV.alloc (.cells #[.int .i64 0, .int .i64 0, .slice none 0 0] 87)
     generalize v0.alloc (.cells #[.int .i64 0, .int .i64 0, .slice none 0 0] 87) = v11 at hY hV ⊢
     generalize v0.heap.size = gY at hY hgY ⊢
     refine ko hK ?_ fun hHeld => ?_
     ·(try dsimp only); and_intros <;> exact hV.cells (by first | with_reducible assumption | assumption)
     clear hK K
     refine wpAnyH_ready (rs := [3, 10]) (by kernel_rfl) (by simp) ?_
     refine AllReadyH.cons rfl (fun K hK => ?_) (AllReadyH.cons rfl (fun K hK => ?_) AllReadyH.nil)
     ·go_simp
      go_at_call 94; refine (impl_body ra q As1 Ak1 Ah1 ns1 cs1 nk1 ck1 nh1 ch1 hs1 _ hq2 OK1.out (OwnP.rd (OwnP.keep o1 hV))).mono ?_; rintro e v3 ⟨A1, n1, c1, rfl, b1, hb3⟩; have hsz3 := hV.sz; have n1Y : ∀ k, A1.map (·.block) = some k → k ≠ gY := fun k hk => (by have q1 := (b1.blk k hk).1; have q2 := hY.lt; omega); replace hY := hY.keep hb3; replace b1 := b1.mono (base' := wr.heap.size) hsz3; replace hV := hV.call hb3
      go_wp2_with fail
      refine ko hK ?_ fun hHeld => ?_
      ·(try dsimp only); and_intros <;> exact hV.cells (by first | with_reducible assumption | assumption)
      clear hK K
      refine tkO 4 24 ?_
      refine wpAnyH_ready (rs := [8, 10]) (by kernel_rfl) (by simp) ?_
      refine AllReadyH.cons rfl (fun K hK => ?_) (AllReadyH.cons rfl (fun K hK => ?_) AllReadyH.nil)
      ·go_simp
       go_at_call 94; refine (impl_body rb q As3 Ak3 Ah3 ns3 cs3 nk3 ck3 nh3 ch3 hs3 _ hq2 OK2.out (OwnP.rd (OwnP.keep o2 hV))).mono ?_; rintro e v8 ⟨A2, n2, c2, rfl, b2, hb8⟩; have hsz8 := hV.sz; have n2Y : ∀ k, A2.map (·.block) = some k → k ≠ gY := fun k hk => (by have q1 := (b2.blk k hk).1; have q2 := hY.lt; omega); replace hY := hY.keep hb8; replace b1 := b1.keep hb8; replace b2 := b2.mono (base' := wr.heap.size) hsz8; replace hV := hV.call hb8
       go_wp2_with fail
       refine ko hK ?_ fun hHeld => ?_
       ·(try dsimp only); and_intros <;> exact hV.cells (by first | with_reducible assumption | assumption)
       clear hK K
       refine tkO 9 29 ?_
       refine rdy1 10 fun K hK => ?_
       go_simp
       have hX := Blk.new v8 87 #[.int .i64 0, .int .i64 0, .slice none 0 0] (g := v8.heap.size)
       have hgX := hV.sz
       have hXY : v8.heap.size ≠ gY := Ne.symm (Nat.ne_of_lt hY.lt)
       replace hY := hY.alloc (.cells #[.int .i64 0, .int .i64 0, .slice none 0 0] 87)
       have n1X : ∀ k, A1.map (·.block) = some k → k ≠ v8.heap.size := fun k hk => (by have q1 := (b1.blk k hk).2; omega)
       replace b1 := b1.alloc (.cells #[.int .i64 0, .int .i64 0, .slice none 0 0] 87)
       have n2X : ∀ k, A2.map (·.block) = some k → k ≠ v8.heap.size := fun k hk => (by have q1 := (b2.blk k hk).2; omega)
       replace b2 := b2.alloc (.cells #[.int .i64 0, .int .i64 0, .slice none 0 0] 87)
       replace hV := hV.alloc (.cells #[.int .i64 0, .int .i64 0, .slice none 0 0] 87)
       generalize v8.alloc (.cells #[.int .i64 0, .int .i64 0, .slice none 0 0] 87) = v10 at hX hV hY b1 b2 ⊢
       generalize v8.heap.size = gX at hX hgX hXY n1X n2X ⊢
       refine ko hK ?_ fun hHeld => ?_
       ·(try dsimp only); and_intros <;> exact hV.cells (by first | with_reducible assumption | assumption)
       clear hK K
       refine rdy1 12 fun K hK => ?_
       refine wp_store_row 87 _ _ rfl gX #[.int .i64 0, .int .i64 ra.step, .slice A1 n1 c1] rfl rfl 87 #[.int .i64 0, .int .i64 0, .slice none 0 0] hX (by kernel_rfl) rfl (by first | rfl | simp [Value.oneCell'] | kernel_rfl) ?_; replace hX := Blk.row (cs' := #[.int .i64 0, .int .i64 ra.step, .slice A1 n1 c1]) hX; replace hY := hY.farRow (k := gX) (cs' := #[.int .i64 0, .int .i64 ra.step, .slice A1 n1 c1]) (by omega); replace b1 := OwnI.grownR b1 (setRow_grown v10 gX #[.int .i64 0, .int .i64 ra.step, .slice A1 n1 c1]) (fun k hk e => n1X k hk (by injection e with e; exact e.symm)); replace b2 := OwnI.grownR b2 (setRow_grown v10 gX #[.int .i64 0, .int .i64 ra.step, .slice A1 n1 c1]) (fun k hk e => n2X k hk (by injection e with e; exact e.symm)); replace hV := hV.row hgX #[.int .i64 0, .int .i64 ra.step, .slice A1 n1 c1]; generalize v10.setRow gX #[.int .i64 0, .int .i64 ra.step, .slice A1 n1 c1] = v12 at hX hY b1 b2 hV ⊢
       refine ko hK ?_ fun hHeld => ?_
       ·(try dsimp only); and_intros <;> exact hV.cells (by first | with_reducible assumption | assumption)
       clear hK K
       refine rdy1 13 fun K hK => ?_
       refine wp_store_row 87 _ _ rfl gY #[.int .i64 1, .int .i64 rb.step, .slice A2 n2 c2] rfl rfl 87 #[.int .i64 0, .int .i64 0, .slice none 0 0] hY (by kernel_rfl) rfl (by first | rfl | simp [Value.oneCell'] | kernel_rfl) ?_; replace hY := Blk.row (cs' := #[.int .i64 1, .int .i64 rb.step, .slice A2 n2 c2]) hY; replace hX := hX.farRow (k := gY) (cs' := #[.int .i64 1, .int .i64 rb.step, .slice A2 n2 c2]) (by omega); replace b1 := OwnI.grownR b1 (setRow_grown v12 gY #[.int .i64 1, .int .i64 rb.step, .slice A2 n2 c2]) (fun k hk e => n1Y k hk (by injection e with e; exact e.symm)); replace b2 := OwnI.grownR b2 (setRow_grown v12 gY #[.int .i64 1, .int .i64 rb.step, .slice A2 n2 c2]) (fun k hk e => n2Y k hk (by injection e with e; exact e.symm)); replace hV := hV.row hgY #[.int .i64 1, .int .i64 rb.step, .slice A2 n2 c2]; generalize v12.setRow gY #[.int .i64 1, .int .i64 rb.step, .slice A2 n2 c2] = v13 at hX hY b1 b2 hV ⊢
       refine ko hK ?_ fun hHeld => ?_
       ·(try dsimp only); and_intros <;> exact hV.cells (by first | with_reducible assumption | assumption)
       clear hK K
       refine wpAnyH_done (by kernel_rfl) ?_ _
       go_wp2_with fail
       go_meet
       exact ⟨gX, gY, A1, n1, c1, A2, n2, c2, rfl, rfl, hgX, hgY, hXY, hX, hY, b1, b2, hV⟩
      ·go_simp
       have hX := Blk.new v3 87 #[.int .i64 0, .int .i64 0, .slice none 0 0] (g := v3.heap.size)
       have hgX := hV.sz
       have hXY : v3.heap.size ≠ gY := Ne.symm (Nat.ne_of_lt hY.lt)
       replace hY := hY.alloc (.cells #[.int .i64 0, .int .i64 0, .slice none 0 0] 87)
       have n1X : ∀ k, A1.map (·.block) = some k → k ≠ v3.heap.size := fun k hk => (by have q1 := (b1.blk k hk).2; omega)
       replace b1 := b1.alloc (.cells #[.int .i64 0, .int .i64 0, .slice none 0 0] 87)
       replace hV := hV.alloc (.cells #[.int .i64 0, .int .i64 0, .slice none 0 0] 87)
       generalize v3.alloc (.cells #[.int .i64 0, .int .i64 0, .slice none 0 0] 87) = v10 at hX hV hY b1 ⊢
       generalize v3.heap.size = gX at hX hgX hXY n1X ⊢
       refine ko hK ?_ fun hHeld => ?_
       ·(try dsimp only); and_intros <;> exact hV.cells (by first | with_reducible assumption | assumption)
       clear hK K
       refine rdy1 8 fun K hK => ?_
       go_simp
       go_at_call 94; refine (impl_body rb q As3 Ak3 Ah3 ns3 cs3 nk3 ck3 nh3 ch3 hs3 _ hq2 OK2.out (OwnP.rd (OwnP.keep o2 hV))).mono ?_; rintro e v8 ⟨A2, n2, c2, rfl, b2, hb8⟩; have hsz8 := hV.sz; have n2X : ∀ k, A2.map (·.block) = some k → k ≠ gX := fun k hk => (by have q1 := (b2.blk k hk).1; have q2 := hX.lt; omega); replace hX := hX.keep hb8; have n2Y : ∀ k, A2.map (·.block) = some k → k ≠ gY := fun k hk => (by have q1 := (b2.blk k hk).1; have q2 := hY.lt; omega); replace hY := hY.keep hb8; replace b1 := b1.keep hb8; replace b2 := b2.mono (base' := wr.heap.size) hsz8; replace hV := hV.call hb8
       go_wp2_with fail
       refine ko hK ?_ fun hHeld => ?_
       ·(try dsimp only); and_intros <;> exact hV.cells (by first | with_reducible assumption | assumption)
       clear hK K
       refine tkO 9 29 ?_
       refine rdy1 12 fun K hK => ?_
       refine wp_store_row 87 _ _ rfl gX #[.int .i64 0, .int .i64 ra.step, .slice A1 n1 c1] rfl rfl 87 #[.int .i64 0, .int .i64 0, .slice none 0 0] hX (by kernel_rfl) rfl (by first | rfl | simp [Value.oneCell'] | kernel_rfl) ?_; replace hX := Blk.row (cs' := #[.int .i64 0, .int .i64 ra.step, .slice A1 n1 c1]) hX; replace hY := hY.farRow (k := gX) (cs' := #[.int .i64 0, .int .i64 ra.step, .slice A1 n1 c1]) (by omega); replace b1 := OwnI.grownR b1 (setRow_grown v8 gX #[.int .i64 0, .int .i64 ra.step, .slice A1 n1 c1]) (fun k hk e => n1X k hk (by injection e with e; exact e.symm)); replace b2 := OwnI.grownR b2 (setRow_grown v8 gX #[.int .i64 0, .int .i64 ra.step, .slice A1 n1 c1]) (fun k hk e => n2X k hk (by injection e with e; exact e.symm)); replace hV := hV.row hgX #[.int .i64 0, .int .i64 ra.step, .slice A1 n1 c1]; generalize v8.setRow gX #[.int .i64 0, .int .i64 ra.step, .slice A1 n1 c1] = v12 at hX hY b1 b2 hV ⊢
       refine ko hK ?_ fun hHeld => ?_
       ·(try dsimp only); and_intros <;> exact hV.cells (by first | with_reducible assumption | assumption)
       clear hK K
       refine rdy1 13 fun K hK => ?_
       refine wp_store_row 87 _ _ rfl gY #[.int .i64 1, .int .i64 rb.step, .slice A2 n2 c2] rfl rfl 87 #[.int .i64 0, .int .i64 0, .slice none 0 0] hY (by kernel_rfl) rfl (by first | rfl | simp [Value.oneCell'] | kernel_rfl) ?_; replace hY := Blk.row (cs' := #[.int .i64 1, .int .i64 rb.step, .slice A2 n2 c2]) hY; replace hX := hX.farRow (k := gY) (cs' := #[.int .i64 1, .int .i64 rb.step, .slice A2 n2 c2]) (by omega); replace b1 := OwnI.grownR b1 (setRow_grown v12 gY #[.int .i64 1, .int .i64 rb.step, .slice A2 n2 c2]) (fun k hk e => n1Y k hk (by injection e with e; exact e.symm)); replace b2 := OwnI.grownR b2 (setRow_grown v12 gY #[.int .i64 1, .int .i64 rb.step, .slice A2 n2 c2]) (fun k hk e => n2Y k hk (by injection e with e; exact e.symm)); replace hV := hV.row hgY #[.int .i64 1, .int .i64 rb.step, .slice A2 n2 c2]; generalize v12.setRow gY #[.int .i64 1, .int .i64 rb.step, .slice A2 n2 c2] = v13 at hX hY b1 b2 hV ⊢
       refine ko hK ?_ fun hHeld => ?_
       ·(try dsimp only); and_intros <;> exact hV.cells (by first | with_reducible assumption | assumption)
       clear hK K
       refine wpAnyH_done (by kernel_rfl) ?_ _
       go_wp2_with fail
       go_meet
       exact ⟨gX, gY, A1, n1, c1, A2, n2, c2, rfl, rfl, hgX, hgY, hXY, hX, hY, b1, b2, hV⟩
     ·go_simp
      have hX := Blk.new v11 87 #[.int .i64 0, .int .i64 0, .slice none 0 0] (g := v11.heap.size)
      have hgX := hV.sz
      have hXY : v11.heap.size ≠ gY := Ne.symm (Nat.ne_of_lt hY.lt)
      replace hY := hY.alloc (.cells #[.int .i64 0, .int .i64 0, .slice none 0 0] 87)
      replace hV := hV.alloc (.cells #[.int .i64 0, .int .i64 0, .slice none 0 0] 87)
      generalize v11.alloc (.cells #[.int .i64 0, .int .i64 0, .slice none 0 0] 87) = v10 at hX hV hY ⊢
      generalize v11.heap.size = gX at hX hgX hXY ⊢
      refine ko hK ?_ fun hHeld => ?_
      ·(try dsimp only); and_intros <;> exact hV.cells (by first | with_reducible assumption | assumption)
      clear hK K
      refine rdy1 3 fun K hK => ?_
      go_simp
      go_at_call 94; refine (impl_body ra q As1 Ak1 Ah1 ns1 cs1 nk1 ck1 nh1 ch1 hs1 _ hq2 OK1.out (OwnP.rd (OwnP.keep o1 hV))).mono ?_; rintro e v3 ⟨A1, n1, c1, rfl, b1, hb3⟩; have hsz3 := hV.sz; have n1X : ∀ k, A1.map (·.block) = some k → k ≠ gX := fun k hk => (by have q1 := (b1.blk k hk).1; have q2 := hX.lt; omega); replace hX := hX.keep hb3; have n1Y : ∀ k, A1.map (·.block) = some k → k ≠ gY := fun k hk => (by have q1 := (b1.blk k hk).1; have q2 := hY.lt; omega); replace hY := hY.keep hb3; replace b1 := b1.mono (base' := wr.heap.size) hsz3; replace hV := hV.call hb3
      go_wp2_with fail
      refine ko hK ?_ fun hHeld => ?_
      ·(try dsimp only); and_intros <;> exact hV.cells (by first | with_reducible assumption | assumption)
      clear hK K
      refine tkO 4 24 ?_
      refine rdy1 8 fun K hK => ?_
      go_simp
      go_at_call 94; refine (impl_body rb q As3 Ak3 Ah3 ns3 cs3 nk3 ck3 nh3 ch3 hs3 _ hq2 OK2.out (OwnP.rd (OwnP.keep o2 hV))).mono ?_; rintro e v8 ⟨A2, n2, c2, rfl, b2, hb8⟩; have hsz8 := hV.sz; have n2X : ∀ k, A2.map (·.block) = some k → k ≠ gX := fun k hk => (by have q1 := (b2.blk k hk).1; have q2 := hX.lt; omega); replace hX := hX.keep hb8; have n2Y : ∀ k, A2.map (·.block) = some k → k ≠ gY := fun k hk => (by have q1 := (b2.blk k hk).1; have q2 := hY.lt; omega); replace hY := hY.keep hb8; replace b1 := b1.keep hb8; replace b2 := b2.mono (base' := wr.heap.size) hsz8; replace hV := hV.call hb8
      go_wp2_with fail
      refine ko hK ?_ fun hHeld => ?_
      ·(try dsimp only); and_intros <;> exact hV.cells (by first | with_reducible assumption | assumption)
      clear hK K
      refine tkO 9 29 ?_
      refine rdy1 12 fun K hK => ?_
      refine wp_store_row 87 _ _ rfl gX #[.int .i64 0, .int .i64 ra.step, .slice A1 n1 c1] rfl rfl 87 #[.int .i64 0, .int .i64 0, .slice none 0 0] hX (by kernel_rfl) rfl (by first | rfl | simp [Value.oneCell'] | kernel_rfl) ?_; replace hX := Blk.row (cs' := #[.int .i64 0, .int .i64 ra.step, .slice A1 n1 c1]) hX; replace hY := hY.farRow (k := gX) (cs' := #[.int .i64 0, .int .i64 ra.step, .slice A1 n1 c1]) (by omega); replace b1 := OwnI.grownR b1 (setRow_grown v8 gX #[.int .i64 0, .int .i64 ra.step, .slice A1 n1 c1]) (fun k hk e => n1X k hk (by injection e with e; exact e.symm)); replace b2 := OwnI.grownR b2 (setRow_grown v8 gX #[.int .i64 0, .int .i64 ra.step, .slice A1 n1 c1]) (fun k hk e => n2X k hk (by injection e with e; exact e.symm)); replace hV := hV.row hgX #[.int .i64 0, .int .i64 ra.step, .slice A1 n1 c1]; generalize v8.setRow gX #[.int .i64 0, .int .i64 ra.step, .slice A1 n1 c1] = v12 at hX hY b1 b2 hV ⊢
      refine ko hK ?_ fun hHeld => ?_
      ·(try dsimp only); and_intros <;> exact hV.cells (by first | with_reducible assumption | assumption)
      clear hK K
      refine rdy1 13 fun K hK => ?_
      refine wp_store_row 87 _ _ rfl gY #[.int .i64 1, .int .i64 rb.step, .slice A2 n2 c2] rfl rfl 87 #[.int .i64 0, .int .i64 0, .slice none 0 0] hY (by kernel_rfl) rfl (by first | rfl | simp [Value.oneCell'] | kernel_rfl) ?_; replace hY := Blk.row (cs' := #[.int .i64 1, .int .i64 rb.step, .slice A2 n2 c2]) hY; replace hX := hX.farRow (k := gY) (cs' := #[.int .i64 1, .int .i64 rb.step, .slice A2 n2 c2]) (by omega); replace b1 := OwnI.grownR b1 (setRow_grown v12 gY #[.int .i64 1, .int .i64 rb.step, .slice A2 n2 c2]) (fun k hk e => n1Y k hk (by injection e with e; exact e.symm)); replace b2 := OwnI.grownR b2 (setRow_grown v12 gY #[.int .i64 1, .int .i64 rb.step, .slice A2 n2 c2]) (fun k hk e => n2Y k hk (by injection e with e; exact e.symm)); replace hV := hV.row hgY #[.int .i64 1, .int .i64 rb.step, .slice A2 n2 c2]; generalize v12.setRow gY #[.int .i64 1, .int .i64 rb.step, .slice A2 n2 c2] = v13 at hX hY b1 b2 hV ⊢
      refine ko hK ?_ fun hHeld => ?_
      ·(try dsimp only); and_intros <;> exact hV.cells (by first | with_reducible assumption | assumption)
      clear hK K
      refine wpAnyH_done (by kernel_rfl) ?_ _
      go_wp2_with fail
      go_meet
      exact ⟨gX, gY, A1, n1, c1, A2, n2, c2, rfl, rfl, hgX, hgY, hXY, hX, hY, b1, b2, hV⟩
   case rest =>
    obtain ⟨gX, gY, A1, n1, c1, A2, n2, c2, rfl, rfl, hgX, hgY, hXY, hX, hY, b1, b2, hV⟩ := hcut
    have hnb : n ≤ 4 := by have := hn.out; omega
    have rc1 := rc.bl hV
    have hbz : w.heap.size + 4 ≤ wr.heap.size := by have := rc.b1; have := rc.b2; have := rc.b3; have := rc.b4; omega
    have hbc : wr.heap.size ≤ wc.heap.size := hV.sz
    have hA0 : ∀ k, A.map (·.block) = some k → k < wr.heap.size := rc.aw
    (try clear A_l A_f A_0 A_1 A_2 A_3 A_4 A_5 A_6 A_7 A_8 A_9 A_10); (try clear B_l B_f B_0 B_1 B_2 B_3 B_4 B_5 B_6 B_7 B_8 B_9 B_10); (try clear hA hB)
    obtain ⟨X_l, X_f, X_0, X_1, X_2⟩ := hX.l3; obtain ⟨Y_l, Y_f, Y_0, Y_1, Y_2⟩ := hY.l3
    go_wp2_with (at_builtin; refine ap_ms (base := w.heap.size + 4) rfl rfl rfl ((out.keep hV).keep ((Bl.refl _).alloc _)) rfl (rd_msgs wc #[.int .i64 0, .int .i64 ra.step, .slice A1 n1 c1, .int .i64 1, .int .i64 rb.step, .slice A2 n2 c2] 2 rfl (by omega)) (by intro u hu; simp only [List.mem_cons, List.not_mem_nil, or_false] at hu; rcases hu with rfl | rfl | rfl | rfl | rfl | rfl <;> rfl) (by omega) (by simp; omega) ?_; intro A' c' w7 out7 hg7 hat7)
    have gA : Gp (fun k => A.map (·.block) = some k) wc w7 := (Gp.of_bl ((Bl.refl wc).alloc _)).trans (Gp.of_grown hg7 (fun k e => e))
    have nA : ∀ k, wr.heap.size ≤ k → ¬ A.map (·.block) = some k := fun k hk e => by have := hA0 k e; omega
    have nA' : ∀ k, wr.heap.size ≤ k → k < wc.heap.size → A'.map (·.block) ≠ some k := fun k hk hl e => by
     rcases hat7 with h1 | h1
     ·exact nA k hk (h1 ▸ e)
     ·rw [h1] at e; simp at e; omega
    have hz7 : wc.heap.size ≤ w7.drew.heap.size := gA.size
    have HN1 := Lib.hid (fun k hk => nA' k (b1.blk k hk).1 (b1.blk k hk).2)
    have HN2 := Lib.hid (fun k hk => nA' k (b2.blk k hk).1 (b2.blk k hk).2)
    have rc7 := (rc1.bl ((Bl.refl wc).alloc (.cells #[.int .i64 0, .int .i64 ra.step, .slice A1 n1 c1, .int .i64 1, .int .i64 rb.step, .slice A2 n2 c2] 87))).app hg7 hat7 (fun k hk => (out7.blk k hk).2)
    (try clear X_l X_f X_0 X_1 X_2); (try clear Y_l Y_f Y_0 Y_1 Y_2)
    replace hX := hX.gp gA (nA gX hgX)
    replace hY := hY.gp gA (nA gY hgY)
    replace b1 := b1.gp gA (fun k hk => nA k (b1.blk k hk).1)
    replace b2 := b2.gp gA (fun k hk => nA k (b2.blk k hk).1)
    have hdr := (Bl.refl w7).drew
    replace rc7 := rc7.bl hdr
    replace out7 := out7.keep hdr
    replace hX := hX.keep hdr
    replace hY := hY.keep hdr
    replace b1 := b1.keep hdr
    replace b2 := b2.keep hdr
    clear rc1 hg7 hat7 gA nA nA' hV hA0 rc out o1 o2 hdr
    obtain ⟨mB, hmB⟩ : ∃ x, tkB l ⟨ra, rb, sent, taken⟩ = x := ⟨_, rfl⟩
    obtain ⟨mA, hmA⟩ : ∃ x, tkA l ⟨ra, rb, sent, taken⟩ = x := ⟨_, rfl⟩
    have hls := run.out.ls
    have hnn := hn.out
    have hsn : sent.length = n := by omega
    have HLS := Lib.hid hsn
    have HLT := Lib.hid (show taken.length = n by have := run.out.lt; omega)
    have HTB := Lib.hid (show takenP a.p l (n + 1) (msgP rb) (sent[n + 1 - 2]?.getD ⟨0, 0, []⟩) = mB by
     rw [← hmB]; unfold tkB; simp only; rw [run.out.qa, hsn, show n + 1 - 2 = n - 1 by omega])
    have HTA := Lib.hid (show takenP a.p l n (msgP ra) (sent[n - 2]?.getD ⟨0, 0, []⟩) = mA by
     rw [← hmA]; unfold tkA; simp only; rw [run.out.qa, hsn])
    have HPA := Lib.hid (show (msgP ra).f = 0 from run.out.pa)
    have HPB := Lib.hid (show (msgP rb).f = 1 from run.out.pb)
    have HM1 := Lib.hid (show (msgP ra).b.length = bodyN (n / 2) ∧ ∀ y ∈ (msgP ra).b, 0 ≤ y ∧ y < a.p by rw [show n / 2 = q by omega]; exact (run.out.msgs hq2).1)
    have HM2 := Lib.hid (show (msgP rb).b.length = bodyN ((n + 1) / 2) ∧ ∀ y ∈ (msgP rb).b, 0 ≤ y ∧ y < a.p by rw [show (n + 1) / 2 = q by omega]; exact (run.out.msgs hq2).2)
    have HZ1 := Lib.hid (show n < 2 → sent[n - 2]?.getD ⟨0, 0, []⟩ = ⟨0, 0, []⟩ from fun h => by rw [List.getElem?_eq_none (by omega)]; rfl)
    have HZ2 := Lib.hid (show n + 1 < 2 → sent[n + 1 - 2]?.getD ⟨0, 0, []⟩ = ⟨0, 0, []⟩ from fun h => by rw [List.getElem?_eq_none (by omega)]; rfl)
    have HMB := Lib.hid hmB
    have HMA := Lib.hid hmA
    have zw : IntKind.i64.wrap ((n : Int) + 1) = n + 1 := IntWalk.i64_in _ (by omega)
    have nT : ∀ k, w.heap.size + 4 ≤ k → ¬ Two gs gt k := fun k hk e => by have := rc7.gs0; have := rc7.gt0; rcases e with e | e <;> omega
    clear hmB hmA hls hnn hsn
    go_cut [] (fun wx => ∃ (L' M' : List Hm) (s1' s2' : Sl) (B1' T1' N1' T2' N2' : Nat), RC w.heap.size gs gt W0 w wx (takeP ra mB) (takeP rb mA) (sent ++ [msgP ra, msgP rb]) (taken ++ [mA, mB]) L' M' s1' s2' B1' T1' N1' T2' N2' A' ∧ OwnV 87 3 (w.heap.size + 4) wx A' (n + 2) c' (xs ++ #[.int .i64 0, .int .i64 ra.step, .slice A1 n1 c1, .int .i64 1, .int .i64 rb.step, .slice A2 n2 c2].toList))
    case first =>
     have hA : Blk w7.drew w.heap.size 34 #[.int .i64 ra.p, .int .i64 ra.party, .int .i64 ra.x, .int .i64 ra.mask, .int .i64 ra.delta, .slice As1 ns1 cs1, .slice Ak1 nk1 ck1, .int .i64 ra.step, .slice Ah1 nh1 ch1, .int .i64 ra.status, .int .i64 ra.out] := rc7.bA; have hB : Blk w7.drew (w.heap.size + 1) 34 #[.int .i64 rb.p, .int .i64 rb.party, .int .i64 rb.x, .int .i64 rb.mask, .int .i64 rb.delta, .slice As3 ns3 cs3, .slice Ak3 nk3 ck3, .int .i64 rb.step, .slice Ah3 nh3 ch3, .int .i64 rb.status, .int .i64 rb.out] := rc7.bB; obtain ⟨A_l, A_f, A_0, A_1, A_2, A_3, A_4, A_5, A_6, A_7, A_8, A_9, A_10⟩ := hA.l11; obtain ⟨B_l, B_f, B_0, B_1, B_2, B_3, B_4, B_5, B_6, B_7, B_8, B_9, B_10⟩ := hB.l11
     obtain ⟨X_l, X_f, X_0, X_1, X_2⟩ := hX.l3; obtain ⟨Y_l, Y_f, Y_0, Y_1, Y_2⟩ := hY.l3
     refine region_F (fun _ => True) (fun w' => w'.cell? ⟨w.heap.size, 0, none⟩ = some (.int .i64 ra.p) ∧ w'.cell? ⟨w.heap.size, 1, none⟩ = some (.int .i64 ra.party) ∧ w'.cell? ⟨w.heap.size, 2, none⟩ = some (.int .i64 ra.x) ∧ w'.cell? ⟨w.heap.size, 3, none⟩ = some (.int .i64 ra.mask) ∧ w'.cell? ⟨w.heap.size, 4, none⟩ = some (.int .i64 ra.delta) ∧ w'.cell? ⟨w.heap.size, 5, none⟩ = some (.slice As1 ns1 cs1) ∧ w'.cell? ⟨w.heap.size, 6, none⟩ = some (.slice Ak1 nk1 ck1) ∧ w'.cell? ⟨w.heap.size, 7, none⟩ = some (.int .i64 ra.step) ∧ w'.cell? ⟨w.heap.size, 8, none⟩ = some (.slice Ah1 nh1 ch1) ∧ w'.cell? ⟨w.heap.size, 9, none⟩ = some (.int .i64 ra.status) ∧ w'.cell? ⟨w.heap.size, 10, none⟩ = some (.int .i64 ra.out) ∧ w'.cell? ⟨w.heap.size + 1, 0, none⟩ = some (.int .i64 rb.p) ∧ w'.cell? ⟨w.heap.size + 1, 1, none⟩ = some (.int .i64 rb.party) ∧ w'.cell? ⟨w.heap.size + 1, 2, none⟩ = some (.int .i64 rb.x) ∧ w'.cell? ⟨w.heap.size + 1, 3, none⟩ = some (.int .i64 rb.mask) ∧ w'.cell? ⟨w.heap.size + 1, 4, none⟩ = some (.int .i64 rb.delta) ∧ w'.cell? ⟨w.heap.size + 1, 5, none⟩ = some (.slice As3 ns3 cs3) ∧ w'.cell? ⟨w.heap.size + 1, 6, none⟩ = some (.slice Ak3 nk3 ck3) ∧ w'.cell? ⟨w.heap.size + 1, 7, none⟩ = some (.int .i64 rb.step) ∧ w'.cell? ⟨w.heap.size + 1, 8, none⟩ = some (.slice Ah3 nh3 ch3) ∧ w'.cell? ⟨w.heap.size + 1, 9, none⟩ = some (.int .i64 rb.status) ∧ w'.cell? ⟨w.heap.size + 1, 10, none⟩ = some (.int .i64 rb.out) ∧ w'.cell? ⟨gX, 0, none⟩ = some (.int .i64 0) ∧ w'.cell? ⟨gX, 1, none⟩ = some (.int .i64 ra.step) ∧ w'.cell? ⟨gX, 2, none⟩ = some (.slice A1 n1 c1) ∧ w'.cell? ⟨gY, 0, none⟩ = some (.int .i64 1) ∧ w'.cell? ⟨gY, 1, none⟩ = some (.int .i64 rb.step) ∧ w'.cell? ⟨gY, 2, none⟩ = some (.slice A2 n2 c2)) 13 (by kernel_rfl) ?_ (fun hHeld => ?_)
     ·(try dsimp only); exact ⟨trivial, A_0, A_1, A_2, A_3, A_4, A_5, A_6, A_7, A_8, A_9, A_10, B_0, B_1, B_2, B_3, B_4, B_5, B_6, B_7, B_8, B_9, B_10, X_0, X_1, X_2, Y_0, Y_1, Y_2⟩
     refine tC 0 37 [0] ?_ hHeld
     refine tC 1 38 [1] ?_ hHeld
     refine tC 2 39 [2] ?_ hHeld
     refine tC 3 40 [3] ?_ hHeld
     refine tC 4 41 [4] ?_ hHeld
     refine tC 7 44 [12, 7] ?_ hHeld
     refine tC 8 45 [12, 11, 8] ?_ hHeld
     refine tC 9 46 [12, 11, 9] ?_ hHeld
     refine tC 10 47 [12, 11, 10] ?_ hHeld
     refine f_step (i := 5) (by kernel_rfl) rfl (fun K hK => ?_)
     go_simp
     go_at_call 67; refine (change_at (n + 1) (n + 1) (by omega) (by omega) a.p 1 rb.step A2 n2 c2 L M rc7.L6 rc7.M6 (msgP rb) (sent[n + 1 - 2]?.getD ⟨0, 0, []⟩) gs gt gl ga Al nl cl l W0 _ rc7.wb hgs hgt hne hp2 kl ka hl hml rc7.hS rc7.hT ⟨HPB.out.symm, rfl, b2.rd⟩ HM2.out (.inr HPB.out) (fun k => w.heap.size + 4 ≤ k ∧ A'.map (·.block) ≠ some k) (fun k hk => nT k hk.1) (fun k hk => ⟨by omega, fun e => by have := rc7.aw k e; omega⟩) (fun k hk => ⟨by have := (b2.blk k hk).1; omega, HN2.out k hk⟩) HZ2.out (fun x h2 hx => ⟨(prev_msg rc7.sn (by have := HLS.out; omega) hx).1, fun k hk => by have := (prev_msg rc7.sn (by have := HLS.out; omega) hx).2 k hk; exact ⟨this.1, this.2.2⟩⟩)).mono ?_; rintro e w8 ⟨f2, s2, X2, m2, d2, rfl, hr2, hq2k, hS8, hT8, hg8⟩; rw [HTB.out] at hr2; obtain ⟨hf2, hs2, hrb2⟩ := hr2; simp only at hf2 hs2; subst hf2; subst hs2; have hr2 : RdM w8 ⟨mB.f, mB.s, X2, m2, d2⟩ mB := ⟨rfl, rfl, hrb2⟩; clear hrb2; have rc8 := rc7.two (i := n + 1) (by have := HLS.out; omega) (by have := HLT.out; omega) hS8 hT8 hg8; have hz8 := hg8.size; replace hX := hX.gp hg8 (nT gX (by omega)); replace hY := hY.gp hg8 (nT gY (by omega)); replace b1 := b1.gp hg8 (fun k hk => nT k (by have := (b1.blk k hk).1; omega)); replace b2 := b2.gp hg8 (fun k hk => nT k (by have := (b2.blk k hk).1; omega)); replace out7 := out7.gp hg8 (fun k hk => nT k (by have := (out7.blk k hk).1; omega)); clear hS8 hT8; (try clear A_l A_f A_0 A_1 A_2 A_3 A_4 A_5 A_6 A_7 A_8 A_9 A_10); (try clear B_l B_f B_0 B_1 B_2 B_3 B_4 B_5 B_6 B_7 B_8 B_9 B_10); (try clear hA hB); (try clear X_l X_f X_0 X_1 X_2); (try clear Y_l Y_f Y_0 Y_1 Y_2); have hA : Blk w8 w.heap.size 34 #[.int .i64 ra.p, .int .i64 ra.party, .int .i64 ra.x, .int .i64 ra.mask, .int .i64 ra.delta, .slice As1 ns1 cs1, .slice Ak1 nk1 ck1, .int .i64 ra.step, .slice Ah1 nh1 ch1, .int .i64 ra.status, .int .i64 ra.out] := rc8.bA; have hB : Blk w8 (w.heap.size + 1) 34 #[.int .i64 rb.p, .int .i64 rb.party, .int .i64 rb.x, .int .i64 rb.mask, .int .i64 rb.delta, .slice As3 ns3 cs3, .slice Ak3 nk3 ck3, .int .i64 rb.step, .slice Ah3 nh3 ch3, .int .i64 rb.status, .int .i64 rb.out] := rc8.bB; obtain ⟨A_l, A_f, A_0, A_1, A_2, A_3, A_4, A_5, A_6, A_7, A_8, A_9, A_10⟩ := hA.l11; obtain ⟨B_l, B_f, B_0, B_1, B_2, B_3, B_4, B_5, B_6, B_7, B_8, B_9, B_10⟩ := hB.l11; obtain ⟨X_l, X_f, X_0, X_1, X_2⟩ := hX.l3; obtain ⟨Y_l, Y_f, Y_0, Y_1, Y_2⟩ := hY.l3
     go_wp2_with fail
     refine ko hK ?_ fun hHeld => ?_
     ·(try dsimp only); exact ⟨trivial, A_0, A_1, A_2, A_3, A_4, A_5, A_6, A_7, A_8, A_9, A_10, B_0, B_1, B_2, B_3, B_4, B_5, B_6, B_7, B_8, B_9, B_10, X_0, X_1, X_2, Y_0, Y_1, Y_2⟩
     clear hK K
     refine f_step (i := 6) (by kernel_rfl) rfl (fun K hK => ?_)
     go_simp
     go_at_call 95; refine (impl_take ra mB q As1 Ak1 Ah1 ns1 cs1 nk1 ck1 nh1 ch1 hs1 X2 m2 d2 _ (hTb.keep rc8.wb) hq2 OK1.out (OwnP.rd rc8.o1) hr2.b).mono ?_; rintro e w9 ⟨E5, E6, E8, e5, e6, en, e8, es, T9, rfl, hp9, hb9⟩; have rc9 := rc8.bl hb9; have hz9 := hb9.sz; have hu9 := hp9.under; replace hr2 := hr2.keep hb9; replace hX := hX.keep hb9; replace hY := hY.keep hb9; replace b1 := b1.keep hb9; replace b2 := b2.keep hb9; replace out7 := out7.keep hb9; (try clear A_l A_f A_0 A_1 A_2 A_3 A_4 A_5 A_6 A_7 A_8 A_9 A_10); (try clear B_l B_f B_0 B_1 B_2 B_3 B_4 B_5 B_6 B_7 B_8 B_9 B_10); (try clear hA hB); (try clear X_l X_f X_0 X_1 X_2); (try clear Y_l Y_f Y_0 Y_1 Y_2); have hA : Blk w9 w.heap.size 34 #[.int .i64 ra.p, .int .i64 ra.party, .int .i64 ra.x, .int .i64 ra.mask, .int .i64 ra.delta, .slice As1 ns1 cs1, .slice Ak1 nk1 ck1, .int .i64 ra.step, .slice Ah1 nh1 ch1, .int .i64 ra.status, .int .i64 ra.out] := rc9.bA; have hB : Blk w9 (w.heap.size + 1) 34 #[.int .i64 rb.p, .int .i64 rb.party, .int .i64 rb.x, .int .i64 rb.mask, .int .i64 rb.delta, .slice As3 ns3 cs3, .slice Ak3 nk3 ck3, .int .i64 rb.step, .slice Ah3 nh3 ch3, .int .i64 rb.status, .int .i64 rb.out] := rc9.bB; obtain ⟨A_l, A_f, A_0, A_1, A_2, A_3, A_4, A_5, A_6, A_7, A_8, A_9, A_10⟩ := hA.l11; obtain ⟨B_l, B_f, B_0, B_1, B_2, B_3, B_4, B_5, B_6, B_7, B_8, B_9, B_10⟩ := hB.l11; obtain ⟨X_l, X_f, X_0, X_1, X_2⟩ := hX.l3; obtain ⟨Y_l, Y_f, Y_0, Y_1, Y_2⟩ := hY.l3
     go_wp2_with fail
     refine ko hK ?_ fun hHeld => ?_
     ·(try dsimp only); exact ⟨trivial, A_0, A_1, A_2, A_3, A_4, A_5, A_6, A_7, A_8, A_9, A_10, B_0, B_1, B_2, B_3, B_4, B_5, B_6, B_7, B_8, B_9, B_10, X_0, X_1, X_2, Y_0, Y_1, Y_2⟩
     clear hK K
     refine f_step (i := 11) (by kernel_rfl) rfl (fun K hK => ?_)
     go_simp
     go_at_call 67; refine (change_at n n rfl (by omega) a.p 0 ra.step A1 n1 c1 (L.set (n + 1) ⟨1, rb.step, A2, n2, c2⟩) (M.set (n + 1) ⟨mB.f, mB.s, X2, m2, d2⟩) rc9.L6 rc9.M6 (msgP ra) (sent[n - 2]?.getD ⟨0, 0, []⟩) gs gt gl ga Al nl cl l W0 _ rc9.wb hgs hgt hne hp2 kl ka hl hml rc9.hS rc9.hT ⟨HPA.out.symm, rfl, b1.rd⟩ HM1.out (.inl HPA.out) (fun k => w.heap.size + 4 ≤ k ∧ A'.map (·.block) ≠ some k) (fun k hk => nT k hk.1) (fun k hk => ⟨by omega, fun e => by have := rc9.aw k e; omega⟩) (fun k hk => ⟨by have := (b1.blk k hk).1; omega, HN1.out k hk⟩) HZ1.out (fun x h2 hx => ⟨(prev_msg rc9.sn (by have := HLS.out; omega) hx).1, fun k hk => by have := (prev_msg rc9.sn (by have := HLS.out; omega) hx).2 k hk; exact ⟨this.1, this.2.2⟩⟩)).mono ?_; rintro e w10 ⟨f1, s1, X1, m1, d1, rfl, hr1, hq1k, hS10, hT10, hg10⟩; rw [HTA.out] at hr1; obtain ⟨hf1, hs1_, hrb1⟩ := hr1; simp only at hf1 hs1_; subst hf1; subst hs1_; have hr1 : RdM w10 ⟨mA.f, mA.s, X1, m1, d1⟩ mA := ⟨rfl, rfl, hrb1⟩; clear hrb1; have rc10 := rc9.two (i := n) (by have := HLS.out; omega) (by have := HLT.out; omega) hS10 hT10 hg10; have hz10 := hg10.size; replace hr2 := hr2.gp hg10 (fun k hk => nT k (hq2k k hk).1); replace hp9 := OwnP.gp hp9 hu9 hg10 (fun k e => .inl (by have := nT k; by_cases h : w.heap.size + 4 ≤ k; (exact absurd e (this h)); omega)); replace hX := hX.gp hg10 (nT gX (by omega)); replace hY := hY.gp hg10 (nT gY (by omega)); replace b1 := b1.gp hg10 (fun k hk => nT k (by have := (b1.blk k hk).1; omega)); replace b2 := b2.gp hg10 (fun k hk => nT k (by have := (b2.blk k hk).1; omega)); replace out7 := out7.gp hg10 (fun k hk => nT k (by have := (out7.blk k hk).1; omega)); clear hS10 hT10; (try clear A_l A_f A_0 A_1 A_2 A_3 A_4 A_5 A_6 A_7 A_8 A_9 A_10); (try clear B_l B_f B_0 B_1 B_2 B_3 B_4 B_5 B_6 B_7 B_8 B_9 B_10); (try clear hA hB); (try clear X_l X_f X_0 X_1 X_2); (try clear Y_l Y_f Y_0 Y_1 Y_2); have hA : Blk w10 w.heap.size 34 #[.int .i64 ra.p, .int .i64 ra.party, .int .i64 ra.x, .int .i64 ra.mask, .int .i64 ra.delta, .slice As1 ns1 cs1, .slice Ak1 nk1 ck1, .int .i64 ra.step, .slice Ah1 nh1 ch1, .int .i64 ra.status, .int .i64 ra.out] := rc10.bA; have hB : Blk w10 (w.heap.size + 1) 34 #[.int .i64 rb.p, .int .i64 rb.party, .int .i64 rb.x, .int .i64 rb.mask, .int .i64 rb.delta, .slice As3 ns3 cs3, .slice Ak3 nk3 ck3, .int .i64 rb.step, .slice Ah3 nh3 ch3, .int .i64 rb.status, .int .i64 rb.out] := rc10.bB; obtain ⟨A_l, A_f, A_0, A_1, A_2, A_3, A_4, A_5, A_6, A_7, A_8, A_9, A_10⟩ := hA.l11; obtain ⟨B_l, B_f, B_0, B_1, B_2, B_3, B_4, B_5, B_6, B_7, B_8, B_9, B_10⟩ := hB.l11; obtain ⟨X_l, X_f, X_0, X_1, X_2⟩ := hX.l3; obtain ⟨Y_l, Y_f, Y_0, Y_1, Y_2⟩ := hY.l3
     go_wp2_with fail
     refine ko hK ?_ fun hHeld => ?_
     ·(try dsimp only); exact ⟨trivial, A_0, A_1, A_2, A_3, A_4, A_5, A_6, A_7, A_8, A_9, A_10, B_0, B_1, B_2, B_3, B_4, B_5, B_6, B_7, B_8, B_9, B_10, X_0, X_1, X_2, Y_0, Y_1, Y_2⟩
     clear hK K
     refine f_step (i := 12) (by kernel_rfl) rfl (fun K hK => ?_)
     go_simp
     go_at_call 95; refine (impl_take rb mA q As3 Ak3 Ah3 ns3 cs3 nk3 ck3 nh3 ch3 hs3 X1 m1 d1 _ (hTb.keep rc10.wb) hq2 OK2.out (OwnP.rd rc10.o2) hr1.b).mono ?_; rintro e w11 ⟨F5, F6, F8, f5, f6, fn, f8, fs, T11, rfl, hp11, hb11⟩; have rc11 := rc10.bl hb11; have hz11 := hb11.sz; replace hp9 := OwnP.keep hp9 hb11; replace hr1 := hr1.keep hb11; replace hr2 := hr2.keep hb11; replace hX := hX.keep hb11; replace hY := hY.keep hb11; replace b1 := b1.keep hb11; replace b2 := b2.keep hb11; replace out7 := out7.keep hb11; (try clear A_l A_f A_0 A_1 A_2 A_3 A_4 A_5 A_6 A_7 A_8 A_9 A_10); (try clear B_l B_f B_0 B_1 B_2 B_3 B_4 B_5 B_6 B_7 B_8 B_9 B_10); (try clear hA hB); (try clear X_l X_f X_0 X_1 X_2); (try clear Y_l Y_f Y_0 Y_1 Y_2); have hA : Blk w11 w.heap.size 34 #[.int .i64 ra.p, .int .i64 ra.party, .int .i64 ra.x, .int .i64 ra.mask, .int .i64 ra.delta, .slice As1 ns1 cs1, .slice Ak1 nk1 ck1, .int .i64 ra.step, .slice Ah1 nh1 ch1, .int .i64 ra.status, .int .i64 ra.out] := rc11.bA; have hB : Blk w11 (w.heap.size + 1) 34 #[.int .i64 rb.p, .int .i64 rb.party, .int .i64 rb.x, .int .i64 rb.mask, .int .i64 rb.delta, .slice As3 ns3 cs3, .slice Ak3 nk3 ck3, .int .i64 rb.step, .slice Ah3 nh3 ch3, .int .i64 rb.status, .int .i64 rb.out] := rc11.bB; obtain ⟨A_l, A_f, A_0, A_1, A_2, A_3, A_4, A_5, A_6, A_7, A_8, A_9, A_10⟩ := hA.l11; obtain ⟨B_l, B_f, B_0, B_1, B_2, B_3, B_4, B_5, B_6, B_7, B_8, B_9, B_10⟩ := hB.l11; obtain ⟨X_l, X_f, X_0, X_1, X_2⟩ := hX.l3; obtain ⟨Y_l, Y_f, Y_0, Y_1, Y_2⟩ := hY.l3
     go_wp2_with fail
     refine ko hK ?_ fun hHeld => ?_
     ·(try dsimp only); exact ⟨trivial, A_0, A_1, A_2, A_3, A_4, A_5, A_6, A_7, A_8, A_9, A_10, B_0, B_1, B_2, B_3, B_4, B_5, B_6, B_7, B_8, B_9, B_10, X_0, X_1, X_2, Y_0, Y_1, Y_2⟩
     clear hK K
     refine f_last (i := 13) (by kernel_rfl) rfl (by simp) (fun K hK => ?_)
     refine wp_store_row 34 _ _ rfl (w.heap.size) #[.int .i64 (takeP ra mB).p, .int .i64 (takeP ra mB).party, .int .i64 (takeP ra mB).x, .int .i64 (takeP ra mB).mask, .int .i64 (takeP ra mB).delta, .slice E5 ns1 e5, .slice E6 nk1 e6, .int .i64 (takeP ra mB).step, .slice E8 en e8, .int .i64 (takeP ra mB).status, .int .i64 (takeP ra mB).out] rfl rfl 34 #[.int .i64 ra.p, .int .i64 ra.party, .int .i64 ra.x, .int .i64 ra.mask, .int .i64 ra.delta, .slice As1 ns1 cs1, .slice Ak1 nk1 ck1, .int .i64 ra.step, .slice Ah1 nh1 ch1, .int .i64 ra.status, .int .i64 ra.out] hA (by kernel_rfl) rfl (by first | rfl | simp [Value.oneCell'] | kernel_rfl) ?_
     refine ko hK ?_ fun hHeld => ?_
     ·exact trivial
     clear hK K
     refine f_last (i := 14) (by kernel_rfl) rfl (by simp) (fun K hK => ?_)
     refine wp_store_row 34 _ _ rfl (w.heap.size + 1) #[.int .i64 (takeP rb mA).p, .int .i64 (takeP rb mA).party, .int .i64 (takeP rb mA).x, .int .i64 (takeP rb mA).mask, .int .i64 (takeP rb mA).delta, .slice F5 ns3 f5, .slice F6 nk3 f6, .int .i64 (takeP rb mA).step, .slice F8 fn f8, .int .i64 (takeP rb mA).status, .int .i64 (takeP rb mA).out] rfl rfl 34 #[.int .i64 rb.p, .int .i64 rb.party, .int .i64 rb.x, .int .i64 rb.mask, .int .i64 rb.delta, .slice As3 ns3 cs3, .slice Ak3 nk3 ck3, .int .i64 rb.step, .slice Ah3 nh3 ch3, .int .i64 rb.status, .int .i64 rb.out] (hB.farRow (by omega)) (by kernel_rfl) rfl (by first | rfl | simp [Value.oneCell'] | kernel_rfl) ?_
     refine ko hK ?_ fun hHeld => ?_
     ·exact trivial
     clear hK K
     refine f_done (by kernel_rfl) ?_ _
     clear X_l Y_l
     have hL6 := rc7.L6
     have hM6 := rc7.M6
     have sn' : RdL w11 ((L.set (n + 1) ⟨1, rb.step, A2, n2, c2⟩).set n ⟨0, ra.step, A1, n1, c1⟩) (sent ++ [msgP ra, msgP rb]) (Qn (w.heap.size + 4) w11.heap.size A') :=
      rc11.sn.two (x := ⟨0, ra.step, A1, n1, c1⟩) (y := ⟨1, rb.step, A2, n2, c2⟩) (by rw [HLS.out]; exact List.getElem?_set_self (by simp; omega)) (by rw [HLS.out, List.getElem?_set_ne (by omega)]; exact List.getElem?_set_self (by omega)) ⟨HPA.out.symm, rfl, b1.rd⟩ ⟨HPB.out.symm, rfl, b2.rd⟩
       (fun k hk => ⟨by have := (b1.blk k hk).1; omega, (b1.blk k hk).2, HN1.out k hk⟩) (fun k hk => ⟨by have := (b2.blk k hk).1; omega, (b2.blk k hk).2, HN2.out k hk⟩)
     have tk' : RdW w11 ((M.set (n + 1) ⟨mB.f, mB.s, X2, m2, d2⟩).set n ⟨mA.f, mA.s, X1, m1, d1⟩) (taken ++ [mA, mB]) (Qn (w.heap.size + 4) w11.heap.size A') :=
      rc11.tk.two (x := ⟨mA.f, mA.s, X1, m1, d1⟩) (y := ⟨mB.f, mB.s, X2, m2, d2⟩) (by rw [HLT.out]; exact List.getElem?_set_self (by simp; omega)) (by rw [HLT.out, List.getElem?_set_ne (by omega)]; exact List.getElem?_set_self (by omega)) hr1 hr2
       (fun h0 k hk => ⟨(hq1k k hk).1, hr1.lt h0 k hk, (hq1k k hk).2⟩) (fun h0 k hk => ⟨(hq2k k hk).1, hr2.lt h0 k hk, (hq2k k hk).2⟩)
     have rcZ : RC w.heap.size gs gt W0 w ((w11.setRow w.heap.size #[.int .i64 (takeP ra mB).p, .int .i64 (takeP ra mB).party, .int .i64 (takeP ra mB).x, .int .i64 (takeP ra mB).mask, .int .i64 (takeP ra mB).delta, .slice E5 ns1 e5, .slice E6 nk1 e6, .int .i64 (takeP ra mB).step, .slice E8 en e8, .int .i64 (takeP ra mB).status, .int .i64 (takeP ra mB).out]).setRow (w.heap.size + 1) #[.int .i64 (takeP rb mA).p, .int .i64 (takeP rb mA).party, .int .i64 (takeP rb mA).x, .int .i64 (takeP rb mA).mask, .int .i64 (takeP rb mA).delta, .slice F5 ns3 f5, .slice F6 nk3 f6, .int .i64 (takeP rb mA).step, .slice F8 fn f8, .int .i64 (takeP rb mA).status, .int .i64 (takeP rb mA).out]) (takeP ra mB) (takeP rb mA) (sent ++ [msgP ra, msgP rb]) (taken ++ [mA, mB]) ((L.set (n + 1) ⟨1, rb.step, A2, n2, c2⟩).set n ⟨0, ra.step, A1, n1, c1⟩) ((M.set (n + 1) ⟨mB.f, mB.s, X2, m2, d2⟩).set n ⟨mA.f, mA.s, X1, m1, d1⟩) ⟨E5, E6, E8, ns1, e5, nk1, e6, en, e8, es⟩ ⟨F5, F6, F8, ns3, f5, nk3, f6, fn, f8, fs⟩ w8.heap.size T9 w10.heap.size T11 w11.heap.size A' :=
      rc11.round (ra' := takeP ra mB) (rb' := takeP rb mA) (s1' := ⟨E5, E6, E8, ns1, e5, nk1, e6, en, e8, es⟩) (s2' := ⟨F5, F6, F8, ns3, f5, nk3, f6, fn, f8, fs⟩) sn' tk' hp9 (UnderP.mono hu9 hz10) hp11 (by omega) (by omega) hz11 (fun k hk => by have := rc7.aw k hk; omega)
     have nO : ∀ k, A'.map (·.block) = some k → w.heap.size + 4 ≤ k := fun k hk => (out7.blk k hk).1
     have outZ := (out7.grownR (setRow_grown w11 w.heap.size #[.int .i64 (takeP ra mB).p, .int .i64 (takeP ra mB).party, .int .i64 (takeP ra mB).x, .int .i64 (takeP ra mB).mask, .int .i64 (takeP ra mB).delta, .slice E5 ns1 e5, .slice E6 nk1 e6, .int .i64 (takeP ra mB).step, .slice E8 en e8, .int .i64 (takeP ra mB).status, .int .i64 (takeP ra mB).out]) (fun k hk e => by have := nO k hk; injection e with e; omega)).grownR (setRow_grown _ (w.heap.size + 1) #[.int .i64 (takeP rb mA).p, .int .i64 (takeP rb mA).party, .int .i64 (takeP rb mA).x, .int .i64 (takeP rb mA).mask, .int .i64 (takeP rb mA).delta, .slice F5 ns3 f5, .slice F6 nk3 f6, .int .i64 (takeP rb mA).step, .slice F8 fn f8, .int .i64 (takeP rb mA).status, .int .i64 (takeP rb mA).out]) (fun k hk e => by have := nO k hk; injection e with e; omega)
     generalize ((w11.setRow w.heap.size #[.int .i64 (takeP ra mB).p, .int .i64 (takeP ra mB).party, .int .i64 (takeP ra mB).x, .int .i64 (takeP ra mB).mask, .int .i64 (takeP ra mB).delta, .slice E5 ns1 e5, .slice E6 nk1 e6, .int .i64 (takeP ra mB).step, .slice E8 en e8, .int .i64 (takeP ra mB).status, .int .i64 (takeP ra mB).out]).setRow (w.heap.size + 1) #[.int .i64 (takeP rb mA).p, .int .i64 (takeP rb mA).party, .int .i64 (takeP rb mA).x, .int .i64 (takeP rb mA).mask, .int .i64 (takeP rb mA).delta, .slice F5 ns3 f5, .slice F6 nk3 f6, .int .i64 (takeP rb mA).step, .slice F8 fn f8, .int .i64 (takeP rb mA).status, .int .i64 (takeP rb mA).out]) = wz at rcZ outZ ⊢
     (try go_wp2_with fail)
     go_meet
     exact ⟨_, _, ⟨E5, E6, E8, ns1, e5, nk1, e6, en, e8, es⟩, ⟨F5, F6, F8, ns3, f5, nk3, f6, fn, f8, fs⟩, _, _, _, _, _, rcZ, outZ⟩
    case rest =>
     obtain ⟨L', M', ⟨E5, E6, E8, ns1, e5, nk1, e6, en, e8, es⟩, ⟨F5, F6, F8, ns3, f5, nk3, f6, fn, f8, fs⟩, B1', T1', N1', T2', N2', rcZ, outZ⟩ := hcut
     clear rc7 out7 hX hY b1 b2
     generalize hpa : takeP ra mB = pa at rcZ ⊢
     generalize hpb : takeP rb mA = pb at rcZ ⊢
     have acc1 : (pa.status == 2) = !accP ra mB := hpa ▸ take_status ST1.out
     have acc2 : (pb.status == 2) = !accP rb mA := hpb ▸ take_status ST2.out
     have EA := Lib.hid hpa
     have EB := Lib.hid hpb
     have AC1 := Lib.hid acc1
     have AC2 := Lib.hid acc2
     clear hpa hpb acc1 acc2
     have hle2 := outZ.rd.cap
     have hA : Blk wc w.heap.size 34 #[.int .i64 pa.p, .int .i64 pa.party, .int .i64 pa.x, .int .i64 pa.mask, .int .i64 pa.delta, .slice E5 ns1 e5, .slice E6 nk1 e6, .int .i64 pa.step, .slice E8 en e8, .int .i64 pa.status, .int .i64 pa.out] := rcZ.bA; have hB : Blk wc (w.heap.size + 1) 34 #[.int .i64 pb.p, .int .i64 pb.party, .int .i64 pb.x, .int .i64 pb.mask, .int .i64 pb.delta, .slice F5 ns3 f5, .slice F6 nk3 f6, .int .i64 pb.step, .slice F8 fn f8, .int .i64 pb.status, .int .i64 pb.out] := rcZ.bB; obtain ⟨A_l, A_f, A_0, A_1, A_2, A_3, A_4, A_5, A_6, A_7, A_8, A_9, A_10⟩ := hA.l11; obtain ⟨B_l, B_f, B_0, B_1, B_2, B_3, B_4, B_5, B_6, B_7, B_8, B_9, B_10⟩ := hB.l11
     rcases e1 : (pa.status == 2)
     ·rcases e2 : (pb.status == 2)
      ·have rn := Lib.hid (show RunQ a b l (q + 1) pa pb (sent ++ [msgP ra, msgP rb]) (taken ++ [mA, mB]) by
        have a1 : accP ra mB = true := not_f (AC1.out.symm.trans e1)
        have a2 : accP rb mA = true := not_f (AC2.out.symm.trans e2)
        have r := run.out.next hq2 (by rw [HMB.out]; exact a1) (by rw [HMA.out]; exact a2)
        rw [HMB.out, HMA.out, EA.out, EB.out] at r
        exact r)
       have hn2 := Lib.hid (show n + 2 = 2 * (q + 1) by have := hn.out; omega)
       go_wp2_with fail
       go_roundg (2 - q)
       case measure => have := HK.out; omega
       case rel => exact ⟨q + 1, n + 2, pa, pb, _, _, _, _, ⟨E5, E6, E8, ns1, e5, nk1, e6, en, e8, es⟩, ⟨F5, F6, F8, ns3, f5, nk3, f6, fn, f8, fs⟩, _, _, _, _, _, A', c', _, by omega, by go_num, rfl, hn2, rn, rcZ, outZ⟩
      ·have hs := Lib.hid (show runM a b l = ⟨pa, pb, sent ++ [msgP ra, msgP rb], taken ++ [mA, mB]⟩ by
        have a2 : accP rb mA = false := not_t (AC2.out.symm.trans e2)
        have r := run.out.stop hq2 (Or.inr (by rw [HMA.out]; exact a2))
        rw [HMB.out, HMA.out, EA.out, EB.out] at r
        exact r)
       go_wp2_with fail
       have rcd := rcZ.bl ((Bl.refl wc).drew)
       have hR : Blk wc.drew (w.heap.size + 1 + 1) 34 #[.int .i64 0, .int .i64 0, .int .i64 0, .int .i64 0, .int .i64 0, .slice none 0 0, .slice none 0 0, .int .i64 0, .slice none 0 0, .int .i64 0, .int .i64 0] := rcd.bR
       have hU : Blk wc.drew (w.heap.size + 1 + 1 + 1) 34 #[.int .i64 0, .int .i64 0, .int .i64 0, .int .i64 0, .int .i64 0, .slice none 0 0, .slice none 0 0, .int .i64 0, .slice none 0 0, .int .i64 0, .int .i64 0] := rcd.bT
       refine region_F (fun _ => True) (fun w' => w'.cell? ⟨w.heap.size, 0, none⟩ = some (.int .i64 pa.p) ∧ w'.cell? ⟨w.heap.size, 1, none⟩ = some (.int .i64 pa.party) ∧ w'.cell? ⟨w.heap.size, 2, none⟩ = some (.int .i64 pa.x) ∧ w'.cell? ⟨w.heap.size, 3, none⟩ = some (.int .i64 pa.mask) ∧ w'.cell? ⟨w.heap.size, 4, none⟩ = some (.int .i64 pa.delta) ∧ w'.cell? ⟨w.heap.size, 5, none⟩ = some (.slice E5 ns1 e5) ∧ w'.cell? ⟨w.heap.size, 6, none⟩ = some (.slice E6 nk1 e6) ∧ w'.cell? ⟨w.heap.size, 7, none⟩ = some (.int .i64 pa.step) ∧ w'.cell? ⟨w.heap.size, 8, none⟩ = some (.slice E8 en e8) ∧ w'.cell? ⟨w.heap.size, 9, none⟩ = some (.int .i64 pa.status) ∧ w'.cell? ⟨w.heap.size, 10, none⟩ = some (.int .i64 pa.out) ∧ w'.cell? ⟨w.heap.size + 1, 0, none⟩ = some (.int .i64 pb.p) ∧ w'.cell? ⟨w.heap.size + 1, 1, none⟩ = some (.int .i64 pb.party) ∧ w'.cell? ⟨w.heap.size + 1, 2, none⟩ = some (.int .i64 pb.x) ∧ w'.cell? ⟨w.heap.size + 1, 3, none⟩ = some (.int .i64 pb.mask) ∧ w'.cell? ⟨w.heap.size + 1, 4, none⟩ = some (.int .i64 pb.delta) ∧ w'.cell? ⟨w.heap.size + 1, 5, none⟩ = some (.slice F5 ns3 f5) ∧ w'.cell? ⟨w.heap.size + 1, 6, none⟩ = some (.slice F6 nk3 f6) ∧ w'.cell? ⟨w.heap.size + 1, 7, none⟩ = some (.int .i64 pb.step) ∧ w'.cell? ⟨w.heap.size + 1, 8, none⟩ = some (.slice F8 fn f8) ∧ w'.cell? ⟨w.heap.size + 1, 9, none⟩ = some (.int .i64 pb.status) ∧ w'.cell? ⟨w.heap.size + 1, 10, none⟩ = some (.int .i64 pb.out)) 4 (by kernel_rfl) ?_ (fun hHeld => ?_)
       ·(try dsimp only); exact ⟨trivial, A_0, A_1, A_2, A_3, A_4, A_5, A_6, A_7, A_8, A_9, A_10, B_0, B_1, B_2, B_3, B_4, B_5, B_6, B_7, B_8, B_9, B_10⟩
       refine tC 0 59 [0] ?_ hHeld
       refine tC 1 60 [1] ?_ hHeld
       refine tS 2 61 ?_ hHeld.1 (fun _ => hHeld.2)
       refine f_step (i := 3) (by kernel_rfl) rfl (fun K hK => ?_)
       refine wp_store_row 34 _ _ rfl (w.heap.size + 1 + 1) #[.int .i64 pa.p, .int .i64 pa.party, .int .i64 pa.x, .int .i64 pa.mask, .int .i64 pa.delta, .slice E5 ns1 e5, .slice E6 nk1 e6, .int .i64 pa.step, .slice E8 en e8, .int .i64 pa.status, .int .i64 pa.out] rfl rfl 34 #[.int .i64 0, .int .i64 0, .int .i64 0, .int .i64 0, .int .i64 0, .slice none 0 0, .slice none 0 0, .int .i64 0, .slice none 0 0, .int .i64 0, .int .i64 0] hR (by kernel_rfl) rfl (by first | rfl | simp [Value.oneCell'] | kernel_rfl) ?_
       refine ko hK ?_ fun hHeld => ?_
       ·(try dsimp only); exact ⟨trivial, (hA.farRow (by omega)).cell 0 _ rfl, (hA.farRow (by omega)).cell 1 _ rfl, (hA.farRow (by omega)).cell 2 _ rfl, (hA.farRow (by omega)).cell 3 _ rfl, (hA.farRow (by omega)).cell 4 _ rfl, (hA.farRow (by omega)).cell 5 _ rfl, (hA.farRow (by omega)).cell 6 _ rfl, (hA.farRow (by omega)).cell 7 _ rfl, (hA.farRow (by omega)).cell 8 _ rfl, (hA.farRow (by omega)).cell 9 _ rfl, (hA.farRow (by omega)).cell 10 _ rfl, (hB.farRow (by omega)).cell 0 _ rfl, (hB.farRow (by omega)).cell 1 _ rfl, (hB.farRow (by omega)).cell 2 _ rfl, (hB.farRow (by omega)).cell 3 _ rfl, (hB.farRow (by omega)).cell 4 _ rfl, (hB.farRow (by omega)).cell 5 _ rfl, (hB.farRow (by omega)).cell 6 _ rfl, (hB.farRow (by omega)).cell 7 _ rfl, (hB.farRow (by omega)).cell 8 _ rfl, (hB.farRow (by omega)).cell 9 _ rfl, (hB.farRow (by omega)).cell 10 _ rfl⟩
       clear hK K
       refine f_last (i := 4) (by kernel_rfl) rfl (by simp) (fun K hK => ?_)
       refine wp_store_row 34 _ _ rfl (w.heap.size + 1 + 1 + 1) #[.int .i64 pb.p, .int .i64 pb.party, .int .i64 pb.x, .int .i64 pb.mask, .int .i64 pb.delta, .slice F5 ns3 f5, .slice F6 nk3 f6, .int .i64 pb.step, .slice F8 fn f8, .int .i64 pb.status, .int .i64 pb.out] rfl rfl 34 #[.int .i64 0, .int .i64 0, .int .i64 0, .int .i64 0, .int .i64 0, .slice none 0 0, .slice none 0 0, .int .i64 0, .slice none 0 0, .int .i64 0, .int .i64 0] (hU.farRow (by omega)) (by kernel_rfl) rfl (by first | rfl | simp [Value.oneCell'] | kernel_rfl) ?_
       refine ko hK ?_ fun hHeld => ?_
       ·exact trivial
       clear hK K
       refine tS 5 8 ?_ hHeld (fun h => by simp at h)
       refine f_done (by kernel_rfl) ?_ _
       have hR9 : Blk ((wc.drew.setRow (w.heap.size + 1 + 1) #[.int .i64 pa.p, .int .i64 pa.party, .int .i64 pa.x, .int .i64 pa.mask, .int .i64 pa.delta, .slice E5 ns1 e5, .slice E6 nk1 e6, .int .i64 pa.step, .slice E8 en e8, .int .i64 pa.status, .int .i64 pa.out]).setRow (w.heap.size + 1 + 1 + 1) #[.int .i64 pb.p, .int .i64 pb.party, .int .i64 pb.x, .int .i64 pb.mask, .int .i64 pb.delta, .slice F5 ns3 f5, .slice F6 nk3 f6, .int .i64 pb.step, .slice F8 fn f8, .int .i64 pb.status, .int .i64 pb.out]) (w.heap.size + 1 + 1) 34 #[.int .i64 pa.p, .int .i64 pa.party, .int .i64 pa.x, .int .i64 pa.mask, .int .i64 pa.delta, .slice E5 ns1 e5, .slice E6 nk1 e6, .int .i64 pa.step, .slice E8 en e8, .int .i64 pa.status, .int .i64 pa.out] := (Blk.row hR).farRow (by omega)
       have hU9 : Blk ((wc.drew.setRow (w.heap.size + 1 + 1) #[.int .i64 pa.p, .int .i64 pa.party, .int .i64 pa.x, .int .i64 pa.mask, .int .i64 pa.delta, .slice E5 ns1 e5, .slice E6 nk1 e6, .int .i64 pa.step, .slice E8 en e8, .int .i64 pa.status, .int .i64 pa.out]).setRow (w.heap.size + 1 + 1 + 1) #[.int .i64 pb.p, .int .i64 pb.party, .int .i64 pb.x, .int .i64 pb.mask, .int .i64 pb.delta, .slice F5 ns3 f5, .slice F6 nk3 f6, .int .i64 pb.step, .slice F8 fn f8, .int .i64 pb.status, .int .i64 pb.out]) (w.heap.size + 1 + 1 + 1) 34 #[.int .i64 pb.p, .int .i64 pb.party, .int .i64 pb.x, .int .i64 pb.mask, .int .i64 pb.delta, .slice F5 ns3 f5, .slice F6 nk3 f6, .int .i64 pb.step, .slice F8 fn f8, .int .i64 pb.status, .int .i64 pb.out] := Blk.row (hU.farRow (by omega))
       have hF := fun (wx : World) (hb : Bl ((wc.drew.setRow (w.heap.size + 1 + 1) #[.int .i64 pa.p, .int .i64 pa.party, .int .i64 pa.x, .int .i64 pa.mask, .int .i64 pa.delta, .slice E5 ns1 e5, .slice E6 nk1 e6, .int .i64 pa.step, .slice E8 en e8, .int .i64 pa.status, .int .i64 pa.out]).setRow (w.heap.size + 1 + 1 + 1) #[.int .i64 pb.p, .int .i64 pb.party, .int .i64 pb.x, .int .i64 pb.mask, .int .i64 pb.delta, .slice F5 ns3 f5, .slice F6 nk3 f6, .int .i64 pb.step, .slice F8 fn f8, .int .i64 pb.status, .int .i64 pb.out]) wx) => RC.fin rcd hb
       generalize ((wc.drew.setRow (w.heap.size + 1 + 1) #[.int .i64 pa.p, .int .i64 pa.party, .int .i64 pa.x, .int .i64 pa.mask, .int .i64 pa.delta, .slice E5 ns1 e5, .slice E6 nk1 e6, .int .i64 pa.step, .slice E8 en e8, .int .i64 pa.status, .int .i64 pa.out]).setRow (w.heap.size + 1 + 1 + 1) #[.int .i64 pb.p, .int .i64 pb.party, .int .i64 pb.x, .int .i64 pb.mask, .int .i64 pb.delta, .slice F5 ns3 f5, .slice F6 nk3 f6, .int .i64 pb.step, .slice F8 fn f8, .int .i64 pb.status, .int .i64 pb.out]) = wf at hR9 hU9 hF ⊢
       (try clear A_l A_f A_0 A_1 A_2 A_3 A_4 A_5 A_6 A_7 A_8 A_9 A_10); (try clear B_l B_f B_0 B_1 B_2 B_3 B_4 B_5 B_6 B_7 B_8 B_9 B_10); (try clear hA hB)
       clear hR hU
       go_wp2_with fail
       refine bodyPost_ret (v := .tuple #[.agg #[.int .i64 pa.p, .int .i64 pa.party, .int .i64 pa.x, .int .i64 pa.mask, .int .i64 pa.delta, .slice E5 ns1 e5, .slice E6 nk1 e6, .int .i64 pa.step, .slice E8 en e8, .int .i64 pa.status, .int .i64 pa.out], .agg #[.int .i64 pb.p, .int .i64 pb.party, .int .i64 pb.x, .int .i64 pb.mask, .int .i64 pb.delta, .slice F5 ns3 f5, .slice F6 nk3 f6, .int .i64 pb.step, .slice F8 fn f8, .int .i64 pb.status, .int .i64 pb.out], .slice A' (n + 2) c']) (by rw [results_cct Tryd.results66]; simp [asAddr, load_player hR9 rfl, load_player hU9 rfl]) rfl ?_
       obtain ⟨y1, y2, y3, y4, y5, y6, y7, y8, y9⟩ := hF _ (Bl.a3)
       exact ⟨pa, pb, (sent ++ [msgP ra, msgP rb]), (taken ++ [mA, mB]), M', ⟨E5, E6, E8, ns1, e5, nk1, e6, en, e8, es⟩, ⟨F5, F6, F8, ns3, f5, nk3, f6, fn, f8, fs⟩, B1', T1', N1', T2', A', (n + 2), c', hs.out, rfl, (by rw [List.length_append, HLT.out]; rfl), (by omega), hle2, y1, y2, y3, y4, y5, y6, y7, y8, y9⟩
     ·have hs := Lib.hid (show runM a b l = ⟨pa, pb, sent ++ [msgP ra, msgP rb], taken ++ [mA, mB]⟩ by
       have a1 : accP ra mB = false := not_t (AC1.out.symm.trans e1)
       have r := run.out.stop hq2 (Or.inl (by rw [HMB.out]; exact a1))
       rw [HMB.out, HMA.out, EA.out, EB.out] at r
       exact r)
      go_wp2_with fail
      have rcd := rcZ.bl ((Bl.refl wc).drew)
      have hR : Blk wc.drew (w.heap.size + 1 + 1) 34 #[.int .i64 0, .int .i64 0, .int .i64 0, .int .i64 0, .int .i64 0, .slice none 0 0, .slice none 0 0, .int .i64 0, .slice none 0 0, .int .i64 0, .int .i64 0] := rcd.bR
      have hU : Blk wc.drew (w.heap.size + 1 + 1 + 1) 34 #[.int .i64 0, .int .i64 0, .int .i64 0, .int .i64 0, .int .i64 0, .slice none 0 0, .slice none 0 0, .int .i64 0, .slice none 0 0, .int .i64 0, .int .i64 0] := rcd.bT
      refine region_F (fun _ => True) (fun w' => w'.cell? ⟨w.heap.size, 0, none⟩ = some (.int .i64 pa.p) ∧ w'.cell? ⟨w.heap.size, 1, none⟩ = some (.int .i64 pa.party) ∧ w'.cell? ⟨w.heap.size, 2, none⟩ = some (.int .i64 pa.x) ∧ w'.cell? ⟨w.heap.size, 3, none⟩ = some (.int .i64 pa.mask) ∧ w'.cell? ⟨w.heap.size, 4, none⟩ = some (.int .i64 pa.delta) ∧ w'.cell? ⟨w.heap.size, 5, none⟩ = some (.slice E5 ns1 e5) ∧ w'.cell? ⟨w.heap.size, 6, none⟩ = some (.slice E6 nk1 e6) ∧ w'.cell? ⟨w.heap.size, 7, none⟩ = some (.int .i64 pa.step) ∧ w'.cell? ⟨w.heap.size, 8, none⟩ = some (.slice E8 en e8) ∧ w'.cell? ⟨w.heap.size, 9, none⟩ = some (.int .i64 pa.status) ∧ w'.cell? ⟨w.heap.size, 10, none⟩ = some (.int .i64 pa.out) ∧ w'.cell? ⟨w.heap.size + 1, 0, none⟩ = some (.int .i64 pb.p) ∧ w'.cell? ⟨w.heap.size + 1, 1, none⟩ = some (.int .i64 pb.party) ∧ w'.cell? ⟨w.heap.size + 1, 2, none⟩ = some (.int .i64 pb.x) ∧ w'.cell? ⟨w.heap.size + 1, 3, none⟩ = some (.int .i64 pb.mask) ∧ w'.cell? ⟨w.heap.size + 1, 4, none⟩ = some (.int .i64 pb.delta) ∧ w'.cell? ⟨w.heap.size + 1, 5, none⟩ = some (.slice F5 ns3 f5) ∧ w'.cell? ⟨w.heap.size + 1, 6, none⟩ = some (.slice F6 nk3 f6) ∧ w'.cell? ⟨w.heap.size + 1, 7, none⟩ = some (.int .i64 pb.step) ∧ w'.cell? ⟨w.heap.size + 1, 8, none⟩ = some (.slice F8 fn f8) ∧ w'.cell? ⟨w.heap.size + 1, 9, none⟩ = some (.int .i64 pb.status) ∧ w'.cell? ⟨w.heap.size + 1, 10, none⟩ = some (.int .i64 pb.out)) 4 (by kernel_rfl) ?_ (fun hHeld => ?_)
      ·(try dsimp only); exact ⟨trivial, A_0, A_1, A_2, A_3, A_4, A_5, A_6, A_7, A_8, A_9, A_10, B_0, B_1, B_2, B_3, B_4, B_5, B_6, B_7, B_8, B_9, B_10⟩
      refine tC 0 59 [0] ?_ hHeld
      refine tC 1 60 [1] ?_ hHeld
      refine tS 2 61 ?_ hHeld.1 (fun _ => hHeld.2)
      refine f_step (i := 3) (by kernel_rfl) rfl (fun K hK => ?_)
      refine wp_store_row 34 _ _ rfl (w.heap.size + 1 + 1) #[.int .i64 pa.p, .int .i64 pa.party, .int .i64 pa.x, .int .i64 pa.mask, .int .i64 pa.delta, .slice E5 ns1 e5, .slice E6 nk1 e6, .int .i64 pa.step, .slice E8 en e8, .int .i64 pa.status, .int .i64 pa.out] rfl rfl 34 #[.int .i64 0, .int .i64 0, .int .i64 0, .int .i64 0, .int .i64 0, .slice none 0 0, .slice none 0 0, .int .i64 0, .slice none 0 0, .int .i64 0, .int .i64 0] hR (by kernel_rfl) rfl (by first | rfl | simp [Value.oneCell'] | kernel_rfl) ?_
      refine ko hK ?_ fun hHeld => ?_
      ·(try dsimp only); exact ⟨trivial, (hA.farRow (by omega)).cell 0 _ rfl, (hA.farRow (by omega)).cell 1 _ rfl, (hA.farRow (by omega)).cell 2 _ rfl, (hA.farRow (by omega)).cell 3 _ rfl, (hA.farRow (by omega)).cell 4 _ rfl, (hA.farRow (by omega)).cell 5 _ rfl, (hA.farRow (by omega)).cell 6 _ rfl, (hA.farRow (by omega)).cell 7 _ rfl, (hA.farRow (by omega)).cell 8 _ rfl, (hA.farRow (by omega)).cell 9 _ rfl, (hA.farRow (by omega)).cell 10 _ rfl, (hB.farRow (by omega)).cell 0 _ rfl, (hB.farRow (by omega)).cell 1 _ rfl, (hB.farRow (by omega)).cell 2 _ rfl, (hB.farRow (by omega)).cell 3 _ rfl, (hB.farRow (by omega)).cell 4 _ rfl, (hB.farRow (by omega)).cell 5 _ rfl, (hB.farRow (by omega)).cell 6 _ rfl, (hB.farRow (by omega)).cell 7 _ rfl, (hB.farRow (by omega)).cell 8 _ rfl, (hB.farRow (by omega)).cell 9 _ rfl, (hB.farRow (by omega)).cell 10 _ rfl⟩
      clear hK K
      refine f_last (i := 4) (by kernel_rfl) rfl (by simp) (fun K hK => ?_)
      refine wp_store_row 34 _ _ rfl (w.heap.size + 1 + 1 + 1) #[.int .i64 pb.p, .int .i64 pb.party, .int .i64 pb.x, .int .i64 pb.mask, .int .i64 pb.delta, .slice F5 ns3 f5, .slice F6 nk3 f6, .int .i64 pb.step, .slice F8 fn f8, .int .i64 pb.status, .int .i64 pb.out] rfl rfl 34 #[.int .i64 0, .int .i64 0, .int .i64 0, .int .i64 0, .int .i64 0, .slice none 0 0, .slice none 0 0, .int .i64 0, .slice none 0 0, .int .i64 0, .int .i64 0] (hU.farRow (by omega)) (by kernel_rfl) rfl (by first | rfl | simp [Value.oneCell'] | kernel_rfl) ?_
      refine ko hK ?_ fun hHeld => ?_
      ·exact trivial
      clear hK K
      refine tS 5 8 ?_ hHeld (fun h => by simp at h)
      refine f_done (by kernel_rfl) ?_ _
      have hR9 : Blk ((wc.drew.setRow (w.heap.size + 1 + 1) #[.int .i64 pa.p, .int .i64 pa.party, .int .i64 pa.x, .int .i64 pa.mask, .int .i64 pa.delta, .slice E5 ns1 e5, .slice E6 nk1 e6, .int .i64 pa.step, .slice E8 en e8, .int .i64 pa.status, .int .i64 pa.out]).setRow (w.heap.size + 1 + 1 + 1) #[.int .i64 pb.p, .int .i64 pb.party, .int .i64 pb.x, .int .i64 pb.mask, .int .i64 pb.delta, .slice F5 ns3 f5, .slice F6 nk3 f6, .int .i64 pb.step, .slice F8 fn f8, .int .i64 pb.status, .int .i64 pb.out]) (w.heap.size + 1 + 1) 34 #[.int .i64 pa.p, .int .i64 pa.party, .int .i64 pa.x, .int .i64 pa.mask, .int .i64 pa.delta, .slice E5 ns1 e5, .slice E6 nk1 e6, .int .i64 pa.step, .slice E8 en e8, .int .i64 pa.status, .int .i64 pa.out] := (Blk.row hR).farRow (by omega)
      have hU9 : Blk ((wc.drew.setRow (w.heap.size + 1 + 1) #[.int .i64 pa.p, .int .i64 pa.party, .int .i64 pa.x, .int .i64 pa.mask, .int .i64 pa.delta, .slice E5 ns1 e5, .slice E6 nk1 e6, .int .i64 pa.step, .slice E8 en e8, .int .i64 pa.status, .int .i64 pa.out]).setRow (w.heap.size + 1 + 1 + 1) #[.int .i64 pb.p, .int .i64 pb.party, .int .i64 pb.x, .int .i64 pb.mask, .int .i64 pb.delta, .slice F5 ns3 f5, .slice F6 nk3 f6, .int .i64 pb.step, .slice F8 fn f8, .int .i64 pb.status, .int .i64 pb.out]) (w.heap.size + 1 + 1 + 1) 34 #[.int .i64 pb.p, .int .i64 pb.party, .int .i64 pb.x, .int .i64 pb.mask, .int .i64 pb.delta, .slice F5 ns3 f5, .slice F6 nk3 f6, .int .i64 pb.step, .slice F8 fn f8, .int .i64 pb.status, .int .i64 pb.out] := Blk.row (hU.farRow (by omega))
      have hF := fun (wx : World) (hb : Bl ((wc.drew.setRow (w.heap.size + 1 + 1) #[.int .i64 pa.p, .int .i64 pa.party, .int .i64 pa.x, .int .i64 pa.mask, .int .i64 pa.delta, .slice E5 ns1 e5, .slice E6 nk1 e6, .int .i64 pa.step, .slice E8 en e8, .int .i64 pa.status, .int .i64 pa.out]).setRow (w.heap.size + 1 + 1 + 1) #[.int .i64 pb.p, .int .i64 pb.party, .int .i64 pb.x, .int .i64 pb.mask, .int .i64 pb.delta, .slice F5 ns3 f5, .slice F6 nk3 f6, .int .i64 pb.step, .slice F8 fn f8, .int .i64 pb.status, .int .i64 pb.out]) wx) => RC.fin rcd hb
      generalize ((wc.drew.setRow (w.heap.size + 1 + 1) #[.int .i64 pa.p, .int .i64 pa.party, .int .i64 pa.x, .int .i64 pa.mask, .int .i64 pa.delta, .slice E5 ns1 e5, .slice E6 nk1 e6, .int .i64 pa.step, .slice E8 en e8, .int .i64 pa.status, .int .i64 pa.out]).setRow (w.heap.size + 1 + 1 + 1) #[.int .i64 pb.p, .int .i64 pb.party, .int .i64 pb.x, .int .i64 pb.mask, .int .i64 pb.delta, .slice F5 ns3 f5, .slice F6 nk3 f6, .int .i64 pb.step, .slice F8 fn f8, .int .i64 pb.status, .int .i64 pb.out]) = wf at hR9 hU9 hF ⊢
      (try clear A_l A_f A_0 A_1 A_2 A_3 A_4 A_5 A_6 A_7 A_8 A_9 A_10); (try clear B_l B_f B_0 B_1 B_2 B_3 B_4 B_5 B_6 B_7 B_8 B_9 B_10); (try clear hA hB)
      clear hR hU
      go_wp2_with fail
      refine bodyPost_ret (v := .tuple #[.agg #[.int .i64 pa.p, .int .i64 pa.party, .int .i64 pa.x, .int .i64 pa.mask, .int .i64 pa.delta, .slice E5 ns1 e5, .slice E6 nk1 e6, .int .i64 pa.step, .slice E8 en e8, .int .i64 pa.status, .int .i64 pa.out], .agg #[.int .i64 pb.p, .int .i64 pb.party, .int .i64 pb.x, .int .i64 pb.mask, .int .i64 pb.delta, .slice F5 ns3 f5, .slice F6 nk3 f6, .int .i64 pb.step, .slice F8 fn f8, .int .i64 pb.status, .int .i64 pb.out], .slice A' (n + 2) c']) (by rw [results_cct Tryd.results66]; simp [asAddr, load_player hR9 rfl, load_player hU9 rfl]) rfl ?_
      obtain ⟨y1, y2, y3, y4, y5, y6, y7, y8, y9⟩ := hF _ (Bl.a3)
      exact ⟨pa, pb, (sent ++ [msgP ra, msgP rb]), (taken ++ [mA, mB]), M', ⟨E5, E6, E8, ns1, e5, nk1, e6, en, e8, es⟩, ⟨F5, F6, F8, ns3, f5, nk3, f6, fn, f8, fs⟩, B1', T1', N1', T2', A', (n + 2), c', hs.out, rfl, (by rw [List.length_append, HLT.out]; rfl), (by omega), hle2, y1, y2, y3, y4, y5, y6, y7, y8, y9⟩
  ·have i1 : ¬ (q : Int) < 3 := by omega
   have HQ := Lib.hid (show q = 3 by omega)
   clear hq hqk
   go_wp2_with fail
   have rcd := rc.bl ((Bl.refl wr).drew)
   have hR : Blk wr.drew (w.heap.size + 1 + 1) 34 #[.int .i64 0, .int .i64 0, .int .i64 0, .int .i64 0, .int .i64 0, .slice none 0 0, .slice none 0 0, .int .i64 0, .slice none 0 0, .int .i64 0, .int .i64 0] := rcd.bR
   have hU : Blk wr.drew (w.heap.size + 1 + 1 + 1) 34 #[.int .i64 0, .int .i64 0, .int .i64 0, .int .i64 0, .int .i64 0, .slice none 0 0, .slice none 0 0, .int .i64 0, .slice none 0 0, .int .i64 0, .int .i64 0] := rcd.bT
   refine region_F (fun _ => True) (fun w' => w'.cell? ⟨w.heap.size, 0, none⟩ = some (.int .i64 ra.p) ∧ w'.cell? ⟨w.heap.size, 1, none⟩ = some (.int .i64 ra.party) ∧ w'.cell? ⟨w.heap.size, 2, none⟩ = some (.int .i64 ra.x) ∧ w'.cell? ⟨w.heap.size, 3, none⟩ = some (.int .i64 ra.mask) ∧ w'.cell? ⟨w.heap.size, 4, none⟩ = some (.int .i64 ra.delta) ∧ w'.cell? ⟨w.heap.size, 5, none⟩ = some (.slice As1 ns1 cs1) ∧ w'.cell? ⟨w.heap.size, 6, none⟩ = some (.slice Ak1 nk1 ck1) ∧ w'.cell? ⟨w.heap.size, 7, none⟩ = some (.int .i64 ra.step) ∧ w'.cell? ⟨w.heap.size, 8, none⟩ = some (.slice Ah1 nh1 ch1) ∧ w'.cell? ⟨w.heap.size, 9, none⟩ = some (.int .i64 ra.status) ∧ w'.cell? ⟨w.heap.size, 10, none⟩ = some (.int .i64 ra.out) ∧ w'.cell? ⟨w.heap.size + 1, 0, none⟩ = some (.int .i64 rb.p) ∧ w'.cell? ⟨w.heap.size + 1, 1, none⟩ = some (.int .i64 rb.party) ∧ w'.cell? ⟨w.heap.size + 1, 2, none⟩ = some (.int .i64 rb.x) ∧ w'.cell? ⟨w.heap.size + 1, 3, none⟩ = some (.int .i64 rb.mask) ∧ w'.cell? ⟨w.heap.size + 1, 4, none⟩ = some (.int .i64 rb.delta) ∧ w'.cell? ⟨w.heap.size + 1, 5, none⟩ = some (.slice As3 ns3 cs3) ∧ w'.cell? ⟨w.heap.size + 1, 6, none⟩ = some (.slice Ak3 nk3 ck3) ∧ w'.cell? ⟨w.heap.size + 1, 7, none⟩ = some (.int .i64 rb.step) ∧ w'.cell? ⟨w.heap.size + 1, 8, none⟩ = some (.slice Ah3 nh3 ch3) ∧ w'.cell? ⟨w.heap.size + 1, 9, none⟩ = some (.int .i64 rb.status) ∧ w'.cell? ⟨w.heap.size + 1, 10, none⟩ = some (.int .i64 rb.out)) 4 (by kernel_rfl) ?_ (fun hHeld => ?_)
   ·(try dsimp only); exact ⟨trivial, A_0, A_1, A_2, A_3, A_4, A_5, A_6, A_7, A_8, A_9, A_10, B_0, B_1, B_2, B_3, B_4, B_5, B_6, B_7, B_8, B_9, B_10⟩
   refine tC 0 59 [0] ?_ hHeld
   refine tC 1 60 [1] ?_ hHeld
   refine tS 2 61 ?_ hHeld.1 (fun _ => hHeld.2)
   refine f_step (i := 3) (by kernel_rfl) rfl (fun K hK => ?_)
   refine wp_store_row 34 _ _ rfl (w.heap.size + 1 + 1) #[.int .i64 ra.p, .int .i64 ra.party, .int .i64 ra.x, .int .i64 ra.mask, .int .i64 ra.delta, .slice As1 ns1 cs1, .slice Ak1 nk1 ck1, .int .i64 ra.step, .slice Ah1 nh1 ch1, .int .i64 ra.status, .int .i64 ra.out] rfl rfl 34 #[.int .i64 0, .int .i64 0, .int .i64 0, .int .i64 0, .int .i64 0, .slice none 0 0, .slice none 0 0, .int .i64 0, .slice none 0 0, .int .i64 0, .int .i64 0] hR (by kernel_rfl) rfl (by first | rfl | simp [Value.oneCell'] | kernel_rfl) ?_
   refine ko hK ?_ fun hHeld => ?_
   ·(try dsimp only); exact ⟨trivial, (hA.farRow (by omega)).cell 0 _ rfl, (hA.farRow (by omega)).cell 1 _ rfl, (hA.farRow (by omega)).cell 2 _ rfl, (hA.farRow (by omega)).cell 3 _ rfl, (hA.farRow (by omega)).cell 4 _ rfl, (hA.farRow (by omega)).cell 5 _ rfl, (hA.farRow (by omega)).cell 6 _ rfl, (hA.farRow (by omega)).cell 7 _ rfl, (hA.farRow (by omega)).cell 8 _ rfl, (hA.farRow (by omega)).cell 9 _ rfl, (hA.farRow (by omega)).cell 10 _ rfl, (hB.farRow (by omega)).cell 0 _ rfl, (hB.farRow (by omega)).cell 1 _ rfl, (hB.farRow (by omega)).cell 2 _ rfl, (hB.farRow (by omega)).cell 3 _ rfl, (hB.farRow (by omega)).cell 4 _ rfl, (hB.farRow (by omega)).cell 5 _ rfl, (hB.farRow (by omega)).cell 6 _ rfl, (hB.farRow (by omega)).cell 7 _ rfl, (hB.farRow (by omega)).cell 8 _ rfl, (hB.farRow (by omega)).cell 9 _ rfl, (hB.farRow (by omega)).cell 10 _ rfl⟩
   clear hK K
   refine f_last (i := 4) (by kernel_rfl) rfl (by simp) (fun K hK => ?_)
   refine wp_store_row 34 _ _ rfl (w.heap.size + 1 + 1 + 1) #[.int .i64 rb.p, .int .i64 rb.party, .int .i64 rb.x, .int .i64 rb.mask, .int .i64 rb.delta, .slice As3 ns3 cs3, .slice Ak3 nk3 ck3, .int .i64 rb.step, .slice Ah3 nh3 ch3, .int .i64 rb.status, .int .i64 rb.out] rfl rfl 34 #[.int .i64 0, .int .i64 0, .int .i64 0, .int .i64 0, .int .i64 0, .slice none 0 0, .slice none 0 0, .int .i64 0, .slice none 0 0, .int .i64 0, .int .i64 0] (hU.farRow (by omega)) (by kernel_rfl) rfl (by first | rfl | simp [Value.oneCell'] | kernel_rfl) ?_
   refine ko hK ?_ fun hHeld => ?_
   ·exact trivial
   clear hK K
   refine tS 5 8 ?_ hHeld (fun h => by simp at h)
   refine f_done (by kernel_rfl) ?_ _
   have hR9 : Blk ((wr.drew.setRow (w.heap.size + 1 + 1) #[.int .i64 ra.p, .int .i64 ra.party, .int .i64 ra.x, .int .i64 ra.mask, .int .i64 ra.delta, .slice As1 ns1 cs1, .slice Ak1 nk1 ck1, .int .i64 ra.step, .slice Ah1 nh1 ch1, .int .i64 ra.status, .int .i64 ra.out]).setRow (w.heap.size + 1 + 1 + 1) #[.int .i64 rb.p, .int .i64 rb.party, .int .i64 rb.x, .int .i64 rb.mask, .int .i64 rb.delta, .slice As3 ns3 cs3, .slice Ak3 nk3 ck3, .int .i64 rb.step, .slice Ah3 nh3 ch3, .int .i64 rb.status, .int .i64 rb.out]) (w.heap.size + 1 + 1) 34 #[.int .i64 ra.p, .int .i64 ra.party, .int .i64 ra.x, .int .i64 ra.mask, .int .i64 ra.delta, .slice As1 ns1 cs1, .slice Ak1 nk1 ck1, .int .i64 ra.step, .slice Ah1 nh1 ch1, .int .i64 ra.status, .int .i64 ra.out] := (Blk.row hR).farRow (by omega)
   have hU9 : Blk ((wr.drew.setRow (w.heap.size + 1 + 1) #[.int .i64 ra.p, .int .i64 ra.party, .int .i64 ra.x, .int .i64 ra.mask, .int .i64 ra.delta, .slice As1 ns1 cs1, .slice Ak1 nk1 ck1, .int .i64 ra.step, .slice Ah1 nh1 ch1, .int .i64 ra.status, .int .i64 ra.out]).setRow (w.heap.size + 1 + 1 + 1) #[.int .i64 rb.p, .int .i64 rb.party, .int .i64 rb.x, .int .i64 rb.mask, .int .i64 rb.delta, .slice As3 ns3 cs3, .slice Ak3 nk3 ck3, .int .i64 rb.step, .slice Ah3 nh3 ch3, .int .i64 rb.status, .int .i64 rb.out]) (w.heap.size + 1 + 1 + 1) 34 #[.int .i64 rb.p, .int .i64 rb.party, .int .i64 rb.x, .int .i64 rb.mask, .int .i64 rb.delta, .slice As3 ns3 cs3, .slice Ak3 nk3 ck3, .int .i64 rb.step, .slice Ah3 nh3 ch3, .int .i64 rb.status, .int .i64 rb.out] := Blk.row (hU.farRow (by omega))
   have hF := fun (wx : World) (hb : Bl ((wr.drew.setRow (w.heap.size + 1 + 1) #[.int .i64 ra.p, .int .i64 ra.party, .int .i64 ra.x, .int .i64 ra.mask, .int .i64 ra.delta, .slice As1 ns1 cs1, .slice Ak1 nk1 ck1, .int .i64 ra.step, .slice Ah1 nh1 ch1, .int .i64 ra.status, .int .i64 ra.out]).setRow (w.heap.size + 1 + 1 + 1) #[.int .i64 rb.p, .int .i64 rb.party, .int .i64 rb.x, .int .i64 rb.mask, .int .i64 rb.delta, .slice As3 ns3 cs3, .slice Ak3 nk3 ck3, .int .i64 rb.step, .slice Ah3 nh3 ch3, .int .i64 rb.status, .int .i64 rb.out]) wx) => RC.fin rcd hb
   generalize ((wr.drew.setRow (w.heap.size + 1 + 1) #[.int .i64 ra.p, .int .i64 ra.party, .int .i64 ra.x, .int .i64 ra.mask, .int .i64 ra.delta, .slice As1 ns1 cs1, .slice Ak1 nk1 ck1, .int .i64 ra.step, .slice Ah1 nh1 ch1, .int .i64 ra.status, .int .i64 ra.out]).setRow (w.heap.size + 1 + 1 + 1) #[.int .i64 rb.p, .int .i64 rb.party, .int .i64 rb.x, .int .i64 rb.mask, .int .i64 rb.delta, .slice As3 ns3 cs3, .slice Ak3 nk3 ck3, .int .i64 rb.step, .slice Ah3 nh3 ch3, .int .i64 rb.status, .int .i64 rb.out]) = wf at hR9 hU9 hF ⊢
   (try clear A_l A_f A_0 A_1 A_2 A_3 A_4 A_5 A_6 A_7 A_8 A_9 A_10); (try clear B_l B_f B_0 B_1 B_2 B_3 B_4 B_5 B_6 B_7 B_8 B_9 B_10); (try clear hA hB)
   clear hR hU
   go_wp2_with fail
   refine bodyPost_ret (v := .tuple #[.agg #[.int .i64 ra.p, .int .i64 ra.party, .int .i64 ra.x, .int .i64 ra.mask, .int .i64 ra.delta, .slice As1 ns1 cs1, .slice Ak1 nk1 ck1, .int .i64 ra.step, .slice Ah1 nh1 ch1, .int .i64 ra.status, .int .i64 ra.out], .agg #[.int .i64 rb.p, .int .i64 rb.party, .int .i64 rb.x, .int .i64 rb.mask, .int .i64 rb.delta, .slice As3 ns3 cs3, .slice Ak3 nk3 ck3, .int .i64 rb.step, .slice Ah3 nh3 ch3, .int .i64 rb.status, .int .i64 rb.out], .slice A n c]) (by rw [results_cct Tryd.results66]; simp [asAddr, load_player hR9 rfl, load_player hU9 rfl]) rfl ?_
   obtain ⟨y1, y2, y3, y4, y5, y6, y7, y8, y9⟩ := hF _ (Bl.a3)
   exact ⟨ra, rb, sent, taken, M, ⟨As1, Ak1, Ah1, ns1, cs1, nk1, ck1, nh1, ch1, hs1⟩, ⟨As3, Ak3, Ah3, ns3, cs3, nk3, ck3, nh3, ch3, hs3⟩, B1, T1, N1, T2, A, n, c, (by have r := run.out; rw [HQ.out] at r; exact r.done), rfl, (by have r := run.out.lt; have := hn.out; omega), (by have := hn.out; have := HQ.out; omega), hle, y1, y2, y3, y4, y5, y6, y7, y8, y9⟩
end Go.Proofs.YtcjpalhclgkjiaaDoor
