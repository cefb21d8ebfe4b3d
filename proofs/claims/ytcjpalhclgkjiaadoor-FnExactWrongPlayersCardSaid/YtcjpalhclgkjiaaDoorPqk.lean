/- Contracts: the program's run of two players, their messages meddled with.
   Conditions: both players are valid, the meddles too. -/
import Derived.Test.YtcjpalhclgkjiaaDoorPkj
import Derived.Test.YtcjpalhclgkjiaaDoorPqh
namespace Go.Proofs.YtcjpalhclgkjiaaDoor
open Go.RowKit
set_option linter.unusedVariables false
theorem OwnV.alloc_ {e size base n c : Nat} {w : World} {A : Option Addr} {xs : List Value} (h : OwnV e size base w A n c xs) (o : Obj) : OwnV e size base (w.alloc o) A n c xs := OwnV.keep h ((Bl.refl w).alloc o)
theorem one3 (f s : Int) (A : Option Addr) (n c : Nat) : ∀ u ∈ (#[.int .i64 f, .int .i64 s, .slice A n c] : Array Value).toList, u.oneCell' = true := by
 intro u hu
 simp only [List.mem_cons, List.not_mem_nil, or_false] at hu
 rcases hu with rfl | rfl | rfl <;> rfl
/-- The header of a message among six. -/
theorem six_at {w : World} {g : Nat} {M : List Hm} {k : Nat} {x : Hm} (h : Blk w g 101 (six M)) (hM : M.length = 6) (hx : M[k]? = some x) : w.cell? ⟨g, k * 3, none⟩ = some (.int .i64 x.f) ∧ w.cell? ⟨g, k * 3 + 1, none⟩ = some (.int .i64 x.s) ∧ w.cell? ⟨g, k * 3 + 2, none⟩ = some (.slice x.A x.n x.c) := by
 have hc : ∀ j u, j < 3 → (Hm.enc x)[j]? = some u → w.cell? ⟨g, k * 3 + j, none⟩ = some u := fun j u hj hu => h.cell _ _ (by
  unfold six
  rw [List.getElem?_toArray, encs_get Hm.enc_len M k j _ hx hj]
  exact hu)
 exact ⟨hc 0 _ (by omega) rfl, hc 1 _ (by omega) rfl, hc 2 _ (by omega) rfl⟩
theorem bodyP_len (a : Pl) : (bodyP a).length ≤ 4 := by
 unfold bodyP; split; simp; split <;> simp
theorem takenP_len {p : Int} {l : List Md} {at_ : Int} {m o : Ms} (hm : m.b.length ≤ 4) (ho : o.b.length ≤ 4) : (takenP p l at_ m o).b.length ≤ 4 := by
 unfold takenP
 split
 ·exact hm
 ·unfold meddled bent
  split
  ·simpa using hm
  ·split
   ·simp
   ·split
    ·exact ho
    ·exact hm
theorem getD_len {s : List Ms} (hs : ∀ m ∈ s, m.b.length ≤ 4) (i : Nat) : (s[i]?.getD ⟨0, 0, []⟩).b.length ≤ 4 := by
 rcases h : s[i]? with _ | m
 ·simp
 ·rw [Option.getD_some]; exact hs m (List.mem_of_getElem? h)
theorem runR_small (l : List Md) : ∀ (f : Nat) (r : Rn), (∀ m ∈ r.sent, m.b.length ≤ 4) → (∀ m ∈ r.taken, m.b.length ≤ 4) → ∀ m ∈ (runR l f r).taken, m.b.length ≤ 4
 | 0, r, _, h => h
 | f + 1, r, hs, h => by
  cases hr : runsR r
  ·rw [runR_stop hr]; exact h
  ·rw [runR_next hr]
   refine runR_small l f _ (fun m hm => ?_) (fun m hm => ?_)
   ·rw [stepR_eq] at hm
    rcases List.mem_append.1 hm with h1 | h1
    ·exact hs m h1
    ·simp only [List.mem_cons, List.not_mem_nil, or_false] at h1
     rcases h1 with rfl | rfl <;> exact bodyP_len _
   ·rw [stepR_eq] at hm
    rcases List.mem_append.1 hm with h1 | h1
    ·exact h m h1
    ·simp only [List.mem_cons, List.not_mem_nil, or_false] at h1
     rcases h1 with rfl | rfl
     ·exact takenP_len (bodyP_len _) (getD_len hs _)
     ·exact takenP_len (bodyP_len _) (getD_len hs _)
theorem runM_small (a b : Pl) (l : List Md) : ∀ m ∈ (runM a b l).taken, m.b.length ≤ 4 := runR_small l 3 _ (by simp) (by simp)
theorem six_zero : six six0 = #[.int .i64 0, .int .i64 0, .slice none 0 0, .int .i64 0, .int .i64 0, .slice none 0 0, .int .i64 0, .int .i64 0, .slice none 0 0, .int .i64 0, .int .i64 0, .slice none 0 0, .int .i64 0, .int .i64 0, .slice none 0 0, .int .i64 0, .int .i64 0, .slice none 0 0] := rfl
set_option maxRecDepth 20000 in
set_option maxHeartbeats 4000000 in
theorem impl_runMeddled (a b : Pl) (As Ak Ah : Option Addr) (ns cs nk ck nh ch : Nat) (hs : List Hd) (As2 Ak2 Ah2 : Option Addr) (ns2 cs2 nk2 ck2 nh2 ch2 : Nat) (hs2 : List Hd) (Al : Option Addr) (nl cl : Nat) (l : List Md) (w : World) (hTb : Tab w) (hl : RdMd w Al nl cl l) (hml : mdsB a.p l = true) (two : twoB a b = true) (ha : RdP w a As Ak Ah ns cs nk ck nh ch hs) (hb : RdP w b As2 Ak2 Ah2 ns2 cs2 nk2 ck2 nh2 ch2 hs2) :
  Calls Tryd.prog 50 #[.agg #[.int .i64 a.p, .int .i64 a.party, .int .i64 a.x, .int .i64 a.mask, .int .i64 a.delta, .slice As ns cs, .slice Ak nk ck, .int .i64 a.step, .slice Ah nh ch, .int .i64 a.status, .int .i64 a.out], .agg #[.int .i64 b.p, .int .i64 b.party, .int .i64 b.x, .int .i64 b.mask, .int .i64 b.delta, .slice As2 ns2 cs2, .slice Ak2 nk2 ck2, .int .i64 b.step, .slice Ah2 nh2 ch2, .int .i64 b.status, .int .i64 b.out], .slice Al nl cl] w fun e w' => ∃ ra rb sent taken s1 s2 A n c, runM a b l = ⟨ra, rb, sent, taken⟩ ∧ e = .returned (.tuple #[valP ra s1, valP rb s2, .slice A n c]) ∧ n = taken.length ∧ Bl w w' := by
 have hW : Bl w (((((w.alloc (.cells #[.int .i64 a.p, .int .i64 a.party, .int .i64 a.x, .int .i64 a.mask, .int .i64 a.delta, .slice As ns cs, .slice Ak nk ck, .int .i64 a.step, .slice Ah nh ch, .int .i64 a.status, .int .i64 a.out] 34)).alloc (.cells #[.int .i64 b.p, .int .i64 b.party, .int .i64 b.x, .int .i64 b.mask, .int .i64 b.delta, .slice As2 ns2 cs2, .slice Ak2 nk2 ck2, .int .i64 b.step, .slice Ah2 nh2 ch2, .int .i64 b.status, .int .i64 b.out] 34)).alloc (.cells #[.slice Al nl cl] 36)).alloc (.cells #[.int .i64 0, .int .i64 0, .int .i64 0, .int .i64 0, .int .i64 0, .slice none 0 0, .slice none 0 0, .int .i64 0, .slice none 0 0, .int .i64 0, .int .i64 0] 34)).alloc (.cells #[.int .i64 0, .int .i64 0, .int .i64 0, .int .i64 0, .int .i64 0, .slice none 0 0, .slice none 0 0, .int .i64 0, .slice none 0 0, .int .i64 0, .int .i64 0] 34)) := Bl.a2
 have hA : Blk (((((w.alloc (.cells #[.int .i64 a.p, .int .i64 a.party, .int .i64 a.x, .int .i64 a.mask, .int .i64 a.delta, .slice As ns cs, .slice Ak nk ck, .int .i64 a.step, .slice Ah nh ch, .int .i64 a.status, .int .i64 a.out] 34)).alloc (.cells #[.int .i64 b.p, .int .i64 b.party, .int .i64 b.x, .int .i64 b.mask, .int .i64 b.delta, .slice As2 ns2 cs2, .slice Ak2 nk2 ck2, .int .i64 b.step, .slice Ah2 nh2 ch2, .int .i64 b.status, .int .i64 b.out] 34)).alloc (.cells #[.slice Al nl cl] 36)).alloc (.cells #[.int .i64 0, .int .i64 0, .int .i64 0, .int .i64 0, .int .i64 0, .slice none 0 0, .slice none 0 0, .int .i64 0, .slice none 0 0, .int .i64 0, .int .i64 0] 34)).alloc (.cells #[.int .i64 0, .int .i64 0, .int .i64 0, .int .i64 0, .int .i64 0, .slice none 0 0, .slice none 0 0, .int .i64 0, .slice none 0 0, .int .i64 0, .int .i64 0] 34)) (w.heap.size) 34 #[.int .i64 a.p, .int .i64 a.party, .int .i64 a.x, .int .i64 a.mask, .int .i64 a.delta, .slice As ns cs, .slice Ak nk ck, .int .i64 a.step, .slice Ah nh ch, .int .i64 a.status, .int .i64 a.out] := (((((Blk.new w 34 #[.int .i64 a.p, .int .i64 a.party, .int .i64 a.x, .int .i64 a.mask, .int .i64 a.delta, .slice As ns cs, .slice Ak nk ck, .int .i64 a.step, .slice Ah nh ch, .int .i64 a.status, .int .i64 a.out] (g := w.heap.size)).alloc (.cells #[.int .i64 b.p, .int .i64 b.party, .int .i64 b.x, .int .i64 b.mask, .int .i64 b.delta, .slice As2 ns2 cs2, .slice Ak2 nk2 ck2, .int .i64 b.step, .slice Ah2 nh2 ch2, .int .i64 b.status, .int .i64 b.out] 34)).alloc (.cells #[.slice Al nl cl] 36)).alloc (.cells #[.int .i64 0, .int .i64 0, .int .i64 0, .int .i64 0, .int .i64 0, .slice none 0 0, .slice none 0 0, .int .i64 0, .slice none 0 0, .int .i64 0, .int .i64 0] 34)).alloc (.cells #[.int .i64 0, .int .i64 0, .int .i64 0, .int .i64 0, .int .i64 0, .slice none 0 0, .slice none 0 0, .int .i64 0, .slice none 0 0, .int .i64 0, .int .i64 0] 34))
 have hB : Blk (((((w.alloc (.cells #[.int .i64 a.p, .int .i64 a.party, .int .i64 a.x, .int .i64 a.mask, .int .i64 a.delta, .slice As ns cs, .slice Ak nk ck, .int .i64 a.step, .slice Ah nh ch, .int .i64 a.status, .int .i64 a.out] 34)).alloc (.cells #[.int .i64 b.p, .int .i64 b.party, .int .i64 b.x, .int .i64 b.mask, .int .i64 b.delta, .slice As2 ns2 cs2, .slice Ak2 nk2 ck2, .int .i64 b.step, .slice Ah2 nh2 ch2, .int .i64 b.status, .int .i64 b.out] 34)).alloc (.cells #[.slice Al nl cl] 36)).alloc (.cells #[.int .i64 0, .int .i64 0, .int .i64 0, .int .i64 0, .int .i64 0, .slice none 0 0, .slice none 0 0, .int .i64 0, .slice none 0 0, .int .i64 0, .int .i64 0] 34)).alloc (.cells #[.int .i64 0, .int .i64 0, .int .i64 0, .int .i64 0, .int .i64 0, .slice none 0 0, .slice none 0 0, .int .i64 0, .slice none 0 0, .int .i64 0, .int .i64 0] 34)) (w.heap.size + 1) 34 #[.int .i64 b.p, .int .i64 b.party, .int .i64 b.x, .int .i64 b.mask, .int .i64 b.delta, .slice As2 ns2 cs2, .slice Ak2 nk2 ck2, .int .i64 b.step, .slice Ah2 nh2 ch2, .int .i64 b.status, .int .i64 b.out] := ((((Blk.new (w.alloc (.cells #[.int .i64 a.p, .int .i64 a.party, .int .i64 a.x, .int .i64 a.mask, .int .i64 a.delta, .slice As ns cs, .slice Ak nk ck, .int .i64 a.step, .slice Ah nh ch, .int .i64 a.status, .int .i64 a.out] 34)) 34 #[.int .i64 b.p, .int .i64 b.party, .int .i64 b.x, .int .i64 b.mask, .int .i64 b.delta, .slice As2 ns2 cs2, .slice Ak2 nk2 ck2, .int .i64 b.step, .slice Ah2 nh2 ch2, .int .i64 b.status, .int .i64 b.out] (g := w.heap.size + 1)).alloc (.cells #[.slice Al nl cl] 36)).alloc (.cells #[.int .i64 0, .int .i64 0, .int .i64 0, .int .i64 0, .int .i64 0, .slice none 0 0, .slice none 0 0, .int .i64 0, .slice none 0 0, .int .i64 0, .int .i64 0] 34)).alloc (.cells #[.int .i64 0, .int .i64 0, .int .i64 0, .int .i64 0, .int .i64 0, .slice none 0 0, .slice none 0 0, .int .i64 0, .slice none 0 0, .int .i64 0, .int .i64 0] 34))
 have hL : Blk (((((w.alloc (.cells #[.int .i64 a.p, .int .i64 a.party, .int .i64 a.x, .int .i64 a.mask, .int .i64 a.delta, .slice As ns cs, .slice Ak nk ck, .int .i64 a.step, .slice Ah nh ch, .int .i64 a.status, .int .i64 a.out] 34)).alloc (.cells #[.int .i64 b.p, .int .i64 b.party, .int .i64 b.x, .int .i64 b.mask, .int .i64 b.delta, .slice As2 ns2 cs2, .slice Ak2 nk2 ck2, .int .i64 b.step, .slice Ah2 nh2 ch2, .int .i64 b.status, .int .i64 b.out] 34)).alloc (.cells #[.slice Al nl cl] 36)).alloc (.cells #[.int .i64 0, .int .i64 0, .int .i64 0, .int .i64 0, .int .i64 0, .slice none 0 0, .slice none 0 0, .int .i64 0, .slice none 0 0, .int .i64 0, .int .i64 0] 34)).alloc (.cells #[.int .i64 0, .int .i64 0, .int .i64 0, .int .i64 0, .int .i64 0, .slice none 0 0, .slice none 0 0, .int .i64 0, .slice none 0 0, .int .i64 0, .int .i64 0] 34)) (w.heap.size + 1 + 1) 36 #[.slice Al nl cl] := (((Blk.new ((w.alloc (.cells #[.int .i64 a.p, .int .i64 a.party, .int .i64 a.x, .int .i64 a.mask, .int .i64 a.delta, .slice As ns cs, .slice Ak nk ck, .int .i64 a.step, .slice Ah nh ch, .int .i64 a.status, .int .i64 a.out] 34)).alloc (.cells #[.int .i64 b.p, .int .i64 b.party, .int .i64 b.x, .int .i64 b.mask, .int .i64 b.delta, .slice As2 ns2 cs2, .slice Ak2 nk2 ck2, .int .i64 b.step, .slice Ah2 nh2 ch2, .int .i64 b.status, .int .i64 b.out] 34)) 36 #[.slice Al nl cl] (g := w.heap.size + 1 + 1)).alloc (.cells #[.int .i64 0, .int .i64 0, .int .i64 0, .int .i64 0, .int .i64 0, .slice none 0 0, .slice none 0 0, .int .i64 0, .slice none 0 0, .int .i64 0, .int .i64 0] 34)).alloc (.cells #[.int .i64 0, .int .i64 0, .int .i64 0, .int .i64 0, .int .i64 0, .slice none 0 0, .slice none 0 0, .int .i64 0, .slice none 0 0, .int .i64 0, .int .i64 0] 34))
 have hR : Blk (((((w.alloc (.cells #[.int .i64 a.p, .int .i64 a.party, .int .i64 a.x, .int .i64 a.mask, .int .i64 a.delta, .slice As ns cs, .slice Ak nk ck, .int .i64 a.step, .slice Ah nh ch, .int .i64 a.status, .int .i64 a.out] 34)).alloc (.cells #[.int .i64 b.p, .int .i64 b.party, .int .i64 b.x, .int .i64 b.mask, .int .i64 b.delta, .slice As2 ns2 cs2, .slice Ak2 nk2 ck2, .int .i64 b.step, .slice Ah2 nh2 ch2, .int .i64 b.status, .int .i64 b.out] 34)).alloc (.cells #[.slice Al nl cl] 36)).alloc (.cells #[.int .i64 0, .int .i64 0, .int .i64 0, .int .i64 0, .int .i64 0, .slice none 0 0, .slice none 0 0, .int .i64 0, .slice none 0 0, .int .i64 0, .int .i64 0] 34)).alloc (.cells #[.int .i64 0, .int .i64 0, .int .i64 0, .int .i64 0, .int .i64 0, .slice none 0 0, .slice none 0 0, .int .i64 0, .slice none 0 0, .int .i64 0, .int .i64 0] 34)) (w.heap.size + 1 + 1 + 1) 34 #[.int .i64 0, .int .i64 0, .int .i64 0, .int .i64 0, .int .i64 0, .slice none 0 0, .slice none 0 0, .int .i64 0, .slice none 0 0, .int .i64 0, .int .i64 0] := ((Blk.new (((w.alloc (.cells #[.int .i64 a.p, .int .i64 a.party, .int .i64 a.x, .int .i64 a.mask, .int .i64 a.delta, .slice As ns cs, .slice Ak nk ck, .int .i64 a.step, .slice Ah nh ch, .int .i64 a.status, .int .i64 a.out] 34)).alloc (.cells #[.int .i64 b.p, .int .i64 b.party, .int .i64 b.x, .int .i64 b.mask, .int .i64 b.delta, .slice As2 ns2 cs2, .slice Ak2 nk2 ck2, .int .i64 b.step, .slice Ah2 nh2 ch2, .int .i64 b.status, .int .i64 b.out] 34)).alloc (.cells #[.slice Al nl cl] 36)) 34 #[.int .i64 0, .int .i64 0, .int .i64 0, .int .i64 0, .int .i64 0, .slice none 0 0, .slice none 0 0, .int .i64 0, .slice none 0 0, .int .i64 0, .int .i64 0] (g := w.heap.size + 1 + 1 + 1)).alloc (.cells #[.int .i64 0, .int .i64 0, .int .i64 0, .int .i64 0, .int .i64 0, .slice none 0 0, .slice none 0 0, .int .i64 0, .slice none 0 0, .int .i64 0, .int .i64 0] 34))
 have hU : Blk (((((w.alloc (.cells #[.int .i64 a.p, .int .i64 a.party, .int .i64 a.x, .int .i64 a.mask, .int .i64 a.delta, .slice As ns cs, .slice Ak nk ck, .int .i64 a.step, .slice Ah nh ch, .int .i64 a.status, .int .i64 a.out] 34)).alloc (.cells #[.int .i64 b.p, .int .i64 b.party, .int .i64 b.x, .int .i64 b.mask, .int .i64 b.delta, .slice As2 ns2 cs2, .slice Ak2 nk2 ck2, .int .i64 b.step, .slice Ah2 nh2 ch2, .int .i64 b.status, .int .i64 b.out] 34)).alloc (.cells #[.slice Al nl cl] 36)).alloc (.cells #[.int .i64 0, .int .i64 0, .int .i64 0, .int .i64 0, .int .i64 0, .slice none 0 0, .slice none 0 0, .int .i64 0, .slice none 0 0, .int .i64 0, .int .i64 0] 34)).alloc (.cells #[.int .i64 0, .int .i64 0, .int .i64 0, .int .i64 0, .int .i64 0, .slice none 0 0, .slice none 0 0, .int .i64 0, .slice none 0 0, .int .i64 0, .int .i64 0] 34)) (w.heap.size + 1 + 1 + 1 + 1) 34 #[.int .i64 0, .int .i64 0, .int .i64 0, .int .i64 0, .int .i64 0, .slice none 0 0, .slice none 0 0, .int .i64 0, .slice none 0 0, .int .i64 0, .int .i64 0] := (Blk.new ((((w.alloc (.cells #[.int .i64 a.p, .int .i64 a.party, .int .i64 a.x, .int .i64 a.mask, .int .i64 a.delta, .slice As ns cs, .slice Ak nk ck, .int .i64 a.step, .slice Ah nh ch, .int .i64 a.status, .int .i64 a.out] 34)).alloc (.cells #[.int .i64 b.p, .int .i64 b.party, .int .i64 b.x, .int .i64 b.mask, .int .i64 b.delta, .slice As2 ns2 cs2, .slice Ak2 nk2 ck2, .int .i64 b.step, .slice Ah2 nh2 ch2, .int .i64 b.status, .int .i64 b.out] 34)).alloc (.cells #[.slice Al nl cl] 36)).alloc (.cells #[.int .i64 0, .int .i64 0, .int .i64 0, .int .i64 0, .int .i64 0, .slice none 0 0, .slice none 0 0, .int .i64 0, .slice none 0 0, .int .i64 0, .int .i64 0] 34)) 34 #[.int .i64 0, .int .i64 0, .int .i64 0, .int .i64 0, .int .i64 0, .slice none 0 0, .slice none 0 0, .int .i64 0, .slice none 0 0, .int .i64 0, .int .i64 0] (g := w.heap.size + 1 + 1 + 1 + 1))
 have hlW := hl.keep hW
 have haW := ha.keep hW
 have hbW := hb.keep hW
 have hTW := hTb.keep hW
 go_enter Tryd.func50, Tryd.ntmps50
 go_upto_region 1 with fail
 have hz5 := Lib.hid (show (((((w.alloc (.cells #[.int .i64 a.p, .int .i64 a.party, .int .i64 a.x, .int .i64 a.mask, .int .i64 a.delta, .slice As ns cs, .slice Ak nk ck, .int .i64 a.step, .slice Ah nh ch, .int .i64 a.status, .int .i64 a.out] 34)).alloc (.cells #[.int .i64 b.p, .int .i64 b.party, .int .i64 b.x, .int .i64 b.mask, .int .i64 b.delta, .slice As2 ns2 cs2, .slice Ak2 nk2 ck2, .int .i64 b.step, .slice Ah2 nh2 ch2, .int .i64 b.status, .int .i64 b.out] 34)).alloc (.cells #[.slice Al nl cl] 36)).alloc (.cells #[.int .i64 0, .int .i64 0, .int .i64 0, .int .i64 0, .int .i64 0, .slice none 0 0, .slice none 0 0, .int .i64 0, .slice none 0 0, .int .i64 0, .int .i64 0] 34)).alloc (.cells #[.int .i64 0, .int .i64 0, .int .i64 0, .int .i64 0, .int .i64 0, .slice none 0 0, .slice none 0 0, .int .i64 0, .slice none 0 0, .int .i64 0, .int .i64 0] 34)).heap.size = w.heap.size + 5 by simp)
 generalize (((((w.alloc (.cells #[.int .i64 a.p, .int .i64 a.party, .int .i64 a.x, .int .i64 a.mask, .int .i64 a.delta, .slice As ns cs, .slice Ak nk ck, .int .i64 a.step, .slice Ah nh ch, .int .i64 a.status, .int .i64 a.out] 34)).alloc (.cells #[.int .i64 b.p, .int .i64 b.party, .int .i64 b.x, .int .i64 b.mask, .int .i64 b.delta, .slice As2 ns2 cs2, .slice Ak2 nk2 ck2, .int .i64 b.step, .slice Ah2 nh2 ch2, .int .i64 b.status, .int .i64 b.out] 34)).alloc (.cells #[.slice Al nl cl] 36)).alloc (.cells #[.int .i64 0, .int .i64 0, .int .i64 0, .int .i64 0, .int .i64 0, .slice none 0 0, .slice none 0 0, .int .i64 0, .slice none 0 0, .int .i64 0, .int .i64 0] 34)).alloc (.cells #[.int .i64 0, .int .i64 0, .int .i64 0, .int .i64 0, .int .i64 0, .slice none 0 0, .slice none 0 0, .int .i64 0, .slice none 0 0, .int .i64 0, .int .i64 0] 34)) = w0 at hW hA hB hL hR hU hlW haW hbW hTW hz5 ⊢
 clear hl ha hb hTb
 go_cut [9, 10] (fun s9 s10 wx => ∃ gs gt, s9 = .pointer (some ⟨gs, 0, none⟩) ∧ s10 = .pointer (some ⟨gt, 0, none⟩) ∧ w0.heap.size ≤ gs ∧ w0.heap.size ≤ gt ∧ gs ≠ gt ∧ Blk wx gs 101 #[.int .i64 0, .int .i64 0, .slice none 0 0, .int .i64 0, .int .i64 0, .slice none 0 0, .int .i64 0, .int .i64 0, .slice none 0 0, .int .i64 0, .int .i64 0, .slice none 0 0, .int .i64 0, .int .i64 0, .slice none 0 0, .int .i64 0, .int .i64 0, .slice none 0 0] ∧ Blk wx gt 101 #[.int .i64 0, .int .i64 0, .slice none 0 0, .int .i64 0, .int .i64 0, .slice none 0 0, .int .i64 0, .int .i64 0, .slice none 0 0, .int .i64 0, .int .i64 0, .slice none 0 0, .int .i64 0, .int .i64 0, .slice none 0 0, .int .i64 0, .int .i64 0, .slice none 0 0] ∧ Bl w0 wx)
 case first =>
  have hS := (Blk.new w0 101 #[.int .i64 0, .int .i64 0, .slice none 0 0, .int .i64 0, .int .i64 0, .slice none 0 0, .int .i64 0, .int .i64 0, .slice none 0 0, .int .i64 0, .int .i64 0, .slice none 0 0, .int .i64 0, .int .i64 0, .slice none 0 0, .int .i64 0, .int .i64 0, .slice none 0 0] (g := w0.heap.size)).alloc (.cells #[.int .i64 0, .int .i64 0, .slice none 0 0, .int .i64 0, .int .i64 0, .slice none 0 0, .int .i64 0, .int .i64 0, .slice none 0 0, .int .i64 0, .int .i64 0, .slice none 0 0, .int .i64 0, .int .i64 0, .slice none 0 0, .int .i64 0, .int .i64 0, .slice none 0 0] 101)
  have hT := Blk.new (w0.alloc (.cells #[.int .i64 0, .int .i64 0, .slice none 0 0, .int .i64 0, .int .i64 0, .slice none 0 0, .int .i64 0, .int .i64 0, .slice none 0 0, .int .i64 0, .int .i64 0, .slice none 0 0, .int .i64 0, .int .i64 0, .slice none 0 0, .int .i64 0, .int .i64 0, .slice none 0 0] 101)) 101 #[.int .i64 0, .int .i64 0, .slice none 0 0, .int .i64 0, .int .i64 0, .slice none 0 0, .int .i64 0, .int .i64 0, .slice none 0 0, .int .i64 0, .int .i64 0, .slice none 0 0, .int .i64 0, .int .i64 0, .slice none 0 0, .int .i64 0, .int .i64 0, .slice none 0 0] (g := w0.heap.size + 1)
  have hS1 := Lib.hid hS
  have hT1 := Lib.hid hT
  have hV : Bl w0 ((w0.alloc (.cells #[.int .i64 0, .int .i64 0, .slice none 0 0, .int .i64 0, .int .i64 0, .slice none 0 0, .int .i64 0, .int .i64 0, .slice none 0 0, .int .i64 0, .int .i64 0, .slice none 0 0, .int .i64 0, .int .i64 0, .slice none 0 0, .int .i64 0, .int .i64 0, .slice none 0 0] 101)).alloc (.cells #[.int .i64 0, .int .i64 0, .slice none 0 0, .int .i64 0, .int .i64 0, .slice none 0 0, .int .i64 0, .int .i64 0, .slice none 0 0, .int .i64 0, .int .i64 0, .slice none 0 0, .int .i64 0, .int .i64 0, .slice none 0 0, .int .i64 0, .int .i64 0, .slice none 0 0] 101)) := ((Bl.refl _).alloc _).alloc _
  go_wp2_with (first | (refine wpList_plain rfl fun K hK => ?_; refine wp_store_row 101 _ _ rfl (w0.heap.size) #[.int .i64 0, .int .i64 0, .slice none 0 0, .int .i64 0, .int .i64 0, .slice none 0 0, .int .i64 0, .int .i64 0, .slice none 0 0, .int .i64 0, .int .i64 0, .slice none 0 0, .int .i64 0, .int .i64 0, .slice none 0 0, .int .i64 0, .int .i64 0, .slice none 0 0] rfl rfl 101 #[.int .i64 0, .int .i64 0, .slice none 0 0, .int .i64 0, .int .i64 0, .slice none 0 0, .int .i64 0, .int .i64 0, .slice none 0 0, .int .i64 0, .int .i64 0, .slice none 0 0, .int .i64 0, .int .i64 0, .slice none 0 0, .int .i64 0, .int .i64 0, .slice none 0 0] hS (by kernel_rfl) rfl (by first | rfl | simp [Value.oneCell'] | kernel_rfl) ?_; refine hK _ _ ?_; clear hK K hS) | (refine wpList_plain rfl fun K hK => ?_; refine wp_store_row 101 _ _ rfl (w0.heap.size + 1) #[.int .i64 0, .int .i64 0, .slice none 0 0, .int .i64 0, .int .i64 0, .slice none 0 0, .int .i64 0, .int .i64 0, .slice none 0 0, .int .i64 0, .int .i64 0, .slice none 0 0, .int .i64 0, .int .i64 0, .slice none 0 0, .int .i64 0, .int .i64 0, .slice none 0 0] rfl rfl 101 #[.int .i64 0, .int .i64 0, .slice none 0 0, .int .i64 0, .int .i64 0, .slice none 0 0, .int .i64 0, .int .i64 0, .slice none 0 0, .int .i64 0, .int .i64 0, .slice none 0 0, .int .i64 0, .int .i64 0, .slice none 0 0, .int .i64 0, .int .i64 0, .slice none 0 0] (hT.farRow (by omega)) (by kernel_rfl) rfl (by first | rfl | simp [Value.oneCell'] | kernel_rfl) ?_; refine hK _ _ ?_; clear hK K hT))
  go_meet
  exact ⟨w0.heap.size, w0.heap.size + 1, rfl, rfl, Nat.le_refl _, by omega, by omega, (Blk.row hS1.out).farRow (by omega), Blk.row (hT1.out.farRow (by omega)), (hV.row (by omega) _).row (by omega) _⟩
 case rest =>
 obtain ⟨gs, gt, rfl, rfl, hgs, hgt, hne, hS, hT, hV⟩ := hcut
 have HC := Lib.hid (impl_runPlayers a b As Ak Ah ns cs nk ck nh ch hs As2 Ak2 Ah2 ns2 cs2 nk2 ck2 nh2 ch2 hs2 gs gt (w.heap.size + 1 + 1) w.heap.size Al nl cl l w0 wc hTW hV hgs hgt hne (hL.cell 0 _ rfl) (hA.cell 0 _ rfl) hlW hml two (haW.keep hV) (hbW.keep hV) (by rw [six_zero]; exact hS) (by rw [six_zero]; exact hT))
 replace hA := hA.keep hV
 replace hB := hB.keep hV
 replace hR := hR.keep hV
 replace hU := hU.keep hV
 replace hW := hW.call hV
 have hzA : w.heap.size + 5 ≤ w0.heap.size := by have := hz5.out; omega
 clear hL hlW haW hbW hTW hV hS hT
 obtain ⟨A_l, A_f, A_0, A_1, A_2, A_3, A_4, A_5, A_6, A_7, A_8, A_9, A_10⟩ := hA.l11
 obtain ⟨B_l, B_f, B_0, B_1, B_2, B_3, B_4, B_5, B_6, B_7, B_8, B_9, B_10⟩ := hB.l11
 go_wp2_with fail
 refine HC.out.mono ?_
 rintro e w1 ⟨ra, rb, sent, taken, M, ⟨P5, P6, P8, np5, p5, np6, p6, np8, p8, ps⟩, ⟨R5, R6, R8, nr5, r5, nr6, r6, nr8, r8, rs_⟩, B1, X1, N1, X2, A, n, c, hrun, rfl, hnt, hn6, hnc, -, -, -, -, -, hM6, hT, hrt, hg⟩
 have HRUN := Lib.hid hrun
 have HNT := Lib.hid hnt
 have HRT := Lib.hid hrt
 have nT : ∀ k, k < w.heap.size + 5 → ¬ Two gs gt k := fun k hk e => by rcases e with e | e <;> omega
 have hW1 : Bl w w1 := hW.gp hg (fun k e => by rcases e with e | e <;> omega)
 replace hR := hR.gp hg (nT _ (by omega))
 replace hU := hU.gp hg (nT _ (by omega))
 clear hrun hnt hrt hA hB hW hg nT
 (try clear A_l A_f A_0 A_1 A_2 A_3 A_4 A_5 A_6 A_7 A_8 A_9 A_10)
 (try clear B_l B_f B_0 B_1 B_2 B_3 B_4 B_5 B_6 B_7 B_8 B_9 B_10)
 have hz1 : w.heap.size + 5 ≤ w1.heap.size := by have := hT.lt; omega
 have hV1 := (((Bl.refl w1).alloc (.cells #[.int .i64 ra.p, .int .i64 ra.party, .int .i64 ra.x, .int .i64 ra.mask, .int .i64 ra.delta, .slice P5 np5 p5, .slice P6 np6 p6, .int .i64 ra.step, .slice P8 np8 p8, .int .i64 ra.status, .int .i64 ra.out] 34)).alloc (.cells #[.int .i64 rb.p, .int .i64 rb.party, .int .i64 rb.x, .int .i64 rb.mask, .int .i64 rb.delta, .slice R5 nr5 r5, .slice R6 nr6 r6, .int .i64 rb.step, .slice R8 nr8 r8, .int .i64 rb.status, .int .i64 rb.out] 34))
 have hO := (Blk.new w1 34 #[.int .i64 ra.p, .int .i64 ra.party, .int .i64 ra.x, .int .i64 ra.mask, .int .i64 ra.delta, .slice P5 np5 p5, .slice P6 np6 p6, .int .i64 ra.step, .slice P8 np8 p8, .int .i64 ra.status, .int .i64 ra.out] (g := w1.heap.size)).alloc (.cells #[.int .i64 rb.p, .int .i64 rb.party, .int .i64 rb.x, .int .i64 rb.mask, .int .i64 rb.delta, .slice R5 nr5 r5, .slice R6 nr6 r6, .int .i64 rb.step, .slice R8 nr8 r8, .int .i64 rb.status, .int .i64 rb.out] 34)
 have hQ := Blk.new (w1.alloc (.cells #[.int .i64 ra.p, .int .i64 ra.party, .int .i64 ra.x, .int .i64 ra.mask, .int .i64 ra.delta, .slice P5 np5 p5, .slice P6 np6 p6, .int .i64 ra.step, .slice P8 np8 p8, .int .i64 ra.status, .int .i64 ra.out] 34)) 34 #[.int .i64 rb.p, .int .i64 rb.party, .int .i64 rb.x, .int .i64 rb.mask, .int .i64 rb.delta, .slice R5 nr5 r5, .slice R6 nr6 r6, .int .i64 rb.step, .slice R8 nr8 r8, .int .i64 rb.status, .int .i64 rb.out] (g := w1.heap.size + 1)
 have i6 : (n : Int) ≤ 6 := by omega
 have i60 : (0 : Int) ≤ n := by omega
 simp only [valP, cellsP]
 go_wp2_with fail
 have out0 : OwnV 87 3 (w1.heap.size + 2) (((w1.alloc (.cells #[.int .i64 ra.p, .int .i64 ra.party, .int .i64 ra.x, .int .i64 ra.mask, .int .i64 ra.delta, .slice P5 np5 p5, .slice P6 np6 p6, .int .i64 ra.step, .slice P8 np8 p8, .int .i64 ra.status, .int .i64 ra.out] 34)).alloc (.cells #[.int .i64 rb.p, .int .i64 rb.party, .int .i64 rb.x, .int .i64 rb.mask, .int .i64 rb.delta, .slice R5 nr5 r5, .slice R6 nr6 r6, .int .i64 rb.step, .slice R8 nr8 r8, .int .i64 rb.status, .int .i64 rb.out] 34)).alloc (.cells #[] 87)) (some ⟨w1.heap.size + 1 + 1, 0, none⟩) 0 0 [] := by
  have q : OwnV 87 3 ((w1.alloc (.cells #[.int .i64 ra.p, .int .i64 ra.party, .int .i64 ra.x, .int .i64 ra.mask, .int .i64 ra.delta, .slice P5 np5 p5, .slice P6 np6 p6, .int .i64 ra.step, .slice P8 np8 p8, .int .i64 ra.status, .int .i64 ra.out] 34)).alloc (.cells #[.int .i64 rb.p, .int .i64 rb.party, .int .i64 rb.x, .int .i64 rb.mask, .int .i64 rb.delta, .slice R5 nr5 r5, .slice R6 nr6 r6, .int .i64 rb.step, .slice R8 nr8 r8, .int .i64 rb.status, .int .i64 rb.out] 34)).heap.size _ (some ⟨((w1.alloc (.cells #[.int .i64 ra.p, .int .i64 ra.party, .int .i64 ra.x, .int .i64 ra.mask, .int .i64 ra.delta, .slice P5 np5 p5, .slice P6 np6 p6, .int .i64 ra.step, .slice P8 np8 p8, .int .i64 ra.status, .int .i64 ra.out] 34)).alloc (.cells #[.int .i64 rb.p, .int .i64 rb.party, .int .i64 rb.x, .int .i64 rb.mask, .int .i64 rb.delta, .slice R5 nr5 r5, .slice R6 nr6 r6, .int .i64 rb.step, .slice R8 nr8 r8, .int .i64 rb.status, .int .i64 rb.out] 34)).heap.size, 0, none⟩) 0 0 [] := World.ownsRow_made (size := 3) ((w1.alloc (.cells #[.int .i64 ra.p, .int .i64 ra.party, .int .i64 ra.x, .int .i64 ra.mask, .int .i64 ra.delta, .slice P5 np5 p5, .slice P6 np6 p6, .int .i64 ra.step, .slice P8 np8 p8, .int .i64 ra.status, .int .i64 ra.out] 34)).alloc (.cells #[.int .i64 rb.p, .int .i64 rb.party, .int .i64 rb.x, .int .i64 rb.mask, .int .i64 rb.delta, .slice R5 nr5 r5, .slice R6 nr6 r6, .int .i64 rb.step, .slice R8 nr8 r8, .int .i64 rb.status, .int .i64 rb.out] 34)) #[] 0 (Nat.le_refl _) (by simp) (by simp)
  rw [show ((w1.alloc (.cells #[.int .i64 ra.p, .int .i64 ra.party, .int .i64 ra.x, .int .i64 ra.mask, .int .i64 ra.delta, .slice P5 np5 p5, .slice P6 np6 p6, .int .i64 ra.step, .slice P8 np8 p8, .int .i64 ra.status, .int .i64 ra.out] 34)).alloc (.cells #[.int .i64 rb.p, .int .i64 rb.party, .int .i64 rb.x, .int .i64 rb.mask, .int .i64 rb.delta, .slice R5 nr5 r5, .slice R6 nr6 r6, .int .i64 rb.step, .slice R8 nr8 r8, .int .i64 rb.status, .int .i64 rb.out] 34)).heap.size = w1.heap.size + 1 + 1 by simp] at q
  exact q
 replace hO := hO.alloc (.cells #[] 87)
 replace hQ := hQ.alloc (.cells #[] 87)
 replace hV1 := hV1.alloc (.cells #[] 87)
 generalize ((w1.alloc (.cells #[.int .i64 ra.p, .int .i64 ra.party, .int .i64 ra.x, .int .i64 ra.mask, .int .i64 ra.delta, .slice P5 np5 p5, .slice P6 np6 p6, .int .i64 ra.step, .slice P8 np8 p8, .int .i64 ra.status, .int .i64 ra.out] 34)).alloc (.cells #[.int .i64 rb.p, .int .i64 rb.party, .int .i64 rb.x, .int .i64 rb.mask, .int .i64 rb.delta, .slice R5 nr5 r5, .slice R6 nr6 r6, .int .i64 rb.step, .slice R8 nr8 r8, .int .i64 rb.status, .int .i64 rb.out] 34)).alloc (.cells #[] 87) = w3 at out0 hO hQ hV1 ⊢
 go_loopw [32, 14] (fun i s wr => ∃ k : Nat, k ≤ n ∧ i = .int .i64 k ∧ (∃ A' c' xs, s = .slice A' k c' ∧ OwnV 87 3 (w1.heap.size + 2) wr A' k c' xs) ∧ Bl w1 wr ∧ Blk wr w1.heap.size 34 #[.int .i64 ra.p, .int .i64 ra.party, .int .i64 ra.x, .int .i64 ra.mask, .int .i64 ra.delta, .slice P5 np5 p5, .slice P6 np6 p6, .int .i64 ra.step, .slice P8 np8 p8, .int .i64 ra.status, .int .i64 ra.out] ∧ Blk wr (w1.heap.size + 1) 34 #[.int .i64 rb.p, .int .i64 rb.party, .int .i64 rb.x, .int .i64 rb.mask, .int .i64 rb.delta, .slice R5 nr5 r5, .slice R6 nr6 r6, .int .i64 rb.step, .slice R8 nr8 r8, .int .i64 rb.status, .int .i64 rb.out]) (fun i _ _ => n - (intOf i).toNat)
 case atStart => exact ⟨0, by omega, rfl, ⟨_, 0, [], rfl, out0⟩, hV1, hO, hQ⟩
 case round =>
  clear out0 hO hQ hV1
  obtain ⟨k, hk, rfl, ⟨A', c', xs, rfl, out⟩, hV, hO, hQ⟩ := hrel
  by_cases hlt : k < n
  ·obtain ⟨m, hm⟩ : ∃ m, taken[k]? = some m := ⟨_, List.getElem?_eq_getElem (by rw [← HNT.out]; exact hlt)⟩
   obtain ⟨⟨fz, sz, Az, nz, cz⟩, hMz, hrz, -⟩ := HRT.out k m hm
   have hsm : m.b.length ≤ 4 := runM_small a b l m (by rw [HRUN.out]; exact List.mem_of_getElem? hm)
   have hlz : nz ≤ 4 := by have := hrz.b.length; dsimp only at this; omega
   obtain ⟨y0, y1, y2⟩ := six_at hT hM6 hMz
   dsimp only at y0 y1 y2
   replace y0 := hV.cells y0
   replace y1 := hV.cells y1
   replace y2 := hV.cells y2
   have hRz := Lib.hid (show RdI w1 Az nz cz m.b from hrz.b)
   clear hm hMz hrz hsm
   have ik : (k : Int) < n := by omega
   have hOl := hO.lt
   have hcc := out.rd.cap
   have hz2 : w1.heap.size + 2 ≤ wr.heap.size := by have := hQ.lt; omega
   go_wp2_with fail
   refine (impl_copyMessage fz sz Az nz cz m.b _ (hRz.out.keep (hV.alloc _)) (by omega)).mono ?_
   rintro e w5 ⟨A5, c5, rfl, -, hb5⟩
   have hz5 := hb5.sz
   simp only [World.size_alloc] at hz5
   have hVy := (hV.alloc _).call hb5
   go_wp2_with (at_builtin; refine ap_ms (base := w1.heap.size + 2) rfl rfl rfl ((OwnV.keep (OwnV.keep out ((Bl.refl wr).alloc _)) hb5).alloc_ _) rfl (rd_msgs w5 #[.int .i64 fz, .int .i64 sz, .slice A5 nz c5] 1 rfl (by omega)) (one3 _ _ _ _ _) (by omega) (by simp; omega) ?_; intro A7 c7 w7 o7 hg7 hat7)
   have hab : ∀ q, A'.map (·.block) = some q → w1.heap.size + 2 ≤ q := fun q hq => (OwnV.blk out q hq).1
   go_roundw
   case rel => exact ⟨k + 1, by omega, by go_num, ⟨A7, c7, _, rfl, o7⟩, (hVy.alloc _).grown hg7 (fun q hq => by have := hab q hq; omega), Blk.grown (((hO.alloc _).keep hb5).alloc _) hg7 (fun e => by have := hab _ e.symm; omega), Blk.grown (((hQ.alloc _).keep hb5).alloc _) hg7 (fun e => by have := hab _ e.symm; omega)⟩
   case measure => simp [intOf]; omega
  ·have he : k = n := by omega
   subst he
   clear hlt
   have hRr := hR.keep hV
   have hUr := hU.keep hV
   have hWr : Bl w wr := hW1.call hV
   clear hR hU hW1 out
   obtain ⟨O_l, O_f, O_0, O_1, O_2, O_3, O_4, O_5, O_6, O_7, O_8, O_9, O_10⟩ := hO.l11
   obtain ⟨Q_l, Q_f, Q_0, Q_1, Q_2, Q_3, Q_4, Q_5, Q_6, Q_7, Q_8, Q_9, Q_10⟩ := hQ.l11
   go_wp2_with fail
   refine region_F (fun _ => True) (fun w' => w'.cell? ⟨w1.heap.size, 0, none⟩ = some (.int .i64 ra.p) ∧ w'.cell? ⟨w1.heap.size, 1, none⟩ = some (.int .i64 ra.party) ∧ w'.cell? ⟨w1.heap.size, 2, none⟩ = some (.int .i64 ra.x) ∧ w'.cell? ⟨w1.heap.size, 3, none⟩ = some (.int .i64 ra.mask) ∧ w'.cell? ⟨w1.heap.size, 4, none⟩ = some (.int .i64 ra.delta) ∧ w'.cell? ⟨w1.heap.size, 5, none⟩ = some (.slice P5 np5 p5) ∧ w'.cell? ⟨w1.heap.size, 6, none⟩ = some (.slice P6 np6 p6) ∧ w'.cell? ⟨w1.heap.size, 7, none⟩ = some (.int .i64 ra.step) ∧ w'.cell? ⟨w1.heap.size, 8, none⟩ = some (.slice P8 np8 p8) ∧ w'.cell? ⟨w1.heap.size, 9, none⟩ = some (.int .i64 ra.status) ∧ w'.cell? ⟨w1.heap.size, 10, none⟩ = some (.int .i64 ra.out) ∧ w'.cell? ⟨w1.heap.size + 1, 0, none⟩ = some (.int .i64 rb.p) ∧ w'.cell? ⟨w1.heap.size + 1, 1, none⟩ = some (.int .i64 rb.party) ∧ w'.cell? ⟨w1.heap.size + 1, 2, none⟩ = some (.int .i64 rb.x) ∧ w'.cell? ⟨w1.heap.size + 1, 3, none⟩ = some (.int .i64 rb.mask) ∧ w'.cell? ⟨w1.heap.size + 1, 4, none⟩ = some (.int .i64 rb.delta) ∧ w'.cell? ⟨w1.heap.size + 1, 5, none⟩ = some (.slice R5 nr5 r5) ∧ w'.cell? ⟨w1.heap.size + 1, 6, none⟩ = some (.slice R6 nr6 r6) ∧ w'.cell? ⟨w1.heap.size + 1, 7, none⟩ = some (.int .i64 rb.step) ∧ w'.cell? ⟨w1.heap.size + 1, 8, none⟩ = some (.slice R8 nr8 r8) ∧ w'.cell? ⟨w1.heap.size + 1, 9, none⟩ = some (.int .i64 rb.status) ∧ w'.cell? ⟨w1.heap.size + 1, 10, none⟩ = some (.int .i64 rb.out)) 4 (by kernel_rfl) ?_ (fun hHeld => ?_)
   ·(try dsimp only); exact ⟨trivial, O_0, O_1, O_2, O_3, O_4, O_5, O_6, O_7, O_8, O_9, O_10, Q_0, Q_1, Q_2, Q_3, Q_4, Q_5, Q_6, Q_7, Q_8, Q_9, Q_10⟩
   refine tC 0 42 [0] ?_ hHeld
   refine tC 1 43 [1] ?_ hHeld
   refine tS 2 44 ?_ hHeld.1 (fun _ => hHeld.2)
   refine f_step (i := 3) (by kernel_rfl) rfl (fun K hK => ?_)
   refine wp_store_row 34 _ _ rfl (w.heap.size + 1 + 1 + 1) #[.int .i64 ra.p, .int .i64 ra.party, .int .i64 ra.x, .int .i64 ra.mask, .int .i64 ra.delta, .slice P5 np5 p5, .slice P6 np6 p6, .int .i64 ra.step, .slice P8 np8 p8, .int .i64 ra.status, .int .i64 ra.out] rfl rfl 34 #[.int .i64 0, .int .i64 0, .int .i64 0, .int .i64 0, .int .i64 0, .slice none 0 0, .slice none 0 0, .int .i64 0, .slice none 0 0, .int .i64 0, .int .i64 0] hRr (by kernel_rfl) rfl (by first | rfl | simp [Value.oneCell'] | kernel_rfl) ?_
   refine ko hK ?_ fun hHeld => ?_
   ·(try dsimp only); exact ⟨trivial, (hO.farRow (by omega)).cell 0 _ rfl, (hO.farRow (by omega)).cell 1 _ rfl, (hO.farRow (by omega)).cell 2 _ rfl, (hO.farRow (by omega)).cell 3 _ rfl, (hO.farRow (by omega)).cell 4 _ rfl, (hO.farRow (by omega)).cell 5 _ rfl, (hO.farRow (by omega)).cell 6 _ rfl, (hO.farRow (by omega)).cell 7 _ rfl, (hO.farRow (by omega)).cell 8 _ rfl, (hO.farRow (by omega)).cell 9 _ rfl, (hO.farRow (by omega)).cell 10 _ rfl, (hQ.farRow (by omega)).cell 0 _ rfl, (hQ.farRow (by omega)).cell 1 _ rfl, (hQ.farRow (by omega)).cell 2 _ rfl, (hQ.farRow (by omega)).cell 3 _ rfl, (hQ.farRow (by omega)).cell 4 _ rfl, (hQ.farRow (by omega)).cell 5 _ rfl, (hQ.farRow (by omega)).cell 6 _ rfl, (hQ.farRow (by omega)).cell 7 _ rfl, (hQ.farRow (by omega)).cell 8 _ rfl, (hQ.farRow (by omega)).cell 9 _ rfl, (hQ.farRow (by omega)).cell 10 _ rfl⟩
   clear hK K
   refine f_last (i := 4) (by kernel_rfl) rfl (by simp) (fun K hK => ?_)
   refine wp_store_row 34 _ _ rfl (w.heap.size + 1 + 1 + 1 + 1) #[.int .i64 rb.p, .int .i64 rb.party, .int .i64 rb.x, .int .i64 rb.mask, .int .i64 rb.delta, .slice R5 nr5 r5, .slice R6 nr6 r6, .int .i64 rb.step, .slice R8 nr8 r8, .int .i64 rb.status, .int .i64 rb.out] rfl rfl 34 #[.int .i64 0, .int .i64 0, .int .i64 0, .int .i64 0, .int .i64 0, .slice none 0 0, .slice none 0 0, .int .i64 0, .slice none 0 0, .int .i64 0, .int .i64 0] (hUr.farRow (by omega)) (by kernel_rfl) rfl (by first | rfl | simp [Value.oneCell'] | kernel_rfl) ?_
   refine ko hK ?_ fun hHeld => ?_
   ·exact trivial
   clear hK K
   refine tS 5 8 ?_ hHeld (fun h => by simp at h)
   refine f_done (by kernel_rfl) ?_ _
   have hbz : Bl w ((wr.drew.setRow (w.heap.size + 1 + 1 + 1) #[.int .i64 ra.p, .int .i64 ra.party, .int .i64 ra.x, .int .i64 ra.mask, .int .i64 ra.delta, .slice P5 np5 p5, .slice P6 np6 p6, .int .i64 ra.step, .slice P8 np8 p8, .int .i64 ra.status, .int .i64 ra.out]).setRow (w.heap.size + 1 + 1 + 1 + 1) #[.int .i64 rb.p, .int .i64 rb.party, .int .i64 rb.x, .int .i64 rb.mask, .int .i64 rb.delta, .slice R5 nr5 r5, .slice R6 nr6 r6, .int .i64 rb.step, .slice R8 nr8 r8, .int .i64 rb.status, .int .i64 rb.out]) := ((hWr.drew.row (by omega) _).row (by omega) _)
   have hR9 : Blk ((wr.drew.setRow (w.heap.size + 1 + 1 + 1) #[.int .i64 ra.p, .int .i64 ra.party, .int .i64 ra.x, .int .i64 ra.mask, .int .i64 ra.delta, .slice P5 np5 p5, .slice P6 np6 p6, .int .i64 ra.step, .slice P8 np8 p8, .int .i64 ra.status, .int .i64 ra.out]).setRow (w.heap.size + 1 + 1 + 1 + 1) #[.int .i64 rb.p, .int .i64 rb.party, .int .i64 rb.x, .int .i64 rb.mask, .int .i64 rb.delta, .slice R5 nr5 r5, .slice R6 nr6 r6, .int .i64 rb.step, .slice R8 nr8 r8, .int .i64 rb.status, .int .i64 rb.out]) (w.heap.size + 1 + 1 + 1) 34 #[.int .i64 ra.p, .int .i64 ra.party, .int .i64 ra.x, .int .i64 ra.mask, .int .i64 ra.delta, .slice P5 np5 p5, .slice P6 np6 p6, .int .i64 ra.step, .slice P8 np8 p8, .int .i64 ra.status, .int .i64 ra.out] := (Blk.row hRr.drew).farRow (by omega)
   have hU9 : Blk ((wr.drew.setRow (w.heap.size + 1 + 1 + 1) #[.int .i64 ra.p, .int .i64 ra.party, .int .i64 ra.x, .int .i64 ra.mask, .int .i64 ra.delta, .slice P5 np5 p5, .slice P6 np6 p6, .int .i64 ra.step, .slice P8 np8 p8, .int .i64 ra.status, .int .i64 ra.out]).setRow (w.heap.size + 1 + 1 + 1 + 1) #[.int .i64 rb.p, .int .i64 rb.party, .int .i64 rb.x, .int .i64 rb.mask, .int .i64 rb.delta, .slice R5 nr5 r5, .slice R6 nr6 r6, .int .i64 rb.step, .slice R8 nr8 r8, .int .i64 rb.status, .int .i64 rb.out]) (w.heap.size + 1 + 1 + 1 + 1) 34 #[.int .i64 rb.p, .int .i64 rb.party, .int .i64 rb.x, .int .i64 rb.mask, .int .i64 rb.delta, .slice R5 nr5 r5, .slice R6 nr6 r6, .int .i64 rb.step, .slice R8 nr8 r8, .int .i64 rb.status, .int .i64 rb.out] := Blk.row (hUr.drew.farRow (by omega))
   generalize ((wr.drew.setRow (w.heap.size + 1 + 1 + 1) #[.int .i64 ra.p, .int .i64 ra.party, .int .i64 ra.x, .int .i64 ra.mask, .int .i64 ra.delta, .slice P5 np5 p5, .slice P6 np6 p6, .int .i64 ra.step, .slice P8 np8 p8, .int .i64 ra.status, .int .i64 ra.out]).setRow (w.heap.size + 1 + 1 + 1 + 1) #[.int .i64 rb.p, .int .i64 rb.party, .int .i64 rb.x, .int .i64 rb.mask, .int .i64 rb.delta, .slice R5 nr5 r5, .slice R6 nr6 r6, .int .i64 rb.step, .slice R8 nr8 r8, .int .i64 rb.status, .int .i64 rb.out]) = wf at hbz hR9 hU9 ⊢
   (try clear O_l O_f O_0 O_1 O_2 O_3 O_4 O_5 O_6 O_7 O_8 O_9 O_10)
   (try clear Q_l Q_f Q_0 Q_1 Q_2 Q_3 Q_4 Q_5 Q_6 Q_7 Q_8 Q_9 Q_10)
   go_wp2_with fail
   refine bodyPost_ret (v := .tuple #[.agg #[.int .i64 ra.p, .int .i64 ra.party, .int .i64 ra.x, .int .i64 ra.mask, .int .i64 ra.delta, .slice P5 np5 p5, .slice P6 np6 p6, .int .i64 ra.step, .slice P8 np8 p8, .int .i64 ra.status, .int .i64 ra.out], .agg #[.int .i64 rb.p, .int .i64 rb.party, .int .i64 rb.x, .int .i64 rb.mask, .int .i64 rb.delta, .slice R5 nr5 r5, .slice R6 nr6 r6, .int .i64 rb.step, .slice R8 nr8 r8, .int .i64 rb.status, .int .i64 rb.out], .slice A' k c']) (by rw [results_cct Tryd.results50]; simp [asAddr, load_player hR9 rfl, load_player hU9 rfl]) rfl ?_
   exact ⟨ra, rb, sent, taken, ⟨P5, P6, P8, np5, p5, np6, p6, np8, p8, ps⟩, ⟨R5, R6, R8, nr5, r5, nr6, r6, nr8, r8, rs_⟩, A', k, c', HRUN.out, rfl, HNT.out, hbz⟩
end Go.Proofs.YtcjpalhclgkjiaaDoor
