/- Contracts: the meddles whose messages are not sent, of the program and of the reference.
   Conditions: none. -/
import Derived.Test.YtcjpalhclgkjiaaDoorPql
namespace Go.Proofs.YtcjpalhclgkjiaaDoor
open Go.RowKit
set_option linter.unusedVariables false
/-- The first meddles' places that lie at n messages or behind. -/
def unrL (n : Nat) (l : List Md) : Nat → List Int
 | 0 => []
 | k + 1 => if (n : Int) ≤ (l[k]?.getD Md.zero).at_ then unrL n l k ++ [(k : Int)] else unrL n l k
theorem unrL_y {n k : Nat} {l : List Md} {x : Md} (h : l[k]? = some x) (hx : (n : Int) ≤ x.at_) : unrL n l (k + 1) = unrL n l k ++ [(k : Int)] := by simp only [unrL, h, Option.getD_some, if_pos hx]
theorem unrL_n {n k : Nat} {l : List Md} {x : Md} (h : l[k]? = some x) (hx : ¬ (n : Int) ≤ x.at_) : unrL n l (k + 1) = unrL n l k := by simp only [unrL, h, Option.getD_some, if_neg hx]
def unrR (a b : Pl) (l : List Md) : List Int := if askB a b l = true then unrL (runM a b l).taken.length l l.length else []
theorem unrL_len (n : Nat) (l : List Md) : ∀ k, (unrL n l k).length ≤ k
 | 0 => by simp [unrL]
 | k + 1 => by
  have := unrL_len n l k
  simp only [unrL]
  split
  ·simp; omega
  ·omega
theorem unrR_len (a b : Pl) (l : List Md) : (unrR a b l).length ≤ l.length := by
 unfold unrR
 split
 ·exact unrL_len _ _ _
 ·simp
set_option maxRecDepth 20000 in
set_option maxHeartbeats 2000000 in
theorem impl_UnreachedMeddles (a b : Pl) (As Ak Ah : Option Addr) (ns cs nk ck nh ch : Nat) (hs : List Hd) (As2 Ak2 Ah2 : Option Addr) (ns2 cs2 nk2 ck2 nh2 ch2 : Nat) (hs2 : List Hd) (Al : Option Addr) (nl cl : Nat) (l : List Md) (w : World) (hTb : Tab w) (hl : RdMd w Al nl cl l) (ha : RdP w a As Ak Ah ns cs nk ck nh ch hs) (hb : RdP w b As2 Ak2 Ah2 ns2 cs2 nk2 ck2 nh2 ch2 hs2) (hnl : nl ≤ 1048576) :
  Calls Tryd.prog 16 #[.agg #[.int .i64 a.p, .int .i64 a.party, .int .i64 a.x, .int .i64 a.mask, .int .i64 a.delta, .slice As ns cs, .slice Ak nk ck, .int .i64 a.step, .slice Ah nh ch, .int .i64 a.status, .int .i64 a.out], .agg #[.int .i64 b.p, .int .i64 b.party, .int .i64 b.x, .int .i64 b.mask, .int .i64 b.delta, .slice As2 ns2 cs2, .slice Ak2 nk2 ck2, .int .i64 b.step, .slice Ah2 nh2 ch2, .int .i64 b.status, .int .i64 b.out], .slice Al nl cl] w fun e w' => ∃ A n c, e = .returned (.tuple #[.slice A n c, .bool (askB a b l)]) ∧ OwnI w.heap.size w' A n c (unrR a b l) ∧ Bl w w' := by
 have HC := Lib.hid (fun (w' : World) (hb' : Bl w w') => impl_RunMeddled a b As Ak Ah ns cs nk ck nh ch hs As2 Ak2 Ah2 ns2 cs2 nk2 ck2 nh2 ch2 hs2 Al nl cl l w' (hTb.keep hb') (hl.keep hb') (ha.keep hb') (hb.keep hb'))
 have hW : Bl w ((w.alloc (.cells #[.int .i64 a.p, .int .i64 a.party, .int .i64 a.x, .int .i64 a.mask, .int .i64 a.delta, .slice As ns cs, .slice Ak nk ck, .int .i64 a.step, .slice Ah nh ch, .int .i64 a.status, .int .i64 a.out] 34)).alloc (.cells #[.int .i64 b.p, .int .i64 b.party, .int .i64 b.x, .int .i64 b.mask, .int .i64 b.delta, .slice As2 ns2 cs2, .slice Ak2 nk2 ck2, .int .i64 b.step, .slice Ah2 nh2 ch2, .int .i64 b.status, .int .i64 b.out] 34)) := Bl.a3
 have hA : Blk ((w.alloc (.cells #[.int .i64 a.p, .int .i64 a.party, .int .i64 a.x, .int .i64 a.mask, .int .i64 a.delta, .slice As ns cs, .slice Ak nk ck, .int .i64 a.step, .slice Ah nh ch, .int .i64 a.status, .int .i64 a.out] 34)).alloc (.cells #[.int .i64 b.p, .int .i64 b.party, .int .i64 b.x, .int .i64 b.mask, .int .i64 b.delta, .slice As2 ns2 cs2, .slice Ak2 nk2 ck2, .int .i64 b.step, .slice Ah2 nh2 ch2, .int .i64 b.status, .int .i64 b.out] 34)) (w.heap.size) 34 #[.int .i64 a.p, .int .i64 a.party, .int .i64 a.x, .int .i64 a.mask, .int .i64 a.delta, .slice As ns cs, .slice Ak nk ck, .int .i64 a.step, .slice Ah nh ch, .int .i64 a.status, .int .i64 a.out] := ((Blk.new w 34 #[.int .i64 a.p, .int .i64 a.party, .int .i64 a.x, .int .i64 a.mask, .int .i64 a.delta, .slice As ns cs, .slice Ak nk ck, .int .i64 a.step, .slice Ah nh ch, .int .i64 a.status, .int .i64 a.out] (g := w.heap.size)).alloc (.cells #[.int .i64 b.p, .int .i64 b.party, .int .i64 b.x, .int .i64 b.mask, .int .i64 b.delta, .slice As2 ns2 cs2, .slice Ak2 nk2 ck2, .int .i64 b.step, .slice Ah2 nh2 ch2, .int .i64 b.status, .int .i64 b.out] 34))
 have hB : Blk ((w.alloc (.cells #[.int .i64 a.p, .int .i64 a.party, .int .i64 a.x, .int .i64 a.mask, .int .i64 a.delta, .slice As ns cs, .slice Ak nk ck, .int .i64 a.step, .slice Ah nh ch, .int .i64 a.status, .int .i64 a.out] 34)).alloc (.cells #[.int .i64 b.p, .int .i64 b.party, .int .i64 b.x, .int .i64 b.mask, .int .i64 b.delta, .slice As2 ns2 cs2, .slice Ak2 nk2 ck2, .int .i64 b.step, .slice Ah2 nh2 ch2, .int .i64 b.status, .int .i64 b.out] 34)) (w.heap.size + 1) 34 #[.int .i64 b.p, .int .i64 b.party, .int .i64 b.x, .int .i64 b.mask, .int .i64 b.delta, .slice As2 ns2 cs2, .slice Ak2 nk2 ck2, .int .i64 b.step, .slice Ah2 nh2 ch2, .int .i64 b.status, .int .i64 b.out] := (Blk.new (w.alloc (.cells #[.int .i64 a.p, .int .i64 a.party, .int .i64 a.x, .int .i64 a.mask, .int .i64 a.delta, .slice As ns cs, .slice Ak nk ck, .int .i64 a.step, .slice Ah nh ch, .int .i64 a.status, .int .i64 a.out] 34)) 34 #[.int .i64 b.p, .int .i64 b.party, .int .i64 b.x, .int .i64 b.mask, .int .i64 b.delta, .slice As2 ns2 cs2, .slice Ak2 nk2 ck2, .int .i64 b.step, .slice Ah2 nh2 ch2, .int .i64 b.status, .int .i64 b.out] (g := w.heap.size + 1))
 obtain ⟨A_l, A_f, A_0, A_1, A_2, A_3, A_4, A_5, A_6, A_7, A_8, A_9, A_10⟩ := hA.l11; obtain ⟨B_l, B_f, B_0, B_1, B_2, B_3, B_4, B_5, B_6, B_7, B_8, B_9, B_10⟩ := hB.l11
 have hlr := hl
 obtain ⟨hl1, hl2⟩ := hl.le
 clear ha hb hl
 go_enter Tryd.func16, Tryd.ntmps16
 go_wp2_with fail
 refine (HC.out _ hW).mono ?_
 rintro e wo ⟨ra, rb, sent, taken, ⟨P5, P6, P8, np5, p5, np6, p6, np8, p8, ps⟩, ⟨R5, R6, R8, nr5, r5, nr6, r6, nr8, r8, rs_⟩, A, n, c, rfl, hrun, hbo⟩
 have hrunx := Lib.hid hrun
 clear hrun HC
 (try clear A_l A_f A_0 A_1 A_2 A_3 A_4 A_5 A_6 A_7 A_8 A_9 A_10 B_l B_f B_0 B_1 B_2 B_3 B_4 B_5 B_6 B_7 B_8 B_9 B_10)
 rcases e1 : askB a b l
 ·have SA := Lib.hid (show unrR a b l = [] by unfold unrR; rw [e1]; rfl)
  simp only [valP, cellsP]
  go_wp2_with fail
  go_ret2
  exact ⟨none, 0, 0, by first | rfl | (rw [e1]; rfl), by rw [SA.out]; exact OwnI.nil _ _, ((hW.call hbo).alloc _).alloc _⟩
 ·have HR := Lib.hid (show unrR a b l = unrL n l nl by unfold unrR; rw [if_pos e1, (hrunx.out e1).1, (hrunx.out e1).2, hlr.2])
  have hW3 := ((hW.call hbo).alloc (.cells #[.int .i64 ra.p, .int .i64 ra.party, .int .i64 ra.x, .int .i64 ra.mask, .int .i64 ra.delta, .slice P5 np5 p5, .slice P6 np6 p6, .int .i64 ra.step, .slice P8 np8 p8, .int .i64 ra.status, .int .i64 ra.out] 34)).alloc (.cells #[.int .i64 rb.p, .int .i64 rb.party, .int .i64 rb.x, .int .i64 rb.mask, .int .i64 rb.delta, .slice R5 nr5 r5, .slice R6 nr6 r6, .int .i64 rb.step, .slice R8 nr8 r8, .int .i64 rb.status, .int .i64 rb.out] 34)
  simp only [valP, cellsP]
  clear hA hB
  go_wp2_with fail
  generalize h3 : (wo.alloc (.cells #[.int .i64 ra.p, .int .i64 ra.party, .int .i64 ra.x, .int .i64 ra.mask, .int .i64 ra.delta, .slice P5 np5 p5, .slice P6 np6 p6, .int .i64 ra.step, .slice P8 np8 p8, .int .i64 ra.status, .int .i64 ra.out] 34)).alloc (.cells #[.int .i64 rb.p, .int .i64 rb.party, .int .i64 rb.x, .int .i64 rb.mask, .int .i64 rb.delta, .slice R5 nr5 r5, .slice R6 nr6 r6, .int .i64 rb.step, .slice R8 nr8 r8, .int .i64 rb.status, .int .i64 rb.out] 34) = w3 at hW3 ⊢
  have hsz : w3.heap.size = wo.heap.size + 1 + 1 := by rw [← h3]; simp
  clear h3
  clear hW hbo
  have hown0 : OwnI w.heap.size (w3.alloc (.cells #[] 3)) (some ⟨wo.heap.size + 1 + 1, 0, none⟩) 0 0 [] := (own_made w3 hsz).mono hW3.sz
  clear hrunx
  go_wp2_with fail
  go_loopw [12, 29] (fun s i wr => ∃ (k m c3 : Nat) (A3 : Option Addr), k ≤ nl ∧ m ≤ k ∧ i = .int .i64 (k : Nat) ∧ s = .slice A3 m c3 ∧ OwnI w.heap.size wr A3 m c3 (unrL n l k) ∧ Bl w wr) (fun _ i _ => nl - (intOf i).toNat)
  case atStart => exact ⟨0, 0, _, _, by omega, by omega, rfl, rfl, by first | exact hown0 | (simp only [unrL]; exact hown0), hW3.alloc _⟩
  case round =>
   clear hown0 hW3
   obtain ⟨k, m, c3, A3, hk, hm, rfl, rfl, hown, hW⟩ := hrel
   by_cases hlt : k < nl
   ·obtain ⟨ad, KK, T, I, V, rfl, hx, q0, q1, q2, q3⟩ := (hlr.keep hW).at_ hlt
    have ik : (k : Int) < nl := by omega
    by_cases hge : (n : Int) ≤ T
    ·have HX := Lib.hid (unrL_y (n := n) hx hge)
     clear hx
     go_wp2_with (first | (at_builtin; refine ap_int rfl rfl rfl ((hown.alloc _).alloc _) rfl (rd_new1 _ _ _) (by omega) (by have := hW.sz; simp; omega) ?_; intro A4 c4 w4 hown4 hg4 hat4; replace hW := ((hW.alloc _).alloc _).grown hg4 (fun k hk => (hown.blk k hk).1)))
     go_roundw
     case rel => exact ⟨k + 1, m + 1, c4, A4, by omega, by omega, by go_num, rfl, by rw [HX.out]; exact hown4, hW⟩
     case measure => simp [intOf]; omega
    ·have HX := Lib.hid (unrL_n (n := n) hx hge)
     clear hx
     go_wp2_with fail
     go_roundw
     case rel => exact ⟨k + 1, m, c3, A3, by omega, by omega, by go_num, rfl, by rw [HX.out]; exact hown.alloc _, hW.alloc _⟩
     case measure => simp [intOf]; omega
   ·have he : k = nl := by omega
    subst he
    go_wp2_with fail
    go_ret2
    exact ⟨A3, m, c3, by first | rfl | (rw [e1]; rfl), by rw [HR.out]; exact hown, hW⟩
set_option maxRecDepth 20000 in
set_option maxHeartbeats 2000000 in
theorem spec_UnreachedMeddles (a b : Pl) (As Ak Ah : Option Addr) (ns cs nk ck nh ch : Nat) (hs : List Hd) (As2 Ak2 Ah2 : Option Addr) (ns2 cs2 nk2 ck2 nh2 ch2 : Nat) (hs2 : List Hd) (Al : Option Addr) (nl cl : Nat) (l : List Md) (w : World) (hTb : Tab w) (hl : RdMd w Al nl cl l) (ha : RdP w a As Ak Ah ns cs nk ck nh ch hs) (hb : RdP w b As2 Ak2 Ah2 ns2 cs2 nk2 ck2 nh2 ch2 hs2) (ua : UnderP w.heap.size As Ak Ah hs) (ub : UnderP w.heap.size As2 Ak2 Ah2 hs2) (hnl : nl ≤ 1048576) :
  Calls Tryd.prog 15 #[.agg #[.int .i64 a.p, .int .i64 a.party, .int .i64 a.x, .int .i64 a.mask, .int .i64 a.delta, .slice As ns cs, .slice Ak nk ck, .int .i64 a.step, .slice Ah nh ch, .int .i64 a.status, .int .i64 a.out], .agg #[.int .i64 b.p, .int .i64 b.party, .int .i64 b.x, .int .i64 b.mask, .int .i64 b.delta, .slice As2 ns2 cs2, .slice Ak2 nk2 ck2, .int .i64 b.step, .slice Ah2 nh2 ch2, .int .i64 b.status, .int .i64 b.out], .slice Al nl cl] w fun e w' => ∃ A n c, e = .returned (.tuple #[.slice A n c, .bool (askB a b l)]) ∧ OwnI w.heap.size w' A n c (unrR a b l) ∧ Bl w w' := by
 have HK := Lib.hid (fun (w' : World) (hb' : Bl w w') => spec_nwAsked a b As Ak Ah ns cs nk ck nh ch hs As2 Ak2 Ah2 ns2 cs2 nk2 ck2 nh2 ch2 hs2 Al nl cl l w' (hTb.keep hb') (hl.keep hb') (ha.keep hb') (hb.keep hb'))
 have hW : Bl w ((w.alloc (.cells #[.int .i64 a.p, .int .i64 a.party, .int .i64 a.x, .int .i64 a.mask, .int .i64 a.delta, .slice As ns cs, .slice Ak nk ck, .int .i64 a.step, .slice Ah nh ch, .int .i64 a.status, .int .i64 a.out] 34)).alloc (.cells #[.int .i64 b.p, .int .i64 b.party, .int .i64 b.x, .int .i64 b.mask, .int .i64 b.delta, .slice As2 ns2 cs2, .slice Ak2 nk2 ck2, .int .i64 b.step, .slice Ah2 nh2 ch2, .int .i64 b.status, .int .i64 b.out] 34)) := Bl.a3
 have hA : Blk ((w.alloc (.cells #[.int .i64 a.p, .int .i64 a.party, .int .i64 a.x, .int .i64 a.mask, .int .i64 a.delta, .slice As ns cs, .slice Ak nk ck, .int .i64 a.step, .slice Ah nh ch, .int .i64 a.status, .int .i64 a.out] 34)).alloc (.cells #[.int .i64 b.p, .int .i64 b.party, .int .i64 b.x, .int .i64 b.mask, .int .i64 b.delta, .slice As2 ns2 cs2, .slice Ak2 nk2 ck2, .int .i64 b.step, .slice Ah2 nh2 ch2, .int .i64 b.status, .int .i64 b.out] 34)) (w.heap.size) 34 #[.int .i64 a.p, .int .i64 a.party, .int .i64 a.x, .int .i64 a.mask, .int .i64 a.delta, .slice As ns cs, .slice Ak nk ck, .int .i64 a.step, .slice Ah nh ch, .int .i64 a.status, .int .i64 a.out] := ((Blk.new w 34 #[.int .i64 a.p, .int .i64 a.party, .int .i64 a.x, .int .i64 a.mask, .int .i64 a.delta, .slice As ns cs, .slice Ak nk ck, .int .i64 a.step, .slice Ah nh ch, .int .i64 a.status, .int .i64 a.out] (g := w.heap.size)).alloc (.cells #[.int .i64 b.p, .int .i64 b.party, .int .i64 b.x, .int .i64 b.mask, .int .i64 b.delta, .slice As2 ns2 cs2, .slice Ak2 nk2 ck2, .int .i64 b.step, .slice Ah2 nh2 ch2, .int .i64 b.status, .int .i64 b.out] 34))
 have hB : Blk ((w.alloc (.cells #[.int .i64 a.p, .int .i64 a.party, .int .i64 a.x, .int .i64 a.mask, .int .i64 a.delta, .slice As ns cs, .slice Ak nk ck, .int .i64 a.step, .slice Ah nh ch, .int .i64 a.status, .int .i64 a.out] 34)).alloc (.cells #[.int .i64 b.p, .int .i64 b.party, .int .i64 b.x, .int .i64 b.mask, .int .i64 b.delta, .slice As2 ns2 cs2, .slice Ak2 nk2 ck2, .int .i64 b.step, .slice Ah2 nh2 ch2, .int .i64 b.status, .int .i64 b.out] 34)) (w.heap.size + 1) 34 #[.int .i64 b.p, .int .i64 b.party, .int .i64 b.x, .int .i64 b.mask, .int .i64 b.delta, .slice As2 ns2 cs2, .slice Ak2 nk2 ck2, .int .i64 b.step, .slice Ah2 nh2 ch2, .int .i64 b.status, .int .i64 b.out] := (Blk.new (w.alloc (.cells #[.int .i64 a.p, .int .i64 a.party, .int .i64 a.x, .int .i64 a.mask, .int .i64 a.delta, .slice As ns cs, .slice Ak nk ck, .int .i64 a.step, .slice Ah nh ch, .int .i64 a.status, .int .i64 a.out] 34)) 34 #[.int .i64 b.p, .int .i64 b.party, .int .i64 b.x, .int .i64 b.mask, .int .i64 b.delta, .slice As2 ns2 cs2, .slice Ak2 nk2 ck2, .int .i64 b.step, .slice Ah2 nh2 ch2, .int .i64 b.status, .int .i64 b.out] (g := w.heap.size + 1))
 obtain ⟨A_l, A_f, A_0, A_1, A_2, A_3, A_4, A_5, A_6, A_7, A_8, A_9, A_10⟩ := hA.l11; obtain ⟨B_l, B_f, B_0, B_1, B_2, B_3, B_4, B_5, B_6, B_7, B_8, B_9, B_10⟩ := hB.l11
 rcases e1 : askB a b l
 ·have SA := Lib.hid (show unrR a b l = [] by unfold unrR; rw [e1]; rfl)
  clear ha hb hl ua ub
  go_enter Tryd.func15, Tryd.ntmps15
  go_wp2_with (go_at_call 33; refine (HK.out _ Bl.a3).mono ?_; rintro e w1 ⟨rfl, hb1⟩; rw [e1]; replace hW : Bl w w1 := Bl.a3; replace hA := hA.kp hb1; replace hB := hB.kp hb1; (try clear A_l A_f A_0 A_1 A_2 A_3 A_4 A_5 A_6 A_7 A_8 A_9 A_10 B_l B_f B_0 B_1 B_2 B_3 B_4 B_5 B_6 B_7 B_8 B_9 B_10); obtain ⟨A_l, A_f, A_0, A_1, A_2, A_3, A_4, A_5, A_6, A_7, A_8, A_9, A_10⟩ := hA.l11; obtain ⟨B_l, B_f, B_0, B_1, B_2, B_3, B_4, B_5, B_6, B_7, B_8, B_9, B_10⟩ := hB.l11)
  go_ret2
  exact ⟨none, 0, 0, by first | rfl | (rw [e1]; rfl), by rw [SA.out]; exact OwnI.nil _ _, hW⟩
 ·have e2 : twoB a b = true := by unfold askB at e1; rw [Bool.and_eq_true] at e1; exact e1.1
  have e3 : mdsB a.p l = true := by unfold askB at e1; rw [Bool.and_eq_true] at e1; exact e1.2
  have HC := Lib.hid (fun (w' : World) (hb' : Bl w w') => spec_nwRun a b As Ak Ah ns cs nk ck nh ch hs As2 Ak2 Ah2 ns2 cs2 nk2 ck2 nh2 ch2 hs2 Al nl cl l w' (hl.keep hb') e3 e2 (ha.keep hb') (hb.keep hb') (ua.mono hb'.sz) (ub.mono hb'.sz))
  have hlr := hl
  obtain ⟨hl1, hl2⟩ := hl.le
  clear ha hb hl ua ub e2 e3
  go_enter Tryd.func15, Tryd.ntmps15
  go_wp2_with (go_at_call 33; refine (HK.out _ Bl.a3).mono ?_; rintro e w1 ⟨rfl, hb1⟩; rw [e1]; replace hW : Bl w w1 := Bl.a3; replace hA := hA.kp hb1; replace hB := hB.kp hb1; (try clear A_l A_f A_0 A_1 A_2 A_3 A_4 A_5 A_6 A_7 A_8 A_9 A_10 B_l B_f B_0 B_1 B_2 B_3 B_4 B_5 B_6 B_7 B_8 B_9 B_10); obtain ⟨A_l, A_f, A_0, A_1, A_2, A_3, A_4, A_5, A_6, A_7, A_8, A_9, A_10⟩ := hA.l11; obtain ⟨B_l, B_f, B_0, B_1, B_2, B_3, B_4, B_5, B_6, B_7, B_8, B_9, B_10⟩ := hB.l11)
  refine (HC.out _ Bl.a3).mono ?_
  rintro e wo ⟨ra, rb, sent, taken, ⟨P5, P6, P8, np5, p5, np6, p6, np8, p8, ps⟩, ⟨R5, R6, R8, nr5, r5, nr6, r6, nr8, r8, rs_⟩, A, n, c, hrun, rfl, hnt, hbo⟩
  have HR := Lib.hid (show unrR a b l = unrL n l nl by unfold unrR; rw [if_pos e1, hrun, hnt, hlr.2])
  have hrunx := hrun
  clear hrun hnt HC HK
  (try clear A_l A_f A_0 A_1 A_2 A_3 A_4 A_5 A_6 A_7 A_8 A_9 A_10 B_l B_f B_0 B_1 B_2 B_3 B_4 B_5 B_6 B_7 B_8 B_9 B_10)
  have hW3 := ((hW.call hbo).alloc (.cells #[.int .i64 ra.p, .int .i64 ra.party, .int .i64 ra.x, .int .i64 ra.mask, .int .i64 ra.delta, .slice P5 np5 p5, .slice P6 np6 p6, .int .i64 ra.step, .slice P8 np8 p8, .int .i64 ra.status, .int .i64 ra.out] 34)).alloc (.cells #[.int .i64 rb.p, .int .i64 rb.party, .int .i64 rb.x, .int .i64 rb.mask, .int .i64 rb.delta, .slice R5 nr5 r5, .slice R6 nr6 r6, .int .i64 rb.step, .slice R8 nr8 r8, .int .i64 rb.status, .int .i64 rb.out] 34)
  simp only [valP, cellsP]
  clear hA hB
  go_wp2_with fail
  generalize (wo.alloc (.cells #[.int .i64 ra.p, .int .i64 ra.party, .int .i64 ra.x, .int .i64 ra.mask, .int .i64 ra.delta, .slice P5 np5 p5, .slice P6 np6 p6, .int .i64 ra.step, .slice P8 np8 p8, .int .i64 ra.status, .int .i64 ra.out] 34)).alloc (.cells #[.int .i64 rb.p, .int .i64 rb.party, .int .i64 rb.x, .int .i64 rb.mask, .int .i64 rb.delta, .slice R5 nr5 r5, .slice R6 nr6 r6, .int .i64 rb.step, .slice R8 nr8 r8, .int .i64 rb.status, .int .i64 rb.out] 34) = w3 at hW3 ⊢
  clear hW hbo
  have hown0 : OwnI w.heap.size w3 none 0 0 [] := OwnI.nil _ _
  clear hrunx
  go_wp2_with fail
  go_loopw [11, 29] (fun s i wr => ∃ (k m c3 : Nat) (A3 : Option Addr), k ≤ nl ∧ m ≤ k ∧ i = .int .i64 (k : Nat) ∧ s = .slice A3 m c3 ∧ OwnI w.heap.size wr A3 m c3 (unrL n l k) ∧ Bl w wr) (fun _ i _ => nl - (intOf i).toNat)
  case atStart => exact ⟨0, 0, _, _, by omega, by omega, rfl, rfl, by first | exact hown0 | (simp only [unrL]; exact hown0), hW3⟩
  case round =>
   clear hown0 hW3
   obtain ⟨k, m, c3, A3, hk, hm, rfl, rfl, hown, hW⟩ := hrel
   by_cases hlt : k < nl
   ·obtain ⟨ad, KK, T, I, V, rfl, hx, q0, q1, q2, q3⟩ := (hlr.keep hW).at_ hlt
    have ik : (k : Int) < nl := by omega
    by_cases hge : (n : Int) ≤ T
    ·have HX := Lib.hid (unrL_y (n := n) hx hge)
     clear hx
     go_wp2_with (first | (at_builtin; refine ap_int rfl rfl rfl ((hown.alloc _).alloc _) rfl (rd_new1 _ _ _) (by omega) (by have := hW.sz; simp; omega) ?_; intro A4 c4 w4 hown4 hg4 hat4; replace hW := ((hW.alloc _).alloc _).grown hg4 (fun k hk => (hown.blk k hk).1)))
     go_roundw
     case rel => exact ⟨k + 1, m + 1, c4, A4, by omega, by omega, by go_num, rfl, by rw [HX.out]; exact hown4, hW⟩
     case measure => simp [intOf]; omega
    ·have HX := Lib.hid (unrL_n (n := n) hx hge)
     clear hx
     go_wp2_with fail
     go_roundw
     case rel => exact ⟨k + 1, m, c3, A3, by omega, by omega, by go_num, rfl, by rw [HX.out]; exact hown.alloc _, hW.alloc _⟩
     case measure => simp [intOf]; omega
   ·have he : k = nl := by omega
    subst he
    go_wp2_with fail
    go_ret2
    exact ⟨A3, m, c3, by first | rfl | (rw [e1]; rfl), by rw [HR.out]; exact hown, hW⟩
end Go.Proofs.YtcjpalhclgkjiaaDoor
