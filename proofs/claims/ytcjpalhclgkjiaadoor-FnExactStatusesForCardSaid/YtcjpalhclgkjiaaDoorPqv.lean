/- Contracts: how both players end, of the program and of the reference.
   Conditions: none. -/
import Derived.Test.YtcjpalhclgkjiaaDoorPql
namespace Go.Proofs.YtcjpalhclgkjiaaDoor
open Go.RowKit
set_option linter.unusedVariables false
def stA (a b : Pl) (l : List Md) : Int := if askB a b l = true then (runM a b l).a.status else 0
def stB (a b : Pl) (l : List Md) : Int := if askB a b l = true then (runM a b l).b.status else 0
set_option maxRecDepth 20000 in
set_option maxHeartbeats 2000000 in
theorem impl_StatusesFor (a b : Pl) (As Ak Ah : Option Addr) (ns cs nk ck nh ch : Nat) (hs : List Hd) (As2 Ak2 Ah2 : Option Addr) (ns2 cs2 nk2 ck2 nh2 ch2 : Nat) (hs2 : List Hd) (Al : Option Addr) (nl cl : Nat) (l : List Md) (w : World) (hTb : Tab w) (hl : RdMd w Al nl cl l) (ha : RdP w a As Ak Ah ns cs nk ck nh ch hs) (hb : RdP w b As2 Ak2 Ah2 ns2 cs2 nk2 ck2 nh2 ch2 hs2) :
    Calls Tryd.prog 12 #[.agg #[.int .i64 a.p, .int .i64 a.party, .int .i64 a.x, .int .i64 a.mask, .int .i64 a.delta, .slice As ns cs, .slice Ak nk ck, .int .i64 a.step, .slice Ah nh ch, .int .i64 a.status, .int .i64 a.out], .agg #[.int .i64 b.p, .int .i64 b.party, .int .i64 b.x, .int .i64 b.mask, .int .i64 b.delta, .slice As2 ns2 cs2, .slice Ak2 nk2 ck2, .int .i64 b.step, .slice Ah2 nh2 ch2, .int .i64 b.status, .int .i64 b.out], .slice Al nl cl] w fun e w' => e = .returned (.tuple #[.int .i64 (stA a b l), .int .i64 (stB a b l), .bool (askB a b l)]) ∧ Bl w w' := by
  have HC := Lib.hid (fun (w' : World) (hb' : Bl w w') => impl_RunMeddled a b As Ak Ah ns cs nk ck nh ch hs As2 Ak2 Ah2 ns2 cs2 nk2 ck2 nh2 ch2 hs2 Al nl cl l w' (hTb.keep hb') (hl.keep hb') (ha.keep hb') (hb.keep hb'))
  have hW : Bl w ((w.alloc (.cells #[.int .i64 a.p, .int .i64 a.party, .int .i64 a.x, .int .i64 a.mask, .int .i64 a.delta, .slice As ns cs, .slice Ak nk ck, .int .i64 a.step, .slice Ah nh ch, .int .i64 a.status, .int .i64 a.out] 34)).alloc (.cells #[.int .i64 b.p, .int .i64 b.party, .int .i64 b.x, .int .i64 b.mask, .int .i64 b.delta, .slice As2 ns2 cs2, .slice Ak2 nk2 ck2, .int .i64 b.step, .slice Ah2 nh2 ch2, .int .i64 b.status, .int .i64 b.out] 34)) := Bl.a3
  have hA : Blk ((w.alloc (.cells #[.int .i64 a.p, .int .i64 a.party, .int .i64 a.x, .int .i64 a.mask, .int .i64 a.delta, .slice As ns cs, .slice Ak nk ck, .int .i64 a.step, .slice Ah nh ch, .int .i64 a.status, .int .i64 a.out] 34)).alloc (.cells #[.int .i64 b.p, .int .i64 b.party, .int .i64 b.x, .int .i64 b.mask, .int .i64 b.delta, .slice As2 ns2 cs2, .slice Ak2 nk2 ck2, .int .i64 b.step, .slice Ah2 nh2 ch2, .int .i64 b.status, .int .i64 b.out] 34)) (w.heap.size) 34 #[.int .i64 a.p, .int .i64 a.party, .int .i64 a.x, .int .i64 a.mask, .int .i64 a.delta, .slice As ns cs, .slice Ak nk ck, .int .i64 a.step, .slice Ah nh ch, .int .i64 a.status, .int .i64 a.out] := ((Blk.new w 34 #[.int .i64 a.p, .int .i64 a.party, .int .i64 a.x, .int .i64 a.mask, .int .i64 a.delta, .slice As ns cs, .slice Ak nk ck, .int .i64 a.step, .slice Ah nh ch, .int .i64 a.status, .int .i64 a.out] (g := w.heap.size)).alloc (.cells #[.int .i64 b.p, .int .i64 b.party, .int .i64 b.x, .int .i64 b.mask, .int .i64 b.delta, .slice As2 ns2 cs2, .slice Ak2 nk2 ck2, .int .i64 b.step, .slice Ah2 nh2 ch2, .int .i64 b.status, .int .i64 b.out] 34))
  have hB : Blk ((w.alloc (.cells #[.int .i64 a.p, .int .i64 a.party, .int .i64 a.x, .int .i64 a.mask, .int .i64 a.delta, .slice As ns cs, .slice Ak nk ck, .int .i64 a.step, .slice Ah nh ch, .int .i64 a.status, .int .i64 a.out] 34)).alloc (.cells #[.int .i64 b.p, .int .i64 b.party, .int .i64 b.x, .int .i64 b.mask, .int .i64 b.delta, .slice As2 ns2 cs2, .slice Ak2 nk2 ck2, .int .i64 b.step, .slice Ah2 nh2 ch2, .int .i64 b.status, .int .i64 b.out] 34)) (w.heap.size + 1) 34 #[.int .i64 b.p, .int .i64 b.party, .int .i64 b.x, .int .i64 b.mask, .int .i64 b.delta, .slice As2 ns2 cs2, .slice Ak2 nk2 ck2, .int .i64 b.step, .slice Ah2 nh2 ch2, .int .i64 b.status, .int .i64 b.out] := (Blk.new (w.alloc (.cells #[.int .i64 a.p, .int .i64 a.party, .int .i64 a.x, .int .i64 a.mask, .int .i64 a.delta, .slice As ns cs, .slice Ak nk ck, .int .i64 a.step, .slice Ah nh ch, .int .i64 a.status, .int .i64 a.out] 34)) 34 #[.int .i64 b.p, .int .i64 b.party, .int .i64 b.x, .int .i64 b.mask, .int .i64 b.delta, .slice As2 ns2 cs2, .slice Ak2 nk2 ck2, .int .i64 b.step, .slice Ah2 nh2 ch2, .int .i64 b.status, .int .i64 b.out] (g := w.heap.size + 1))
  obtain ⟨A_l, A_f, A_0, A_1, A_2, A_3, A_4, A_5, A_6, A_7, A_8, A_9, A_10⟩ := hA.l11; obtain ⟨B_l, B_f, B_0, B_1, B_2, B_3, B_4, B_5, B_6, B_7, B_8, B_9, B_10⟩ := hB.l11
  clear ha hb hl
  go_enter Tryd.func12, Tryd.ntmps12
  go_wp2_with fail
  refine (HC.out _ hW).mono ?_
  rintro e wo ⟨ra, rb, sent, taken, ⟨P5, P6, P8, np5, p5, np6, p6, np8, p8, ps⟩, ⟨R5, R6, R8, nr5, r5, nr6, r6, nr8, r8, rs_⟩, A, n, c, rfl, hrun, hbo⟩
  have HRUN := Lib.hid hrun
  clear hrun
  (try clear A_l A_f A_0 A_1 A_2 A_3 A_4 A_5 A_6 A_7 A_8 A_9 A_10 B_l B_f B_0 B_1 B_2 B_3 B_4 B_5 B_6 B_7 B_8 B_9 B_10)
  rcases e1 : askB a b l
  · have SA := Lib.hid (show stA a b l = 0 by unfold stA; rw [e1]; rfl)
    have SB := Lib.hid (show stB a b l = 0 by unfold stB; rw [e1]; rfl)
    have hW3 := ((hW.call hbo).alloc (.cells #[.int .i64 ra.p, .int .i64 ra.party, .int .i64 ra.x, .int .i64 ra.mask, .int .i64 ra.delta, .slice P5 np5 p5, .slice P6 np6 p6, .int .i64 ra.step, .slice P8 np8 p8, .int .i64 ra.status, .int .i64 ra.out] 34)).alloc (.cells #[.int .i64 rb.p, .int .i64 rb.party, .int .i64 rb.x, .int .i64 rb.mask, .int .i64 rb.delta, .slice R5 nr5 r5, .slice R6 nr6 r6, .int .i64 rb.step, .slice R8 nr8 r8, .int .i64 rb.status, .int .i64 rb.out] 34)
    simp only [valP, cellsP]
    go_wp2_with fail
    refine bodyPost_ret (v := .tuple #[.int .i64 0, .int .i64 0, .bool false]) (by simp [results, Tryd.results12, go_sem]) rfl ?_
    exact ⟨by rw [SA.out, SB.out, e1], hW3⟩
  · have SA := Lib.hid (show stA a b l = ra.status by unfold stA; rw [if_pos e1, (HRUN.out e1).1])
    have SB := Lib.hid (show stB a b l = rb.status by unfold stB; rw [if_pos e1, (HRUN.out e1).1])
    have hW3 := ((hW.call hbo).alloc (.cells #[.int .i64 ra.p, .int .i64 ra.party, .int .i64 ra.x, .int .i64 ra.mask, .int .i64 ra.delta, .slice P5 np5 p5, .slice P6 np6 p6, .int .i64 ra.step, .slice P8 np8 p8, .int .i64 ra.status, .int .i64 ra.out] 34)).alloc (.cells #[.int .i64 rb.p, .int .i64 rb.party, .int .i64 rb.x, .int .i64 rb.mask, .int .i64 rb.delta, .slice R5 nr5 r5, .slice R6 nr6 r6, .int .i64 rb.step, .slice R8 nr8 r8, .int .i64 rb.status, .int .i64 rb.out] 34)
    have hO := (Blk.new wo 34 #[.int .i64 ra.p, .int .i64 ra.party, .int .i64 ra.x, .int .i64 ra.mask, .int .i64 ra.delta, .slice P5 np5 p5, .slice P6 np6 p6, .int .i64 ra.step, .slice P8 np8 p8, .int .i64 ra.status, .int .i64 ra.out] (g := wo.heap.size)).alloc (.cells #[.int .i64 rb.p, .int .i64 rb.party, .int .i64 rb.x, .int .i64 rb.mask, .int .i64 rb.delta, .slice R5 nr5 r5, .slice R6 nr6 r6, .int .i64 rb.step, .slice R8 nr8 r8, .int .i64 rb.status, .int .i64 rb.out] 34)
    have hQ := Blk.new (wo.alloc (.cells #[.int .i64 ra.p, .int .i64 ra.party, .int .i64 ra.x, .int .i64 ra.mask, .int .i64 ra.delta, .slice P5 np5 p5, .slice P6 np6 p6, .int .i64 ra.step, .slice P8 np8 p8, .int .i64 ra.status, .int .i64 ra.out] 34)) 34 #[.int .i64 rb.p, .int .i64 rb.party, .int .i64 rb.x, .int .i64 rb.mask, .int .i64 rb.delta, .slice R5 nr5 r5, .slice R6 nr6 r6, .int .i64 rb.step, .slice R8 nr8 r8, .int .i64 rb.status, .int .i64 rb.out] (g := wo.heap.size + 1)
    simp only [valP, cellsP]
    clear hA hB
    go_wp2_with fail
    generalize (wo.alloc (.cells #[.int .i64 ra.p, .int .i64 ra.party, .int .i64 ra.x, .int .i64 ra.mask, .int .i64 ra.delta, .slice P5 np5 p5, .slice P6 np6 p6, .int .i64 ra.step, .slice P8 np8 p8, .int .i64 ra.status, .int .i64 ra.out] 34)).alloc (.cells #[.int .i64 rb.p, .int .i64 rb.party, .int .i64 rb.x, .int .i64 rb.mask, .int .i64 rb.delta, .slice R5 nr5 r5, .slice R6 nr6 r6, .int .i64 rb.step, .slice R8 nr8 r8, .int .i64 rb.status, .int .i64 rb.out] 34) = w3 at hW3 hO hQ ⊢
    generalize wo.heap.size = gO at hO hQ ⊢
    clear hW hbo
    obtain ⟨O_l, O_f, O_0, O_1, O_2, O_3, O_4, O_5, O_6, O_7, O_8, O_9, O_10⟩ := hO.l11
    obtain ⟨Q_l, Q_f, Q_0, Q_1, Q_2, Q_3, Q_4, Q_5, Q_6, Q_7, Q_8, Q_9, Q_10⟩ := hQ.l11
    go_quiet (fail)
    go_wp2_with fail
    refine bodyPost_ret (v := .tuple #[.int .i64 ra.status, .int .i64 rb.status, .bool true]) (by simp [results, Tryd.results12, go_sem]) rfl ?_
    exact ⟨by rw [SA.out, SB.out, e1], hW3.drewN _⟩
set_option maxRecDepth 20000 in
set_option maxHeartbeats 2000000 in
theorem spec_StatusesFor (a b : Pl) (As Ak Ah : Option Addr) (ns cs nk ck nh ch : Nat) (hs : List Hd) (As2 Ak2 Ah2 : Option Addr) (ns2 cs2 nk2 ck2 nh2 ch2 : Nat) (hs2 : List Hd) (Al : Option Addr) (nl cl : Nat) (l : List Md) (w : World) (hTb : Tab w) (hl : RdMd w Al nl cl l) (ha : RdP w a As Ak Ah ns cs nk ck nh ch hs) (hb : RdP w b As2 Ak2 Ah2 ns2 cs2 nk2 ck2 nh2 ch2 hs2) (ua : UnderP w.heap.size As Ak Ah hs) (ub : UnderP w.heap.size As2 Ak2 Ah2 hs2) :
    Calls Tryd.prog 9 #[.agg #[.int .i64 a.p, .int .i64 a.party, .int .i64 a.x, .int .i64 a.mask, .int .i64 a.delta, .slice As ns cs, .slice Ak nk ck, .int .i64 a.step, .slice Ah nh ch, .int .i64 a.status, .int .i64 a.out], .agg #[.int .i64 b.p, .int .i64 b.party, .int .i64 b.x, .int .i64 b.mask, .int .i64 b.delta, .slice As2 ns2 cs2, .slice Ak2 nk2 ck2, .int .i64 b.step, .slice Ah2 nh2 ch2, .int .i64 b.status, .int .i64 b.out], .slice Al nl cl] w fun e w' => e = .returned (.tuple #[.int .i64 (stA a b l), .int .i64 (stB a b l), .bool (askB a b l)]) ∧ Bl w w' := by
  have HK := Lib.hid (fun (w' : World) (hb' : Bl w w') => spec_nwAsked a b As Ak Ah ns cs nk ck nh ch hs As2 Ak2 Ah2 ns2 cs2 nk2 ck2 nh2 ch2 hs2 Al nl cl l w' (hTb.keep hb') (hl.keep hb') (ha.keep hb') (hb.keep hb'))
  have hW : Bl w ((w.alloc (.cells #[.int .i64 a.p, .int .i64 a.party, .int .i64 a.x, .int .i64 a.mask, .int .i64 a.delta, .slice As ns cs, .slice Ak nk ck, .int .i64 a.step, .slice Ah nh ch, .int .i64 a.status, .int .i64 a.out] 34)).alloc (.cells #[.int .i64 b.p, .int .i64 b.party, .int .i64 b.x, .int .i64 b.mask, .int .i64 b.delta, .slice As2 ns2 cs2, .slice Ak2 nk2 ck2, .int .i64 b.step, .slice Ah2 nh2 ch2, .int .i64 b.status, .int .i64 b.out] 34)) := Bl.a3
  have hA : Blk ((w.alloc (.cells #[.int .i64 a.p, .int .i64 a.party, .int .i64 a.x, .int .i64 a.mask, .int .i64 a.delta, .slice As ns cs, .slice Ak nk ck, .int .i64 a.step, .slice Ah nh ch, .int .i64 a.status, .int .i64 a.out] 34)).alloc (.cells #[.int .i64 b.p, .int .i64 b.party, .int .i64 b.x, .int .i64 b.mask, .int .i64 b.delta, .slice As2 ns2 cs2, .slice Ak2 nk2 ck2, .int .i64 b.step, .slice Ah2 nh2 ch2, .int .i64 b.status, .int .i64 b.out] 34)) (w.heap.size) 34 #[.int .i64 a.p, .int .i64 a.party, .int .i64 a.x, .int .i64 a.mask, .int .i64 a.delta, .slice As ns cs, .slice Ak nk ck, .int .i64 a.step, .slice Ah nh ch, .int .i64 a.status, .int .i64 a.out] := ((Blk.new w 34 #[.int .i64 a.p, .int .i64 a.party, .int .i64 a.x, .int .i64 a.mask, .int .i64 a.delta, .slice As ns cs, .slice Ak nk ck, .int .i64 a.step, .slice Ah nh ch, .int .i64 a.status, .int .i64 a.out] (g := w.heap.size)).alloc (.cells #[.int .i64 b.p, .int .i64 b.party, .int .i64 b.x, .int .i64 b.mask, .int .i64 b.delta, .slice As2 ns2 cs2, .slice Ak2 nk2 ck2, .int .i64 b.step, .slice Ah2 nh2 ch2, .int .i64 b.status, .int .i64 b.out] 34))
  have hB : Blk ((w.alloc (.cells #[.int .i64 a.p, .int .i64 a.party, .int .i64 a.x, .int .i64 a.mask, .int .i64 a.delta, .slice As ns cs, .slice Ak nk ck, .int .i64 a.step, .slice Ah nh ch, .int .i64 a.status, .int .i64 a.out] 34)).alloc (.cells #[.int .i64 b.p, .int .i64 b.party, .int .i64 b.x, .int .i64 b.mask, .int .i64 b.delta, .slice As2 ns2 cs2, .slice Ak2 nk2 ck2, .int .i64 b.step, .slice Ah2 nh2 ch2, .int .i64 b.status, .int .i64 b.out] 34)) (w.heap.size + 1) 34 #[.int .i64 b.p, .int .i64 b.party, .int .i64 b.x, .int .i64 b.mask, .int .i64 b.delta, .slice As2 ns2 cs2, .slice Ak2 nk2 ck2, .int .i64 b.step, .slice Ah2 nh2 ch2, .int .i64 b.status, .int .i64 b.out] := (Blk.new (w.alloc (.cells #[.int .i64 a.p, .int .i64 a.party, .int .i64 a.x, .int .i64 a.mask, .int .i64 a.delta, .slice As ns cs, .slice Ak nk ck, .int .i64 a.step, .slice Ah nh ch, .int .i64 a.status, .int .i64 a.out] 34)) 34 #[.int .i64 b.p, .int .i64 b.party, .int .i64 b.x, .int .i64 b.mask, .int .i64 b.delta, .slice As2 ns2 cs2, .slice Ak2 nk2 ck2, .int .i64 b.step, .slice Ah2 nh2 ch2, .int .i64 b.status, .int .i64 b.out] (g := w.heap.size + 1))
  obtain ⟨A_l, A_f, A_0, A_1, A_2, A_3, A_4, A_5, A_6, A_7, A_8, A_9, A_10⟩ := hA.l11; obtain ⟨B_l, B_f, B_0, B_1, B_2, B_3, B_4, B_5, B_6, B_7, B_8, B_9, B_10⟩ := hB.l11
  rcases e1 : askB a b l
  · have SA := Lib.hid (show stA a b l = 0 by unfold stA; rw [e1]; rfl)
    have SB := Lib.hid (show stB a b l = 0 by unfold stB; rw [e1]; rfl)
    clear ha hb hl ua ub
    go_enter Tryd.func9, Tryd.ntmps9
    go_wp2_with (go_at_call 33; refine (HK.out _ Bl.a3).mono ?_; rintro e w1 ⟨rfl, hb1⟩; rw [e1]; replace hW : Bl w w1 := Bl.a3; replace hA := hA.kp hb1; replace hB := hB.kp hb1; (try clear A_l A_f A_0 A_1 A_2 A_3 A_4 A_5 A_6 A_7 A_8 A_9 A_10 B_l B_f B_0 B_1 B_2 B_3 B_4 B_5 B_6 B_7 B_8 B_9 B_10); obtain ⟨A_l, A_f, A_0, A_1, A_2, A_3, A_4, A_5, A_6, A_7, A_8, A_9, A_10⟩ := hA.l11; obtain ⟨B_l, B_f, B_0, B_1, B_2, B_3, B_4, B_5, B_6, B_7, B_8, B_9, B_10⟩ := hB.l11)
    refine bodyPost_ret (v := .tuple #[.int .i64 0, .int .i64 0, .bool false]) (by simp [results, Tryd.results9, go_sem]) rfl ?_
    exact ⟨by rw [SA.out, SB.out], hW⟩
  · have e2 : twoB a b = true := by unfold askB at e1; rw [Bool.and_eq_true] at e1; exact e1.1
    have e3 : mdsB a.p l = true := by unfold askB at e1; rw [Bool.and_eq_true] at e1; exact e1.2
    have HC := Lib.hid (fun (w' : World) (hb' : Bl w w') => spec_nwRun a b As Ak Ah ns cs nk ck nh ch hs As2 Ak2 Ah2 ns2 cs2 nk2 ck2 nh2 ch2 hs2 Al nl cl l w' (hl.keep hb') e3 e2 (ha.keep hb') (hb.keep hb') (ua.mono hb'.sz) (ub.mono hb'.sz))
    clear ha hb hl ua ub e2 e3
    go_enter Tryd.func9, Tryd.ntmps9
    go_wp2_with (go_at_call 33; refine (HK.out _ Bl.a3).mono ?_; rintro e w1 ⟨rfl, hb1⟩; rw [e1]; replace hW : Bl w w1 := Bl.a3; replace hA := hA.kp hb1; replace hB := hB.kp hb1; (try clear A_l A_f A_0 A_1 A_2 A_3 A_4 A_5 A_6 A_7 A_8 A_9 A_10 B_l B_f B_0 B_1 B_2 B_3 B_4 B_5 B_6 B_7 B_8 B_9 B_10); obtain ⟨A_l, A_f, A_0, A_1, A_2, A_3, A_4, A_5, A_6, A_7, A_8, A_9, A_10⟩ := hA.l11; obtain ⟨B_l, B_f, B_0, B_1, B_2, B_3, B_4, B_5, B_6, B_7, B_8, B_9, B_10⟩ := hB.l11)
    refine (HC.out _ Bl.a3).mono ?_
    rintro e wo ⟨ra, rb, sent, taken, ⟨P5, P6, P8, np5, p5, np6, p6, np8, p8, ps⟩, ⟨R5, R6, R8, nr5, r5, nr6, r6, nr8, r8, rs_⟩, A, n, c, hrun, rfl, hnt, hbo⟩
    have SA := Lib.hid (show stA a b l = ra.status by unfold stA; rw [if_pos e1, hrun])
    have SB := Lib.hid (show stB a b l = rb.status by unfold stB; rw [if_pos e1, hrun])
    clear hrun hnt
    (try clear A_l A_f A_0 A_1 A_2 A_3 A_4 A_5 A_6 A_7 A_8 A_9 A_10 B_l B_f B_0 B_1 B_2 B_3 B_4 B_5 B_6 B_7 B_8 B_9 B_10)
    have hW3 := ((hW.call hbo).alloc (.cells #[.int .i64 ra.p, .int .i64 ra.party, .int .i64 ra.x, .int .i64 ra.mask, .int .i64 ra.delta, .slice P5 np5 p5, .slice P6 np6 p6, .int .i64 ra.step, .slice P8 np8 p8, .int .i64 ra.status, .int .i64 ra.out] 34)).alloc (.cells #[.int .i64 rb.p, .int .i64 rb.party, .int .i64 rb.x, .int .i64 rb.mask, .int .i64 rb.delta, .slice R5 nr5 r5, .slice R6 nr6 r6, .int .i64 rb.step, .slice R8 nr8 r8, .int .i64 rb.status, .int .i64 rb.out] 34)
    have hO := (Blk.new wo 34 #[.int .i64 ra.p, .int .i64 ra.party, .int .i64 ra.x, .int .i64 ra.mask, .int .i64 ra.delta, .slice P5 np5 p5, .slice P6 np6 p6, .int .i64 ra.step, .slice P8 np8 p8, .int .i64 ra.status, .int .i64 ra.out] (g := wo.heap.size)).alloc (.cells #[.int .i64 rb.p, .int .i64 rb.party, .int .i64 rb.x, .int .i64 rb.mask, .int .i64 rb.delta, .slice R5 nr5 r5, .slice R6 nr6 r6, .int .i64 rb.step, .slice R8 nr8 r8, .int .i64 rb.status, .int .i64 rb.out] 34)
    have hQ := Blk.new (wo.alloc (.cells #[.int .i64 ra.p, .int .i64 ra.party, .int .i64 ra.x, .int .i64 ra.mask, .int .i64 ra.delta, .slice P5 np5 p5, .slice P6 np6 p6, .int .i64 ra.step, .slice P8 np8 p8, .int .i64 ra.status, .int .i64 ra.out] 34)) 34 #[.int .i64 rb.p, .int .i64 rb.party, .int .i64 rb.x, .int .i64 rb.mask, .int .i64 rb.delta, .slice R5 nr5 r5, .slice R6 nr6 r6, .int .i64 rb.step, .slice R8 nr8 r8, .int .i64 rb.status, .int .i64 rb.out] (g := wo.heap.size + 1)
    simp only [valP, cellsP]
    clear hA hB
    go_wp2_with fail
    generalize (wo.alloc (.cells #[.int .i64 ra.p, .int .i64 ra.party, .int .i64 ra.x, .int .i64 ra.mask, .int .i64 ra.delta, .slice P5 np5 p5, .slice P6 np6 p6, .int .i64 ra.step, .slice P8 np8 p8, .int .i64 ra.status, .int .i64 ra.out] 34)).alloc (.cells #[.int .i64 rb.p, .int .i64 rb.party, .int .i64 rb.x, .int .i64 rb.mask, .int .i64 rb.delta, .slice R5 nr5 r5, .slice R6 nr6 r6, .int .i64 rb.step, .slice R8 nr8 r8, .int .i64 rb.status, .int .i64 rb.out] 34) = w3 at hW3 hO hQ ⊢
    generalize wo.heap.size = gO at hO hQ ⊢
    clear hW hbo
    obtain ⟨O_l, O_f, O_0, O_1, O_2, O_3, O_4, O_5, O_6, O_7, O_8, O_9, O_10⟩ := hO.l11
    obtain ⟨Q_l, Q_f, Q_0, Q_1, Q_2, Q_3, Q_4, Q_5, Q_6, Q_7, Q_8, Q_9, Q_10⟩ := hQ.l11
    go_quiet (fail)
    go_wp2_with fail
    refine bodyPost_ret (v := .tuple #[.int .i64 ra.status, .int .i64 rb.status, .bool true]) (by simp [results, Tryd.results9, go_sem]) rfl ?_
    exact ⟨by rw [SA.out, SB.out], hW3.drewN _⟩
end Go.Proofs.YtcjpalhclgkjiaaDoor
