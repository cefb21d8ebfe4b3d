/- Contracts: the players that end with a wrong result, of the program and of the reference.
   Conditions: none. -/
import Derived.Test.YtcjpalhclgkjiaaDoorPql
namespace Go.Proofs.YtcjpalhclgkjiaaDoor
open Go.RowKit
set_option linter.unusedVariables false
def wrgB (a b r : Pl) : Bool := r.status == 1 && !(r.out == a.x * b.x % a.p)
def wrgL (a b ra rb : Pl) : Nat → List Int
 | 0 => []
 | 1 => [] ++ (if wrgB a b ra = true then [0] else [])
 | _ => ([] ++ (if wrgB a b ra = true then [0] else [])) ++ (if wrgB a b rb = true then [1] else [])
def wrgR (a b : Pl) (l : List Md) : List Int := if askB a b l = true then wrgL a b (runM a b l).a (runM a b l).b 2 else []
theorem wrgR_len (a b : Pl) (l : List Md) : (wrgR a b l).length ≤ 2 := by
 unfold wrgR wrgL
 split
 ·(repeat' split) <;> simp
 ·simp
theorem Blk.lo {w : World} {g : Nat} {t : TypeId} {c0 c1 c2 c3 c4 c5 c6 c7 c8 c9 c10 c11 c12 c13 c14 c15 c16 c17 c18 c19 c20 c21 : Value} (h : Blk w g t #[c0, c1, c2, c3, c4, c5, c6, c7, c8, c9, c10, c11, c12, c13, c14, c15, c16, c17, c18, c19, c20, c21]) : w.cell? ⟨g, 0, none⟩ = some c0 ∧ w.cell? ⟨g, 1, none⟩ = some c1 ∧ w.cell? ⟨g, 2, none⟩ = some c2 ∧ w.cell? ⟨g, 3, none⟩ = some c3 ∧ w.cell? ⟨g, 4, none⟩ = some c4 ∧ w.cell? ⟨g, 5, none⟩ = some c5 ∧ w.cell? ⟨g, 6, none⟩ = some c6 ∧ w.cell? ⟨g, 7, none⟩ = some c7 ∧ w.cell? ⟨g, 8, none⟩ = some c8 ∧ w.cell? ⟨g, 9, none⟩ = some c9 ∧ w.cell? ⟨g, 10, none⟩ = some c10 := ⟨h.cell 0 _ rfl, h.cell 1 _ rfl, h.cell 2 _ rfl, h.cell 3 _ rfl, h.cell 4 _ rfl, h.cell 5 _ rfl, h.cell 6 _ rfl, h.cell 7 _ rfl, h.cell 8 _ rfl, h.cell 9 _ rfl, h.cell 10 _ rfl⟩
theorem Blk.hi {w : World} {g : Nat} {t : TypeId} {c0 c1 c2 c3 c4 c5 c6 c7 c8 c9 c10 c11 c12 c13 c14 c15 c16 c17 c18 c19 c20 c21 : Value} (h : Blk w g t #[c0, c1, c2, c3, c4, c5, c6, c7, c8, c9, c10, c11, c12, c13, c14, c15, c16, c17, c18, c19, c20, c21]) : w.cell? ⟨g, 11, none⟩ = some c11 ∧ w.cell? ⟨g, 12, none⟩ = some c12 ∧ w.cell? ⟨g, 13, none⟩ = some c13 ∧ w.cell? ⟨g, 14, none⟩ = some c14 ∧ w.cell? ⟨g, 15, none⟩ = some c15 ∧ w.cell? ⟨g, 16, none⟩ = some c16 ∧ w.cell? ⟨g, 17, none⟩ = some c17 ∧ w.cell? ⟨g, 18, none⟩ = some c18 ∧ w.cell? ⟨g, 19, none⟩ = some c19 ∧ w.cell? ⟨g, 20, none⟩ = some c20 ∧ w.cell? ⟨g, 21, none⟩ = some c21 := ⟨h.cell 11 _ rfl, h.cell 12 _ rfl, h.cell 13 _ rfl, h.cell 14 _ rfl, h.cell 15 _ rfl, h.cell 16 _ rfl, h.cell 17 _ rfl, h.cell 18 _ rfl, h.cell 19 _ rfl, h.cell 20 _ rfl, h.cell 21 _ rfl⟩
theorem wrgS {w wx W : World} {g gS gA gB base n c : Nat} {t t1 t2 t3 : TypeId} {V VA VB VS : Array Value} {A : Option Addr} {l : List Int} (h : w.alloc (.cells V t) = wx) (hg : w.heap.size = g) (hW : Bl W w) (hA : Blk w gA t1 VA) (hB : Blk w gB t2 VB) (hS : Blk w gS t3 VS) (ho : OwnI base w A n c l) :
  Blk wx g t V ∧ Bl W wx ∧ Blk wx gA t1 VA ∧ Blk wx gB t2 VB ∧ Blk wx gS t3 VS ∧ OwnI base wx A n c l := by subst h hg; exact ⟨Blk.new _ _ _, hW.alloc _, hA.alloc _, hB.alloc _, hS.alloc _, ho.alloc _⟩
theorem Blk.grown_ {w w' : World} {g : Nat} {t : TypeId} {cs : Array Value} {row : Option Nat} (h : Blk w g t cs) (hg : w.grownBy w' row) (hn : row ≠ some g) : Blk w' g t cs := (hg.block g h.lt (fun e => hn e.symm)).trans h
set_option maxRecDepth 20000 in
set_option maxHeartbeats 4000000 in
theorem impl_WrongPlayers (a b : Pl) (As Ak Ah : Option Addr) (ns cs nk ck nh ch : Nat) (hs : List Hd) (As2 Ak2 Ah2 : Option Addr) (ns2 cs2 nk2 ck2 nh2 ch2 : Nat) (hs2 : List Hd) (Al : Option Addr) (nl cl : Nat) (l : List Md) (w : World) (hTb : Tab w) (hl : RdMd w Al nl cl l) (ha : RdP w a As Ak Ah ns cs nk ck nh ch hs) (hb : RdP w b As2 Ak2 Ah2 ns2 cs2 nk2 ck2 nh2 ch2 hs2) (hnl : nl ≤ 1048576) :
  Calls Tryd.prog 23 #[.agg #[.int .i64 a.p, .int .i64 a.party, .int .i64 a.x, .int .i64 a.mask, .int .i64 a.delta, .slice As ns cs, .slice Ak nk ck, .int .i64 a.step, .slice Ah nh ch, .int .i64 a.status, .int .i64 a.out], .agg #[.int .i64 b.p, .int .i64 b.party, .int .i64 b.x, .int .i64 b.mask, .int .i64 b.delta, .slice As2 ns2 cs2, .slice Ak2 nk2 ck2, .int .i64 b.step, .slice Ah2 nh2 ch2, .int .i64 b.status, .int .i64 b.out], .slice Al nl cl] w fun e w' => ∃ A n c, e = .returned (.tuple #[.slice A n c, .bool (askB a b l)]) ∧ OwnI w.heap.size w' A n c (wrgR a b l) ∧ Bl w w' := by
 have HC := Lib.hid (fun (w' : World) (hb' : Bl w w') => impl_RunMeddled a b As Ak Ah ns cs nk ck nh ch hs As2 Ak2 Ah2 ns2 cs2 nk2 ck2 nh2 ch2 hs2 Al nl cl l w' (hTb.keep hb') (hl.keep hb') (ha.keep hb') (hb.keep hb'))
 have hW : Bl w ((w.alloc (.cells #[.int .i64 a.p, .int .i64 a.party, .int .i64 a.x, .int .i64 a.mask, .int .i64 a.delta, .slice As ns cs, .slice Ak nk ck, .int .i64 a.step, .slice Ah nh ch, .int .i64 a.status, .int .i64 a.out] 34)).alloc (.cells #[.int .i64 b.p, .int .i64 b.party, .int .i64 b.x, .int .i64 b.mask, .int .i64 b.delta, .slice As2 ns2 cs2, .slice Ak2 nk2 ck2, .int .i64 b.step, .slice Ah2 nh2 ch2, .int .i64 b.status, .int .i64 b.out] 34)) := Bl.a3
 have hA : Blk ((w.alloc (.cells #[.int .i64 a.p, .int .i64 a.party, .int .i64 a.x, .int .i64 a.mask, .int .i64 a.delta, .slice As ns cs, .slice Ak nk ck, .int .i64 a.step, .slice Ah nh ch, .int .i64 a.status, .int .i64 a.out] 34)).alloc (.cells #[.int .i64 b.p, .int .i64 b.party, .int .i64 b.x, .int .i64 b.mask, .int .i64 b.delta, .slice As2 ns2 cs2, .slice Ak2 nk2 ck2, .int .i64 b.step, .slice Ah2 nh2 ch2, .int .i64 b.status, .int .i64 b.out] 34)) (w.heap.size) 34 #[.int .i64 a.p, .int .i64 a.party, .int .i64 a.x, .int .i64 a.mask, .int .i64 a.delta, .slice As ns cs, .slice Ak nk ck, .int .i64 a.step, .slice Ah nh ch, .int .i64 a.status, .int .i64 a.out] := ((Blk.new w 34 #[.int .i64 a.p, .int .i64 a.party, .int .i64 a.x, .int .i64 a.mask, .int .i64 a.delta, .slice As ns cs, .slice Ak nk ck, .int .i64 a.step, .slice Ah nh ch, .int .i64 a.status, .int .i64 a.out] (g := w.heap.size)).alloc (.cells #[.int .i64 b.p, .int .i64 b.party, .int .i64 b.x, .int .i64 b.mask, .int .i64 b.delta, .slice As2 ns2 cs2, .slice Ak2 nk2 ck2, .int .i64 b.step, .slice Ah2 nh2 ch2, .int .i64 b.status, .int .i64 b.out] 34))
 have hB : Blk ((w.alloc (.cells #[.int .i64 a.p, .int .i64 a.party, .int .i64 a.x, .int .i64 a.mask, .int .i64 a.delta, .slice As ns cs, .slice Ak nk ck, .int .i64 a.step, .slice Ah nh ch, .int .i64 a.status, .int .i64 a.out] 34)).alloc (.cells #[.int .i64 b.p, .int .i64 b.party, .int .i64 b.x, .int .i64 b.mask, .int .i64 b.delta, .slice As2 ns2 cs2, .slice Ak2 nk2 ck2, .int .i64 b.step, .slice Ah2 nh2 ch2, .int .i64 b.status, .int .i64 b.out] 34)) (w.heap.size + 1) 34 #[.int .i64 b.p, .int .i64 b.party, .int .i64 b.x, .int .i64 b.mask, .int .i64 b.delta, .slice As2 ns2 cs2, .slice Ak2 nk2 ck2, .int .i64 b.step, .slice Ah2 nh2 ch2, .int .i64 b.status, .int .i64 b.out] := (Blk.new (w.alloc (.cells #[.int .i64 a.p, .int .i64 a.party, .int .i64 a.x, .int .i64 a.mask, .int .i64 a.delta, .slice As ns cs, .slice Ak nk ck, .int .i64 a.step, .slice Ah nh ch, .int .i64 a.status, .int .i64 a.out] 34)) 34 #[.int .i64 b.p, .int .i64 b.party, .int .i64 b.x, .int .i64 b.mask, .int .i64 b.delta, .slice As2 ns2 cs2, .slice Ak2 nk2 ck2, .int .i64 b.step, .slice Ah2 nh2 ch2, .int .i64 b.status, .int .i64 b.out] (g := w.heap.size + 1))
 obtain ⟨A_l, A_f, A_0, A_1, A_2, A_3, A_4, A_5, A_6, A_7, A_8, A_9, A_10⟩ := hA.l11; obtain ⟨B_l, B_f, B_0, B_1, B_2, B_3, B_4, B_5, B_6, B_7, B_8, B_9, B_10⟩ := hB.l11
 clear ha hb hl
 go_enter Tryd.func23, Tryd.ntmps23
 go_wp2_with fail
 refine (HC.out _ hW).mono ?_
 rintro e wo ⟨ra, rb, sent, taken, ⟨P5, P6, P8, np5, p5, np6, p6, np8, p8, ps⟩, ⟨R5, R6, R8, nr5, r5, nr6, r6, nr8, r8, rs_⟩, A, n, c, rfl, hrun, hbo⟩
 have hrunx := Lib.hid hrun
 clear hrun HC
 (try clear A_l A_f A_0 A_1 A_2 A_3 A_4 A_5 A_6 A_7 A_8 A_9 A_10 B_l B_f B_0 B_1 B_2 B_3 B_4 B_5 B_6 B_7 B_8 B_9 B_10)
 rcases e1 : askB a b l
 ·have SA := Lib.hid (show wrgR a b l = [] by unfold wrgR; rw [e1]; rfl)
  have hW3 := ((hW.call hbo).alloc (.cells #[.int .i64 ra.p, .int .i64 ra.party, .int .i64 ra.x, .int .i64 ra.mask, .int .i64 ra.delta, .slice P5 np5 p5, .slice P6 np6 p6, .int .i64 ra.step, .slice P8 np8 p8, .int .i64 ra.status, .int .i64 ra.out] 34)).alloc (.cells #[.int .i64 rb.p, .int .i64 rb.party, .int .i64 rb.x, .int .i64 rb.mask, .int .i64 rb.delta, .slice R5 nr5 r5, .slice R6 nr6 r6, .int .i64 rb.step, .slice R8 nr8 r8, .int .i64 rb.status, .int .i64 rb.out] 34)
  simp only [valP, cellsP]
  go_wp2_with fail
  go_ret2
  exact ⟨none, 0, 0, by first | rfl | (rw [e1]; rfl), by rw [SA.out]; exact OwnI.nil _ _, hW3⟩
 ·have HR := Lib.hid (show wrgR a b l = wrgL a b ra rb 2 by unfold wrgR; rw [if_pos e1, (hrunx.out e1).1])
  have e2 : twoB a b = true := by unfold askB at e1; rw [Bool.and_eq_true] at e1; exact e1.1
  have ok := two_facts e2
  have x1 := ok.1.x
  have x2 := ok.2.1.x
  have pp := ok.1.p2
  have pe := ok.2.2.1
  have m1 := prod0 a.x b.x (by omega) (by omega) (by omega) (by omega)
  have z1 : IntKind.i64.wrap (a.x * b.x) = a.x * b.x := IntWalk.i64_in _ (by omega)
  have zt : (a.x * b.x).tmod a.p = a.x * b.x % a.p := Int.tmod_eq_emod_of_nonneg (by omega)
  have hp0 : (a.p == 0) = false := by simp; omega
  have hp1 : ¬ a.p = 0 := by omega
  clear ok pe
  clear e2 hrunx
  have hA := (((hA.keep hbo).alloc (.cells #[.int .i64 ra.p, .int .i64 ra.party, .int .i64 ra.x, .int .i64 ra.mask, .int .i64 ra.delta, .slice P5 np5 p5, .slice P6 np6 p6, .int .i64 ra.step, .slice P8 np8 p8, .int .i64 ra.status, .int .i64 ra.out] 34)).alloc (.cells #[.int .i64 rb.p, .int .i64 rb.party, .int .i64 rb.x, .int .i64 rb.mask, .int .i64 rb.delta, .slice R5 nr5 r5, .slice R6 nr6 r6, .int .i64 rb.step, .slice R8 nr8 r8, .int .i64 rb.status, .int .i64 rb.out] 34))
  have hB := (((hB.keep hbo).alloc (.cells #[.int .i64 ra.p, .int .i64 ra.party, .int .i64 ra.x, .int .i64 ra.mask, .int .i64 ra.delta, .slice P5 np5 p5, .slice P6 np6 p6, .int .i64 ra.step, .slice P8 np8 p8, .int .i64 ra.status, .int .i64 ra.out] 34)).alloc (.cells #[.int .i64 rb.p, .int .i64 rb.party, .int .i64 rb.x, .int .i64 rb.mask, .int .i64 rb.delta, .slice R5 nr5 r5, .slice R6 nr6 r6, .int .i64 rb.step, .slice R8 nr8 r8, .int .i64 rb.status, .int .i64 rb.out] 34))
  have hW3 := ((hW.call hbo).alloc (.cells #[.int .i64 ra.p, .int .i64 ra.party, .int .i64 ra.x, .int .i64 ra.mask, .int .i64 ra.delta, .slice P5 np5 p5, .slice P6 np6 p6, .int .i64 ra.step, .slice P8 np8 p8, .int .i64 ra.status, .int .i64 ra.out] 34)).alloc (.cells #[.int .i64 rb.p, .int .i64 rb.party, .int .i64 rb.x, .int .i64 rb.mask, .int .i64 rb.delta, .slice R5 nr5 r5, .slice R6 nr6 r6, .int .i64 rb.step, .slice R8 nr8 r8, .int .i64 rb.status, .int .i64 rb.out] 34)
  have hO := (Blk.new wo 34 #[.int .i64 ra.p, .int .i64 ra.party, .int .i64 ra.x, .int .i64 ra.mask, .int .i64 ra.delta, .slice P5 np5 p5, .slice P6 np6 p6, .int .i64 ra.step, .slice P8 np8 p8, .int .i64 ra.status, .int .i64 ra.out] (g := wo.heap.size)).alloc (.cells #[.int .i64 rb.p, .int .i64 rb.party, .int .i64 rb.x, .int .i64 rb.mask, .int .i64 rb.delta, .slice R5 nr5 r5, .slice R6 nr6 r6, .int .i64 rb.step, .slice R8 nr8 r8, .int .i64 rb.status, .int .i64 rb.out] 34)
  have hQ := Blk.new (wo.alloc (.cells #[.int .i64 ra.p, .int .i64 ra.party, .int .i64 ra.x, .int .i64 ra.mask, .int .i64 ra.delta, .slice P5 np5 p5, .slice P6 np6 p6, .int .i64 ra.step, .slice P8 np8 p8, .int .i64 ra.status, .int .i64 ra.out] 34)) 34 #[.int .i64 rb.p, .int .i64 rb.party, .int .i64 rb.x, .int .i64 rb.mask, .int .i64 rb.delta, .slice R5 nr5 r5, .slice R6 nr6 r6, .int .i64 rb.step, .slice R8 nr8 r8, .int .i64 rb.status, .int .i64 rb.out] (g := wo.heap.size + 1)
  simp only [valP, cellsP]
  go_wp2_with fail
  have hsz : ((wo.alloc (.cells #[.int .i64 ra.p, .int .i64 ra.party, .int .i64 ra.x, .int .i64 ra.mask, .int .i64 ra.delta, .slice P5 np5 p5, .slice P6 np6 p6, .int .i64 ra.step, .slice P8 np8 p8, .int .i64 ra.status, .int .i64 ra.out] 34)).alloc (.cells #[.int .i64 rb.p, .int .i64 rb.party, .int .i64 rb.x, .int .i64 rb.mask, .int .i64 rb.delta, .slice R5 nr5 r5, .slice R6 nr6 r6, .int .i64 rb.step, .slice R8 nr8 r8, .int .i64 rb.status, .int .i64 rb.out] 34)).heap.size = wo.heap.size + 1 + 1 := by simp
  generalize (wo.alloc (.cells #[.int .i64 ra.p, .int .i64 ra.party, .int .i64 ra.x, .int .i64 ra.mask, .int .i64 ra.delta, .slice P5 np5 p5, .slice P6 np6 p6, .int .i64 ra.step, .slice P8 np8 p8, .int .i64 ra.status, .int .i64 ra.out] 34)).alloc (.cells #[.int .i64 rb.p, .int .i64 rb.party, .int .i64 rb.x, .int .i64 rb.mask, .int .i64 rb.delta, .slice R5 nr5 r5, .slice R6 nr6 r6, .int .i64 rb.step, .slice R8 nr8 r8, .int .i64 rb.status, .int .i64 rb.out] 34) = w3 at hA hB hW3 hO hQ hsz ⊢
  generalize wo.heap.size = gO at hO hQ hsz ⊢
  clear hW hbo
  have hown0 : OwnI (w.heap.size + 2) (w3.alloc (.cells #[] 3)) (some ⟨gO + 1 + 1, 0, none⟩) 0 0 [] := (own_made w3 hsz).mono (by have := hB.lt; omega)
  obtain ⟨O_l, O_f, O_0, O_1, O_2, O_3, O_4, O_5, O_6, O_7, O_8, O_9, O_10⟩ := hO.l11
  obtain ⟨Q_l, Q_f, Q_0, Q_1, Q_2, Q_3, Q_4, Q_5, Q_6, Q_7, Q_8, Q_9, Q_10⟩ := hQ.l11
  go_wp2_with fail
  have hW : Bl w ((w3.alloc (.cells #[] 3)).alloc (.cells #[.int .i64 ra.p, .int .i64 ra.party, .int .i64 ra.x, .int .i64 ra.mask, .int .i64 ra.delta, .slice P5 np5 p5, .slice P6 np6 p6, .int .i64 ra.step, .slice P8 np8 p8, .int .i64 ra.status, .int .i64 ra.out, .int .i64 rb.p, .int .i64 rb.party, .int .i64 rb.x, .int .i64 rb.mask, .int .i64 rb.delta, .slice R5 nr5 r5, .slice R6 nr6 r6, .int .i64 rb.step, .slice R8 nr8 r8, .int .i64 rb.status, .int .i64 rb.out] 34)) := (hW3.alloc _).alloc _
  replace hA := (hA.alloc (.cells #[] 3)).alloc (.cells #[.int .i64 ra.p, .int .i64 ra.party, .int .i64 ra.x, .int .i64 ra.mask, .int .i64 ra.delta, .slice P5 np5 p5, .slice P6 np6 p6, .int .i64 ra.step, .slice P8 np8 p8, .int .i64 ra.status, .int .i64 ra.out, .int .i64 rb.p, .int .i64 rb.party, .int .i64 rb.x, .int .i64 rb.mask, .int .i64 rb.delta, .slice R5 nr5 r5, .slice R6 nr6 r6, .int .i64 rb.step, .slice R8 nr8 r8, .int .i64 rb.status, .int .i64 rb.out] 34)
  replace hB := (hB.alloc (.cells #[] 3)).alloc (.cells #[.int .i64 ra.p, .int .i64 ra.party, .int .i64 ra.x, .int .i64 ra.mask, .int .i64 ra.delta, .slice P5 np5 p5, .slice P6 np6 p6, .int .i64 ra.step, .slice P8 np8 p8, .int .i64 ra.status, .int .i64 ra.out, .int .i64 rb.p, .int .i64 rb.party, .int .i64 rb.x, .int .i64 rb.mask, .int .i64 rb.delta, .slice R5 nr5 r5, .slice R6 nr6 r6, .int .i64 rb.step, .slice R8 nr8 r8, .int .i64 rb.status, .int .i64 rb.out] 34)
  have hS := Blk.new (w3.alloc (.cells #[] 3)) 34 #[.int .i64 ra.p, .int .i64 ra.party, .int .i64 ra.x, .int .i64 ra.mask, .int .i64 ra.delta, .slice P5 np5 p5, .slice P6 np6 p6, .int .i64 ra.step, .slice P8 np8 p8, .int .i64 ra.status, .int .i64 ra.out, .int .i64 rb.p, .int .i64 rb.party, .int .i64 rb.x, .int .i64 rb.mask, .int .i64 rb.delta, .slice R5 nr5 r5, .slice R6 nr6 r6, .int .i64 rb.step, .slice R8 nr8 r8, .int .i64 rb.status, .int .i64 rb.out] (g := gO + 1 + 1 + 1) (by first | exact hsz | (simp; omega))
  replace hown0 := hown0.alloc (.cells #[.int .i64 ra.p, .int .i64 ra.party, .int .i64 ra.x, .int .i64 ra.mask, .int .i64 ra.delta, .slice P5 np5 p5, .slice P6 np6 p6, .int .i64 ra.step, .slice P8 np8 p8, .int .i64 ra.status, .int .i64 ra.out, .int .i64 rb.p, .int .i64 rb.party, .int .i64 rb.x, .int .i64 rb.mask, .int .i64 rb.delta, .slice R5 nr5 r5, .slice R6 nr6 r6, .int .i64 rb.step, .slice R8 nr8 r8, .int .i64 rb.status, .int .i64 rb.out] 34)
  have hav0 : ∀ q, (some ⟨gO + 1 + 1, 0, none⟩ : Option Addr).map (·.block) = some q → q ≠ gO + 1 + 1 + 1 := (fun q hq => by simp at hq; omega)
  clear hW3 hO hQ
  (try clear O_l O_f O_0 O_1 O_2 O_3 O_4 O_5 O_6 O_7 O_8 O_9 O_10)
  (try clear Q_l Q_f Q_0 Q_1 Q_2 Q_3 Q_4 Q_5 Q_6 Q_7 Q_8 Q_9 Q_10)
  generalize (w3.alloc (.cells #[] 3)).alloc (.cells #[.int .i64 ra.p, .int .i64 ra.party, .int .i64 ra.x, .int .i64 ra.mask, .int .i64 ra.delta, .slice P5 np5 p5, .slice P6 np6 p6, .int .i64 ra.step, .slice P8 np8 p8, .int .i64 ra.status, .int .i64 ra.out, .int .i64 rb.p, .int .i64 rb.party, .int .i64 rb.x, .int .i64 rb.mask, .int .i64 rb.delta, .slice R5 nr5 r5, .slice R6 nr6 r6, .int .i64 rb.step, .slice R8 nr8 r8, .int .i64 rb.status, .int .i64 rb.out] 34) = ws at hA hB hS hW hown0 ⊢
  generalize hgS : gO + 1 + 1 + 1 = gS at hS hav0 ⊢
  clear hgS hsz
  go_loopw [12, 31] (fun s i wr => ∃ (k m c3 : Nat) (A3 : Option Addr), k ≤ 2 ∧ m ≤ k ∧ i = .int .i64 (k : Nat) ∧ s = .slice A3 m c3 ∧ OwnI (w.heap.size + 2) wr A3 m c3 (wrgL a b ra rb k) ∧ (∀ q, A3.map (·.block) = some q → q ≠ gS) ∧ Blk wr w.heap.size 34 #[.int .i64 a.p, .int .i64 a.party, .int .i64 a.x, .int .i64 a.mask, .int .i64 a.delta, .slice As ns cs, .slice Ak nk ck, .int .i64 a.step, .slice Ah nh ch, .int .i64 a.status, .int .i64 a.out] ∧ Blk wr (w.heap.size + 1) 34 #[.int .i64 b.p, .int .i64 b.party, .int .i64 b.x, .int .i64 b.mask, .int .i64 b.delta, .slice As2 ns2 cs2, .slice Ak2 nk2 ck2, .int .i64 b.step, .slice Ah2 nh2 ch2, .int .i64 b.status, .int .i64 b.out] ∧ Blk wr gS 34 #[.int .i64 ra.p, .int .i64 ra.party, .int .i64 ra.x, .int .i64 ra.mask, .int .i64 ra.delta, .slice P5 np5 p5, .slice P6 np6 p6, .int .i64 ra.step, .slice P8 np8 p8, .int .i64 ra.status, .int .i64 ra.out, .int .i64 rb.p, .int .i64 rb.party, .int .i64 rb.x, .int .i64 rb.mask, .int .i64 rb.delta, .slice R5 nr5 r5, .slice R6 nr6 r6, .int .i64 rb.step, .slice R8 nr8 r8, .int .i64 rb.status, .int .i64 rb.out] ∧ Bl w wr) (fun _ i _ => 2 - (intOf i).toNat)
  case atStart => exact ⟨0, 0, _, _, by omega, by omega, rfl, rfl, hown0, hav0, hA, hB, hS, hW⟩
  case round =>
   clear hown0 hav0 hA hB hS hW
   obtain ⟨k, m, c3, A3, hk, hm, hie, rfl, hown, hav, hA, hB, hS, hW⟩ := hrel
   have hk3 : k = 0 ∨ k = 1 ∨ k = 2 := by omega
   rcases hk3 with rfl | rfl | rfl
   ·obtain rfl := hie.trans (show _ = Value.int .i64 0 from rfl)
    clear hie
    by_cases hs1 : ra.status = 1
    ·obtain ⟨bb, go1⟩ : ∃ bb, (ra.out != a.x * b.x % a.p) = bb := ⟨_, rfl⟩
     have HX := Lib.hid (show wrgL a b ra rb 1 = wrgL a b ra rb 0 ++ if bb = true then [0] else [] by subst go1; simp [wrgL, wrgB, hs1])
     have gs : (ra.status == 1) = true := by simp [hs1]
     clear hs1
     obtain ⟨S0, S1, S2, S3, S4, S5, S6, S7, S8, S9, S10⟩ := hS.lo
     go_wp2_with fail
     clear S0 S1 S2 S3 S4 S5 S6 S7 S8 S9 S10
     generalize hx : wr.alloc (.cells #[.int .i64 ra.p, .int .i64 ra.party, .int .i64 ra.x, .int .i64 ra.mask, .int .i64 ra.delta, .slice P5 np5 p5, .slice P6 np6 p6, .int .i64 ra.step, .slice P8 np8 p8, .int .i64 ra.status, .int .i64 ra.out] 34) = wx
     generalize hg : wr.heap.size = gX
     obtain ⟨hX, hWx, hAx, hBx, hSx, hox⟩ := wrgS hx hg hW hA hB hS hown
     clear hx hg hA hB hS hW hown
     have X_9 := hX.cell 9 _ rfl; have X_10 := hX.cell 10 _ rfl; have A_0 := hAx.cell 0 _ rfl; have A_2 := hAx.cell 2 _ rfl; have B_2 := hBx.cell 2 _ rfl
     refine wp_region_held_drew (S := (fun w' => w'.cell? ⟨gX, 9, none⟩ = some (.int .i64 ra.status) ∧ w'.cell? ⟨gX, 10, none⟩ = some (.int .i64 ra.out) ∧ w'.cell? ⟨w.heap.size, 0, none⟩ = some (.int .i64 a.p) ∧ w'.cell? ⟨w.heap.size, 2, none⟩ = some (.int .i64 a.x) ∧ w'.cell? ⟨w.heap.size + 1, 2, none⟩ = some (.int .i64 b.x))) (by kernel_rfl) ?_ (fun hHeld => ?_)
     ·(try dsimp only); first | exact ⟨X_9, X_10, A_0, A_2, B_2⟩ | go_keep
     refine tkO 0 36 ?_
     refine tkO 1 37 ?_
     refine tkO 2 38 ?_
     refine tkO 3 39 ?_
     refine tkO 4 40 ?_
     refine tkO 5 41 ?_
     refine tkO 6 42 ?_
     refine tkO 7 43 ?_
     refine tkO 8 44 ?_
     refine tkO 9 45 ?_
     refine tkO 10 46 ?_
     refine tkO 11 47 ?_
     refine tkO 12 48 ?_
     refine rdy1 13 fun K hK => ?_
     go_simp
     (first | (go_at_call 45; refine (impl_mod a.p (a.x * b.x) _ (by omega) (by omega) (by omega) (by omega)).mono ?_; rintro e w2 ⟨rfl, rfl⟩))
     go_wp2_with fail
     refine ko hK ?_ fun hHeld => ?_
     ·(try dsimp only); first | exact ⟨X_9, X_10, A_0, A_2, B_2⟩ | go_keep
     clear hK K
     refine tkO 14 50 ?_
     refine tkO 15 51 ?_
     refine wpAnyH_done (by kernel_rfl) ?_ _
     cases bb
     ·go_wp2_with fail
      go_roundw
      case rel => exact ⟨1, m, c3, A3, by omega, by omega, rfl, rfl, by rw [HX.out, if_neg (by decide), List.append_nil]; exact hox.keep (Bl.refl _).drew, hav, hAx.drew, hBx.drew, hSx.drew, hWx.drew⟩
      case measure => simp [intOf]
     ·clear X_9 X_10 A_0 A_2 B_2 hX
      go_wp2_with (first | (at_builtin; refine ap_int rfl rfl rfl ((hox.alloc _).keep (Bl.refl _).drew) rfl (RdI.keep (rd_new1 _ _ _) (Bl.refl _).drew) (by omega) (by have := hBx.lt; simp; omega) ?_; intro A4 c4 w4 hown4 hg4 hat4))
      have hne : ∀ q, A3.map (·.block) = some q → w.heap.size + 2 ≤ q := fun q hq => (hox.blk q hq).1
      go_roundw
      case rel => exact ⟨1, m + 1, c4, A4, by omega, by omega, rfl, rfl, by rw [HX.out, if_pos rfl]; exact hown4, fun q hq => by
        rcases hat4 with h | h
        ·exact hav q (h.symm.trans hq)
        ·have e := h.symm.trans hq
         injection e with e
         have := hSx.lt
         simp at e
         omega, (hAx.alloc _).drew.grown_ hg4 (fun e => by have := hne _ e; omega), (hBx.alloc _).drew.grown_ hg4 (fun e => by have := hne _ e; omega), (hSx.alloc _).drew.grown_ hg4 (fun e => hav _ e rfl), (hWx.alloc _).drew.grown hg4 (fun q hq => by have := hne q hq; omega)⟩
      case measure => simp [intOf]
    ·have HX := Lib.hid (show wrgL a b ra rb 1 = wrgL a b ra rb 0 by simp [wrgL, wrgB, hs1])
     have gs : (ra.status == 1) = false := by simp [hs1]
     clear hs1
     obtain ⟨S0, S1, S2, S3, S4, S5, S6, S7, S8, S9, S10⟩ := hS.lo
     go_wp2_with fail
     clear S0 S1 S2 S3 S4 S5 S6 S7 S8 S9 S10
     generalize hx : wr.alloc (.cells #[.int .i64 ra.p, .int .i64 ra.party, .int .i64 ra.x, .int .i64 ra.mask, .int .i64 ra.delta, .slice P5 np5 p5, .slice P6 np6 p6, .int .i64 ra.step, .slice P8 np8 p8, .int .i64 ra.status, .int .i64 ra.out] 34) = wx
     generalize hg : wr.heap.size = gX
     obtain ⟨hX, hWx, hAx, hBx, hSx, hox⟩ := wrgS hx hg hW hA hB hS hown
     clear hx hg hA hB hS hW hown
     have X_9 := hX.cell 9 _ rfl; have X_10 := hX.cell 10 _ rfl; have A_0 := hAx.cell 0 _ rfl; have A_2 := hAx.cell 2 _ rfl; have B_2 := hBx.cell 2 _ rfl
     refine wp_region_held_drew (S := (fun w' => w'.cell? ⟨gX, 9, none⟩ = some (.int .i64 ra.status) ∧ w'.cell? ⟨gX, 10, none⟩ = some (.int .i64 ra.out) ∧ w'.cell? ⟨w.heap.size, 0, none⟩ = some (.int .i64 a.p) ∧ w'.cell? ⟨w.heap.size, 2, none⟩ = some (.int .i64 a.x) ∧ w'.cell? ⟨w.heap.size + 1, 2, none⟩ = some (.int .i64 b.x))) (by kernel_rfl) ?_ (fun hHeld => ?_)
     ·(try dsimp only); first | exact ⟨X_9, X_10, A_0, A_2, B_2⟩ | go_keep
     refine tkO 0 36 ?_
     refine tkO 1 37 ?_
     refine tkO 2 38 ?_
     refine tkO 3 39 ?_
     refine tkz 4 40 ?_
     refine tkz 5 41 ?_
     refine tkz 6 42 ?_
     refine tkz 7 43 ?_
     refine tkz 8 44 ?_
     refine tkz 9 45 ?_
     refine tkz 10 46 ?_
     refine tkz 11 47 ?_
     refine tkz 12 48 ?_
     refine tkz 13 49 ?_
     refine tkz 14 50 ?_
     refine tkO 15 51 ?_
     refine wpAnyH_done (by kernel_rfl) ?_ _
     go_wp2_with fail
     go_roundw
     case rel => exact ⟨1, m, c3, A3, by omega, by omega, rfl, rfl, by rw [HX.out]; exact hox.keep (Bl.refl _).drew, hav, hAx.drew, hBx.drew, hSx.drew, hWx.drew⟩
     case measure => simp [intOf]
   ·obtain rfl := hie.trans (show _ = Value.int .i64 1 from rfl)
    clear hie
    by_cases hs1 : rb.status = 1
    ·obtain ⟨bb, go1⟩ : ∃ bb, (rb.out != a.x * b.x % a.p) = bb := ⟨_, rfl⟩
     have HX := Lib.hid (show wrgL a b ra rb 2 = wrgL a b ra rb 1 ++ if bb = true then [1] else [] by subst go1; simp [wrgL, wrgB, hs1])
     have gs : (rb.status == 1) = true := by simp [hs1]
     clear hs1
     obtain ⟨S0, S1, S2, S3, S4, S5, S6, S7, S8, S9, S10⟩ := hS.hi
     go_wp2_with fail
     clear S0 S1 S2 S3 S4 S5 S6 S7 S8 S9 S10
     generalize hx : wr.alloc (.cells #[.int .i64 rb.p, .int .i64 rb.party, .int .i64 rb.x, .int .i64 rb.mask, .int .i64 rb.delta, .slice R5 nr5 r5, .slice R6 nr6 r6, .int .i64 rb.step, .slice R8 nr8 r8, .int .i64 rb.status, .int .i64 rb.out] 34) = wx
     generalize hg : wr.heap.size = gX
     obtain ⟨hX, hWx, hAx, hBx, hSx, hox⟩ := wrgS hx hg hW hA hB hS hown
     clear hx hg hA hB hS hW hown
     have X_9 := hX.cell 9 _ rfl; have X_10 := hX.cell 10 _ rfl; have A_0 := hAx.cell 0 _ rfl; have A_2 := hAx.cell 2 _ rfl; have B_2 := hBx.cell 2 _ rfl
     refine wp_region_held_drew (S := (fun w' => w'.cell? ⟨gX, 9, none⟩ = some (.int .i64 rb.status) ∧ w'.cell? ⟨gX, 10, none⟩ = some (.int .i64 rb.out) ∧ w'.cell? ⟨w.heap.size, 0, none⟩ = some (.int .i64 a.p) ∧ w'.cell? ⟨w.heap.size, 2, none⟩ = some (.int .i64 a.x) ∧ w'.cell? ⟨w.heap.size + 1, 2, none⟩ = some (.int .i64 b.x))) (by kernel_rfl) ?_ (fun hHeld => ?_)
     ·(try dsimp only); first | exact ⟨X_9, X_10, A_0, A_2, B_2⟩ | go_keep
     refine tkO 0 36 ?_
     refine tkO 1 37 ?_
     refine tkO 2 38 ?_
     refine tkO 3 39 ?_
     refine tkO 4 40 ?_
     refine tkO 5 41 ?_
     refine tkO 6 42 ?_
     refine tkO 7 43 ?_
     refine tkO 8 44 ?_
     refine tkO 9 45 ?_
     refine tkO 10 46 ?_
     refine tkO 11 47 ?_
     refine tkO 12 48 ?_
     refine rdy1 13 fun K hK => ?_
     go_simp
     (first | (go_at_call 45; refine (impl_mod a.p (a.x * b.x) _ (by omega) (by omega) (by omega) (by omega)).mono ?_; rintro e w2 ⟨rfl, rfl⟩))
     go_wp2_with fail
     refine ko hK ?_ fun hHeld => ?_
     ·(try dsimp only); first | exact ⟨X_9, X_10, A_0, A_2, B_2⟩ | go_keep
     clear hK K
     refine tkO 14 50 ?_
     refine tkO 15 51 ?_
     refine wpAnyH_done (by kernel_rfl) ?_ _
     cases bb
     ·go_wp2_with fail
      go_roundw
      case rel => exact ⟨2, m, c3, A3, by omega, by omega, rfl, rfl, by rw [HX.out, if_neg (by decide), List.append_nil]; exact hox.keep (Bl.refl _).drew, hav, hAx.drew, hBx.drew, hSx.drew, hWx.drew⟩
      case measure => simp [intOf]
     ·clear X_9 X_10 A_0 A_2 B_2 hX
      go_wp2_with (first | (at_builtin; refine ap_int rfl rfl rfl ((hox.alloc _).keep (Bl.refl _).drew) rfl (RdI.keep (rd_new1 _ _ _) (Bl.refl _).drew) (by omega) (by have := hBx.lt; simp; omega) ?_; intro A4 c4 w4 hown4 hg4 hat4))
      have hne : ∀ q, A3.map (·.block) = some q → w.heap.size + 2 ≤ q := fun q hq => (hox.blk q hq).1
      go_roundw
      case rel => exact ⟨2, m + 1, c4, A4, by omega, by omega, rfl, rfl, by rw [HX.out, if_pos rfl]; exact hown4, fun q hq => by
        rcases hat4 with h | h
        ·exact hav q (h.symm.trans hq)
        ·have e := h.symm.trans hq
         injection e with e
         have := hSx.lt
         simp at e
         omega, (hAx.alloc _).drew.grown_ hg4 (fun e => by have := hne _ e; omega), (hBx.alloc _).drew.grown_ hg4 (fun e => by have := hne _ e; omega), (hSx.alloc _).drew.grown_ hg4 (fun e => hav _ e rfl), (hWx.alloc _).drew.grown hg4 (fun q hq => by have := hne q hq; omega)⟩
      case measure => simp [intOf]
    ·have HX := Lib.hid (show wrgL a b ra rb 2 = wrgL a b ra rb 1 by simp [wrgL, wrgB, hs1])
     have gs : (rb.status == 1) = false := by simp [hs1]
     clear hs1
     obtain ⟨S0, S1, S2, S3, S4, S5, S6, S7, S8, S9, S10⟩ := hS.hi
     go_wp2_with fail
     clear S0 S1 S2 S3 S4 S5 S6 S7 S8 S9 S10
     generalize hx : wr.alloc (.cells #[.int .i64 rb.p, .int .i64 rb.party, .int .i64 rb.x, .int .i64 rb.mask, .int .i64 rb.delta, .slice R5 nr5 r5, .slice R6 nr6 r6, .int .i64 rb.step, .slice R8 nr8 r8, .int .i64 rb.status, .int .i64 rb.out] 34) = wx
     generalize hg : wr.heap.size = gX
     obtain ⟨hX, hWx, hAx, hBx, hSx, hox⟩ := wrgS hx hg hW hA hB hS hown
     clear hx hg hA hB hS hW hown
     have X_9 := hX.cell 9 _ rfl; have X_10 := hX.cell 10 _ rfl; have A_0 := hAx.cell 0 _ rfl; have A_2 := hAx.cell 2 _ rfl; have B_2 := hBx.cell 2 _ rfl
     refine wp_region_held_drew (S := (fun w' => w'.cell? ⟨gX, 9, none⟩ = some (.int .i64 rb.status) ∧ w'.cell? ⟨gX, 10, none⟩ = some (.int .i64 rb.out) ∧ w'.cell? ⟨w.heap.size, 0, none⟩ = some (.int .i64 a.p) ∧ w'.cell? ⟨w.heap.size, 2, none⟩ = some (.int .i64 a.x) ∧ w'.cell? ⟨w.heap.size + 1, 2, none⟩ = some (.int .i64 b.x))) (by kernel_rfl) ?_ (fun hHeld => ?_)
     ·(try dsimp only); first | exact ⟨X_9, X_10, A_0, A_2, B_2⟩ | go_keep
     refine tkO 0 36 ?_
     refine tkO 1 37 ?_
     refine tkO 2 38 ?_
     refine tkO 3 39 ?_
     refine tkz 4 40 ?_
     refine tkz 5 41 ?_
     refine tkz 6 42 ?_
     refine tkz 7 43 ?_
     refine tkz 8 44 ?_
     refine tkz 9 45 ?_
     refine tkz 10 46 ?_
     refine tkz 11 47 ?_
     refine tkz 12 48 ?_
     refine tkz 13 49 ?_
     refine tkz 14 50 ?_
     refine tkO 15 51 ?_
     refine wpAnyH_done (by kernel_rfl) ?_ _
     go_wp2_with fail
     go_roundw
     case rel => exact ⟨2, m, c3, A3, by omega, by omega, rfl, rfl, by rw [HX.out]; exact hox.keep (Bl.refl _).drew, hav, hAx.drew, hBx.drew, hSx.drew, hWx.drew⟩
     case measure => simp [intOf]
   ·obtain rfl := hie.trans (show _ = Value.int .i64 2 from rfl)
    go_wp2_with fail
    go_ret2
    exact ⟨A3, m, c3, by first | rfl | (rw [e1]; rfl), by rw [HR.out]; exact hown.mono (by omega), hW⟩
set_option maxRecDepth 20000 in
set_option maxHeartbeats 4000000 in
theorem spec_WrongPlayers (a b : Pl) (As Ak Ah : Option Addr) (ns cs nk ck nh ch : Nat) (hs : List Hd) (As2 Ak2 Ah2 : Option Addr) (ns2 cs2 nk2 ck2 nh2 ch2 : Nat) (hs2 : List Hd) (Al : Option Addr) (nl cl : Nat) (l : List Md) (w : World) (hTb : Tab w) (hl : RdMd w Al nl cl l) (ha : RdP w a As Ak Ah ns cs nk ck nh ch hs) (hb : RdP w b As2 Ak2 Ah2 ns2 cs2 nk2 ck2 nh2 ch2 hs2) (ua : UnderP w.heap.size As Ak Ah hs) (ub : UnderP w.heap.size As2 Ak2 Ah2 hs2) (hnl : nl ≤ 1048576) :
  Calls Tryd.prog 22 #[.agg #[.int .i64 a.p, .int .i64 a.party, .int .i64 a.x, .int .i64 a.mask, .int .i64 a.delta, .slice As ns cs, .slice Ak nk ck, .int .i64 a.step, .slice Ah nh ch, .int .i64 a.status, .int .i64 a.out], .agg #[.int .i64 b.p, .int .i64 b.party, .int .i64 b.x, .int .i64 b.mask, .int .i64 b.delta, .slice As2 ns2 cs2, .slice Ak2 nk2 ck2, .int .i64 b.step, .slice Ah2 nh2 ch2, .int .i64 b.status, .int .i64 b.out], .slice Al nl cl] w fun e w' => ∃ A n c, e = .returned (.tuple #[.slice A n c, .bool (askB a b l)]) ∧ OwnI w.heap.size w' A n c (wrgR a b l) ∧ Bl w w' := by
 have HK := Lib.hid (fun (w' : World) (hb' : Bl w w') => spec_nwAsked a b As Ak Ah ns cs nk ck nh ch hs As2 Ak2 Ah2 ns2 cs2 nk2 ck2 nh2 ch2 hs2 Al nl cl l w' (hTb.keep hb') (hl.keep hb') (ha.keep hb') (hb.keep hb'))
 have hW : Bl w ((w.alloc (.cells #[.int .i64 a.p, .int .i64 a.party, .int .i64 a.x, .int .i64 a.mask, .int .i64 a.delta, .slice As ns cs, .slice Ak nk ck, .int .i64 a.step, .slice Ah nh ch, .int .i64 a.status, .int .i64 a.out] 34)).alloc (.cells #[.int .i64 b.p, .int .i64 b.party, .int .i64 b.x, .int .i64 b.mask, .int .i64 b.delta, .slice As2 ns2 cs2, .slice Ak2 nk2 ck2, .int .i64 b.step, .slice Ah2 nh2 ch2, .int .i64 b.status, .int .i64 b.out] 34)) := Bl.a3
 have hA : Blk ((w.alloc (.cells #[.int .i64 a.p, .int .i64 a.party, .int .i64 a.x, .int .i64 a.mask, .int .i64 a.delta, .slice As ns cs, .slice Ak nk ck, .int .i64 a.step, .slice Ah nh ch, .int .i64 a.status, .int .i64 a.out] 34)).alloc (.cells #[.int .i64 b.p, .int .i64 b.party, .int .i64 b.x, .int .i64 b.mask, .int .i64 b.delta, .slice As2 ns2 cs2, .slice Ak2 nk2 ck2, .int .i64 b.step, .slice Ah2 nh2 ch2, .int .i64 b.status, .int .i64 b.out] 34)) (w.heap.size) 34 #[.int .i64 a.p, .int .i64 a.party, .int .i64 a.x, .int .i64 a.mask, .int .i64 a.delta, .slice As ns cs, .slice Ak nk ck, .int .i64 a.step, .slice Ah nh ch, .int .i64 a.status, .int .i64 a.out] := ((Blk.new w 34 #[.int .i64 a.p, .int .i64 a.party, .int .i64 a.x, .int .i64 a.mask, .int .i64 a.delta, .slice As ns cs, .slice Ak nk ck, .int .i64 a.step, .slice Ah nh ch, .int .i64 a.status, .int .i64 a.out] (g := w.heap.size)).alloc (.cells #[.int .i64 b.p, .int .i64 b.party, .int .i64 b.x, .int .i64 b.mask, .int .i64 b.delta, .slice As2 ns2 cs2, .slice Ak2 nk2 ck2, .int .i64 b.step, .slice Ah2 nh2 ch2, .int .i64 b.status, .int .i64 b.out] 34))
 have hB : Blk ((w.alloc (.cells #[.int .i64 a.p, .int .i64 a.party, .int .i64 a.x, .int .i64 a.mask, .int .i64 a.delta, .slice As ns cs, .slice Ak nk ck, .int .i64 a.step, .slice Ah nh ch, .int .i64 a.status, .int .i64 a.out] 34)).alloc (.cells #[.int .i64 b.p, .int .i64 b.party, .int .i64 b.x, .int .i64 b.mask, .int .i64 b.delta, .slice As2 ns2 cs2, .slice Ak2 nk2 ck2, .int .i64 b.step, .slice Ah2 nh2 ch2, .int .i64 b.status, .int .i64 b.out] 34)) (w.heap.size + 1) 34 #[.int .i64 b.p, .int .i64 b.party, .int .i64 b.x, .int .i64 b.mask, .int .i64 b.delta, .slice As2 ns2 cs2, .slice Ak2 nk2 ck2, .int .i64 b.step, .slice Ah2 nh2 ch2, .int .i64 b.status, .int .i64 b.out] := (Blk.new (w.alloc (.cells #[.int .i64 a.p, .int .i64 a.party, .int .i64 a.x, .int .i64 a.mask, .int .i64 a.delta, .slice As ns cs, .slice Ak nk ck, .int .i64 a.step, .slice Ah nh ch, .int .i64 a.status, .int .i64 a.out] 34)) 34 #[.int .i64 b.p, .int .i64 b.party, .int .i64 b.x, .int .i64 b.mask, .int .i64 b.delta, .slice As2 ns2 cs2, .slice Ak2 nk2 ck2, .int .i64 b.step, .slice Ah2 nh2 ch2, .int .i64 b.status, .int .i64 b.out] (g := w.heap.size + 1))
 obtain ⟨A_l, A_f, A_0, A_1, A_2, A_3, A_4, A_5, A_6, A_7, A_8, A_9, A_10⟩ := hA.l11; obtain ⟨B_l, B_f, B_0, B_1, B_2, B_3, B_4, B_5, B_6, B_7, B_8, B_9, B_10⟩ := hB.l11
 rcases e1 : askB a b l
 ·have SA := Lib.hid (show wrgR a b l = [] by unfold wrgR; rw [e1]; rfl)
  clear ha hb hl ua ub
  go_enter Tryd.func22, Tryd.ntmps22
  go_wp2_with (go_at_call 33; refine (HK.out _ Bl.a3).mono ?_; rintro e w1 ⟨rfl, hb1⟩; rw [e1]; replace hW : Bl w w1 := Bl.a3; replace hA := hA.kp hb1; replace hB := hB.kp hb1; (try clear A_l A_f A_0 A_1 A_2 A_3 A_4 A_5 A_6 A_7 A_8 A_9 A_10 B_l B_f B_0 B_1 B_2 B_3 B_4 B_5 B_6 B_7 B_8 B_9 B_10); obtain ⟨A_l, A_f, A_0, A_1, A_2, A_3, A_4, A_5, A_6, A_7, A_8, A_9, A_10⟩ := hA.l11; obtain ⟨B_l, B_f, B_0, B_1, B_2, B_3, B_4, B_5, B_6, B_7, B_8, B_9, B_10⟩ := hB.l11)
  go_ret2
  exact ⟨none, 0, 0, by first | rfl | (rw [e1]; rfl), by rw [SA.out]; exact OwnI.nil _ _, hW⟩
 ·have e2 : twoB a b = true := by unfold askB at e1; rw [Bool.and_eq_true] at e1; exact e1.1
  have e3 : mdsB a.p l = true := by unfold askB at e1; rw [Bool.and_eq_true] at e1; exact e1.2
  have HC := Lib.hid (fun (w' : World) (hb' : Bl w w') => spec_nwRun a b As Ak Ah ns cs nk ck nh ch hs As2 Ak2 Ah2 ns2 cs2 nk2 ck2 nh2 ch2 hs2 Al nl cl l w' (hl.keep hb') e3 e2 (ha.keep hb') (hb.keep hb') (ua.mono hb'.sz) (ub.mono hb'.sz))
  have ok := two_facts e2
  have x1 := ok.1.x
  have x2 := ok.2.1.x
  have pp := ok.1.p2
  have pe := ok.2.2.1
  have m1 := prod0 a.x b.x (by omega) (by omega) (by omega) (by omega)
  have z1 : IntKind.i64.wrap (a.x * b.x) = a.x * b.x := IntWalk.i64_in _ (by omega)
  have zt : (a.x * b.x).tmod a.p = a.x * b.x % a.p := Int.tmod_eq_emod_of_nonneg (by omega)
  have hp0 : (a.p == 0) = false := by simp; omega
  have hp1 : ¬ a.p = 0 := by omega
  clear ok pe
  clear ha hb hl ua ub e2 e3
  go_enter Tryd.func22, Tryd.ntmps22
  go_wp2_with (go_at_call 33; refine (HK.out _ Bl.a3).mono ?_; rintro e w1 ⟨rfl, hb1⟩; rw [e1]; replace hW : Bl w w1 := Bl.a3; replace hA := hA.kp hb1; replace hB := hB.kp hb1; (try clear A_l A_f A_0 A_1 A_2 A_3 A_4 A_5 A_6 A_7 A_8 A_9 A_10 B_l B_f B_0 B_1 B_2 B_3 B_4 B_5 B_6 B_7 B_8 B_9 B_10); obtain ⟨A_l, A_f, A_0, A_1, A_2, A_3, A_4, A_5, A_6, A_7, A_8, A_9, A_10⟩ := hA.l11; obtain ⟨B_l, B_f, B_0, B_1, B_2, B_3, B_4, B_5, B_6, B_7, B_8, B_9, B_10⟩ := hB.l11)
  refine (HC.out _ Bl.a3).mono ?_
  rintro e wo ⟨ra, rb, sent, taken, ⟨P5, P6, P8, np5, p5, np6, p6, np8, p8, ps⟩, ⟨R5, R6, R8, nr5, r5, nr6, r6, nr8, r8, rs_⟩, A, n, c, hrun, rfl, hnt, hbo⟩
  have HR := Lib.hid (show wrgR a b l = wrgL a b ra rb 2 by unfold wrgR; rw [if_pos e1, hrun])
  clear hrun hnt HC HK
  (try clear A_l A_f A_0 A_1 A_2 A_3 A_4 A_5 A_6 A_7 A_8 A_9 A_10 B_l B_f B_0 B_1 B_2 B_3 B_4 B_5 B_6 B_7 B_8 B_9 B_10)
  have hA := (((hA.keep hbo).alloc (.cells #[.int .i64 ra.p, .int .i64 ra.party, .int .i64 ra.x, .int .i64 ra.mask, .int .i64 ra.delta, .slice P5 np5 p5, .slice P6 np6 p6, .int .i64 ra.step, .slice P8 np8 p8, .int .i64 ra.status, .int .i64 ra.out] 34)).alloc (.cells #[.int .i64 rb.p, .int .i64 rb.party, .int .i64 rb.x, .int .i64 rb.mask, .int .i64 rb.delta, .slice R5 nr5 r5, .slice R6 nr6 r6, .int .i64 rb.step, .slice R8 nr8 r8, .int .i64 rb.status, .int .i64 rb.out] 34))
  have hB := (((hB.keep hbo).alloc (.cells #[.int .i64 ra.p, .int .i64 ra.party, .int .i64 ra.x, .int .i64 ra.mask, .int .i64 ra.delta, .slice P5 np5 p5, .slice P6 np6 p6, .int .i64 ra.step, .slice P8 np8 p8, .int .i64 ra.status, .int .i64 ra.out] 34)).alloc (.cells #[.int .i64 rb.p, .int .i64 rb.party, .int .i64 rb.x, .int .i64 rb.mask, .int .i64 rb.delta, .slice R5 nr5 r5, .slice R6 nr6 r6, .int .i64 rb.step, .slice R8 nr8 r8, .int .i64 rb.status, .int .i64 rb.out] 34))
  have hW3 := ((hW.call hbo).alloc (.cells #[.int .i64 ra.p, .int .i64 ra.party, .int .i64 ra.x, .int .i64 ra.mask, .int .i64 ra.delta, .slice P5 np5 p5, .slice P6 np6 p6, .int .i64 ra.step, .slice P8 np8 p8, .int .i64 ra.status, .int .i64 ra.out] 34)).alloc (.cells #[.int .i64 rb.p, .int .i64 rb.party, .int .i64 rb.x, .int .i64 rb.mask, .int .i64 rb.delta, .slice R5 nr5 r5, .slice R6 nr6 r6, .int .i64 rb.step, .slice R8 nr8 r8, .int .i64 rb.status, .int .i64 rb.out] 34)
  have hO := (Blk.new wo 34 #[.int .i64 ra.p, .int .i64 ra.party, .int .i64 ra.x, .int .i64 ra.mask, .int .i64 ra.delta, .slice P5 np5 p5, .slice P6 np6 p6, .int .i64 ra.step, .slice P8 np8 p8, .int .i64 ra.status, .int .i64 ra.out] (g := wo.heap.size)).alloc (.cells #[.int .i64 rb.p, .int .i64 rb.party, .int .i64 rb.x, .int .i64 rb.mask, .int .i64 rb.delta, .slice R5 nr5 r5, .slice R6 nr6 r6, .int .i64 rb.step, .slice R8 nr8 r8, .int .i64 rb.status, .int .i64 rb.out] 34)
  have hQ := Blk.new (wo.alloc (.cells #[.int .i64 ra.p, .int .i64 ra.party, .int .i64 ra.x, .int .i64 ra.mask, .int .i64 ra.delta, .slice P5 np5 p5, .slice P6 np6 p6, .int .i64 ra.step, .slice P8 np8 p8, .int .i64 ra.status, .int .i64 ra.out] 34)) 34 #[.int .i64 rb.p, .int .i64 rb.party, .int .i64 rb.x, .int .i64 rb.mask, .int .i64 rb.delta, .slice R5 nr5 r5, .slice R6 nr6 r6, .int .i64 rb.step, .slice R8 nr8 r8, .int .i64 rb.status, .int .i64 rb.out] (g := wo.heap.size + 1)
  simp only [valP, cellsP]
  go_wp2_with fail
  have hsz : ((wo.alloc (.cells #[.int .i64 ra.p, .int .i64 ra.party, .int .i64 ra.x, .int .i64 ra.mask, .int .i64 ra.delta, .slice P5 np5 p5, .slice P6 np6 p6, .int .i64 ra.step, .slice P8 np8 p8, .int .i64 ra.status, .int .i64 ra.out] 34)).alloc (.cells #[.int .i64 rb.p, .int .i64 rb.party, .int .i64 rb.x, .int .i64 rb.mask, .int .i64 rb.delta, .slice R5 nr5 r5, .slice R6 nr6 r6, .int .i64 rb.step, .slice R8 nr8 r8, .int .i64 rb.status, .int .i64 rb.out] 34)).heap.size = wo.heap.size + 1 + 1 := by simp
  generalize (wo.alloc (.cells #[.int .i64 ra.p, .int .i64 ra.party, .int .i64 ra.x, .int .i64 ra.mask, .int .i64 ra.delta, .slice P5 np5 p5, .slice P6 np6 p6, .int .i64 ra.step, .slice P8 np8 p8, .int .i64 ra.status, .int .i64 ra.out] 34)).alloc (.cells #[.int .i64 rb.p, .int .i64 rb.party, .int .i64 rb.x, .int .i64 rb.mask, .int .i64 rb.delta, .slice R5 nr5 r5, .slice R6 nr6 r6, .int .i64 rb.step, .slice R8 nr8 r8, .int .i64 rb.status, .int .i64 rb.out] 34) = w3 at hA hB hW3 hO hQ hsz ⊢
  generalize wo.heap.size = gO at hO hQ hsz ⊢
  clear hW hbo
  have hown0 : OwnI (w.heap.size + 2) w3 none 0 0 [] := OwnI.nil _ _
  obtain ⟨O_l, O_f, O_0, O_1, O_2, O_3, O_4, O_5, O_6, O_7, O_8, O_9, O_10⟩ := hO.l11
  obtain ⟨Q_l, Q_f, Q_0, Q_1, Q_2, Q_3, Q_4, Q_5, Q_6, Q_7, Q_8, Q_9, Q_10⟩ := hQ.l11
  go_wp2_with fail
  have hW : Bl w (w3.alloc (.cells #[.int .i64 ra.p, .int .i64 ra.party, .int .i64 ra.x, .int .i64 ra.mask, .int .i64 ra.delta, .slice P5 np5 p5, .slice P6 np6 p6, .int .i64 ra.step, .slice P8 np8 p8, .int .i64 ra.status, .int .i64 ra.out, .int .i64 rb.p, .int .i64 rb.party, .int .i64 rb.x, .int .i64 rb.mask, .int .i64 rb.delta, .slice R5 nr5 r5, .slice R6 nr6 r6, .int .i64 rb.step, .slice R8 nr8 r8, .int .i64 rb.status, .int .i64 rb.out] 34)) := hW3.alloc _
  replace hA := hA.alloc (.cells #[.int .i64 ra.p, .int .i64 ra.party, .int .i64 ra.x, .int .i64 ra.mask, .int .i64 ra.delta, .slice P5 np5 p5, .slice P6 np6 p6, .int .i64 ra.step, .slice P8 np8 p8, .int .i64 ra.status, .int .i64 ra.out, .int .i64 rb.p, .int .i64 rb.party, .int .i64 rb.x, .int .i64 rb.mask, .int .i64 rb.delta, .slice R5 nr5 r5, .slice R6 nr6 r6, .int .i64 rb.step, .slice R8 nr8 r8, .int .i64 rb.status, .int .i64 rb.out] 34)
  replace hB := hB.alloc (.cells #[.int .i64 ra.p, .int .i64 ra.party, .int .i64 ra.x, .int .i64 ra.mask, .int .i64 ra.delta, .slice P5 np5 p5, .slice P6 np6 p6, .int .i64 ra.step, .slice P8 np8 p8, .int .i64 ra.status, .int .i64 ra.out, .int .i64 rb.p, .int .i64 rb.party, .int .i64 rb.x, .int .i64 rb.mask, .int .i64 rb.delta, .slice R5 nr5 r5, .slice R6 nr6 r6, .int .i64 rb.step, .slice R8 nr8 r8, .int .i64 rb.status, .int .i64 rb.out] 34)
  have hS := Blk.new w3 34 #[.int .i64 ra.p, .int .i64 ra.party, .int .i64 ra.x, .int .i64 ra.mask, .int .i64 ra.delta, .slice P5 np5 p5, .slice P6 np6 p6, .int .i64 ra.step, .slice P8 np8 p8, .int .i64 ra.status, .int .i64 ra.out, .int .i64 rb.p, .int .i64 rb.party, .int .i64 rb.x, .int .i64 rb.mask, .int .i64 rb.delta, .slice R5 nr5 r5, .slice R6 nr6 r6, .int .i64 rb.step, .slice R8 nr8 r8, .int .i64 rb.status, .int .i64 rb.out] (g := gO + 1 + 1) (by first | exact hsz | (simp; omega))
  replace hown0 := hown0.alloc (.cells #[.int .i64 ra.p, .int .i64 ra.party, .int .i64 ra.x, .int .i64 ra.mask, .int .i64 ra.delta, .slice P5 np5 p5, .slice P6 np6 p6, .int .i64 ra.step, .slice P8 np8 p8, .int .i64 ra.status, .int .i64 ra.out, .int .i64 rb.p, .int .i64 rb.party, .int .i64 rb.x, .int .i64 rb.mask, .int .i64 rb.delta, .slice R5 nr5 r5, .slice R6 nr6 r6, .int .i64 rb.step, .slice R8 nr8 r8, .int .i64 rb.status, .int .i64 rb.out] 34)
  have hav0 : ∀ q, (none : Option Addr).map (·.block) = some q → q ≠ gO + 1 + 1 := (fun q hq => by simp at hq)
  clear hW3 hO hQ
  (try clear O_l O_f O_0 O_1 O_2 O_3 O_4 O_5 O_6 O_7 O_8 O_9 O_10)
  (try clear Q_l Q_f Q_0 Q_1 Q_2 Q_3 Q_4 Q_5 Q_6 Q_7 Q_8 Q_9 Q_10)
  generalize w3.alloc (.cells #[.int .i64 ra.p, .int .i64 ra.party, .int .i64 ra.x, .int .i64 ra.mask, .int .i64 ra.delta, .slice P5 np5 p5, .slice P6 np6 p6, .int .i64 ra.step, .slice P8 np8 p8, .int .i64 ra.status, .int .i64 ra.out, .int .i64 rb.p, .int .i64 rb.party, .int .i64 rb.x, .int .i64 rb.mask, .int .i64 rb.delta, .slice R5 nr5 r5, .slice R6 nr6 r6, .int .i64 rb.step, .slice R8 nr8 r8, .int .i64 rb.status, .int .i64 rb.out] 34) = ws at hA hB hS hW hown0 ⊢
  generalize hgS : gO + 1 + 1 = gS at hS hav0 ⊢
  clear hgS hsz
  go_loopw [11, 31] (fun s i wr => ∃ (k m c3 : Nat) (A3 : Option Addr), k ≤ 2 ∧ m ≤ k ∧ i = .int .i64 (k : Nat) ∧ s = .slice A3 m c3 ∧ OwnI (w.heap.size + 2) wr A3 m c3 (wrgL a b ra rb k) ∧ (∀ q, A3.map (·.block) = some q → q ≠ gS) ∧ Blk wr w.heap.size 34 #[.int .i64 a.p, .int .i64 a.party, .int .i64 a.x, .int .i64 a.mask, .int .i64 a.delta, .slice As ns cs, .slice Ak nk ck, .int .i64 a.step, .slice Ah nh ch, .int .i64 a.status, .int .i64 a.out] ∧ Blk wr (w.heap.size + 1) 34 #[.int .i64 b.p, .int .i64 b.party, .int .i64 b.x, .int .i64 b.mask, .int .i64 b.delta, .slice As2 ns2 cs2, .slice Ak2 nk2 ck2, .int .i64 b.step, .slice Ah2 nh2 ch2, .int .i64 b.status, .int .i64 b.out] ∧ Blk wr gS 34 #[.int .i64 ra.p, .int .i64 ra.party, .int .i64 ra.x, .int .i64 ra.mask, .int .i64 ra.delta, .slice P5 np5 p5, .slice P6 np6 p6, .int .i64 ra.step, .slice P8 np8 p8, .int .i64 ra.status, .int .i64 ra.out, .int .i64 rb.p, .int .i64 rb.party, .int .i64 rb.x, .int .i64 rb.mask, .int .i64 rb.delta, .slice R5 nr5 r5, .slice R6 nr6 r6, .int .i64 rb.step, .slice R8 nr8 r8, .int .i64 rb.status, .int .i64 rb.out] ∧ Bl w wr) (fun _ i _ => 2 - (intOf i).toNat)
  case atStart => exact ⟨0, 0, _, _, by omega, by omega, rfl, rfl, hown0, hav0, hA, hB, hS, hW⟩
  case round =>
   clear hown0 hav0 hA hB hS hW
   obtain ⟨k, m, c3, A3, hk, hm, hie, rfl, hown, hav, hA, hB, hS, hW⟩ := hrel
   have hk3 : k = 0 ∨ k = 1 ∨ k = 2 := by omega
   rcases hk3 with rfl | rfl | rfl
   ·obtain rfl := hie.trans (show _ = Value.int .i64 0 from rfl)
    clear hie
    by_cases hs1 : ra.status = 1
    ·obtain ⟨bb, go1⟩ : ∃ bb, (ra.out != a.x * b.x % a.p) = bb := ⟨_, rfl⟩
     have HX := Lib.hid (show wrgL a b ra rb 1 = wrgL a b ra rb 0 ++ if bb = true then [0] else [] by subst go1; simp [wrgL, wrgB, hs1])
     have gs : (ra.status == 1) = true := by simp [hs1]
     clear hs1
     obtain ⟨S0, S1, S2, S3, S4, S5, S6, S7, S8, S9, S10⟩ := hS.lo
     go_wp2_with fail
     clear S0 S1 S2 S3 S4 S5 S6 S7 S8 S9 S10
     generalize hx : wr.alloc (.cells #[.int .i64 ra.p, .int .i64 ra.party, .int .i64 ra.x, .int .i64 ra.mask, .int .i64 ra.delta, .slice P5 np5 p5, .slice P6 np6 p6, .int .i64 ra.step, .slice P8 np8 p8, .int .i64 ra.status, .int .i64 ra.out] 34) = wx
     generalize hg : wr.heap.size = gX
     obtain ⟨hX, hWx, hAx, hBx, hSx, hox⟩ := wrgS hx hg hW hA hB hS hown
     clear hx hg hA hB hS hW hown
     have X_9 := hX.cell 9 _ rfl; have X_10 := hX.cell 10 _ rfl; have A_0 := hAx.cell 0 _ rfl; have A_2 := hAx.cell 2 _ rfl; have B_2 := hBx.cell 2 _ rfl
     refine wp_region_held_drew (S := (fun w' => w'.cell? ⟨gX, 9, none⟩ = some (.int .i64 ra.status) ∧ w'.cell? ⟨gX, 10, none⟩ = some (.int .i64 ra.out) ∧ w'.cell? ⟨w.heap.size, 0, none⟩ = some (.int .i64 a.p) ∧ w'.cell? ⟨w.heap.size, 2, none⟩ = some (.int .i64 a.x) ∧ w'.cell? ⟨w.heap.size + 1, 2, none⟩ = some (.int .i64 b.x))) (by kernel_rfl) ?_ (fun hHeld => ?_)
     ·(try dsimp only); first | exact ⟨X_9, X_10, A_0, A_2, B_2⟩ | go_keep
     refine tkO 0 36 ?_
     refine tkO 1 37 ?_
     refine tkO 2 38 ?_
     refine tkO 3 39 ?_
     refine tkO 4 40 ?_
     refine tkO 5 41 ?_
     refine tkO 6 42 ?_
     refine tkO 7 43 ?_
     refine tkO 8 44 ?_
     refine tkO 9 45 ?_
     refine tkO 10 46 ?_
     refine tkO 11 47 ?_
     refine tkO 12 48 ?_
     refine tkO 13 49 ?_
     refine tkO 14 50 ?_
     refine tkO 15 51 ?_
     refine wpAnyH_done (by kernel_rfl) ?_ _
     cases bb
     ·go_wp2_with fail
      go_roundw
      case rel => exact ⟨1, m, c3, A3, by omega, by omega, rfl, rfl, by rw [HX.out, if_neg (by decide), List.append_nil]; exact hox.keep (Bl.refl _).drew, hav, hAx.drew, hBx.drew, hSx.drew, hWx.drew⟩
      case measure => simp [intOf]
     ·clear X_9 X_10 A_0 A_2 B_2 hX
      go_wp2_with (first | (at_builtin; refine ap_int rfl rfl rfl ((hox.alloc _).keep (Bl.refl _).drew) rfl (RdI.keep (rd_new1 _ _ _) (Bl.refl _).drew) (by omega) (by have := hBx.lt; simp; omega) ?_; intro A4 c4 w4 hown4 hg4 hat4))
      have hne : ∀ q, A3.map (·.block) = some q → w.heap.size + 2 ≤ q := fun q hq => (hox.blk q hq).1
      go_roundw
      case rel => exact ⟨1, m + 1, c4, A4, by omega, by omega, rfl, rfl, by rw [HX.out, if_pos rfl]; exact hown4, fun q hq => by
        rcases hat4 with h | h
        ·exact hav q (h.symm.trans hq)
        ·have e := h.symm.trans hq
         injection e with e
         have := hSx.lt
         simp at e
         omega, (hAx.alloc _).drew.grown_ hg4 (fun e => by have := hne _ e; omega), (hBx.alloc _).drew.grown_ hg4 (fun e => by have := hne _ e; omega), (hSx.alloc _).drew.grown_ hg4 (fun e => hav _ e rfl), (hWx.alloc _).drew.grown hg4 (fun q hq => by have := hne q hq; omega)⟩
      case measure => simp [intOf]
    ·have HX := Lib.hid (show wrgL a b ra rb 1 = wrgL a b ra rb 0 by simp [wrgL, wrgB, hs1])
     have gs : (ra.status == 1) = false := by simp [hs1]
     clear hs1
     obtain ⟨S0, S1, S2, S3, S4, S5, S6, S7, S8, S9, S10⟩ := hS.lo
     go_wp2_with fail
     clear S0 S1 S2 S3 S4 S5 S6 S7 S8 S9 S10
     generalize hx : wr.alloc (.cells #[.int .i64 ra.p, .int .i64 ra.party, .int .i64 ra.x, .int .i64 ra.mask, .int .i64 ra.delta, .slice P5 np5 p5, .slice P6 np6 p6, .int .i64 ra.step, .slice P8 np8 p8, .int .i64 ra.status, .int .i64 ra.out] 34) = wx
     generalize hg : wr.heap.size = gX
     obtain ⟨hX, hWx, hAx, hBx, hSx, hox⟩ := wrgS hx hg hW hA hB hS hown
     clear hx hg hA hB hS hW hown
     have X_9 := hX.cell 9 _ rfl; have X_10 := hX.cell 10 _ rfl; have A_0 := hAx.cell 0 _ rfl; have A_2 := hAx.cell 2 _ rfl; have B_2 := hBx.cell 2 _ rfl
     refine wp_region_held_drew (S := (fun w' => w'.cell? ⟨gX, 9, none⟩ = some (.int .i64 ra.status) ∧ w'.cell? ⟨gX, 10, none⟩ = some (.int .i64 ra.out) ∧ w'.cell? ⟨w.heap.size, 0, none⟩ = some (.int .i64 a.p) ∧ w'.cell? ⟨w.heap.size, 2, none⟩ = some (.int .i64 a.x) ∧ w'.cell? ⟨w.heap.size + 1, 2, none⟩ = some (.int .i64 b.x))) (by kernel_rfl) ?_ (fun hHeld => ?_)
     ·(try dsimp only); first | exact ⟨X_9, X_10, A_0, A_2, B_2⟩ | go_keep
     refine tkO 0 36 ?_
     refine tkO 1 37 ?_
     refine tkO 2 38 ?_
     refine tkO 3 39 ?_
     refine tkz 4 40 ?_
     refine tkz 5 41 ?_
     refine tkz 6 42 ?_
     refine tkz 7 43 ?_
     refine tkz 8 44 ?_
     refine tkz 9 45 ?_
     refine tkz 10 46 ?_
     refine tkz 11 47 ?_
     refine tkz 12 48 ?_
     refine tkz 13 49 ?_
     refine tkz 14 50 ?_
     refine tkO 15 51 ?_
     refine wpAnyH_done (by kernel_rfl) ?_ _
     go_wp2_with fail
     go_roundw
     case rel => exact ⟨1, m, c3, A3, by omega, by omega, rfl, rfl, by rw [HX.out]; exact hox.keep (Bl.refl _).drew, hav, hAx.drew, hBx.drew, hSx.drew, hWx.drew⟩
     case measure => simp [intOf]
   ·obtain rfl := hie.trans (show _ = Value.int .i64 1 from rfl)
    clear hie
    by_cases hs1 : rb.status = 1
    ·obtain ⟨bb, go1⟩ : ∃ bb, (rb.out != a.x * b.x % a.p) = bb := ⟨_, rfl⟩
     have HX := Lib.hid (show wrgL a b ra rb 2 = wrgL a b ra rb 1 ++ if bb = true then [1] else [] by subst go1; simp [wrgL, wrgB, hs1])
     have gs : (rb.status == 1) = true := by simp [hs1]
     clear hs1
     obtain ⟨S0, S1, S2, S3, S4, S5, S6, S7, S8, S9, S10⟩ := hS.hi
     go_wp2_with fail
     clear S0 S1 S2 S3 S4 S5 S6 S7 S8 S9 S10
     generalize hx : wr.alloc (.cells #[.int .i64 rb.p, .int .i64 rb.party, .int .i64 rb.x, .int .i64 rb.mask, .int .i64 rb.delta, .slice R5 nr5 r5, .slice R6 nr6 r6, .int .i64 rb.step, .slice R8 nr8 r8, .int .i64 rb.status, .int .i64 rb.out] 34) = wx
     generalize hg : wr.heap.size = gX
     obtain ⟨hX, hWx, hAx, hBx, hSx, hox⟩ := wrgS hx hg hW hA hB hS hown
     clear hx hg hA hB hS hW hown
     have X_9 := hX.cell 9 _ rfl; have X_10 := hX.cell 10 _ rfl; have A_0 := hAx.cell 0 _ rfl; have A_2 := hAx.cell 2 _ rfl; have B_2 := hBx.cell 2 _ rfl
     refine wp_region_held_drew (S := (fun w' => w'.cell? ⟨gX, 9, none⟩ = some (.int .i64 rb.status) ∧ w'.cell? ⟨gX, 10, none⟩ = some (.int .i64 rb.out) ∧ w'.cell? ⟨w.heap.size, 0, none⟩ = some (.int .i64 a.p) ∧ w'.cell? ⟨w.heap.size, 2, none⟩ = some (.int .i64 a.x) ∧ w'.cell? ⟨w.heap.size + 1, 2, none⟩ = some (.int .i64 b.x))) (by kernel_rfl) ?_ (fun hHeld => ?_)
     ·(try dsimp only); first | exact ⟨X_9, X_10, A_0, A_2, B_2⟩ | go_keep
     refine tkO 0 36 ?_
     refine tkO 1 37 ?_
     refine tkO 2 38 ?_
     refine tkO 3 39 ?_
     refine tkO 4 40 ?_
     refine tkO 5 41 ?_
     refine tkO 6 42 ?_
     refine tkO 7 43 ?_
     refine tkO 8 44 ?_
     refine tkO 9 45 ?_
     refine tkO 10 46 ?_
     refine tkO 11 47 ?_
     refine tkO 12 48 ?_
     refine tkO 13 49 ?_
     refine tkO 14 50 ?_
     refine tkO 15 51 ?_
     refine wpAnyH_done (by kernel_rfl) ?_ _
     cases bb
     ·go_wp2_with fail
      go_roundw
      case rel => exact ⟨2, m, c3, A3, by omega, by omega, rfl, rfl, by rw [HX.out, if_neg (by decide), List.append_nil]; exact hox.keep (Bl.refl _).drew, hav, hAx.drew, hBx.drew, hSx.drew, hWx.drew⟩
      case measure => simp [intOf]
     ·clear X_9 X_10 A_0 A_2 B_2 hX
      go_wp2_with (first | (at_builtin; refine ap_int rfl rfl rfl ((hox.alloc _).keep (Bl.refl _).drew) rfl (RdI.keep (rd_new1 _ _ _) (Bl.refl _).drew) (by omega) (by have := hBx.lt; simp; omega) ?_; intro A4 c4 w4 hown4 hg4 hat4))
      have hne : ∀ q, A3.map (·.block) = some q → w.heap.size + 2 ≤ q := fun q hq => (hox.blk q hq).1
      go_roundw
      case rel => exact ⟨2, m + 1, c4, A4, by omega, by omega, rfl, rfl, by rw [HX.out, if_pos rfl]; exact hown4, fun q hq => by
        rcases hat4 with h | h
        ·exact hav q (h.symm.trans hq)
        ·have e := h.symm.trans hq
         injection e with e
         have := hSx.lt
         simp at e
         omega, (hAx.alloc _).drew.grown_ hg4 (fun e => by have := hne _ e; omega), (hBx.alloc _).drew.grown_ hg4 (fun e => by have := hne _ e; omega), (hSx.alloc _).drew.grown_ hg4 (fun e => hav _ e rfl), (hWx.alloc _).drew.grown hg4 (fun q hq => by have := hne q hq; omega)⟩
      case measure => simp [intOf]
    ·have HX := Lib.hid (show wrgL a b ra rb 2 = wrgL a b ra rb 1 by simp [wrgL, wrgB, hs1])
     have gs : (rb.status == 1) = false := by simp [hs1]
     clear hs1
     obtain ⟨S0, S1, S2, S3, S4, S5, S6, S7, S8, S9, S10⟩ := hS.hi
     go_wp2_with fail
     clear S0 S1 S2 S3 S4 S5 S6 S7 S8 S9 S10
     generalize hx : wr.alloc (.cells #[.int .i64 rb.p, .int .i64 rb.party, .int .i64 rb.x, .int .i64 rb.mask, .int .i64 rb.delta, .slice R5 nr5 r5, .slice R6 nr6 r6, .int .i64 rb.step, .slice R8 nr8 r8, .int .i64 rb.status, .int .i64 rb.out] 34) = wx
     generalize hg : wr.heap.size = gX
     obtain ⟨hX, hWx, hAx, hBx, hSx, hox⟩ := wrgS hx hg hW hA hB hS hown
     clear hx hg hA hB hS hW hown
     have X_9 := hX.cell 9 _ rfl; have X_10 := hX.cell 10 _ rfl; have A_0 := hAx.cell 0 _ rfl; have A_2 := hAx.cell 2 _ rfl; have B_2 := hBx.cell 2 _ rfl
     refine wp_region_held_drew (S := (fun w' => w'.cell? ⟨gX, 9, none⟩ = some (.int .i64 rb.status) ∧ w'.cell? ⟨gX, 10, none⟩ = some (.int .i64 rb.out) ∧ w'.cell? ⟨w.heap.size, 0, none⟩ = some (.int .i64 a.p) ∧ w'.cell? ⟨w.heap.size, 2, none⟩ = some (.int .i64 a.x) ∧ w'.cell? ⟨w.heap.size + 1, 2, none⟩ = some (.int .i64 b.x))) (by kernel_rfl) ?_ (fun hHeld => ?_)
     ·(try dsimp only); first | exact ⟨X_9, X_10, A_0, A_2, B_2⟩ | go_keep
     refine tkO 0 36 ?_
     refine tkO 1 37 ?_
     refine tkO 2 38 ?_
     refine tkO 3 39 ?_
     refine tkz 4 40 ?_
     refine tkz 5 41 ?_
     refine tkz 6 42 ?_
     refine tkz 7 43 ?_
     refine tkz 8 44 ?_
     refine tkz 9 45 ?_
     refine tkz 10 46 ?_
     refine tkz 11 47 ?_
     refine tkz 12 48 ?_
     refine tkz 13 49 ?_
     refine tkz 14 50 ?_
     refine tkO 15 51 ?_
     refine wpAnyH_done (by kernel_rfl) ?_ _
     go_wp2_with fail
     go_roundw
     case rel => exact ⟨2, m, c3, A3, by omega, by omega, rfl, rfl, by rw [HX.out]; exact hox.keep (Bl.refl _).drew, hav, hAx.drew, hBx.drew, hSx.drew, hWx.drew⟩
     case measure => simp [intOf]
   ·obtain rfl := hie.trans (show _ = Value.int .i64 2 from rfl)
    go_wp2_with fail
    go_ret2
    exact ⟨A3, m, c3, by first | rfl | (rw [e1]; rfl), by rw [HR.out]; exact hown.mono (by omega), hW⟩
end Go.Proofs.YtcjpalhclgkjiaaDoor
