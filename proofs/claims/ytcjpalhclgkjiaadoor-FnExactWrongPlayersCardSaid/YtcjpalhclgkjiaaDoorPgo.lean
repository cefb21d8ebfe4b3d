/- Contracts: whether a player is valid, whether two can run, whether meddles are valid.
   Conditions: the table of lengths holds what its text lays. -/
import Derived.Test.YtcjpalhclgkjiaaDoorTgs
import Derived.Test.YtcjpalhclgkjiaaDoorFrl
import Derived.Test.YtcjpalhclgkjiaaDoorBaseG
import Derived.Deep.DeepCutAuto
namespace Go.Proofs.YtcjpalhclgkjiaaDoor
open Go.RowKit
set_option linter.unusedVariables false
/-- A slice of slices of numbers, read. -/
structure RdSS (w : World) (A : Option Addr) (n c : Nat) (hs : List Hd) (LL : List (List Int)) : Prop where
 hd : Rd w 1 A n c (hs.map Hd.val)
 len : hs.length = LL.length
 row : ∀ (i : Nat) (h : Hd) (l : List Int), hs[i]? = some h → LL[i]? = some l → RdI w h.A h.n h.c l
section
variable {w w' : World} {A : Option Addr} {n c : Nat} {hs : List Hd} {LL : List (List Int)}
theorem RdSS.keep (h : RdSS w A n c hs LL) (hb : Bl w w') : RdSS w' A n c hs LL := ⟨h.hd.keep hb, h.len, fun i x l h1 h2 => (h.row i x l h1 h2).keep hb⟩
theorem RdSS.n_eq (h : RdSS w A n c hs LL) : hs.length = n := by have := h.hd.len; simpa using this
theorem RdSS.l_eq (h : RdSS w A n c hs LL) : LL.length = n := h.len.symm.trans h.n_eq
theorem RdSS.le (h : RdSS w A n c hs LL) : n ≤ c ∧ c ≤ 9223372036854775807 := ⟨h.hd.cap, by have := h.hd.max; unfold maxLen at this; exact this⟩
theorem RdSS.at_ (h : RdSS w A n c hs LL) {k : Nat} (hk : k < n) : ∃ (ad : Addr) (x : Hd) (l : List Int), A = some ad ∧ LL[k]? = some l ∧ w.cell? (ad.add k) = some (.slice x.A x.n x.c) ∧ RdI w x.A x.n x.c l := by
 obtain ⟨ad, rfl, _, hc⟩ := h.hd.at0 (by omega)
 have hx : hs[k]? = some (hs[k]'(by rw [h.n_eq]; exact hk)) := List.getElem?_eq_getElem _
 have hl : LL[k]? = some (LL[k]'(by rw [h.l_eq]; exact hk)) := List.getElem?_eq_getElem _
 exact ⟨ad, _, _, rfl, hl, hc k _ (by rw [List.getElem?_map, hx]; rfl), h.row k _ _ hx hl⟩
theorem RdSS.nil (w : World) : RdSS w none 0 0 [] [] := ⟨Rd.nil w 1, rfl, by simp⟩
end
theorem OwnSS.rd {base : Nat} {w : World} {A : Option Addr} {n c : Nat} {hs : List Hd} {LL : List (List Int)} (h : OwnSS base w A n c hs LL) : RdSS w A n c hs LL := ⟨h.hd.rd, h.len, fun i x l h1 h2 => (h.row i x l h1 h2).rd⟩
/-- A player's slices read as its lists. -/
structure RdP (w : World) (a : Pl) (As Ak Ah : Option Addr) (ns cs nk ck nh ch : Nat) (hs : List Hd) : Prop where
 sh : RdTg w As ns cs a.sh
 ks : RdI w Ak nk ck a.ks
 hd : RdSS w Ah nh ch hs a.hd
theorem RdP.keep {w w' : World} {a : Pl} {As Ak Ah : Option Addr} {ns cs nk ck nh ch : Nat} {hs : List Hd} (h : RdP w a As Ak Ah ns cs nk ck nh ch hs) (hb : Bl w w') : RdP w' a As Ak Ah ns cs nk ck nh ch hs := ⟨h.sh.keep hb, h.ks.keep hb, h.hd.keep hb⟩
theorem areElements_1 (p x : Int) (g : Nat) (w : World) (hc : w.cell? ⟨g, 0, none⟩ = some (.int .i64 p)) (hp : 0 ≤ p ∧ p ≤ 1000) :
  Calls Tryd.prog 112 (#[.int .i64 x] ++ #[.pointer (some ⟨g, 0, none⟩)]) w fun e w' => e = .returned (.bool (inR x 0 (p - 1))) ∧ w = w' := by
 go_enter Tryd.func112, Tryd.ntmps112
 go_wp2_with (go_at_call 49; refine (impl_within _ _ _ _).mono ?_; rintro e w1 ⟨rfl, rfl⟩)
 go_ret
 exact ⟨rfl, rfl⟩
theorem enters_areElements_1 : Enters 112 := fun _ _ => by kernel_rfl
theorem impl_areElements (p : Int) (A : Option Addr) (n c : Nat) (l : List Int) (w : World) (h : RdI w A n c l) :
  Calls Tryd.prog 88 #[.int .i64 p, .slice A n c] w fun e w' => e = .returned (.bool (primeB p && allR l 0 (p - 1))) ∧ Bl w w' := by
 have hW := (Bl.refl w).alloc (.cells #[.int .i64 p] 3)
 have hB := Blk.new w 3 #[.int .i64 p]
 have B_0 := hB.cell 0 _ rfl
 rcases hp : primeB p
 ·go_enter Tryd.func88, Tryd.ntmps88
  go_wp2_with (go_at_call 110; refine (impl_IsPrime _ _).mono ?_; rintro e w1 ⟨rfl, rfl⟩)
  go_ret
  exact ⟨ret_bool (by simp), hW⟩
 ·have hb := primeB_bd hp
  have hA : AnswersB (w.alloc (.cells #[.int .i64 p] 3)) 112 #[.pointer (some ⟨w.heap.size, 0, none⟩)] (fun x => inR x 0 (p - 1)) := Answers.b (fun x W' hb' => areElements_1 p x w.heap.size W' (hb'.cells B_0) (by omega))
  have HC := Lib.hid (impl_areAllb A n c l 112 #[.pointer (some ⟨w.heap.size, 0, none⟩)] _ _ enters_areElements_1 hA (h.keep hW))
  clear hA
  go_enter Tryd.func88, Tryd.ntmps88
  go_wp2_with (first | (go_at_call 110; refine (impl_IsPrime _ _).mono ?_; rintro e w1 ⟨rfl, rfl⟩) | (go_at_call 111; refine HC.out.mono ?_; rintro e w1 ⟨rfl, hb1⟩))
  go_ret
  exact ⟨ret_bool (by simp [allF, allR]), hW.call hb1⟩
theorem impl_isTagged (p x y : Int) (w : World) :
  Calls Tryd.prog 92 #[.int .i64 p, .agg #[.int .i64 x, .int .i64 y]] w fun e w' => e = .returned (.bool (tgB p ⟨x, y⟩)) ∧ Bl w w' := by
 rcases hx : elemB p x
 all_goals go_enter Tryd.func92, Tryd.ntmps92
 all_goals go_wp2_with (go_at_call 114; refine (impl_isElement _ _ _).mono ?_; rintro e w1 ⟨rfl, rfl⟩)
 all_goals go_ret
 all_goals exact ⟨ret_bool (by simp [tgB, hx]), Bl.a1⟩
theorem spec_tgGood (p x y : Int) (w : World) :
  Calls Tryd.prog 101 #[.int .i64 p, .agg #[.int .i64 x, .int .i64 y]] w fun e w' => e = .returned (.bool (tgB p ⟨x, y⟩)) ∧ Bl w w' := by
 go_enter Tryd.func101, Tryd.ntmps101
 go_wp2_with (go_at_call 99; refine (spec_fpIn _ _ _ _ _ _ (rd_new2 _ _ _ _)).mono ?_; rintro e w1 ⟨rfl, rfl⟩)
 go_ret
 exact ⟨ret_bool (by simp only [tgB, elemB, allR, List.all_cons, List.all_nil]; cases primeB p <;> simp), Bl.a1⟩
theorem isPlayer_1 (p x y : Int) (g : Nat) (w : World) (hc : w.cell? ⟨g, 0, none⟩ = some (.int .i64 p)) :
  Calls Tryd.prog 91 #[.agg #[.int .i64 x, .int .i64 y], .pointer (some ⟨g, 0, none⟩)] w fun e w' => e = .returned (.bool (!tgB p ⟨x, y⟩)) ∧ Bl w w' := by
 have hgl : g < w.heap.size := World.block_lt_of_cell? w _ hc
 go_enter Tryd.func91, Tryd.ntmps91
 go_wp2_with (go_at_call 92; refine (impl_isTagged _ _ _ _).mono ?_; rintro e w1 ⟨rfl, hb1⟩)
 go_ret
 exact ⟨rfl, Bl.a1⟩
theorem enters_isPlayer_1 : Enters 91 := fun _ _ => by kernel_rfl
set_option maxHeartbeats 1000000 in
theorem slices_IndexFunc_tg (p : Int) (g : Nat) (A : Option Addr) (n c : Nat) (l : List Tg) (w : World) (hc : w.cell? ⟨g, 0, none⟩ = some (.int .i64 p)) (h : RdTg w A n c l) :
  Calls Tryd.prog 113 #[.slice A n c, .func (.func 91) #[] #[.pointer (some ⟨g, 0, none⟩)]] w
   fun e w' => ∃ i : Int, -1 ≤ i ∧ i ≤ 9223372036854775806 ∧ e = .returned (.int .i64 i) ∧ (decide (0 ≤ i) = !tgsB p l) ∧ Bl w w' := by
 obtain ⟨hle1, hle2⟩ := h.le
 have hlen := Lib.hid h.2
 have hen := enters_isPlayer_1
 unfold Enters at hen
 have h0 := Bl.refl w
 go_enter Tryd.func113, Tryd.ntmps113
 go_wp2
 go_loopw [8] (fun i wr => ∃ k : Nat, k ≤ n ∧ i = .int .i64 k ∧ Hid (tgsB p (l.take k) = true) ∧ Bl w wr) (fun i _ => n - (intOf i).toNat)
 case atStart => exact ⟨0, by omega, rfl, Lib.hid (by simp [tgsB]), h0⟩
 case round =>
  obtain ⟨k, hk, rfl, hq, hb⟩ := hrel
  clear h0
  by_cases hlt : k < n
  ·obtain ⟨ad, x, y, rfl, hx, q0, q1⟩ := (h.keep hb).at_ hlt
   have HX := Lib.hid hx
   clear hx
   have hc' := hb.cells hc
   have i1 : (k : Int) < n := by omega
   rcases hg : tgB p ⟨x, y⟩
   ·have hst := Lib.hid (tgsB_not HX.out hg)
    go_wp2_with (go_at_call 91; refine (isPlayer_1 p x y g _ (Bl.cells Bl.a1 hc)).mono ?_; rintro e w' ⟨rfl, hb1⟩; rw [hg])
    go_ret
    exact ⟨k, by omega, by omega, rfl, by rw [hst.out]; simp, Bl.a1⟩
   ·have hst := Lib.hid (tgsB_step hq.out HX.out hg)
    go_wp2_with (go_at_call 91; refine (isPlayer_1 p x y g _ (Bl.cells Bl.a1 hc)).mono ?_; rintro e w' ⟨rfl, hb1⟩; rw [hg])
    go_roundw
    case rel => exact ⟨k + 1, by omega, by go_num, hst, Bl.a1⟩
    case measure => simp [intOf]; omega
  ·have he : k = n := by omega
   have hst := Lib.hid (show tgsB p l = true by
    have e := hq.out
    rwa [List.take_of_length_le (by rw [hlen.out]; omega)] at e)
   go_wp2
   go_ret
   exact ⟨-1, by omega, by omega, rfl, by rw [hst.out]; rfl, hb⟩
theorem slices_ContainsFunc_tg (p : Int) (g : Nat) (A : Option Addr) (n c : Nat) (l : List Tg) (w : World) (hc : w.cell? ⟨g, 0, none⟩ = some (.int .i64 p)) (h : RdTg w A n c l) :
  Calls Tryd.prog 90 #[.slice A n c, .func (.func 91) #[] #[.pointer (some ⟨g, 0, none⟩)]] w
   fun e w' => e = .returned (.bool (!tgsB p l)) ∧ Bl w w' := by
 have HI := Lib.hid (slices_IndexFunc_tg p g A n c l w hc h)
 clear hc h
 go_enter Tryd.func90, Tryd.ntmps90
 go_wp2_with (go_at_call 113; refine HI.out.mono ?_; rintro e w' ⟨i, h1, h2, rfl, h3, hb⟩; have H3 := Lib.hid h3; clear h3)
 all_goals go_ret
 all_goals exact ⟨ret_bool H3.out, hb⟩
theorem spec_ptLength (k : Nat) (w : World) (hk : k ≤ 2) :
  Calls Tryd.prog 79 #[.int .i64 k] w fun e w' => e = .returned (.int .i64 (bodyN k)) ∧ Bl w w' := by
 obtain rfl | rfl | rfl : k = 0 ∨ k = 1 ∨ k = 2 := by omega
 all_goals go_enter Tryd.func79, Tryd.ntmps79
 all_goals go_wp2
 all_goals go_ret
 all_goals exact ⟨rfl, Bl.a1⟩
end Go.Proofs.YtcjpalhclgkjiaaDoor
