/- Contracts of the shares of inputs of the program and of the reference, and of the law's comparison of lists.
   Conditions: none beyond the sizes. -/
import Derived.Test.YtlmlffiajgofeaaFrh
namespace Go.Proofs.Ytlmlffiajgofeaa
open Go.RowKit
set_option linter.unusedVariables false
theorem asked_facts {a b : Int} {gl : List Gt} {ol la lb : List Int} (h : askB a b gl ol la lb = true) : (0 ≤ a ∧ a ≤ 20) ∧ (0 ≤ b ∧ b ≤ 20) ∧ (la.length : Int) = a ∧ (lb.length : Int) = b ∧ Bits la ∧ Bits lb := by
  simp only [askB, Bool.and_eq_true, decide_eq_true_eq] at h
  obtain ⟨⟨⟨⟨h1, h2⟩, h3⟩, h4⟩, h5⟩ := h
  have hf := goodC_facts h1
  exact ⟨⟨hf.1, hf.2.1⟩, ⟨hf.2.2.1, hf.2.2.2.1⟩, h4, h5, fun z hz => by have := allR_mem h2 hz; omega, fun z hz => by have := allR_mem h3 hz; omega⟩
/-- The inputs can be shared. -/
def shO (a b key : Int) (gl : List Gt) (ol la lb : List Int) : Bool := askB a b gl ol la lb && inR key 0 1000000000
def shUR (a b key : Int) (gl : List Gt) (ol la lb : List Int) : List Int := if shO a b key gl ol la lb = true then shU a b key la else []
def shVR (a b key : Int) (gl : List Gt) (ol la lb : List Int) : List Int := if shO a b key gl ol la lb = true then shV a b key lb else []
def ShP (a b key : Int) (gl : List Gt) (ol la lb : List Int) (w : World) (e : Ending) (w' : World) : Prop := ∃ A1 n1 c1 A2 n2 c2, e = .returned (.tuple #[.slice A1 n1 c1, .slice A2 n2 c2, .bool (shO a b key gl ol la lb)]) ∧ OwnI w.heap.size w' A1 n1 c1 (shUR a b key gl ol la lb) ∧ OwnI w.heap.size w' A2 n2 c2 (shVR a b key gl ol la lb) ∧ Bl w w'
theorem shP_no {a b key : Int} {gl : List Gt} {ol la lb : List Int} {w w' : World} (h : shO a b key gl ol la lb = false) (hb : Bl w w') : ShP a b key gl ol la lb w (.returned (.tuple #[.slice none 0 0, .slice none 0 0, .bool false])) w' :=
  ⟨none, 0, 0, none, 0, 0, by rw [h], by unfold shUR; rw [h]; exact OwnI.nil _ _, by unfold shVR; rw [h]; exact OwnI.nil _ _, hb⟩
theorem shP_yes {a b key : Int} {gl : List Gt} {ol la lb : List Int} {w w' : World} {A1 A2 : Option Addr} {n1 c1 n2 c2 : Nat} (h : shO a b key gl ol la lb = true) (h1 : OwnI w.heap.size w' A1 n1 c1 (shU a b key la)) (h2 : OwnI w.heap.size w' A2 n2 c2 (shV a b key lb)) (hb : Bl w w') :
    ShP a b key gl ol la lb w (.returned (.tuple #[.slice A1 n1 c1, .slice A2 n2 c2, .bool true])) w' :=
  ⟨A1, n1, c1, A2, n2, c2, by rw [h], by unfold shUR; rw [if_pos h]; exact h1, by unfold shVR; rw [if_pos h]; exact h2, hb⟩
set_option maxHeartbeats 1000000 in
theorem laws_qInts_q (A B : Option Addr) (n c d : Nat) (l : List Int) (w : World) (h : RdI w A n c l) (h' : RdI w B n d l) :
    Calls Try.prog 16 #[.slice A n c, .slice B n d] w fun e w' => e = .returned (.bool true) ∧ ∃ N, w.drewN N = w' := by
  obtain ⟨hle1, hle2⟩ := h.le
  obtain ⟨hle3, hle4⟩ := h'.le
  have hd0 : (!decide (n = n)) = false := by simp
  go_enter Try.func16, Try.ntmps16
  go_wp2
  go_loopw [13] (fun i wr => ∃ k N : Nat, k ≤ n ∧ wr = w.drewN N ∧ i = .int .i64 k) (fun i _ => n - (intOf i).toNat)
  case atStart => exact ⟨0, 0, by omega, rfl, rfl⟩
  case round =>
    obtain ⟨k, N, hk, rfl, rfl⟩ := hrel
    by_cases hlt : k < n
    · obtain ⟨ad, x, rfl, hadb, hx, hcell⟩ := h.at_ hlt
      obtain ⟨ad', y, rfl, hadb', hy, hcell'⟩ := h'.at_ hlt
      obtain rfl : x = y := Option.some.inj (hx.symm.trans hy)
      clear hx hy
      have i1 : (k : Int) < n := by omega
      go_wp2
      go_quiet (fail)
      go_wp2
      go_roundw
      case rel => exact ⟨k + 1, _, by omega, rfl, by go_num⟩
      case measure => simp [intOf]; omega
    · have he : k = n := by omega
      go_wp2
      go_ret
      exact ⟨rfl, _, rfl⟩
theorem laws_qInts (A B : Option Addr) (n n' c d : Nat) (l : List Int) (w : World) (h : RdI w A n c l) (h' : RdI w B n' d l) :
    Calls Try.prog 16 #[.slice A n c, .slice B n' d] w fun e w' => e = .returned (.bool true) ∧ Bl w w' := by
  obtain rfl : n = n' := h.length.symm.trans h'.length
  exact (laws_qInts_q A B n c d l w h h').mono fun _ _ ⟨he, N, hw⟩ => ⟨he, hw ▸ Bl.of_drewN w N⟩
theorem spec_otKey (n : Int) (w : World) :
    Calls Try.prog 108 #[.int .i64 n] w fun e w' => e = .returned (.bool (inR n 0 1000000000)) ∧ w = w' := by
  go_enter Try.func108, Try.ntmps108
  go_wp2_with (go_at_call 79; refine (spec_l1In _ _ _ _).mono ?_; rintro e w' ⟨rfl, rfl⟩)
  go_ret
  exact ⟨rfl, rfl⟩
set_option maxHeartbeats 1000000 in
theorem spec_sbAsked (a b key : Int) (Ag Ao : Option Addr) (n cg m co : Nat) (gl : List Gt) (ol : List Int) (Aa Ab : Option Addr) (na ca nb cb : Nat) (la lb : List Int) (w : World) (hg : RdG w Ag n cg gl) (ho : RdI w Ao m co ol) (ha : RdI w Aa na ca la) (hb : RdI w Ab nb cb lb) :
    Calls Try.prog 64 #[.agg #[.int .i64 a, .int .i64 b, .slice Ag n cg, .slice Ao m co], .int .i64 key, .slice Aa na ca, .slice Ab nb cb] w fun e w' => e = .returned (.bool (shO a b key gl ol la lb)) ∧ Bl w w' := by
  have hW := (Bl.refl w).alloc (.cells #[.int .i64 a, .int .i64 b, .slice Ag n cg, .slice Ao m co] 26)
  have hG := Lib.hid (spec_ciAsked a b Ag Ao n cg m co gl ol Aa Ab na ca nb cb la lb _ (hg.keep hW) (ho.keep hW) (ha.keep hW) (hb.keep hW))
  rcases hq : askB a b gl ol la lb
  · have HR := Lib.hid (show shO a b key gl ol la lb = false by unfold shO; rw [hq]; rfl)
    go_enter Try.func64, Try.ntmps64
    go_wp2_with fail
    refine hG.out.mono ?_
    rintro e w1 ⟨rfl, hb1⟩
    rw [hq]
    go_wp2_with fail
    go_ret
    exact ⟨by rw [HR.out]; rfl, hW.call hb1⟩
  · have HR := Lib.hid (show shO a b key gl ol la lb = inR key 0 1000000000 by unfold shO; rw [hq]; rfl)
    go_enter Try.func64, Try.ntmps64
    go_wp2_with fail
    refine hG.out.mono ?_
    rintro e w1 ⟨rfl, hb1⟩
    rw [hq]
    go_wp2_with (go_at_call 108; refine (spec_otKey key _).mono ?_; rintro e w2 ⟨rfl, rfl⟩)
    go_ret
    exact ⟨by rw [HR.out]; rfl, hW.call hb1⟩
set_option maxHeartbeats 2000000 in
theorem impl_ShareInputs (a b key : Int) (Ag Ao : Option Addr) (n cg m co : Nat) (gl : List Gt) (ol : List Int) (Aa Ab : Option Addr) (na ca nb cb : Nat) (la lb : List Int) (w : World) (hg : RdG w Ag n cg gl) (ho : RdI w Ao m co ol) (ha : RdI w Aa na ca la) (hb : RdI w Ab nb cb lb) :
    Calls Try.prog 14 #[.agg #[.int .i64 a, .int .i64 b, .slice Ag n cg, .slice Ao m co], .int .i64 key, .slice Aa na ca, .slice Ab nb cb] w (ShP a b key gl ol la lb w) := by
  have hW := (Bl.refl w).alloc (.cells #[.int .i64 a, .int .i64 b, .slice Ag n cg, .slice Ao m co] 26)
  have hX := Blk.new w 26 #[.int .i64 a, .int .i64 b, .slice Ag n cg, .slice Ao m co]
  have hG := Lib.hid (impl_areInputs a b Ag Ao n cg m co gl ol Aa Ab na ca nb cb la lb _ (hg.keep hW) (ho.keep hW) (ha.keep hW) (hb.keep hW))
  obtain ⟨hle1, hle2⟩ := ha.le
  obtain ⟨hle3, hle4⟩ := hb.le
  rcases hq : askB a b gl ol la lb
  · have HR := Lib.hid (show shO a b key gl ol la lb = false by unfold shO; rw [hq]; rfl)
    go_enter Try.func14, Try.ntmps14
    go_wp2_with fail
    refine hG.out.mono ?_
    rintro e w1 ⟨rfl, hb1⟩
    rw [hq]
    go_wp2_with fail
    refine bodyPost_ret (v := .tuple #[.slice none 0 0, .slice none 0 0, .bool false]) (by simp only [results, Try.results14]; go_simp) rfl ?_
    exact shP_no HR.out (hW.call hb1)
  · rcases hk : inR key 0 1000000000
    · have HR := Lib.hid (show shO a b key gl ol la lb = false by unfold shO; rw [hq, hk]; rfl)
      go_enter Try.func14, Try.ntmps14
      go_wp2_with fail
      refine hG.out.mono ?_
      rintro e w1 ⟨rfl, hb1⟩
      rw [hq]
      go_wp2_with (go_at_call 62; refine (impl_isKey key _).mono ?_; rintro e w2 ⟨rfl, rfl⟩; rw [hk])
      refine bodyPost_ret (v := .tuple #[.slice none 0 0, .slice none 0 0, .bool false]) (by simp only [results, Try.results14]; go_simp) rfl ?_
      exact shP_no HR.out (hW.call hb1)
    · have hk2 := inR_iff.1 hk
      have hs : shO a b key gl ol la lb = true := by unfold shO; rw [hq, hk]; rfl
      obtain ⟨a1, b1, ea, eb, hba, hbb⟩ := asked_facts hq
      rw [ha.length] at ea; rw [hb.length] at eb
      subst ea eb
      have HR := Lib.hid hs
      clear hs
      go_enter Try.func14, Try.ntmps14
      go_wp2_with fail
      refine hG.out.mono ?_
      rintro e w1 ⟨rfl, hb1⟩
      rw [hq]
      have hB := hX.keep hb1
      have hB_l := hB.lt; have hB_f := hB.frozen; have hB_0 := hB.cell 0 _ rfl; have hB_1 := hB.cell 1 _ rfl; have hB_2 := hB.cell 2 _ rfl; have hB_3 := hB.cell 3 _ rfl
      go_wp2_with (go_at_call 62; refine (impl_isKey key _).mono ?_; rintro e w2 ⟨rfl, rfl⟩; rw [hk])
      refine (impl_shareInputs na nb key Ag Ao n cg m co Aa Ab ca cb la lb w1 ((ha.keep hW).keep hb1) ((hb.keep hW).keep hb1) hba hbb (by omega) (by omega) hk2.1 hk2.2).mono ?_
      rintro e w3 ⟨A1, c1, A2, c2, rfl, o1, o2, hb3⟩
      go_wp2_with fail
      refine bodyPost_ret (v := .tuple #[.slice A1 (na + nb) c1, .slice A2 (na + nb) c2, .bool true]) (by simp only [results, Try.results14]; go_simp) rfl ?_
      exact shP_yes HR.out (o1.mono (by have := (hW.call hb1).sz; exact this)) (o2.mono (by have := (hW.call hb1).sz; exact this)) ((hW.call hb1).call hb3)
set_option maxHeartbeats 2000000 in
theorem spec_ShareInputs (a b key : Int) (Ag Ao : Option Addr) (n cg m co : Nat) (gl : List Gt) (ol : List Int) (Aa Ab : Option Addr) (na ca nb cb : Nat) (la lb : List Int) (w : World) (hg : RdG w Ag n cg gl) (ho : RdI w Ao m co ol) (ha : RdI w Aa na ca la) (hb : RdI w Ab nb cb lb) :
    Calls Try.prog 15 #[.agg #[.int .i64 a, .int .i64 b, .slice Ag n cg, .slice Ao m co], .int .i64 key, .slice Aa na ca, .slice Ab nb cb] w (ShP a b key gl ol la lb w) := by
  have hW := (Bl.refl w).alloc (.cells #[.int .i64 a, .int .i64 b, .slice Ag n cg, .slice Ao m co] 26)
  have hX := Blk.new w 26 #[.int .i64 a, .int .i64 b, .slice Ag n cg, .slice Ao m co]
  have hG := Lib.hid (spec_sbAsked a b key Ag Ao n cg m co gl ol Aa Ab na ca nb cb la lb _ (hg.keep hW) (ho.keep hW) (ha.keep hW) (hb.keep hW))
  obtain ⟨hle1, hle2⟩ := ha.le
  obtain ⟨hle3, hle4⟩ := hb.le
  rcases hs : shO a b key gl ol la lb
  · have HR := Lib.hid (show shO a b key gl ol la lb = false by exact hs)
    go_enter Try.func15, Try.ntmps15
    go_wp2_with fail
    refine hG.out.mono ?_
    rintro e w1 ⟨rfl, hb1⟩
    rw [HR.out]
    go_wp2_with fail
    refine bodyPost_ret (v := .tuple #[.slice none 0 0, .slice none 0 0, .bool false]) (by simp only [results, Try.results15]; go_simp) rfl ?_
    exact shP_no HR.out (hW.call hb1)
  · have hq : askB a b gl ol la lb = true := by unfold shO at hs; rw [Bool.and_eq_true] at hs; exact hs.1
    have hk2 := inR_iff.1 (show inR key 0 1000000000 = true by unfold shO at hs; rw [Bool.and_eq_true] at hs; exact hs.2)
    obtain ⟨a1, b1, ea, eb, hba, hbb⟩ := asked_facts hq
    rw [ha.length] at ea; rw [hb.length] at eb
    clear hq
    subst ea eb
    have HR := Lib.hid hs
    clear hs
    go_enter Try.func15, Try.ntmps15
    go_wp2_with fail
    refine hG.out.mono ?_
    rintro e w1 ⟨rfl, hb1⟩
    rw [HR.out]
    have hB := hX.keep hb1
    have hB_l := hB.lt; have hB_f := hB.frozen; have hB_0 := hB.cell 0 _ rfl; have hB_1 := hB.cell 1 _ rfl; have hB_2 := hB.cell 2 _ rfl; have hB_3 := hB.cell 3 _ rfl
    go_wp2_with fail
    refine (spec_sbInputs na nb key Ag Ao n cg m co Aa Ab ca cb la lb w1 ((ha.keep hW).keep hb1) ((hb.keep hW).keep hb1) hba hbb (by omega) (by omega) hk2.1 hk2.2).mono ?_
    rintro e w3 ⟨A1, c1, A2, c2, rfl, o1, o2, hb3⟩
    go_wp2_with fail
    refine bodyPost_ret (v := .tuple #[.slice A1 (na + nb) c1, .slice A2 (na + nb) c2, .bool true]) (by simp only [results, Try.results15]; go_simp) rfl ?_
    exact shP_yes HR.out (o1.mono (by have := (hW.call hb1).sz; exact this)) (o2.mono (by have := (hW.call hb1).sz; exact this)) ((hW.call hb1).call hb3)
end Go.Proofs.Ytlmlffiajgofeaa
