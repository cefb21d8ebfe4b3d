/- The law FnExactWrongPlayers answers true for every input, and its arguments read afterwards as they read before.
   Conditions: those of the given row, no more. -/
import Derived.Test.YtcjpalhclgkjiaaDoorFrl
import Derived.Test.YtcjpalhclgkjiaaDoorCards
import Derived.Test.YtcjpalhclgkjiaaDoorTie
import Derived.SevenTiedAt
import Derived.Test.YtcjpalhclgkjiaaDoorPqw
import Derived.Test.YtcjpalhclgkjiaaDoorPqo
namespace Go.Proofs.YtcjpalhclgkjiaaDoor.fnExactWrongPlayers
open Go.ChangeShapes Go.WideShapes Go.ChangeAt Go.RowKit
set_option linter.unusedVariables false
set_option maxRecDepth 100000 in
theorem step {H : Type} {enc : TypeId × Value → H} (W : World) (base : Nat) (args : Array Value) (ds : List (DataW H)) (before : List MemPlace) (hT : Tab W)
  (hval : ∀ (j : Nat) t v, Tryd.f5.params[j]? = some t → args[j]? = some v → Value.okWide Tryd.prog W .any base t v)
  (hA : DataW.TrodAll enc Tryd.prog W 0 (fun _ => true) true Tryd.f5.params.toList args.toList ds before) :
  Calls Tryd.prog 5 args W fun e W' => e = .returned (.bool true) ∧ Bl W W' := by
 rw [Tryd.params5] at hA hval
 obtain ⟨v0, vs0, d0, ds0, p0, q0, hargs, rfl, rfl, h0, r0⟩ := trodAll_cons hA
 obtain ⟨v1, vs1, d1, ds1, p1, q1, rfl, rfl, rfl, h1, r1⟩ := trodAll_cons r0
 obtain ⟨v2, vs2, d2, ds2, p2, q2, rfl, rfl, rfl, h2, r2⟩ := trodAll_cons r1
 obtain ⟨rfl, rfl, rfl⟩ := trodAll_nil r2
 obtain rfl : args = #[v0, v1, v2] := by cases args; simp_all
 obtain ⟨a, As, Ak, Ah, ns, cs, nk, ck, nh, ch, hs, rfl, w0⟩ := open_player (hval 0 26 v0 rfl rfl) h0
 obtain ⟨b, As2, Ak2, Ah2, ns2, cs2, nk2, ck2, nh2, ch2, hs2, rfl, w1⟩ := open_player (hval 1 26 v1 rfl rfl) h1
 obtain ⟨A, n, c, l, rfl, w2⟩ := open_meddles (hval 2 27 v2 rfl rfl) h2
 exact law_WrongPlayers a b As Ak Ah ns cs nk ck nh ch hs As2 Ak2 Ah2 ns2 cs2 nk2 ck2 nh2 ch2 hs2 A n c l W hT w2 w0 w1
set_option maxRecDepth 100000 in
theorem lifted (os : Os) (started : os.Started) (H : Type) (enc : TypeId × Value → H) :
  ReturnsInHanded {} Tryd.checked os 5 .any (fun w args => (Rows.fnExactWrongPlayersSpec.pre enc Tryd.prog Tryd.f5 [] false w args ∧ laidMetH Tryd.prog [(tabName, tabD)] w) ∧ sizedMet enc Tryd.prog Tryd.f5 (OpenSpec.ofChange Rows.fnExactWrongPlayersSpec) false w args) (Rows.fnExactWrongPlayersSpec.post enc Tryd.prog Tryd.f5 false true false false) := by
 refine law_lifted_t (s := Rows.fnExactWrongPlayersSpec) os started H enc (by kernel_rfl) Tryd.func5 rfl
  (ChangeSpec.witness_shaped (enc := enc) (C := Tryd.checked) (os := os) (X := fun w _ => laidMetH Tryd.prog [(tabName, tabD)] w) false (World.doorLaid Tryd.prog 14 os) #[.agg #[.int .i64 0, .int .i64 0, .int .i64 0, .int .i64 0, .int .i64 0, .slice none 0 0, .slice none 0 0, .int .i64 0, .slice none 0 0, .int .i64 0, .int .i64 0], .agg #[.int .i64 0, .int .i64 0, .int .i64 0, .int .i64 0, .int .i64 0, .slice none 0 0, .slice none 0 0, .int .i64 0, .slice none 0 0, .int .i64 0, .int .i64 0], .slice none 0 0] 8 rfl (World.shaped_of_RefB (by kernel_rfl) (by kernel_rfl)) (by kernel_rfl) (by kernel_rfl) (by kernel_rfl) (door_met os _)) rfl ?_ ?_ ?_
 ·intro t ht
  rw [Tryd.params5] at ht
  simp only [List.mem_cons, List.not_mem_nil, or_false] at ht
  rcases ht with rfl | rfl | rfl <;> exact ⟨by kernel_rfl, of_decide_eq_true (by kernel_rfl)⟩
 ·intro ds g hd
  have hd' : ds.length = 3 := hd
  match ds, hd' with
  | [d0, d1, d2], _ => rfl
 ·exact fun W base args ds before hT hval hA => step W base args ds before hT hval hA
theorem over : Rows.fnExactWrongPlayersRow.holds Tryd.pinned (OpenSpec.ofChange Rows.fnExactWrongPlayersSpec) :=
 OpenClaim.holds_of_wide 5 Tryd.f5 rfl rfl rfl rfl rfl rfl rfl ⟨rfl, rfl, rfl, rfl, rfl⟩ rfl rfl rfl rfl rfl (by kernel_rfl) Tryd.func5 (by kernel_rfl)
  (of_decide_eq_true (by kernel_rfl)) (by unfold Func.isWrapper; first | (rw [if_pos (by decide +kernel)]; kernel_rfl) | (rw [if_neg (by decide +kernel)]; exact ⟨rfl, rfl⟩))
  (fun os started H enc _ => lifted os started H enc)
/-- The statement: the tied card. -/
theorem proved : Rows.FnExactWrongPlayersCardSaid :=
 Claim7.holds_tied_plain_at .later [] [.data] true (true, "2202e9e76b1d9bfea136862f34da36a6005ba0e724796aa347bd0eca26eb1b53") false
  over (fun _ h => by cases h) (by kernel_rfl) (fun _ h => by cases h) fnExactWrongPlayers_row_tie rfl ⟨rfl, rfl⟩ (by kernel_rfl) rfl
  (fun f fn hf hfn => by
   obtain rfl : f = 5 := Option.some.inj ((show Tryd.prog.funcNamed "loop.example/g00877/laws.FnExactWrongPlayers" = some 5 by kernel_rfl).symm.trans hf) |>.symm
   obtain rfl : fn = Tryd.f5 := (Option.some.inj (Tryd.func5.symm.trans hfn)).symm
   exact ⟨by kernel_rfl, fun j t ht => by
    rw [Tryd.params5] at ht
    have hm : t ∈ [26, 26, 27] := by simpa using Array.mem_of_getElem? ht
    have hall : ([26, 26, 27].all fun u => !Tryd.prog.wantsStandIn u) = true := by kernel_rfl
    exact (show Tryd.prog.wantsStandIn t = false by simpa using List.all_eq_true.1 hall t hm)⟩)
  (by kernel_rfl)
#print axioms proved
end Go.Proofs.YtcjpalhclgkjiaaDoor.fnExactWrongPlayers
