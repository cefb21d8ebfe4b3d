/- Small words for the walks of this claim: a world that has only grown, slices that read as lists, and numbers in a range.
   Conditions: none. -/
import Derived.Test.YtcjpalhclgkjiaaDoorRows
import Derived.WalkKit
import Derived.WalkLawsBesides
import Derived.WalkSpells
import Derived.ProofKit
import Derived.OpenShut
import Derived.BigQuiet
import Derived.Deep.QuietTactic
import Derived.Deep.AppendLies
import Derived.Deep.Draws
import Derived.Deep.RegionHeld3
import Derived.Deep.RegionWith
import Derived.Deep.RegionLaw
import Derived.StillTailTactics
import Derived.Maps.AppendAt
import Derived.Lib.Hide
import Derived.PlainAid
import Derived.Handy
namespace Go.Proofs.YtcjpalhclgkjiaaDoor
open Go.RowKit
/-- The world w is W with more blocks; nothing of W has turned. -/
def Bl (W w : World) : Prop := Below W.heap.size W w
theorem Bl.refl (w : World) : Bl w w := Below.refl _ _
theorem Bl.alloc {W w : World} (h : Bl W w) (o : Obj) : Bl W (w.alloc o) := Below.alloc h h.size o
theorem Bl.drew {W w : World} (h : Bl W w) : Bl W w.drew := Below.drew h
theorem Bl.drewN {W w : World} (h : Bl W w) (n : Nat) : Bl W (w.drewN n) := ⟨h.os, h.tape, h.output, h.size, h.block⟩
theorem Bl.call {W w w1 : World} (h : Bl W w) (k : Bl w w1) : Bl W w1 := Below.trans h (Below.mono k h.size)
theorem Bl.setCell {W w : World} (h : Bl W w) {p : Addr} (hp : W.heap.size ≤ p.block) (u : Value) : Bl W (w.setCell p u) := Below.setCell h hp u
theorem Bl.grown {W w w' : World} {row : Option Nat} (h : Bl W w) (hg : w.grownBy w' row) (hr : ∀ k, row = some k → W.heap.size ≤ k) : Bl W w' :=
 Below.grown h hg h.size hr
theorem Bl.sz {W w : World} (h : Bl W w) : W.heap.size ≤ w.heap.size := h.size
theorem Bl.froz0 {W w : World} (h : Bl W w) : ∀ b o, b < W.heap.size → w.frozen? ⟨b, o, none⟩ = W.frozen? ⟨b, o, none⟩ := fun b o hb => Below.frozen (p := ⟨b, o, none⟩) h hb
theorem Bl.cells {W w : World} (h : Bl W w) {p : Addr} {v : Value} (hc : W.cell? p = some v) : w.cell? p = some v := by
 rw [Below.cell h (World.block_lt_of_cell? W p hc)]; exact hc
/-- Block g of w is just these cells of type t, none frozen. -/
def Blk (w : World) (g : Nat) (t : TypeId) (cs : Array Value) : Prop := w.heap[g]? = some (.cells cs t (0, 0))
section
variable {w w' : World} {g : Nat} {t : TypeId} {cs : Array Value}
theorem Blk.lt (h : Blk w g t cs) : g < w.heap.size := (Array.getElem?_eq_some_iff.1 h).1
theorem Blk.cell (h : Blk w g t cs) (i : Nat) (u : Value) (hu : cs[i]? = some u) : w.cell? ⟨g, i, none⟩ = some u := by
 rw [cell_of_row w g i cs t (0, 0) h]; exact hu
theorem Blk.frozen (h : Blk w g t cs) : ∀ i, w.frozen? ⟨g, i, none⟩ = false := by
 intro i
 unfold Blk at h
 simp [World.frozen?, h]
theorem Blk.new (w : World) (t : TypeId) (cs : Array Value) {g : Nat} (hg : w.heap.size = g := by first | with_reducible rfl | simp) : Blk (w.alloc (.cells cs t)) g t cs := by
 subst hg; exact heap_alloc_new w _
theorem Blk.drew (h : Blk w g t cs) : Blk w.drew g t cs := h
theorem Blk.drewN (h : Blk w g t cs) (n : Nat) : Blk (w.drewN n) g t cs := h
theorem Blk.alloc (h : Blk w g t cs) (o : Obj) : Blk (w.alloc o) g t cs := (Below.heap_alloc w o g h.lt).trans h
theorem Blk.set_ (h : Blk w g t cs) (i : Nat) (u : Value) : Blk (w.setCell ⟨g, i, none⟩ u) g t (cs.setIfInBounds i u) := by
 unfold Blk at h ⊢
 simp [World.setCell, Array.getElem?_modify, h]
theorem Blk.far (h : Blk w g t cs) {p : Addr} (hp : g ≠ p.block) (u : Value) : Blk (w.setCell p u) g t cs := (Below.heap_setCell w p u g hp).trans h
theorem Blk.keep (h : Blk w g t cs) (hb : Bl w w') : Blk w' g t cs := (hb.block g h.lt).trans h
theorem Blk.grown {row : Option Nat} (h : Blk w g t cs) (hb : w.grownBy w' row) (hg : some g ≠ row) : Blk w' g t cs := (hb.block g h.lt hg).trans h
end
section
variable {P : Program} {ops : Array Oper} {Q : Exit → Act → World → Prop} {md : Region.Mode} {S : World → Prop}
/-- One operation of a drawn region is taken first: its slot is written. -/
theorem held_take {i d : Nat} {oi : Oper} {v : Value} {fuel : Nat} {listed : Array Bool} {l : List Value} {w : World} (hi : ops[i]? = some oi) (hd : oi.dst = some d)
  (hs : Region.noSelect ops = true) (hf : Region.free md ops listed i = true) (hr : (Region.ready md ops listed).contains i = true)
  (hQ : ∀ c a w, Q (.panic c) (a.put oi.dst v) w → Q (.panic c) a w) (hy : YieldsIf P ops S oi v ⟨l.toArray, []⟩) (hS : S w)
  (h : wpAnyH P md ops Q S fuel (listed.setIfInBounds i true) ⟨(l.set d v).toArray, []⟩ w) : wpAnyH P md ops Q S (fuel + 1) listed ⟨l.toArray, []⟩ w := by
 refine wpAnyH_take hi hs hf hr hQ hy hS ?_
 rw [hd]
 simpa [Act.put] using h
end
/-- A number in a range, as a Bool of its own. -/
def inR (n lo hi : Int) : Bool := decide (lo ≤ n ∧ n ≤ hi)
theorem inR_iff {n lo hi : Int} : inR n lo hi = true ↔ lo ≤ n ∧ n ≤ hi := by simp [inR]
theorem inR_not {n lo hi : Int} : inR n lo hi = false ↔ ¬ (lo ≤ n ∧ n ≤ hi) := by simp only [inR, decide_eq_false_iff_not]
theorem ret_int {k : IntKind} {a b : Int} (h : a = b) : Ending.returned (.int k a) = .returned (.int k b) := by rw [h]
theorem ret_bool {a b : Bool} (h : a = b) : Ending.returned (.bool a) = .returned (.bool b) := by rw [h]
theorem block_of_add (a : Addr) (n : Nat) : (a.add n).block = a.block := by unfold Addr.add; split <;> rfl
theorem add_of_add (a : Addr) (i j : Nat) : (a.add i).add j = a.add (i + j) := by
 unfold Addr.add
 by_cases hi : i = 0 <;> by_cases hj : j = 0 <;> simp [hi, hj, Nat.add_assoc]
/-- The slice at A with n elements of 'size' cells reads as the cells xs; c is its capacity. -/
structure Rd (w : World) (size : Nat) (A : Option Addr) (n c : Nat) (xs : List Value) : Prop where
 len : xs.length = n * size
 cap : n ≤ c
 max : c ≤ maxLen
 at0 : 0 < n → ∃ ad, A = some ad ∧ ad.block < w.heap.size ∧ ∀ j u, xs[j]? = some u → w.cell? (ad.add j) = some u
section
variable {w w' : World} {size n c : Nat} {A : Option Addr} {xs : List Value}
theorem Rd.nil (w : World) (size : Nat) : Rd w size none 0 0 [] := ⟨by simp, by simp, by simp, fun h => absurd h (by omega)⟩
theorem Rd.keep (h : Rd w size A n c xs) (hb : Bl w w') : Rd w' size A n c xs :=
 ⟨h.len, h.cap, h.max, fun hn => by
  obtain ⟨ad, e, hl, hc⟩ := h.at0 hn
  exact ⟨ad, e, Nat.lt_of_lt_of_le hl hb.size, fun j u hu => hb.cells (hc j u hu)⟩⟩
theorem Rd.of_own {base : Nat} {e : TypeId} (h : w.ownsRow base e size (.slice A n c) n xs) : Rd w size A n c xs := by
 refine ⟨h.1, ?_, ?_, fun hn => ?_⟩
 ·rcases h.2 with ⟨hv, hn⟩ | ⟨g, cap, cur, hv, _, _, hc, hm, _⟩
  ·omega
  ·injection hv with _ _ h3; omega
 ·rcases h.2 with ⟨hv, hn⟩ | ⟨g, cap, cur, hv, _, _, hc, hm, _⟩
  ·injection hv with _ _ h3; omega
  ·injection hv with _ _ h3; omega
 ·rcases h.2 with ⟨hv, h0⟩ | ⟨g, cap, cur, hv, _, hg, hc, hm, _⟩
  ·omega
  ·injection hv with h1 h2 h3
   subst h1
   refine ⟨_, rfl, (Array.getElem?_eq_some_iff.1 hg).1, h.cells (g := g) rfl⟩
theorem Rd.take (h : Rd w size A n c xs) {k : Nat} (hk : k ≤ n) : Rd w size A k c (xs.take (k * size)) := by
 refine ⟨by rw [List.length_take, h.len]; exact Nat.min_eq_left (Nat.mul_le_mul_right _ hk), by have := h.cap; omega, h.max, fun hn => ?_⟩
 obtain ⟨ad, rfl, hb, hcell⟩ := h.at0 (by omega)
 refine ⟨ad, rfl, hb, fun j u hu => hcell j u ?_⟩
 rw [List.getElem?_take] at hu
 split at hu
 ·exact hu
 ·cases hu
end
/-- Numbers as cells. -/
def ints (l : List Int) : List Value := l.map (Value.int .i64)
@[simp] theorem ints_length (l : List Int) : (ints l).length = l.length := by simp [ints]
theorem ints_append (a b : List Int) : ints (a ++ b) = ints a ++ ints b := by simp [ints]
theorem ints_get (l : List Int) (j : Nat) : (ints l)[j]? = l[j]?.map (Value.int .i64) := by simp [ints]
theorem ints_one (l : List Int) : ∀ u ∈ ints l, u.oneCell' = true := by simp [ints, Value.oneCell']
theorem ownBlock_slice (A : Option Addr) (n c : Nat) : Value.ownBlock (.slice A n c) = A.map (·.block) := by cases A <;> rfl
/-- A slice of numbers reads as the list l. -/
def RdI (w : World) (A : Option Addr) (n c : Nat) (l : List Int) : Prop := Rd w 1 A n c (ints l)
/-- A slice of numbers that lies in a block of its own, from block 'base' on, and reads as the list l. -/
def OwnI (base : Nat) (w : World) (A : Option Addr) (n c : Nat) (l : List Int) : Prop := w.ownsRow base 3 1 (.slice A n c) n (ints l)
section
variable {w w' : World} {base n c : Nat} {A : Option Addr} {l : List Int}
theorem RdI.length (h : RdI w A n c l) : l.length = n := by have := h.len; simpa using this
theorem RdI.at_ (h : RdI w A n c l) {k : Nat} (hk : k < n) :
  ∃ ad v, A = some ad ∧ ad.block < w.heap.size ∧ l[k]? = some v ∧ w.cell? (ad.add k) = some (.int .i64 v) := by
 obtain ⟨ad, e, hb, hc⟩ := h.at0 (by omega)
 have hl : k < l.length := by rw [h.length]; exact hk
 exact ⟨ad, l[k], e, hb, List.getElem?_eq_getElem hl, hc k _ (by rw [ints_get, List.getElem?_eq_getElem hl]; rfl)⟩
theorem RdI.nil (w : World) : RdI w none 0 0 [] := Rd.nil w 1
theorem RdI.keep (h : RdI w A n c l) (hb : Bl w w') : RdI w' A n c l := Rd.keep h hb
theorem RdI.le (h : RdI w A n c l) : n ≤ c ∧ c ≤ 9223372036854775807 := ⟨h.cap, by have := h.max; unfold maxLen at this; exact this⟩
theorem OwnI.rd (h : OwnI base w A n c l) : RdI w A n c l := Rd.of_own h
theorem OwnI.length (h : OwnI base w A n c l) : l.length = n := h.rd.length
theorem OwnI.nil (base : Nat) (w : World) : OwnI base w none 0 0 [] := World.ownsRow_nil w base _ 1
theorem OwnI.alloc (h : OwnI base w A n c l) (o : Obj) : OwnI base (w.alloc o) A n c l := World.ownsRow.alloc h o
theorem OwnI.keep (h : OwnI base w A n c l) (hb : Bl w w') : OwnI base w' A n c l :=
 World.ownsRow.kept (row := none) h ⟨hb.os, hb.tape, hb.output, hb.size, fun k hk _ => hb.block k hk⟩ (by cases hv : Value.ownBlock (.slice A n c) <;> simp)
theorem OwnI.mono {base' : Nat} (h : OwnI base w A n c l) (hb : base' ≤ base) : OwnI base' w A n c l := by
 refine ⟨h.1, ?_⟩
 rcases h.2 with h | ⟨g, cap, cur, h1, h2, h3⟩
 ·exact .inl h
 ·exact .inr ⟨g, cap, cur, h1, by omega, h3⟩
theorem OwnI.blk (h : OwnI base w A n c l) : ∀ k, A.map (·.block) = some k → base ≤ k ∧ k < w.heap.size := by
 intro k hk
 exact World.ownsRow.lt h k (by rw [ownBlock_slice]; exact hk)
theorem own_made (w : World) {g : Nat} (hg : w.heap.size = g := by first | with_reducible rfl | simp) : OwnI w.heap.size (w.alloc (.cells #[] 3)) (some ⟨g, 0, none⟩) 0 0 [] := by
 subst hg
 exact World.ownsRow_made (size := 1) w #[] 0 (Nat.le_refl _) (by simp) (by simp)
theorem rd_new (w : World) (cur : Array Value) (e : TypeId) (hm : cur.size ≤ maxLen) {g : Nat} (hg : w.heap.size = g) : Rd (w.alloc (.cells cur e)) 1 (some ⟨g, 0, none⟩) cur.size cur.size cur.toList := by
 subst hg
 refine ⟨by simp, Nat.le_refl _, hm, fun _ => ⟨_, rfl, by simp, fun j u hu => ?_⟩⟩
 have hadd : (⟨w.heap.size, 0, none⟩ : Addr).add j = ⟨w.heap.size, j, none⟩ := by unfold Addr.add; split <;> simp_all
 rw [hadd, cell_of_row _ w.heap.size j cur e (0, 0) (heap_alloc_new w _)]
 simpa using hu
theorem rd_new1 (w : World) (e : TypeId) (a : Int) {g : Nat} (hg : w.heap.size = g := by first | with_reducible rfl | simp) : RdI (w.alloc (.cells #[.int .i64 a] e)) (some ⟨g, 0, none⟩) 1 1 [a] := rd_new w #[.int .i64 a] e (by simp [maxLen]) hg
theorem rd_new2 (w : World) (e : TypeId) (a b : Int) {g : Nat} (hg : w.heap.size = g := by first | with_reducible rfl | simp) : RdI (w.alloc (.cells #[.int .i64 a, .int .i64 b] e)) (some ⟨g, 0, none⟩) 2 2 [a, b] := rd_new w #[.int .i64 a, .int .i64 b] e (by simp [maxLen]) hg
theorem rd_new4 (w : World) (e : TypeId) (a b d f : Int) {g : Nat} (hg : w.heap.size = g := by first | with_reducible rfl | simp) : RdI (w.alloc (.cells #[.int .i64 a, .int .i64 b, .int .i64 d, .int .i64 f] e)) (some ⟨g, 0, none⟩) 4 4 [a, b, d, f] := rd_new w #[.int .i64 a, .int .i64 b, .int .i64 d, .int .i64 f] e (by simp [maxLen]) hg
end
theorem tmod_fix (a m : Int) : (a.tmod m + m) % m = a % m := by
 rw [Int.add_emod_right, Int.tmod_def, Int.sub_mul_emod_self_left]
theorem int_info : (Tryd.prog.info? 3).map (fun i => (i.zero, i.size, i.bytes)) = some (some (.int .i64 0), 1, 8) := by kernel_rfl
theorem run_append_of_nil {P : Program} (w : World) (base : Nat) (t ty e : TypeId) (i : TypeInfo) (size : Nat) (ht : P.underlying t = some (.slice e)) (hi : P.info? e = some i)
  (v : Value) (n : Nat) (xs : List Value) (hown : w.ownsRow base e size v n xs) (c : Nat) : (Builtin.append_ #[t, t] ty #[v, .slice none 0 c]).run P w = .ok v w := by
 rcases hown.2 with ⟨rfl, rfl⟩ | ⟨g, cap, cur, rfl, _, _, hnc, _⟩
 ·simp [Builtin.append_, run_underlying ht, sizeOf, typeInfo, hi, Builtin.lenOf, Builtin.firstCells]
 ·simp [Builtin.append_, run_underlying ht, sizeOf, typeInfo, hi, Builtin.lenOf, Builtin.firstCells, hnc, storeCells]
/-- append onto a row of the call's own, whatever the source. -/
theorem run_append_any {P : Program} (w : World) (base : Nat) (t ty e : TypeId) (i : TypeInfo) (z : Value) (size bytes : Nat) (ht : P.underlying t = some (.slice e)) (hi : P.info? e = some i) (hz : i.zero = some z)
  (hsize : i.size = size) (hby : i.bytes = bytes) (hzs : z.cells.size = size) (hsz : 0 < size)
  (v : Value) (n : Nat) (xs : List Value) (hown : w.ownsRow base e size v n xs)
  (A : Option Addr) (m c : Nat) (news : List Value) (hr : Rd w size A m c news) (h1 : ∀ u ∈ news, u.oneCell' = true)
  (h63 : n + m ≤ maxLen) (hbytes : (n + m) * bytes ≤ 140737488355328) (hbase : base ≤ w.heap.size) :
  ∃ A' c' w', (Builtin.append_ #[t, t] ty #[v, .slice A m c]).run P w = .ok (.slice A' (n + m) c') w' ∧ w'.ownsRow base e size (.slice A' (n + m) c') (n + m) (xs ++ news) ∧ w.grownBy w' v.ownBlock ∧
   (A'.map (·.block) = v.ownBlock ∨ A'.map (·.block) = some w.heap.size) := by
 have key : ∃ v' w', (Builtin.append_ #[t, t] ty #[v, .slice A m c]).run P w = .ok v' w' ∧ w'.ownsRow base e size v' (n + m) (xs ++ news) ∧ w.grownBy w' v.ownBlock ∧
   (v'.ownBlock = v.ownBlock ∨ v'.ownBlock = some w.heap.size) := by
  rcases A with _ | ad
  ·have hm : m = 0 := by
    rcases Nat.eq_zero_or_pos m with h0 | h0
    ·exact h0
    ·obtain ⟨ad, h, _⟩ := hr.at0 h0
     cases h
   subst hm
   have hn : news = [] := List.eq_nil_of_length_eq_zero (by simpa using hr.len)
   subst hn
   exact ⟨v, w, run_append_of_nil w base t ty e i size ht hi v n xs hown c, by simpa using hown, World.grownBy.refl w _, .inl rfl⟩
  ·have hcells : ∀ j u, news[j]? = some u → w.cell? (ad.add j) = some u := by
    intro j u hu
    rcases Nat.eq_zero_or_pos m with h0 | h0
    ·subst h0
     have hn : news = [] := List.eq_nil_of_length_eq_zero (by simpa using hr.len)
     subst hn
     simp at hu
    ·obtain ⟨ad', h, _, hc⟩ := hr.at0 h0
     injection h with h
     subst h
     exact hc j u hu
   obtain ⟨v', w', hrun, h2, h3, _, h5⟩ := run_append_own_at (P := P) w base t ty e i z size bytes ht hi hz hsize hby hzs hsz v n xs hown ad m c news hr.len hcells h1 h63 hbytes hbase
   exact ⟨v', w', hrun, h2, h3, h5⟩
 obtain ⟨v', w', hrun, h2, h3, h4⟩ := key
 have hv : ∃ A' c', v' = .slice A' (n + m) c' := by
  rcases h2.2 with ⟨hv, h0⟩ | ⟨g, cap, cur, hv, _⟩
  ·exact ⟨none, 0, by rw [hv, h0]⟩
  ·exact ⟨_, _, hv⟩
 obtain ⟨A', c', rfl⟩ := hv
 refine ⟨A', c', w', hrun, h2, h3, ?_⟩
 cases A' <;> simpa [Value.ownBlock] using h4
section
variable {ops : Array Oper} {rest : List Oper} {o : Oper} {a : Act} {Q : Exit → Act → World → Prop} {w : World}
/-- append of numbers onto a row of the call's own, as a step of the walk. -/
theorem ap_int (hgd : o.guard = none) {s x : Operand} (ho : o.op = .call { callee := .builtin .append, args := #[s, x], argTypes := #[23, 23] })
  {base n c m d : Nat} {A B : Option Addr} {l l' : List Int} (hs : a.eval s = .slice A n c) (hown : OwnI base w A n c l) (hx : a.eval x = .slice B m d) (hr : RdI w B m d l')
  (hb : n + m ≤ 17592186044415) (hbase : base ≤ w.heap.size)
  (h : ∀ A' c' w', OwnI base w' A' (n + m) c' (l ++ l') → w.grownBy w' (A.map (·.block)) → (A'.map (·.block) = A.map (·.block) ∨ A'.map (·.block) = some w.heap.size) →
   wpList Tryd.prog ops Q rest (a.put o.dst (.slice A' (n + m) c')) w') : wpList Tryd.prog ops Q (o :: rest) a w := by
 obtain ⟨i0, hi, hz0, hz1, hz2⟩ := info_parts int_info
 obtain ⟨A', c', w', hrun, h2, h3, h4⟩ := run_append_any (P := Tryd.prog) w base 23 o.type 3 i0 _ 1 8 Tryd.underlying23 hi hz0 hz1 hz2 rfl (by decide)
  (.slice A n c) n (ints l) hown B m d (ints l') hr (ints_one l') (by simp only [maxLen]; omega) (by omega) hbase
 rw [ownBlock_slice] at h3 h4
 refine wpList_plain hgd fun K hK => ?_
 unfold Oper.wp execOp
 simp only [ho, resolve, invoke, builtin, Sem.run_bind, Sem.run_pure, Result.andThen_ok, List.map_toArray, List.map_cons, List.map_nil, hs, hx, hrun]
 refine hK _ _ (h A' c' w' ?_ h3 h4)
 unfold OwnI
 rw [ints_append]
 exact h2
end
theorem Blk.l1 {w : World} {g : Nat} {t : TypeId} {c0 : Value} (h : Blk w g t #[c0]) : g < w.heap.size ∧ (∀ i, w.frozen? ⟨g, i, none⟩ = false) ∧ w.cell? ⟨g, 0, none⟩ = some c0 := ⟨h.lt, h.frozen, h.cell 0 _ rfl⟩
theorem Blk.l2 {w : World} {g : Nat} {t : TypeId} {c0 c1 : Value} (h : Blk w g t #[c0, c1]) : g < w.heap.size ∧ (∀ i, w.frozen? ⟨g, i, none⟩ = false) ∧ w.cell? ⟨g, 0, none⟩ = some c0 ∧ w.cell? ⟨g, 1, none⟩ = some c1 := ⟨h.lt, h.frozen, h.cell 0 _ rfl, h.cell 1 _ rfl⟩
theorem Blk.l3 {w : World} {g : Nat} {t : TypeId} {c0 c1 c2 : Value} (h : Blk w g t #[c0, c1, c2]) : g < w.heap.size ∧ (∀ i, w.frozen? ⟨g, i, none⟩ = false) ∧ w.cell? ⟨g, 0, none⟩ = some c0 ∧ w.cell? ⟨g, 1, none⟩ = some c1 ∧ w.cell? ⟨g, 2, none⟩ = some c2 := ⟨h.lt, h.frozen, h.cell 0 _ rfl, h.cell 1 _ rfl, h.cell 2 _ rfl⟩
theorem Blk.l4 {w : World} {g : Nat} {t : TypeId} {c0 c1 c2 c3 : Value} (h : Blk w g t #[c0, c1, c2, c3]) : g < w.heap.size ∧ (∀ i, w.frozen? ⟨g, i, none⟩ = false) ∧ w.cell? ⟨g, 0, none⟩ = some c0 ∧ w.cell? ⟨g, 1, none⟩ = some c1 ∧ w.cell? ⟨g, 2, none⟩ = some c2 ∧ w.cell? ⟨g, 3, none⟩ = some c3 := ⟨h.lt, h.frozen, h.cell 0 _ rfl, h.cell 1 _ rfl, h.cell 2 _ rfl, h.cell 3 _ rfl⟩
theorem Blk.l5 {w : World} {g : Nat} {t : TypeId} {c0 c1 c2 c3 c4 : Value} (h : Blk w g t #[c0, c1, c2, c3, c4]) : g < w.heap.size ∧ (∀ i, w.frozen? ⟨g, i, none⟩ = false) ∧ w.cell? ⟨g, 0, none⟩ = some c0 ∧ w.cell? ⟨g, 1, none⟩ = some c1 ∧ w.cell? ⟨g, 2, none⟩ = some c2 ∧ w.cell? ⟨g, 3, none⟩ = some c3 ∧ w.cell? ⟨g, 4, none⟩ = some c4 := ⟨h.lt, h.frozen, h.cell 0 _ rfl, h.cell 1 _ rfl, h.cell 2 _ rfl, h.cell 3 _ rfl, h.cell 4 _ rfl⟩
theorem Blk.l6 {w : World} {g : Nat} {t : TypeId} {c0 c1 c2 c3 c4 c5 : Value} (h : Blk w g t #[c0, c1, c2, c3, c4, c5]) : g < w.heap.size ∧ (∀ i, w.frozen? ⟨g, i, none⟩ = false) ∧ w.cell? ⟨g, 0, none⟩ = some c0 ∧ w.cell? ⟨g, 1, none⟩ = some c1 ∧ w.cell? ⟨g, 2, none⟩ = some c2 ∧ w.cell? ⟨g, 3, none⟩ = some c3 ∧ w.cell? ⟨g, 4, none⟩ = some c4 ∧ w.cell? ⟨g, 5, none⟩ = some c5 := ⟨h.lt, h.frozen, h.cell 0 _ rfl, h.cell 1 _ rfl, h.cell 2 _ rfl, h.cell 3 _ rfl, h.cell 4 _ rfl, h.cell 5 _ rfl⟩
theorem Blk.l11 {w : World} {g : Nat} {t : TypeId} {c0 c1 c2 c3 c4 c5 c6 c7 c8 c9 c10 : Value} (h : Blk w g t #[c0, c1, c2, c3, c4, c5, c6, c7, c8, c9, c10]) : g < w.heap.size ∧ (∀ i, w.frozen? ⟨g, i, none⟩ = false) ∧ w.cell? ⟨g, 0, none⟩ = some c0 ∧ w.cell? ⟨g, 1, none⟩ = some c1 ∧ w.cell? ⟨g, 2, none⟩ = some c2 ∧ w.cell? ⟨g, 3, none⟩ = some c3 ∧ w.cell? ⟨g, 4, none⟩ = some c4 ∧ w.cell? ⟨g, 5, none⟩ = some c5 ∧ w.cell? ⟨g, 6, none⟩ = some c6 ∧ w.cell? ⟨g, 7, none⟩ = some c7 ∧ w.cell? ⟨g, 8, none⟩ = some c8 ∧ w.cell? ⟨g, 9, none⟩ = some c9 ∧ w.cell? ⟨g, 10, none⟩ = some c10 := ⟨h.lt, h.frozen, h.cell 0 _ rfl, h.cell 1 _ rfl, h.cell 2 _ rfl, h.cell 3 _ rfl, h.cell 4 _ rfl, h.cell 5 _ rfl, h.cell 6 _ rfl, h.cell 7 _ rfl, h.cell 8 _ rfl, h.cell 9 _ rfl, h.cell 10 _ rfl⟩
theorem Blk.l12 {w : World} {g : Nat} {t : TypeId} {c0 c1 c2 c3 c4 c5 c6 c7 c8 c9 c10 c11 : Value} (h : Blk w g t #[c0, c1, c2, c3, c4, c5, c6, c7, c8, c9, c10, c11]) : g < w.heap.size ∧ (∀ i, w.frozen? ⟨g, i, none⟩ = false) ∧ w.cell? ⟨g, 0, none⟩ = some c0 ∧ w.cell? ⟨g, 1, none⟩ = some c1 ∧ w.cell? ⟨g, 2, none⟩ = some c2 ∧ w.cell? ⟨g, 3, none⟩ = some c3 ∧ w.cell? ⟨g, 4, none⟩ = some c4 ∧ w.cell? ⟨g, 5, none⟩ = some c5 ∧ w.cell? ⟨g, 6, none⟩ = some c6 ∧ w.cell? ⟨g, 7, none⟩ = some c7 ∧ w.cell? ⟨g, 8, none⟩ = some c8 ∧ w.cell? ⟨g, 9, none⟩ = some c9 ∧ w.cell? ⟨g, 10, none⟩ = some c10 ∧ w.cell? ⟨g, 11, none⟩ = some c11 := ⟨h.lt, h.frozen, h.cell 0 _ rfl, h.cell 1 _ rfl, h.cell 2 _ rfl, h.cell 3 _ rfl, h.cell 4 _ rfl, h.cell 5 _ rfl, h.cell 6 _ rfl, h.cell 7 _ rfl, h.cell 8 _ rfl, h.cell 9 _ rfl, h.cell 10 _ rfl, h.cell 11 _ rfl⟩
theorem Blk.kp {w v w' : World} {g : Nat} {t : TypeId} {cs : Array Value} (h : Blk w g t cs) (hb : Bl v w') (hx : Blk w g t cs → Blk v g t cs := by intro h_; repeat (first | exact h_ | with_reducible refine Blk.drew ?_ | with_reducible refine Blk.drewN ?_ _ | with_reducible refine Blk.alloc ?_ _ | with_reducible refine Blk.far ?_ (by first | (dsimp only; omega) | (simp; omega)) _)) : Blk w' g t cs := (hx h).keep hb
theorem Bl.a1 {W w : World} (h : Bl W w := by (repeat (first | assumption | with_reducible exact Bl.refl _ | with_reducible refine Bl.drewN ?_ _ | with_reducible refine Bl.drew ?_ | with_reducible refine Bl.alloc ?_ _ | (with_reducible refine Bl.call ?_ (by assumption))))) : Bl W w := h
theorem Bl.a2 {W w : World} (h : Bl W w := by (repeat (first | assumption | with_reducible exact Bl.refl _ | with_reducible refine Bl.drewN ?_ _ | with_reducible refine Bl.drew ?_ | with_reducible refine Bl.alloc ?_ _ | with_reducible refine Bl.setCell ?_ (by first | (dsimp only; omega) | (simp; omega)) _ | (with_reducible refine Bl.call ?_ (by assumption))))) : Bl W w := h
theorem Bl.a3 {W w : World} (h : Bl W w := by (repeat (first | with_reducible assumption | with_reducible exact Bl.refl _ | with_reducible refine Bl.drewN ?_ _ | with_reducible refine Bl.drew ?_ | with_reducible refine Bl.alloc ?_ _ | with_reducible refine Bl.setCell ?_ (by first | (dsimp only; omega) | (simp; omega)) _ | (with_reducible refine Bl.call ?_ (by with_reducible assumption))))) : Bl W w := h
section
variable {P : Program} {ops : Array Oper} {Q : Exit → Act → World → Prop} {md : Region.Mode} {S : World → Prop}
theorem tkO (i d : Nat) {oi : Oper} {v : Value} {fuel : Nat} {listed : Array Bool} {l l' : List Value} {w : World}
  (h : wpAnyH P md ops Q S fuel (listed.setIfInBounds i true) ⟨l'.toArray, []⟩ w) (hi : ops[i]? = some oi := by rfl) (hd : oi.dst = some d := by rfl)
  (hy : YieldsIf P ops S oi v ⟨l.toArray, []⟩ := by exact Or.inl ⟨by rfl, by intro w_ hSw; (try dsimp only at hSw); go_simp; (try with_reducible rfl)⟩) (hl : l.set d v = l' := by simp only [List.set_cons_zero, List.set_cons_succ]; rfl)
  (hs : Region.noSelect ops = true := by kernel_rfl) (hf : Region.free md ops listed i = true := by kernel_rfl) (hr : (Region.ready md ops listed).contains i = true := by kernel_rfl)
  (hQ : ∀ c a w, Q (.panic c) (a.put oi.dst v) w → Q (.panic c) a w := by exact fun _ _ _ h => h) (hS : S w := by assumption) : wpAnyH P md ops Q S (fuel + 1) listed ⟨l.toArray, []⟩ w := held_take hi hd hs hf hr hQ hy hS (hl ▸ h)
theorem tkz (i d : Nat) {oi : Oper} {fuel : Nat} {listed : Array Bool} {l l' : List Value} {w : World}
  (h : wpAnyH P md ops Q S fuel (listed.setIfInBounds i true) ⟨l'.toArray, []⟩ w) (hi : ops[i]? = some oi := by rfl) (hd : oi.dst = some d := by rfl)
  (hy : YieldsIf P ops S oi undef ⟨l.toArray, []⟩ := by exact Or.inr ⟨by rfl, rfl⟩) (hl : l.set d undef = l' := by simp only [List.set_cons_zero, List.set_cons_succ]; rfl)
  (hsl : Region.noSelect ops = true := by kernel_rfl) (hf : Region.free md ops listed i = true := by kernel_rfl) (hr : (Region.ready md ops listed).contains i = true := by kernel_rfl)
  (hQ : ∀ c a w, Q (.panic c) (a.put oi.dst undef) w → Q (.panic c) a w := by exact fun _ _ _ h => h) (hS : S w := by assumption) : wpAnyH P md ops Q S (fuel + 1) listed ⟨l.toArray, []⟩ w := held_take hi hd hsl hf hr hQ hy hS (hl ▸ h)
theorem ko {S : World → Prop} {X K : Act → World → Prop} {a a' : Act} {w : World} (hK : Shut (∀ a w, S w → (S w → X a w) → K a w)) (hS : S w) (h : S w → X a' w) (ha : a = a' := by (try simp only [Act.put, List.setIfInBounds_toArray, List.set_cons_succ, List.set_cons_zero]); rfl) : K a w := hK.out a w hS (ha ▸ h)
theorem rdy1 (i : Nat) {o : Oper} {fuel : Nat} {L : Array Bool} {a : Act} {w : World}
  (h : ∀ K' : Act → World → Prop, Shut (∀ a w, S w → (S w → wpAnyH P md ops Q S fuel (L.setIfInBounds i true) a w) → K' a w) → if Region.wanted o (yielded ops a.tmps) = true then Oper.wp P o a w K' Q else K' (a.put o.dst undef) w)
  (hr : Region.ready md ops L = [i] := by kernel_rfl) (ho : ops[i]? = some o := by rfl) : wpAnyH P md ops Q S (fuel + 1) L a w := wpAnyH_ready hr (by simp) (AllReadyH.cons ho h AllReadyH.nil)
end
end Go.Proofs.YtcjpalhclgkjiaaDoor
/- Contracts of marking a slice of numbers that lies in a block of its own, and of asking the marks again.
   Conditions: the slice lies in a block of its own; the marks fit. -/
namespace Go.Proofs.YtcjpalhclgkjiaaDoor
open Go.RowKit
set_option linter.unusedVariables false
section
variable {w w' : World} {base n c : Nat} {A : Option Addr} {l : List Int}
theorem OwnI.form (h : OwnI base w A n c l) (hn : 0 < n) : ∃ g, A = some ⟨g, 0, none⟩ ∧ base ≤ g ∧ g < w.heap.size ∧ (∀ k x, l[k]? = some x → w.cell? ⟨g, k, none⟩ = some (.int .i64 x)) ∧ ∀ k, w.frozen? ⟨g, k, none⟩ = false := by
 rcases h.2 with ⟨_, h0⟩ | ⟨g, cap, cur, hv, hg, hh, hc, hm, hs, ht⟩
 ·omega
 ·injection hv with h1 h2 h3
  refine ⟨g, h1, hg, (Array.getElem?_eq_some_iff.1 hh).1, fun k x hx => ?_, fun k => by simp [World.frozen?, hh]⟩
  have hcell := World.ownsRow.cells (g := g) h (by rw [h1]; rfl) k (.int .i64 x) (by rw [ints_get, hx]; rfl)
  have hadd : (⟨g, 0, none⟩ : Addr).add k = ⟨g, k, none⟩ := by unfold Addr.add; split <;> simp_all
  rwa [hadd] at hcell
theorem OwnI.set_ {g : Nat} (h : OwnI base w (some ⟨g, 0, none⟩) n c l) (k : Nat) (x : Int) (hk : k < n) : OwnI base (w.setCell ⟨g, k, none⟩ (.int .i64 x)) (some ⟨g, 0, none⟩) n c (l.set k x) := by
 have hl := h.length
 rcases h.2 with ⟨hv, _⟩ | ⟨g', cap, cur, hv, hg, hh, hc, hm, hs, ht⟩
 ·cases hv
 ·injection hv with h1 h2 h3
  injection h1 with h1
  have hgg : g = g' := by injection h1
  subst hgg
  subst h3
  refine ⟨by simpa using hl, .inr ⟨g, c, cur.setIfInBounds k (.int .i64 x), rfl, hg, ?_, hc, hm, by simpa using hs, ?_⟩⟩
  ·simp [World.setCell, Array.getElem?_modify, hh]
  ·rw [Array.toList_setIfInBounds, List.take_set, ht]
   simp [ints]
theorem grownBy_setCell (w : World) (g k : Nat) (u : Value) : w.grownBy (w.setCell ⟨g, k, none⟩ u) (some g) :=
 ⟨rfl, rfl, rfl, by simp [World.setCell], fun i _ hne => Below.heap_setCell w ⟨g, k, none⟩ u i (fun e => hne (by rw [e]))⟩
theorem grownBy_trans {a b d : World} {row : Option Nat} (h : a.grownBy b row) (k : b.grownBy d row) : a.grownBy d row :=
 ⟨k.os.trans h.os, k.tape.trans h.tape, k.output.trans h.output, Nat.le_trans h.size k.size, fun i hi hne => (k.block i (Nat.lt_of_lt_of_le hi h.size) hne).trans (h.block i hi hne)⟩
theorem RdI.grown {row : Option Nat} (h : RdI w A n c l) (hg : w.grownBy w' row) (hne : ∀ a, A = some a → some a.block ≠ row) : RdI w' A n c l :=
 ⟨h.len, h.cap, h.max, fun hn => by
  obtain ⟨ad, e, hl, hc⟩ := h.at0 hn
  exact ⟨ad, e, Nat.lt_of_lt_of_le hl hg.size, fun j u hu => hg.cell (hc j u hu) (by rw [block_of_add]; exact hne ad e)⟩⟩
end
/-- n numbers from k on. -/
def marks (k : Int) (n : Nat) : List Int := (List.range n).map fun i => k + (i : Nat)
theorem marks_get (k : Int) (n i : Nat) (h : i < n) : (marks k n)[i]? = some (k + i) := by simp [marks, h]
theorem marks_length (k : Int) (n : Nat) : (marks k n).length = n := by simp [marks]
/-- The first i cells are marked. -/
def marked (k : Int) (l : List Int) (i : Nat) : List Int := marks k i ++ l.drop i
theorem marked_zero (k : Int) (l : List Int) : marked k l 0 = l := by simp [marked, marks]
theorem marked_all (k : Int) (l : List Int) (n : Nat) (h : l.length = n) : marked k l n = marks k n := by subst h; simp [marked]
theorem marked_step (k : Int) (l : List Int) (i : Nat) (h : i < l.length) : (marked k l i).set i (k + i) = marked k l (i + 1) := by
 unfold marked
 rw [List.set_append_right _ _ (by simp [marks_length]), marks_length, Nat.sub_self, List.drop_eq_getElem_cons h, List.set_cons_zero]
 simp [marks, List.range_succ]
theorem marked_length (k : Int) (l : List Int) (i : Nat) (h : i ≤ l.length) : (marked k l i).length = l.length := by simp [marked, marks_length]; omega
set_option maxHeartbeats 1000000 in
theorem laws_markIntS (A : Option Addr) (n c base : Nat) (l : List Int) (k : Int) (w : World) (h : OwnI base w A n c l) (hk : 0 ≤ k) (hk2 : k + n ≤ 4000000000000000000) :
  Calls Tryd.prog 20 #[.slice A n c, .int .i64 k] w fun e w' => e = .returned (.int .i64 (k + n)) ∧ OwnI base w' A n c (marks k n) ∧ w.grownBy w' (A.map (·.block)) := by
 obtain ⟨hle1, hle2⟩ := h.rd.le
 have hl := Lib.hid h.length
 go_enter Tryd.func20, Tryd.ntmps20
 go_wp2
 go_loopw [1, 5] (fun q i wr => ∃ j : Nat, j ≤ n ∧ i = .int .i64 j ∧ q = .int .i64 (k + j) ∧ OwnI base wr A n c (marked k l j) ∧ w.grownBy wr (A.map (·.block))) (fun _ i _ => n - (intOf i).toNat)
 case atStart => exact ⟨0, by omega, rfl, by simp, by rw [marked_zero]; exact h, World.grownBy.refl w _⟩
 case round =>
  obtain ⟨j, hj, rfl, rfl, hown, hg⟩ := hrel
  by_cases hlt : j < n
  ·obtain ⟨g, rfl, hbg, hgl, hcell, hfr⟩ := hown.form (by omega)
   have hc := hcell j _ (List.getElem?_eq_getElem (by rw [marked_length _ _ _ (by rw [hl.out]; omega), hl.out]; omega))
   have hf := hfr j
   clear hcell hfr
   go_wp2
   go_roundw
   case rel => exact ⟨j + 1, by omega, by go_num, by go_num, by rw [← marked_step _ _ _ (by rw [hl.out]; omega)]; exact hown.set_ j _ hlt, grownBy_trans hg (grownBy_setCell _ _ _ _)⟩
   case measure => simp [intOf]; omega
  ·have he : j = n := by omega
   subst he
   have hm := Lib.hid (marked_all k l j hl.out)
   go_wp2
   go_ret
   exact ⟨rfl, by rw [← hm.out]; exact hown, hg⟩
set_option maxHeartbeats 1000000 in
theorem laws_heldIntS (A : Option Addr) (n c : Nat) (k : Int) (w : World) (h : RdI w A n c (marks k n)) (hk : 0 ≤ k) (hk2 : k + n ≤ 4000000000000000000) :
  Calls Tryd.prog 21 #[.slice A n c, .int .i64 k] w fun e w' => e = .returned (.int .i64 (k + n)) ∧ w = w' := by
 obtain ⟨hle1, hle2⟩ := h.le
 go_enter Tryd.func21, Tryd.ntmps21
 go_wp2
 go_loop [1, 5] (fun q i => ∃ j : Nat, j ≤ n ∧ i = .int .i64 j ∧ q = .int .i64 (k + j)) (fun _ i => n - (intOf i).toNat)
 case atStart => exact ⟨0, by omega, rfl, by simp⟩
 case round =>
  obtain ⟨j, hj, rfl, rfl⟩ := hrel
  by_cases hlt : j < n
  ·obtain ⟨ad, x, rfl, hadb, hx, hcell⟩ := h.at_ hlt
   rw [marks_get _ _ _ hlt] at hx
   obtain rfl : k + j = x := by injection hx
   clear hx
   go_wp2
   go_round
   case rel => exact ⟨j + 1, by omega, by go_num, by go_num⟩
   case measure => simp [intOf]; omega
  ·have he : j = n := by omega
   subst he
   go_wp2
   go_ret
   exact ⟨rfl, rfl⟩
end Go.Proofs.YtcjpalhclgkjiaaDoor
/- Rows of structs: a slice whose elements have several cells, read, made, and written element by element.
   Conditions: none. -/
namespace Go.Proofs.YtcjpalhclgkjiaaDoor
open Go.RowKit
set_option linter.unusedVariables false
/-- A slice with n elements of type e (size cells each) in a block of its own, from block 'base' on, with the cells xs. -/
def OwnV (e size base : Nat) (w : World) (A : Option Addr) (n c : Nat) (xs : List Value) : Prop := w.ownsRow base e size (.slice A n c) n xs
section
variable {w w' : World} {e size base n c : Nat} {A : Option Addr} {xs : List Value}
theorem OwnV.rd (h : OwnV e size base w A n c xs) : Rd w size A n c xs := Rd.of_own h
theorem OwnV.nil (e size base : Nat) (w : World) : OwnV e size base w none 0 0 [] := World.ownsRow_nil w base _ size
theorem OwnV.alloc (h : OwnV e size base w A n c xs) (o : Obj) : OwnV e size base (w.alloc o) A n c xs := World.ownsRow.alloc h o
theorem OwnV.keep (h : OwnV e size base w A n c xs) (hb : Bl w w') : OwnV e size base w' A n c xs :=
 World.ownsRow.kept (row := none) h ⟨hb.os, hb.tape, hb.output, hb.size, fun k hk _ => hb.block k hk⟩ (by cases hv : Value.ownBlock (.slice A n c) <;> simp)
theorem OwnV.grown {row : Option Nat} (h : OwnV e size base w A n c xs) (hg : w.grownBy w' row) (hne : A.map (·.block) = none ∨ A.map (·.block) ≠ row) : OwnV e size base w' A n c xs :=
 World.ownsRow.kept h hg (by rw [ownBlock_slice]; exact hne)
theorem OwnV.mono {base' : Nat} (h : OwnV e size base w A n c xs) (hb : base' ≤ base) : OwnV e size base' w A n c xs := by
 refine ⟨h.1, ?_⟩
 rcases h.2 with h | ⟨g, cap, cur, h1, h2, h3⟩
 ·exact .inl h
 ·exact .inr ⟨g, cap, cur, h1, by omega, h3⟩
theorem OwnV.blk (h : OwnV e size base w A n c xs) : ∀ k, A.map (·.block) = some k → base ≤ k ∧ k < w.heap.size := by
 intro k hk
 exact World.ownsRow.lt h k (by rw [ownBlock_slice]; exact hk)
theorem OwnV.form (h : OwnV e size base w A n c xs) (hn : 0 < n) : ∃ g, A = some ⟨g, 0, none⟩ ∧ base ≤ g ∧ g < w.heap.size ∧ (∀ k u, xs[k]? = some u → w.cell? ⟨g, k, none⟩ = some u) ∧ ∀ k, w.frozen? ⟨g, k, none⟩ = false := by
 rcases h.2 with ⟨_, h0⟩ | ⟨g, cap, cur, hv, hg, hh, hc, hm, hs, ht⟩
 ·omega
 ·injection hv with h1 h2 h3
  refine ⟨g, h1, hg, (Array.getElem?_eq_some_iff.1 hh).1, fun k u hx => ?_, fun k => by simp [World.frozen?, hh]⟩
  have hcell := World.ownsRow.cells (g := g) h (by rw [h1]; rfl) k u hx
  have hadd : (⟨g, 0, none⟩ : Addr).add k = ⟨g, k, none⟩ := by unfold Addr.add; split <;> simp_all
  rwa [hadd] at hcell
theorem OwnV.set_ {g : Nat} (h : OwnV e size base w (some ⟨g, 0, none⟩) n c xs) (k : Nat) (u : Value) (hk : k < n * size) : OwnV e size base (w.setCell ⟨g, k, none⟩ u) (some ⟨g, 0, none⟩) n c (xs.set k u) := by
 rcases h.2 with ⟨hv, _⟩ | ⟨g', cap, cur, hv, hg, hh, hc, hm, hs, ht⟩
 ·cases hv
 ·injection hv with h1 h2 h3
  injection h1 with h1
  have hgg : g = g' := by injection h1
  subst hgg
  subst h3
  refine ⟨by simpa using h.1, .inr ⟨g, c, cur.setIfInBounds k u, rfl, hg, ?_, hc, hm, by simpa using hs, ?_⟩⟩
  ·simp [World.setCell, Array.getElem?_modify, hh]
  ·rw [Array.toList_setIfInBounds, List.take_set, ht]
end
/-- Consecutive cells are set. -/
def putAt (xs : List Value) (i : Nat) : List Value → List Value
 | [] => xs
 | u :: us => putAt (xs.set i u) (i + 1) us
/-- The cells of a list of structs. -/
def encs {α : Type} (enc : α → List Value) (l : List α) : List Value := l.flatMap enc
section
variable {α : Type} {enc : α → List Value} {size : Nat}
theorem encs_cons (enc : α → List Value) (x : α) (l : List α) : encs enc (x :: l) = enc x ++ encs enc l := by simp [encs]
theorem encs_append (enc : α → List Value) (l l' : List α) : encs enc (l ++ l') = encs enc l ++ encs enc l' := by simp [encs]
theorem encs_length (h : ∀ x, (enc x).length = size) (l : List α) : (encs enc l).length = l.length * size := by
 induction l with
 | nil => simp [encs]
 | cons x l ih => rw [encs_cons, List.length_append, ih, h, List.length_cons, Nat.add_mul]; omega
theorem encs_get (h : ∀ x, (enc x).length = size) : ∀ (l : List α) (k j : Nat) (x : α), l[k]? = some x → j < size → (encs enc l)[k * size + j]? = (enc x)[j]?
 | [], k, j, x, hk, _ => by simp at hk
 | y :: l, 0, j, x, hk, hj => by
  simp at hk; subst hk
  rw [encs_cons, Nat.zero_mul, Nat.zero_add, List.getElem?_append_left (by rw [h]; exact hj)]
 | y :: l, k + 1, j, x, hk, hj => by
  rw [encs_cons, List.getElem?_append_right (by rw [h, Nat.add_mul]; omega), h]
  rw [show (k + 1) * size + j - size = k * size + j by rw [Nat.add_mul]; omega]
  exact encs_get h l k j x (by simpa using hk) hj
theorem putAt_append_left (us : List Value) : ∀ (a b : List Value) (i : Nat), putAt (a ++ b) (a.length + i) us = a ++ putAt b i us := by
 induction us with
 | nil => intro a b i; rfl
 | cons u us ih =>
  intro a b i
  show putAt ((a ++ b).set (a.length + i) u) (a.length + i + 1) us = a ++ putAt (b.set i u) (i + 1) us
  rw [List.set_append_right _ _ (by omega), show a.length + i - a.length = i by omega, Nat.add_assoc]
  exact ih a (b.set i u) (i + 1)
theorem putAt_zero : ∀ (us a b : List Value), us.length = a.length → putAt (a ++ b) 0 us = us ++ b
 | [], a, b, h => by
  have : a = [] := List.eq_nil_of_length_eq_zero (by simpa using h.symm)
  subst this; rfl
 | u :: us, [], b, h => by simp at h
 | u :: us, y :: a, b, h => by
  show putAt (((y :: a) ++ b).set 0 u) 1 us = _
  have h1 := putAt_append_left us [u] (a ++ b) 0
  simp only [List.length_singleton, Nat.add_zero, List.singleton_append] at h1
  rw [List.cons_append, List.set_cons_zero, h1, putAt_zero us a b (by simpa using h)]
  rfl
theorem putAt_encs (h : ∀ x, (enc x).length = size) : ∀ (l : List α) (k : Nat) (x : α), k < l.length → putAt (encs enc l) (k * size) (enc x) = encs enc (l.set k x)
 | [], k, x, hk => by simp at hk
 | y :: l, 0, x, _ => by
  rw [encs_cons, List.set_cons_zero, encs_cons, Nat.zero_mul]
  exact putAt_zero _ _ _ (by rw [h, h])
 | y :: l, k + 1, x, hk => by
  rw [encs_cons, List.set_cons_succ, encs_cons, show (k + 1) * size = (enc y).length + k * size by rw [h, Nat.add_mul]; omega, putAt_append_left]
  rw [putAt_encs h l k x (by simpa using hk)]
/-- A slice of structs reads as the list l: its k-th element. -/
theorem Rd.elem {w : World} {A : Option Addr} {n c : Nat} {l : List α} (hs : ∀ x, (enc x).length = size) (h : Rd w size A n c (encs enc l)) (hl : l.length = n) {k : Nat} (hk : k < n) :
  ∃ ad x, A = some ad ∧ ad.block < w.heap.size ∧ l[k]? = some x ∧ ∀ j u, j < size → (enc x)[j]? = some u → w.cell? ((ad.add (k * size)).add j) = some u := by
 obtain ⟨ad, e, hb, hc⟩ := h.at0 (by omega)
 have hkl : k < l.length := by omega
 refine ⟨ad, l[k], e, hb, List.getElem?_eq_getElem hkl, fun j u hj hu => ?_⟩
 rw [add_of_add]
 exact hc _ u (by rw [encs_get hs l k j _ (List.getElem?_eq_getElem hkl) hj]; exact hu)
end
/-- The first j elements, the others still zero. -/
def filled {α : Type} (z : α) (l : List α) (j : Nat) : List α := l.take j ++ List.replicate (l.length - j) z
theorem filled_zero {α : Type} (z : α) (l : List α) : filled z l 0 = List.replicate l.length z := by simp [filled]
theorem filled_all {α : Type} (z : α) (l : List α) (n : Nat) (h : l.length = n) : filled z l n = l := by subst h; simp [filled]
theorem filled_length {α : Type} (z : α) (l : List α) (j : Nat) (h : j ≤ l.length) : (filled z l j).length = l.length := by simp [filled]; omega
theorem filled_step {α : Type} (z : α) (l : List α) (j : Nat) (x : α) (hx : l[j]? = some x) : (filled z l j).set j x = filled z l (j + 1) := by
 obtain ⟨hj, hv⟩ := List.getElem?_eq_some_iff.1 hx
 unfold filled
 rw [List.set_append_right _ _ (by simp; omega), show j - (l.take j).length = 0 by simp; omega, show l.length - j = (l.length - (j + 1)) + 1 by omega, List.replicate_succ, List.set_cons_zero,
  List.take_add_one, hx]
 simp
end Go.Proofs.YtcjpalhclgkjiaaDoor
/- Contracts of comparing, marking and asking again a slice of numbers.
   Conditions: the slices read as lists; what is marked lies in a block of its own. -/
namespace Go.Proofs.YtcjpalhclgkjiaaDoor
open Go.RowKit
set_option linter.unusedVariables false
theorem Bl.of_drewN (w : World) (n : Nat) : Bl w (w.drewN n) := (Bl.refl w).drewN n
theorem drewN_two (w : World) (a b : Nat) : (w.drewN a).drewN b = w.drewN (a + b) := by first | exact World.drewN_drewN w a b | exact World.drewN_drewN ..
theorem take_eq_step {l l' : List Int} {k : Nat} {x : Int} (h : l.take k = l'.take k) (hx : l[k]? = some x) (hy : l'[k]? = some x) : l.take (k + 1) = l'.take (k + 1) := by
 rw [List.take_add_one, List.take_add_one, h, hx, hy]
theorem ne_of_get {l l' : List Int} {k : Nat} {x y : Int} (hx : l[k]? = some x) (hy : l'[k]? = some y) (h : x ≠ y) : l ≠ l' := by
 rintro rfl; rw [hx] at hy; injection hy; contradiction
theorem eq_of_takes {l l' : List Int} {k : Nat} (h : l.take k = l'.take k) (h1 : l.length ≤ k) (h2 : l'.length ≤ k) : l = l' := by
 rwa [List.take_of_length_le h1, List.take_of_length_le h2] at h
set_option maxHeartbeats 1000000 in
theorem laws_eqIntS_q (A B : Option Addr) (n c m d : Nat) (l l' : List Int) (w : World) (h : RdI w A n c l) (h' : RdI w B m d l') :
  Calls Tryd.prog 17 #[.slice A n c, .slice B m d] w fun e w' => e = .returned (.bool (decide (l = l'))) ∧ ∃ N, w.drewN N = w' := by
 obtain ⟨hle1, hle2⟩ := h.le
 obtain ⟨hle3, hle4⟩ := h'.le
 have hl := Lib.hid h.length
 have hl' := Lib.hid h'.length
 by_cases hnm : n = m
 ·subst hnm
  have hd0 : (!decide (n = n)) = false := by simp
  go_enter Tryd.func17, Tryd.ntmps17
  go_wp2
  go_loopw [5] (fun i wr => ∃ k N : Nat, k ≤ n ∧ wr = w.drewN N ∧ i = .int .i64 k ∧ l.take k = l'.take k) (fun i _ => n - (intOf i).toNat)
  case atStart => exact ⟨0, 0, by omega, rfl, rfl, by simp⟩
  case round =>
   obtain ⟨k, N, hk, rfl, rfl, htk⟩ := hrel
   have HT := Lib.hid htk
   clear htk
   by_cases hlt : k < n
   ·obtain ⟨ad, x, rfl, hadb, hx, hcell⟩ := h.at_ hlt
    obtain ⟨ad', y, rfl, hadb', hy, hcell'⟩ := h'.at_ hlt
    have HX := Lib.hid hx
    have HY := Lib.hid hy
    clear hx hy
    rcases hxy : (x == y)
    ·have hxy' : ¬ x = y := by simpa using hxy
     have hfin := Lib.hid (show decide (l = l') = false by rw [decide_eq_false_iff_not]; exact ne_of_get HX.out HY.out hxy')
     clear hxy'
     have hxd : (x != y) = true := by simpa using hxy
     have i1 : (k : Int) < n := by omega
     go_wp2
     go_quiet (fail)
     go_wp2
     go_ret
     exact ⟨ret_bool hfin.out.symm, _, (drewN_two _ _ _).symm⟩
    ·have hxy' : x = y := by simpa using hxy
     subst hxy'
     have i1 : (k : Int) < n := by omega
     have hst := Lib.hid (take_eq_step HT.out HX.out HY.out)
     go_wp2
     go_quiet (fail)
     go_wp2
     go_roundw
     case rel => exact ⟨k + 1, _, by omega, rfl, by go_num, hst.out⟩
     case measure => simp [intOf]; omega
   ·have hfin := Lib.hid (show decide (l = l') = true by
     rw [decide_eq_true_iff]; exact eq_of_takes HT.out (by rw [hl.out]; omega) (by rw [hl'.out]; omega))
    go_wp2
    go_ret
    exact ⟨ret_bool hfin.out.symm, _, rfl⟩
 ·have hfin := Lib.hid (show decide (l = l') = false by
   rw [decide_eq_false_iff_not]; intro he; exact hnm (by rw [← hl.out, ← hl'.out, he]))
  go_enter Tryd.func17, Tryd.ntmps17
  go_wp2
  go_ret
  exact ⟨ret_bool hfin.out.symm, 0, rfl⟩
theorem laws_eqIntS (A B : Option Addr) (n c m d : Nat) (l l' : List Int) (w : World) (h : RdI w A n c l) (h' : RdI w B m d l') :
  Calls Tryd.prog 17 #[.slice A n c, .slice B m d] w fun e w' => e = .returned (.bool (decide (l = l'))) ∧ Bl w w' :=
 (laws_eqIntS_q A B n c m d l l' w h h').mono fun _ _ ⟨he, N, hw⟩ => ⟨he, hw ▸ Bl.of_drewN w N⟩
end Go.Proofs.YtcjpalhclgkjiaaDoor
/- A drawn region whose last operation writes what the region reads: until number s has come up a condition C on the world holds, and what reads under C may be taken first.
   Conditions: every operation that is taken first is waited for by number s. -/
namespace Go.Proofs.YtcjpalhclgkjiaaDoor
open Go.RowKit
set_option linter.unusedVariables false
section
variable {P : Program} {ops : Array Oper} {Q : Exit → Act → World → Prop} {md : Region.Mode} {C : World → Prop} {s : Nat}
/-- Whatever order comes, and until number s has come up C holds behind every operation. -/
def AnyG (P : Program) (md : Region.Mode) (ops : Array Oper) (Q : Exit → Act → World → Prop) (C : World → Prop) (s : Nat) : Nat → Array Bool → Act → World → Prop
 | 0, listed, a, w => Region.ready md ops listed = [] ∧ Q .normal a w
 | fuel + 1, listed, a, w =>
  (Region.ready md ops listed = [] → Q .normal a w) ∧
  ∀ i ∈ Region.ready md ops listed, wpOp P ops Q i (fun a' w' => ((listed.setIfInBounds i true).getD s false = false → C w') ∧ AnyG P md ops Q C s fuel (listed.setIfInBounds i true) a' w') a w
theorem any_of_G : ∀ (fuel : Nat) (listed : Array Bool) (a : Act) (w : World), AnyG P md ops Q C s fuel listed a w → wpAny P md ops Q fuel listed a w
 | 0, _, _, _, h => h
 | fuel + 1, _, _, _, h => ⟨h.1, fun i hi => wpOp_mono (fun a' w' h' => any_of_G fuel _ a' w' h'.2) (h.2 i hi)⟩
/-- What has come up had all that it waits for. -/
def Closed (md : Region.Mode) (ops : Array Oper) (listed : Array Bool) : Prop :=
 ∀ j oj, ops[j]? = some oj → listed.getD j false = true → ∀ e ∈ oj.after, Region.binds md e = true → listed.getD e.on false = true
def closedB (md : Region.Mode) (ops : Array Oper) (listed : Array Bool) : Bool :=
 (List.range ops.size).all fun j => !listed.getD j false || match ops[j]? with
  | some oj => oj.after.all fun e => !Region.binds md e || listed.getD e.on false
  | none => true
theorem closed_of {listed : Array Bool} (h : closedB md ops listed = true) : Closed md ops listed := by
 intro j oj hj hl e he hb
 simp only [closedB, List.all_eq_true, List.mem_range] at h
 have h1 := h j (Array.getElem?_eq_some_iff.1 hj).1
 simp only [hl, hj, Bool.not_true, Bool.false_or, Array.all_eq_true_iff_forall_mem] at h1
 have h2 := h1 e he
 simpa [hb] using h2
theorem Closed.set {listed : Array Bool} {j : Nat} (h : Closed md ops listed) (hj : j ∈ Region.ready md ops listed) : Closed md ops (listed.setIfInBounds j true) := by
 obtain ⟨_, oj, hoj, hall⟩ := mem_ready.1 hj
 intro k ok hk hl e he hb
 by_cases hjk : j = k
 ·subst hjk
  have : ok = oj := Option.some.inj (hk.symm.trans hoj)
  subst this
  exact getD_set_true (hall e he hb)
 ·rw [getD_set_ne false hjk] at hl
  exact getD_set_true (h k ok hk hl e he hb)
/-- Each waits for the next. -/
def chainG (md : Region.Mode) (ops : Array Oper) : Nat → List Nat → Bool
 | _, [] => true
 | x, y :: l => Region.waitsFor md ops x y && chainG md ops y l
theorem chain_listed {listed : Array Bool} (h : Closed md ops listed) : ∀ (l : List Nat) (x : Nat), listed.getD x false = true → chainG md ops x l = true → ∀ y ∈ l, listed.getD y false = true
 | [], _, _, _ => by simp
 | y :: l, x, hx, hc => by
  simp only [chainG, Bool.and_eq_true] at hc
  obtain ⟨ox, hox, e, he, hb, heq⟩ := Region.waitsFor_spec hc.1
  have hy : listed.getD y false = true := heq ▸ h x ox hox hx e he hb
  intro z hz
  rcases List.mem_cons.1 hz with rfl | hz
  ·exact hy
  ·exact chain_listed h l y hy hc.2 z hz
end
end Go.Proofs.YtcjpalhclgkjiaaDoor
/- Contracts of the small number tests and of the digest: each call returns what the plain function says and leaves old memory alone.
   Conditions: the digest's numbers lie within plus and minus 10^15 and are at most 10^6. -/
namespace Go.Proofs.YtcjpalhclgkjiaaDoor
open Go.RowKit
set_option linter.unusedVariables false
theorem impl_within (n lo hi : Int) (w : World) :
  Calls Tryd.prog 49 #[.int .i64 n, .int .i64 lo, .int .i64 hi] w fun e w' => e = .returned (.bool (inR n lo hi)) ∧ w = w' := by
 go_enter Tryd.func49, Tryd.ntmps49
 go_wp2
 all_goals go_ret
 all_goals (refine ⟨ret_bool ?_, rfl⟩; simp only [inR]; first | (rw [Bool.eq_iff_iff]; simp; omega) | (simp; omega))
theorem spec_l1In (n lo hi : Int) (w : World) :
  Calls Tryd.prog 100 #[.int .i64 n, .int .i64 lo, .int .i64 hi] w fun e w' => e = .returned (.bool (inR n lo hi)) ∧ w = w' := by
 go_enter Tryd.func100, Tryd.ntmps100
 go_wp2
 all_goals go_ret
 all_goals (refine ⟨ret_bool ?_, rfl⟩; simp only [inR]; first | (rw [Bool.eq_iff_iff]; simp; omega) | (simp; omega))
theorem impl_isBit (n : Int) (w : World) :
  Calls Tryd.prog 89 #[.int .i64 n] w fun e w' => e = .returned (.bool (inR n 0 1)) ∧ w = w' := by
 go_enter Tryd.func89, Tryd.ntmps89
 go_wp2
 all_goals go_ret
 all_goals (refine ⟨ret_bool ?_, rfl⟩; simp only [inR]; first | (rw [Bool.eq_iff_iff]; simp; omega) | (simp; omega))
theorem spec_btMod (a m : Int) (w : World) (ha : -1000000000000000000 ≤ a) (ha' : a ≤ 1000000000000000000) (hm : 1 ≤ m) (hm' : m ≤ 1000000000000000000) :
  Calls Tryd.prog 87 #[.int .i64 a, .int .i64 m] w fun e w' => e = .returned (.int .i64 (a % m)) ∧ w = w' := by
 have hm0 : (m == 0) = false := by simp; omega
 have h1 := Int.tmod_lt_of_pos a (show 0 < m by omega)
 have h2 : -m < a.tmod m := by
  have := Int.lt_tmod_of_pos a (show 0 < m by omega); omega
 go_enter Tryd.func87, Tryd.ntmps87
 go_wp2
 go_ret
 refine ⟨ret_int ?_, rfl⟩
 exact tmod_fix a m
theorem slices_Clone (A : Option Addr) (n c : Nat) (l : List Int) (w : World) (h : RdI w A n c l) (hn : n ≤ 17592186044415) :
  Calls Tryd.prog 96 #[.slice A n c] w fun e w' => ∃ A' c', e = .returned (.slice A' n c') ∧ OwnI w.heap.size w' A' n c' l ∧ Bl w w' := by
 have hown := own_made w
 have hr := h.keep ((Bl.refl w).alloc (.cells #[] 3))
 rcases A with _ | ad
 ·have h0 : n = 0 := by
   rcases Nat.eq_zero_or_pos n with h0 | h0
   ·exact h0
   ·obtain ⟨ad, h, _⟩ := h.at0 h0
    cases h
  subst h0
  have hl : l = [] := List.eq_nil_of_length_eq_zero h.length
  subst hl
  have hnil := fun (w : World) (n c : Nat) => Lib.run_eql_slice_nil (P := Tryd.prog) w 23 3 none n c 0 0 Tryd.underlying23
  go_enter Tryd.func96, Tryd.ntmps96
  go_wp2
  go_ret
  exact ⟨none, 0, by simp, OwnI.nil _ _, Bl.refl _⟩
 ·have hnil := fun (w : World) (n c : Nat) => Lib.run_eql_slice_nil (P := Tryd.prog) w 23 3 (some ad) n c 0 0 Tryd.underlying23
  go_enter Tryd.func96, Tryd.ntmps96
  go_wp2_with (at_builtin; refine ap_int rfl rfl rfl hown rfl hr (by omega) (by simp) ?_; intro A1 c1 w1 hown1 hg1 hat1)
  go_ret
  refine ⟨A1, c1, by simp, by simpa using hown1, ((Bl.refl w).alloc _).grown hg1 ?_⟩
  simp
theorem spec_l1Own (A : Option Addr) (n c : Nat) (l : List Int) (w : World) (h : RdI w A n c l) (hn : n ≤ 17592186044415) :
  Calls Tryd.prog 77 #[.slice A n c] w fun e w' => ∃ A' c', e = .returned (.slice A' n c') ∧ OwnI w.heap.size w' A' n c' l ∧ Bl w w' := by
 have hown := own_made w
 have hr := h.keep ((Bl.refl w).alloc (.cells #[] 3))
 go_enter Tryd.func77, Tryd.ntmps77
 go_wp2_with (at_builtin; refine ap_int rfl rfl rfl hown rfl hr (by omega) (by simp) ?_; intro A1 c1 w1 hown1 hg1 hat1)
 go_ret
 refine ⟨A1, c1, by simp, by simpa using hown1, ((Bl.refl w).alloc _).grown hg1 ?_⟩
 simp
end Go.Proofs.YtcjpalhclgkjiaaDoor
/- Contracts of primes and elements of a field.
   Conditions: none. -/
namespace Go.Proofs.YtcjpalhclgkjiaaDoor
open Go.RowKit
set_option linter.unusedVariables false
/-- Trial division from d on. -/
def prL (p : Int) : Nat → Int → Bool
 | 0, _ => true
 | f + 1, d => if d * d ≤ p then (if p % d = 0 then false else prL p f (d + 1)) else true
/-- A prime of at most 251. -/
def primeB (p : Int) : Bool := inR p 2 251 && prL p 20 2
theorem primeB_bd {p : Int} (h : primeB p = true) : 2 ≤ p ∧ p ≤ 251 := by
 simp only [primeB, Bool.and_eq_true] at h; exact inR_iff.1 h.1
theorem prL_y {p : Int} {f : Nat} {d : Int} (h : d * d ≤ p) (h0 : (p % d == 0) = true) : prL p (f + 1) d = false := by
 have : p % d = 0 := by simpa using h0
 simp [prL, h, this]
theorem prL_n {p : Int} {f : Nat} {d : Int} (h : d * d ≤ p) (h0 : (p % d == 0) = false) : prL p (f + 1) d = prL p f (d + 1) := by
 have : ¬ p % d = 0 := by simpa using h0
 simp [prL, h, this]
theorem prL_e {p : Int} {f : Nat} {d : Int} (h : ¬ d * d ≤ p) : prL p (f + 1) d = true := by simp [prL, h]
theorem sq_bd (d : Nat) (h : d ≤ 17) : 0 ≤ (d : Int) * d ∧ (d : Int) * d ≤ 289 := by
 have := Int.mul_le_mul (show (d : Int) ≤ 17 by omega) (show (d : Int) ≤ 17 by omega) (by omega) (by omega)
 exact ⟨Int.mul_nonneg (by omega) (by omega), by omega⟩
theorem sq_big (d : Nat) (h : 16 ≤ d) : (256 : Int) ≤ (d : Int) * d := by
 have := Int.mul_le_mul (show (16 : Int) ≤ d by omega) (show (16 : Int) ≤ d by omega) (by omega) (by omega)
 omega
/-- An element of a field. -/
def elemB (p a : Int) : Bool := primeB p && inR a 0 (p - 1)
/-- Every number in a range. -/
def allR (l : List Int) (lo hi : Int) : Bool := l.all fun n => inR n lo hi
theorem allR_step {l : List Int} {k : Nat} {x lo hi : Int} (h : allR (l.take k) lo hi = true) (hx : l[k]? = some x) (hg : inR x lo hi = true) : allR (l.take (k + 1)) lo hi = true := by
 unfold allR at *
 rw [List.take_add_one, hx, List.all_append, h]; simp [hg]
theorem allR_not {l : List Int} {k : Nat} {x lo hi : Int} (hx : l[k]? = some x) (hg : inR x lo hi = false) : allR l lo hi = false := by
 rw [Bool.eq_false_iff]; intro h
 have := List.all_eq_true.1 h x (List.mem_of_getElem? hx)
 rw [hg] at this; cases this
theorem allR_mem {l : List Int} {x lo hi : Int} (h : allR l lo hi = true) (hx : x ∈ l) : lo ≤ x ∧ x ≤ hi := inR_iff.1 (List.all_eq_true.1 h x hx)
set_option maxHeartbeats 1000000 in
theorem spec_fpGood (p : Int) (w : World) :
  Calls Tryd.prog 75 #[.int .i64 p] w fun e w' => e = .returned (.bool (primeB p)) ∧ w = w' := by
 rcases h1 : inR p 2 251
 ·go_enter Tryd.func75, Tryd.ntmps75
  go_wp2_with (first | (go_at_call 100; refine (spec_l1In _ _ _ _).mono ?_; rintro e w' ⟨rfl, rfl⟩))
  go_ret
  exact ⟨ret_bool (by simp [primeB, h1]), rfl⟩
 ·have i1 := inR_iff.1 h1
  have hP := Lib.hid (show primeB p = prL p 20 2 by simp [primeB, h1])
  go_enter Tryd.func75, Tryd.ntmps75
  go_wp2_with (first | (go_at_call 100; refine (spec_l1In _ _ _ _).mono ?_; rintro e w' ⟨rfl, rfl⟩))
  go_loop [3] (fun d => ∃ k : Nat, 2 ≤ k ∧ k ≤ 16 ∧ d = .int .i64 k ∧ Hid (primeB p = prL p (22 - k) k)) (fun d => 16 - (intOf d).toNat)
  case atStart => exact ⟨2, by omega, by omega, rfl, hP⟩
  case round =>
   obtain ⟨k, hk2, hk, rfl, hq⟩ := hrel
   have hs := sq_bd k (by omega)
   have hk0 : ((k : Int) == 0) = false := by simp; omega
   by_cases hlt : (k : Int) * k ≤ p
   ·have hk15 : k ≤ 15 := by
     rcases Nat.lt_or_ge k 16 with h | h
     ·omega
     ·have := sq_big k h; omega
    rcases h0 : (p % k == 0)
    ·have hst : Hid (primeB p = prL p (22 - (k + 1)) ((k : Int) + 1)) := by
      have e := hq.out
      rw [show 22 - k = (22 - (k + 1)) + 1 by omega, prL_n hlt h0] at e
      exact e
     go_wp2
     go_round
     case rel => exact ⟨k + 1, by omega, by omega, by go_num, hst⟩
     case measure => simp [intOf]; omega
    ·have hst := Lib.hid (show primeB p = false by
      have e := hq.out
      rw [show 22 - k = (22 - (k + 1)) + 1 by omega, prL_y hlt h0] at e
      exact e)
     go_wp2
     go_ret
     exact ⟨ret_bool hst.out.symm, rfl⟩
   ·have hst := Lib.hid (show primeB p = true by
     have e := hq.out
     rw [show 22 - k = (22 - (k + 1)) + 1 by omega, prL_e hlt] at e
     exact e)
    go_wp2
    go_ret
    exact ⟨ret_bool hst.out.symm, rfl⟩
set_option maxHeartbeats 1000000 in
theorem impl_IsPrime (p : Int) (w : World) :
  Calls Tryd.prog 110 #[.int .i64 p] w fun e w' => e = .returned (.bool (primeB p)) ∧ w = w' := by
 rcases h1 : inR p 2 251
 ·go_enter Tryd.func110, Tryd.ntmps110
  go_wp2_with (first | (go_at_call 49; refine (impl_within _ _ _ _).mono ?_; rintro e w' ⟨rfl, rfl⟩))
  go_ret
  exact ⟨ret_bool (by simp [primeB, h1]), rfl⟩
 ·have i1 := inR_iff.1 h1
  have hP := Lib.hid (show primeB p = prL p 20 2 by simp [primeB, h1])
  go_enter Tryd.func110, Tryd.ntmps110
  go_wp2_with (first | (go_at_call 49; refine (impl_within _ _ _ _).mono ?_; rintro e w' ⟨rfl, rfl⟩))
  go_loop [3] (fun d => ∃ k : Nat, 2 ≤ k ∧ k ≤ 16 ∧ d = .int .i64 k ∧ Hid (primeB p = prL p (22 - k) k)) (fun d => 16 - (intOf d).toNat)
  case atStart => exact ⟨2, by omega, by omega, rfl, hP⟩
  case round =>
   obtain ⟨k, hk2, hk, rfl, hq⟩ := hrel
   have hs := sq_bd k (by omega)
   have hk0 : ((k : Int) == 0) = false := by simp; omega
   by_cases hlt : (k : Int) * k ≤ p
   ·have hk15 : k ≤ 15 := by
     rcases Nat.lt_or_ge k 16 with h | h
     ·omega
     ·have := sq_big k h; omega
    rcases h0 : (p % k == 0)
    ·have hst : Hid (primeB p = prL p (22 - (k + 1)) ((k : Int) + 1)) := by
      have e := hq.out
      rw [show 22 - k = (22 - (k + 1)) + 1 by omega, prL_n hlt h0] at e
      exact e
     go_wp2
     go_round
     case rel => exact ⟨k + 1, by omega, by omega, by go_num, hst⟩
     case measure => simp [intOf]; omega
    ·have hst := Lib.hid (show primeB p = false by
      have e := hq.out
      rw [show 22 - k = (22 - (k + 1)) + 1 by omega, prL_y hlt h0] at e
      exact e)
     go_wp2
     go_ret
     exact ⟨ret_bool hst.out.symm, rfl⟩
   ·have hst := Lib.hid (show primeB p = true by
     have e := hq.out
     rw [show 22 - k = (22 - (k + 1)) + 1 by omega, prL_e hlt] at e
     exact e)
    go_wp2
    go_ret
    exact ⟨ret_bool hst.out.symm, rfl⟩
theorem impl_isElement (p a : Int) (w : World) :
  Calls Tryd.prog 114 #[.int .i64 p, .int .i64 a] w fun e w' => e = .returned (.bool (elemB p a)) ∧ w = w' := by
 rcases h : primeB p
 ·go_enter Tryd.func114, Tryd.ntmps114
  go_wp2_with (first | (go_at_call 110; refine (impl_IsPrime _ _).mono ?_; rintro e w' ⟨rfl, rfl⟩) | (go_at_call 49; refine (impl_within _ _ _ _).mono ?_; rintro e w' ⟨rfl, rfl⟩))
  go_ret
  exact ⟨ret_bool (by simp [elemB, h]), rfl⟩
 ·have hb := primeB_bd h
  go_enter Tryd.func114, Tryd.ntmps114
  go_wp2_with (first | (go_at_call 110; refine (impl_IsPrime _ _).mono ?_; rintro e w' ⟨rfl, rfl⟩) | (go_at_call 49; refine (impl_within _ _ _ _).mono ?_; rintro e w' ⟨rfl, rfl⟩))
  go_ret
  exact ⟨ret_bool (by simp [elemB, h]), rfl⟩
set_option maxHeartbeats 1000000 in
theorem spec_l1All (A : Option Addr) (n c : Nat) (l : List Int) (lo hi : Int) (w : World) (h : RdI w A n c l) :
  Calls Tryd.prog 80 #[.slice A n c, .int .i64 lo, .int .i64 hi] w fun e w' => e = .returned (.bool (allR l lo hi)) ∧ w = w' := by
 obtain ⟨hle1, hle2⟩ := h.le
 have hl := Lib.hid h.length
 go_enter Tryd.func80, Tryd.ntmps80
 go_wp2
 go_loop [11] (fun i => ∃ k : Nat, k ≤ n ∧ i = .int .i64 k ∧ Hid (allR (l.take k) lo hi = true)) (fun i => n - (intOf i).toNat)
 case atStart => exact ⟨0, by omega, rfl, Lib.hid (by simp [allR])⟩
 case round =>
  obtain ⟨k, hk, rfl, hq⟩ := hrel
  by_cases hlt : k < n
  ·obtain ⟨ad, x, rfl, hadb, hx, hcell⟩ := h.at_ hlt
   have HX := Lib.hid hx
   clear hx
   rcases hg : inR x lo hi
   ·have hst := Lib.hid (allR_not HX.out hg)
    go_wp2_with (first | (go_at_call 100; refine (spec_l1In _ _ _ _).mono ?_; rintro e w' ⟨rfl, rfl⟩))
    go_ret
    exact ⟨ret_bool hst.out.symm, rfl⟩
   ·have hst := Lib.hid (allR_step hq.out HX.out hg)
    go_wp2_with (first | (go_at_call 100; refine (spec_l1In _ _ _ _).mono ?_; rintro e w' ⟨rfl, rfl⟩))
    go_round
    case rel => exact ⟨k + 1, by omega, by go_num, hst⟩
    case measure => simp [intOf]; omega
  ·have he : k = n := by omega
   have hst := Lib.hid (show allR l lo hi = true by
    have e := hq.out
    rwa [List.take_of_length_le (by rw [hl.out]; omega)] at e)
   go_wp2
   go_ret
   exact ⟨ret_bool hst.out.symm, rfl⟩
theorem spec_fpIn (A : Option Addr) (n c : Nat) (l : List Int) (p : Int) (w : World) (h : RdI w A n c l) :
  Calls Tryd.prog 99 #[.int .i64 p, .slice A n c] w fun e w' => e = .returned (.bool (primeB p && allR l 0 (p - 1))) ∧ w = w' := by
 rcases hp : primeB p
 ·go_enter Tryd.func99, Tryd.ntmps99
  go_wp2_with (first | (go_at_call 75; refine (spec_fpGood _ _).mono ?_; rintro e w' ⟨rfl, rfl⟩))
  go_ret
  exact ⟨ret_bool (by simp), rfl⟩
 ·have hb := primeB_bd hp
  go_enter Tryd.func99, Tryd.ntmps99
  go_wp2_with (first | (go_at_call 75; refine (spec_fpGood _ _).mono ?_; rintro e w' ⟨rfl, rfl⟩) | (go_at_call 80; refine (spec_l1All _ _ _ _ _ _ _ h).mono ?_; rintro e w' ⟨rfl, rfl⟩))
  go_ret
  exact ⟨ret_bool (by simp), rfl⟩
end Go.Proofs.YtcjpalhclgkjiaaDoor
/- Slices of slices of numbers: words, append, and the laws' compare, mark and held.
   Conditions: none. -/
namespace Go.Proofs.YtcjpalhclgkjiaaDoor
open Go.RowKit
set_option linter.unusedVariables false
/-- A slice value. -/
structure Hd where
 A : Option Addr
 n : Nat
 c : Nat
def Hd.val (h : Hd) : Value := .slice h.A h.n h.c
def Hd.blk (h : Hd) : Option Nat := h.A.map (·.block)
/-- A slice of slices in blocks of its own, all apart. -/
structure OwnSS (base : Nat) (w : World) (A : Option Addr) (n c : Nat) (hs : List Hd) (LL : List (List Int)) : Prop where
 hd : OwnV 23 1 base w A n c (hs.map Hd.val)
 len : hs.length = LL.length
 row : ∀ (i : Nat) (h : Hd) (l : List Int), hs[i]? = some h → LL[i]? = some l → OwnI base w h.A h.n h.c l
 apA : ∀ (i : Nat) (h : Hd), hs[i]? = some h → ∀ b, h.blk = some b → A.map (·.block) ≠ some b
 apR : ∀ (i j : Nat) (h h' : Hd), i ≠ j → hs[i]? = some h → hs[j]? = some h' → ∀ b, h.blk = some b → h'.blk ≠ some b
section
variable {base n c : Nat} {w w' : World} {A : Option Addr} {hs : List Hd} {LL : List (List Int)}
theorem OwnSS.nil (base : Nat) (w : World) : OwnSS base w none 0 0 [] [] := ⟨OwnV.nil _ _ _ _, rfl, by simp, by simp, by simp⟩
theorem OwnSS.keep (h : OwnSS base w A n c hs LL) (hb : Bl w w') : OwnSS base w' A n c hs LL := ⟨h.hd.keep hb, h.len, fun i x l h1 h2 => (h.row i x l h1 h2).keep hb, h.apA, h.apR⟩
theorem OwnSS.alloc (h : OwnSS base w A n c hs LL) (o : Obj) : OwnSS base (w.alloc o) A n c hs LL := h.keep ((Bl.refl w).alloc o)
theorem OwnSS.mono {base' : Nat} (h : OwnSS base w A n c hs LL) (hb : base' ≤ base) : OwnSS base' w A n c hs LL := ⟨h.hd.mono hb, h.len, fun i x l h1 h2 => (h.row i x l h1 h2).mono hb, h.apA, h.apR⟩
theorem OwnSS.n_eq (h : OwnSS base w A n c hs LL) : hs.length = n := by have := h.hd.rd.len; simpa using this
theorem OwnSS.l_eq (h : OwnSS base w A n c hs LL) : LL.length = n := h.len.symm.trans h.n_eq
theorem OwnSS.le (h : OwnSS base w A n c hs LL) : n ≤ c ∧ c ≤ 9223372036854775807 := ⟨h.hd.rd.cap, by have := h.hd.rd.max; unfold maxLen at this; exact this⟩
theorem OwnSS.get (h : OwnSS base w A n c hs LL) {i : Nat} (hi : i < n) : ∃ x l, hs[i]? = some x ∧ LL[i]? = some l ∧ OwnI base w x.A x.n x.c l :=
 ⟨_, _, List.getElem?_eq_getElem (by rw [h.n_eq]; exact hi), List.getElem?_eq_getElem (by rw [h.l_eq]; exact hi), h.row i _ _ (List.getElem?_eq_getElem (by rw [h.n_eq]; exact hi)) (List.getElem?_eq_getElem (by rw [h.l_eq]; exact hi))⟩
/-- All blocks lie below T. -/
def UnderSS (T : Nat) (A : Option Addr) (hs : List Hd) : Prop := (∀ k, A.map (·.block) = some k → k < T) ∧ ∀ (i : Nat) (h : Hd), hs[i]? = some h → ∀ k, h.blk = some k → k < T
theorem OwnSS.under (h : OwnSS base w A n c hs LL) : UnderSS w.heap.size A hs := by
 refine ⟨fun k hk => (h.hd.blk k hk).2, fun i x hx k hk => ?_⟩
 have hi : i < LL.length := by rw [← h.len]; exact (List.getElem?_eq_some_iff.1 hx).1
 exact ((h.row i x _ hx (List.getElem?_eq_getElem hi)).blk k hk).2
theorem OwnSS.above (h : OwnSS base w A n c hs LL) : (∀ k, A.map (·.block) = some k → base ≤ k) ∧ ∀ (i : Nat) (x : Hd), hs[i]? = some x → ∀ k, x.blk = some k → base ≤ k := by
 refine ⟨fun k hk => (h.hd.blk k hk).1, fun i x hx k hk => ?_⟩
 have hi : i < LL.length := by rw [← h.len]; exact (List.getElem?_eq_some_iff.1 hx).1
 exact ((h.row i x _ hx (List.getElem?_eq_getElem hi)).blk k hk).1
theorem OwnI.grownR {row : Option Nat} {l : List Int} (h : OwnI base w A n c l) (hg : w.grownBy w' row) (hne : ∀ k, A.map (·.block) = some k → row ≠ some k) : OwnI base w' A n c l :=
 World.ownsRow.kept (row := row) h hg (by
  rw [ownBlock_slice]
  rcases hA : A.map (·.block) with _ | k
  ·exact .inl hA
  ·exact .inr fun e => hne k hA (e.symm.trans hA))
theorem OwnV.grownR {e size : Nat} {row : Option Nat} {xs : List Value} (h : OwnV e size base w A n c xs) (hg : w.grownBy w' row) (hne : ∀ k, A.map (·.block) = some k → row ≠ some k) : OwnV e size base w' A n c xs := by
 refine h.grown hg ?_
 rcases hA : A.map (·.block) with _ | k
 ·exact .inl hA
 ·exact .inr fun e => hne k hA (e.symm.trans hA)
theorem OwnSS.grownR {row : Option Nat} (h : OwnSS base w A n c hs LL) (hg : w.grownBy w' row) (hA : ∀ k, A.map (·.block) = some k → row ≠ some k) (hR : ∀ (i : Nat) (x : Hd), hs[i]? = some x → ∀ k, x.blk = some k → row ≠ some k) : OwnSS base w' A n c hs LL :=
 ⟨h.hd.grownR hg hA, h.len, fun i x l h1 h2 => (h.row i x l h1 h2).grownR hg (hR i x h1), h.apA, h.apR⟩
theorem OwnSS.grownLow {row : Option Nat} (h : OwnSS base w A n c hs LL) (hg : w.grownBy w' row) (hr : ∀ k, row = some k → k < base) : OwnSS base w' A n c hs LL :=
 h.grownR hg (fun k hk e => by have := h.above.1 k hk; have := hr k e; omega) (fun i x hx k hk e => by have := h.above.2 i x hx k hk; have := hr k e; omega)
theorem OwnSS.cell (h : OwnSS base w A n c hs LL) {i : Nat} (hi : i < n) : ∃ g x l, A = some ⟨g, 0, none⟩ ∧ hs[i]? = some x ∧ LL[i]? = some l ∧ base ≤ g ∧ g < w.heap.size ∧ w.cell? ⟨g, i, none⟩ = some (.slice x.A x.n x.c) ∧ (∀ k, w.frozen? ⟨g, k, none⟩ = false) ∧ OwnI base w x.A x.n x.c l := by
 obtain ⟨x, l, hx, hl, ho⟩ := h.get hi
 obtain ⟨g, hg, hb, hlt, hc, hf⟩ := h.hd.form (by omega)
 exact ⟨g, x, l, hg, hx, hl, hb, hlt, hc i _ (by rw [List.getElem?_map, hx]; rfl), hf, ho⟩
/-- A row is written in its place. -/
theorem OwnSS.rowed {g : Nat} (h : OwnSS base w (some ⟨g, 0, none⟩) n c hs LL) {i : Nat} (hi : i < n) {x : Hd} {l' : List Int} (hx : hs[i]? = some x) (ho : OwnI base w' x.A x.n x.c l') (hg : w.grownBy w' x.blk) :
  OwnSS base w' (some ⟨g, 0, none⟩) n c hs (LL.set i l') := by
 refine ⟨h.hd.grownR hg (fun k hk e => h.apA i x hx k e hk), by simp [h.len], fun j y l hy hl => ?_, h.apA, h.apR⟩
 by_cases hji : j = i
 ·subst hji
  rw [List.getElem?_set_self (by rw [h.l_eq]; exact hi)] at hl
  injection hl with hl
  rw [hx] at hy
  injection hy with hy
  subst hy; subst hl
  exact ho
 ·rw [List.getElem?_set_ne (Ne.symm hji)] at hl
  exact (h.row j y l hy hl).grownR hg (fun k hk e => h.apR j i y x hji hy hx k hk e)
theorem getElem?_snoc {α : Type} {l : List α} {x y : α} {i : Nat} (h : (l ++ [x])[i]? = some y) : l[i]? = some y ∧ i < l.length ∨ i = l.length ∧ y = x := by
 rcases Nat.lt_trichotomy i l.length with h1 | h1 | h1
 ·rw [List.getElem?_append_left h1] at h; exact .inl ⟨h, h1⟩
 ·subst h1; rw [List.getElem?_concat_length] at h; injection h with h; exact .inr ⟨rfl, h.symm⟩
 ·rw [List.getElem?_eq_none (by simp; omega)] at h; cases h
/-- A row at the end. -/
theorem OwnSS.snoc {A' : Option Addr} {c' : Nat} {x : Hd} {l : List Int} (h : OwnSS base w A n c hs LL) (hx : OwnI base w x.A x.n x.c l) (hxA : ∀ k, x.blk = some k → A.map (·.block) ≠ some k) (hxR : ∀ (i : Nat) (y : Hd), hs[i]? = some y → ∀ k, y.blk = some k → x.blk ≠ some k)
  (hv : OwnV 23 1 base w' A' (n + 1) c' (hs.map Hd.val ++ [x.val])) (hg : w.grownBy w' (A.map (·.block))) (hb : A'.map (·.block) = A.map (·.block) ∨ A'.map (·.block) = some w.heap.size) : OwnSS base w' A' (n + 1) c' (hs ++ [x]) (LL ++ [l]) := by
 have hu := h.under
 have hxu : ∀ k, x.blk = some k → k < w.heap.size := fun k hk => (hx.blk k hk).2
 refine ⟨by rw [List.map_append]; exact hv, by simp [h.len], fun i y m hy hm => ?_, fun i y hy k hk e => ?_, fun i j y y' hij hy hy' k hk e => ?_⟩
 ·rcases getElem?_snoc hy with ⟨h1, h2⟩ | ⟨rfl, rfl⟩
  ·rw [List.getElem?_append_left (by rw [← h.len]; exact h2)] at hm
   exact (h.row i y m h1 hm).grownR hg (fun k hk e => h.apA i y h1 k hk e)
  ·rw [h.len, List.getElem?_concat_length] at hm
   injection hm with hm
   subst hm
   exact hx.grownR hg (fun k hk e => hxA k hk e)
 ·rcases getElem?_snoc hy with ⟨h1, h2⟩ | ⟨rfl, rfl⟩
  ·rcases hb with h3 | h3
   ·exact h.apA i y h1 k hk (h3 ▸ e)
   ·rw [h3] at e; injection e with e; have := hu.2 i y h1 k hk; omega
  ·rcases hb with h3 | h3
   ·exact hxA k hk (h3 ▸ e)
   ·rw [h3] at e; injection e with e; have := hxu k hk; omega
 ·rcases getElem?_snoc hy with ⟨h1, h2⟩ | ⟨rfl, rfl⟩
  ·rcases getElem?_snoc hy' with ⟨h3, h4⟩ | ⟨rfl, rfl⟩
   ·exact h.apR i j y y' hij h1 h3 k hk e
   ·exact hxR i y h1 k hk e
  ·rcases getElem?_snoc hy' with ⟨h3, h4⟩ | ⟨rfl, rfl⟩
   ·exact hxR j y' h3 k e hk
   ·exact hij rfl
end
/-- A block lies apart from all of them. -/
def ApSS (q : Option Nat) (A : Option Addr) (hs : List Hd) : Prop := ∀ k, q = some k → A.map (·.block) ≠ some k ∧ ∀ (i : Nat) (x : Hd), hs[i]? = some x → x.blk ≠ some k
theorem ApSS.snoc {q : Option Nat} {A A' : Option Addr} {hs : List Hd} {x : Hd} {N : Nat} (h : ApSS q A hs) (hN : ∀ k, q = some k → k < N) (hb : A'.map (·.block) = A.map (·.block) ∨ A'.map (·.block) = some N) (hx : ∀ k, q = some k → x.blk ≠ some k) : ApSS q A' (hs ++ [x]) := by
 intro k hk
 refine ⟨fun e => ?_, fun i y hy e => ?_⟩
 ·rcases hb with h1 | h1
  ·exact (h k hk).1 (h1 ▸ e)
  ·rw [h1] at e; injection e with e; have := hN k hk; omega
 ·rcases getElem?_snoc hy with ⟨h1, _⟩ | ⟨rfl, rfl⟩
  ·exact (h k hk).2 i y h1 e
  ·exact hx k hk e
theorem ApSS.set {q : Option Nat} {A : Option Addr} {hs : List Hd} {x x' : Hd} {N i : Nat} (h : ApSS q A hs) (hN : ∀ k, q = some k → k < N) (hi : hs[i]? = some x) (hb : x'.blk = x.blk ∨ x'.blk = some N) : ApSS q A (hs.set i x') := by
 intro k hk
 refine ⟨(h k hk).1, fun j y hy e => ?_⟩
 by_cases hj : j = i
 ·subst hj
  rw [List.getElem?_set_self (List.getElem?_eq_some_iff.1 hi).1] at hy
  injection hy with hy
  subst hy
  rcases hb with h1 | h1
  ·exact (h k hk).2 j x hi (h1 ▸ e)
  ·rw [h1] at e; injection e with e; have := hN k hk; omega
 ·rw [List.getElem?_set_ne (Ne.symm hj)] at hy
  exact (h k hk).2 j y hy e
theorem ints_info : (Tryd.prog.info? 23).map (fun i => (i.zero, i.size, i.bytes)) = some (some (.slice none 0 0), 1, 24) := by kernel_rfl
theorem rd_hd1 (w : World) (x : Hd) {g : Nat} (hg : w.heap.size = g := by first | with_reducible rfl | simp) : Rd (w.alloc (.cells #[.slice x.A x.n x.c] 23)) 1 (some ⟨g, 0, none⟩) 1 1 [x.val] := rd_new w #[.slice x.A x.n x.c] 23 (by simp [maxLen]) hg
section
variable {ops : Array Oper} {rest : List Oper} {o : Oper} {a : Act} {Q : Exit → Act → World → Prop} {w : World}
theorem ap_ss (hgd : o.guard = none) {s x : Operand} (ho : o.op = .call { callee := .builtin .append, args := #[s, x], argTypes := #[24, 24] })
  {base n c d : Nat} {A B : Option Addr} {hs : List Hd} {LL : List (List Int)} {y : Hd} {l : List Int} (hs_ : a.eval s = .slice A n c) (hown : OwnSS base w A n c hs LL) (hx : a.eval x = .slice B 1 d) (hr : Rd w 1 B 1 d [y.val])
  (hy : OwnI base w y.A y.n y.c l) (hxA : ∀ k, y.blk = some k → A.map (·.block) ≠ some k) (hxR : ∀ (i : Nat) (z : Hd), hs[i]? = some z → ∀ k, z.blk = some k → y.blk ≠ some k)
  (hb : n + 1 ≤ 3000000) (hbase : base ≤ w.heap.size)
  (h : ∀ A' c' w', OwnSS base w' A' (n + 1) c' (hs ++ [y]) (LL ++ [l]) → w.grownBy w' (A.map (·.block)) → (A'.map (·.block) = A.map (·.block) ∨ A'.map (·.block) = some w.heap.size) → wpList Tryd.prog ops Q rest (a.put o.dst (.slice A' (n + 1) c')) w') : wpList Tryd.prog ops Q (o :: rest) a w := by
 obtain ⟨i0, hi, hz0, hz1, hz2⟩ := info_parts ints_info
 obtain ⟨A', c', w', hrun, h2, h3, h4⟩ := run_append_any (P := Tryd.prog) w base 24 o.type 23 i0 _ 1 24 Tryd.underlying24 hi hz0 hz1 hz2 rfl (by decide)
  (.slice A n c) n (hs.map Hd.val) hown.hd B 1 d [y.val] hr (fun u hu => by rw [List.mem_singleton] at hu; subst hu; rfl) (by simp only [maxLen]; omega) (by omega) hbase
 rw [ownBlock_slice] at h3 h4
 refine wpList_plain hgd fun K hK => ?_
 unfold Oper.wp execOp
 simp only [ho, resolve, invoke, builtin, Sem.run_bind, Sem.run_pure, Result.andThen_ok, List.map_toArray, List.map_cons, List.map_nil, hs_, hx, hrun]
 exact hK _ _ (h A' c' w' (hown.snoc hy hxA hxR h2 h3 h4) h3 h4)
end
set_option maxHeartbeats 4000000 in
theorem laws_eqIntSS {base base' : Nat} (A B : Option Addr) (n c m d : Nat) (hs hs' : List Hd) (LL : List (List Int)) (w : World) (h : OwnSS base w A n c hs LL) (h' : OwnSS base' w B m d hs' LL) :
  Calls Tryd.prog 41 #[.slice A n c, .slice B m d] w fun e w' => e = .returned (.bool true) ∧ Bl w w' := by
 obtain rfl : n = m := h.l_eq.symm.trans h'.l_eq
 obtain ⟨hle1, hle2⟩ := h.le
 obtain ⟨hle3, hle4⟩ := h'.le
 have h0 := Bl.refl w
 go_enter Tryd.func41, Tryd.ntmps41
 go_wp2
 go_loopw [5] (fun i wr => ∃ k, k ≤ n ∧ i = .int .i64 (k : Nat) ∧ Bl w wr) (fun i _ => n - (intOf i).toNat)
 case atStart => exact ⟨0, by omega, rfl, h0⟩
 case round =>
  obtain ⟨k, hk, rfl, hW⟩ := hrel
  clear h0
  by_cases hlt : k < n
  ·obtain ⟨g, x, y, rfl, hx, hy, hbg, hgl, kc, hfr, hro⟩ := (h.keep hW).cell hlt
   obtain ⟨g', x', y', rfl, hx', hy', hbg', hgl', kc2, hfr', hro2⟩ := (h'.keep hW).cell hlt
   obtain rfl : y = y' := by rw [hy] at hy'; injection hy'
   clear hx hy hx' hy' hfr hfr'
   have i1 : (k : Int) < n := by omega
   go_wp2
   refine wp_region_held_drew (S := (fun w' => w'.cell? ⟨g, k, none⟩ = some (.slice x.A x.n x.c) ∧ w'.cell? ⟨g', k, none⟩ = some (.slice x'.A x'.n x'.c))) (by kernel_rfl) ?_ (fun hHeld => ?_)
   ·(try dsimp only); exact ⟨Bl.cells Bl.a1 kc, Bl.cells Bl.a1 kc2⟩
   refine tkO 0 17 ?_
   refine tkO 1 18 ?_
   refine tkO 2 19 ?_
   refine tkO 3 20 ?_
   refine tkO 4 21 ?_
   refine tkO 5 22 ?_
   refine tkO 6 23 ?_
   refine tkO 7 24 ?_
   refine rdy1 8 fun K hK => ?_
   go_simp
   (refine (laws_eqIntS _ _ _ _ _ _ _ _ _ (hro.rd.keep Bl.a1) (hro2.rd.keep Bl.a1)).mono ?_; rintro e w1 ⟨rfl, hb1⟩; rw [show decide (y = y) = true by simp]; replace kc : w1.cell? ⟨g, k, none⟩ = _ := Bl.cells Bl.a1 kc; replace kc2 : w1.cell? ⟨g', k, none⟩ = _ := Bl.cells Bl.a1 kc2; replace hW : Bl w w1 := Bl.a1)
   go_wp2_with fail
   refine ko hK ?_ fun hHeld => ?_
   ·(try dsimp only); exact ⟨Bl.cells Bl.a1 kc, Bl.cells Bl.a1 kc2⟩
   clear hK K
   refine tkO 9 26 ?_
   refine wpAnyH_done (by kernel_rfl) ?_ _
   go_wp2
   go_roundw
   case rel => exact ⟨k + 1, by omega, by go_num, Bl.a1⟩
   case measure => simp [intOf]; omega
  ·have i1 : ¬ (k : Int) < n := by omega
   go_wp2
   go_ret
   exact ⟨rfl, hW⟩
/-- How many numbers there are. -/
def total : List (List Int) → Nat
 | [] => 0
 | l :: LL => l.length + total LL
theorem total_snoc (LL : List (List Int)) (l : List Int) : total (LL ++ [l]) = total LL + l.length := by
 induction LL with
 | nil => simp [total]
 | cons x LL ih => simp only [List.cons_append, total, ih]; omega
theorem total_take {LL : List (List Int)} {i : Nat} {l : List Int} (h : LL[i]? = some l) : total (LL.take (i + 1)) = total (LL.take i) + l.length := by
 rw [List.take_add_one, h]; exact total_snoc _ _
theorem total_le {LL : List (List Int)} : ∀ i, total (LL.take i) ≤ total LL := by
 induction LL with
 | nil => intro i; simp [total]
 | cons x LL ih =>
  intro i
  cases i with
  | zero => simp [total]
  | succ i => simp only [List.take_succ_cons, total]; have := ih i; omega
/-- The rows marked, the first i of them. -/
def markSS (k : Int) (LL : List (List Int)) (i : Nat) : List (List Int) := (List.range LL.length).map fun j => if j < i then marks (k + total (LL.take j)) (LL[j]?.getD []).length else LL[j]?.getD []
theorem markSS_get {k : Int} {LL : List (List Int)} {i j : Nat} (hj : j < LL.length) : (markSS k LL i)[j]? = some (if j < i then marks (k + total (LL.take j)) (LL[j]?.getD []).length else LL[j]?.getD []) := by
 unfold markSS
 rw [List.getElem?_map, List.getElem?_range hj]
 rfl
theorem markSS_zero (k : Int) (LL : List (List Int)) : markSS k LL 0 = LL := by
 apply List.ext_getElem?
 intro j
 rcases Nat.lt_or_ge j LL.length with h | h
 ·rw [markSS_get h, if_neg (by omega), List.getElem?_eq_getElem h]; rfl
 ·rw [List.getElem?_eq_none h, List.getElem?_eq_none (by simpa [markSS] using h)]
theorem markSS_step {k : Int} {LL : List (List Int)} {i : Nat} {l : List Int} (h : LL[i]? = some l) : (markSS k LL i).set i (marks (k + total (LL.take i)) l.length) = markSS k LL (i + 1) := by
 have hi : i < LL.length := (List.getElem?_eq_some_iff.1 h).1
 apply List.ext_getElem?
 intro j
 rcases Nat.lt_or_ge j LL.length with hj | hj
 ·rw [markSS_get hj]
  by_cases hji : j = i
  ·subst hji
   rw [List.getElem?_set_self (by simpa [markSS] using hi), if_pos (by omega), h]
   rfl
  ·rw [List.getElem?_set_ne (Ne.symm hji), markSS_get hj]
   by_cases h1 : j < i
   ·rw [if_pos h1, if_pos (by omega)]
   ·rw [if_neg h1, if_neg (by omega)]
 ·rw [List.getElem?_eq_none (by simpa [markSS] using hj), List.getElem?_eq_none (by simpa [markSS] using hj)]
set_option maxHeartbeats 4000000 in
theorem laws_markIntSS {base : Nat} (A : Option Addr) (n c : Nat) (hs : List Hd) (LL : List (List Int)) (k : Int) (w : World) (h : OwnSS base w A n c hs LL) (hk : 0 ≤ k) (hk2 : k + total LL ≤ 4000000000000000000) :
  Calls Tryd.prog 44 #[.slice A n c, .int .i64 k] w fun e w' => e = .returned (.int .i64 (k + total LL)) ∧ OwnSS base w' A n c hs (markSS k LL n) ∧ ∀ W, Bl W w → W.heap.size ≤ base → Bl W w' := by
 obtain ⟨hle1, hle2⟩ := h.le
 have hll := Lib.hid h.l_eq
 have hT := Lib.hid (fun i => total_le (LL := LL) i)
 go_enter Tryd.func44, Tryd.ntmps44
 go_wp2
 go_loopw [1, 5] (fun q i wr => ∃ j, j ≤ n ∧ i = .int .i64 (j : Nat) ∧ q = .int .i64 (k + total (LL.take j)) ∧ OwnSS base wr A n c hs (markSS k LL j) ∧ Hid (∀ W, Bl W w → W.heap.size ≤ base → Bl W wr)) (fun _ i _ => n - (intOf i).toNat)
 case atStart => exact ⟨0, by omega, rfl, by simp [total], by rw [markSS_zero]; exact h, Lib.hid fun W hW _ => hW⟩
 case round =>
  obtain ⟨j, hj, rfl, rfl, hown, hB⟩ := hrel
  by_cases hlt : j < n
  ·obtain ⟨g, x, y, rfl, hx, hy, hbg, hgl, kc, hfr, hro⟩ := hown.cell hlt
   have HX := Lib.hid hx
   obtain ⟨y0, hly⟩ : ∃ y0, LL[j]? = some y0 := ⟨_, List.getElem?_eq_getElem (show j < LL.length by rw [hll.out]; exact hlt)⟩
   have hy2 := hy
   rw [markSS_get (by rw [hll.out]; exact hlt), if_neg (by omega), hly] at hy2
   injection hy2 with hy2
   subst hy2
   have hst := Lib.hid (markSS_step (k := k) hly)
   have htt := Lib.hid (total_take hly)
   have hnx := Lib.hid hro.length
   have t1 := hT.out j
   have t2 := hT.out (j + 1)
   rw [htt.out] at t2
   have hnn : y0.length = x.n := hro.length
   clear hx hy hly
   change y0.length = x.n at hnx
   go_wp2_with (go_at_call 20; refine (laws_markIntS _ _ _ _ _ _ _ hro (by omega) (by omega)).mono ?_; rintro e w1 ⟨rfl, hm1, hg1⟩)
   go_roundw
   case rel =>
    have hout : OwnSS base w1 (some ⟨g, 0, none⟩) n c hs (markSS k LL (j + 1)) := by
     rw [← hst.out, hnn]
     have hp := hown.rowed hlt HX.out hm1 hg1
     exact hp
    exact ⟨j + 1, by omega, by go_num, by rw [htt.out, hnn]; congr 1; omega, hout, Lib.hid fun W hW hb => Bl.grown (hB.out W hW hb) hg1 (fun q hq => Nat.le_trans hb (hro.blk q hq).1)⟩
   case measure => simp [intOf]; omega
  ·have he : j = n := by omega
   subst he
   have hte := Lib.hid (show total (LL.take j) = total LL by rw [← hll.out, List.take_length])
   go_wp2
   go_ret
   exact ⟨by rw [hte.out]; rfl, hown, hB.out⟩
end Go.Proofs.YtcjpalhclgkjiaaDoor
/- Lists of gates: read, copied, compared, marked; circuits.
   Conditions: none. -/
namespace Go.Proofs.YtcjpalhclgkjiaaDoor
open Go.RowKit
set_option linter.unusedVariables false
theorem made_encs {α : Type} {enc : α → List Value} {size : Nat} (hs : ∀ x, (enc x).length = size) (z : α) (n : Nat) (hp : 0 < size) :
  (madeCells (enc z).toArray (n * size)).toList = encs enc (List.replicate n z) := by
 apply List.ext_getElem?
 intro i
 rcases Nat.lt_or_ge i (n * size) with h | h
 ·have hk : i / size < n := (Nat.div_lt_iff_lt_mul hp).2 h
  have hj : i % size < size := Nat.mod_lt _ hp
  have e1 := encs_get hs (List.replicate n z) (i / size) (i % size) z (by simp [hk]) hj
  have e2 : i / size * size + i % size = i := by rw [Nat.mul_comm]; exact Nat.div_add_mod i size
  rw [e2] at e1
  rw [e1]
  simp [madeCells, hs, h]
  rw [List.getElem?_eq_getElem (by rw [hs]; exact hj), Option.getD_some]
 ·rw [List.getElem?_eq_none (by simpa [size_madeCells] using h), List.getElem?_eq_none (by rw [encs_length hs]; simpa using h)]
theorem run_make_rowN {P : Program} (t e : TypeId) (i : TypeInfo) (z : Value) (ht : P.underlying t = some (.slice e)) (hi : P.info? e = some i) (hz : i.zero = some z)
  (kl kc : IntKind) (n c : Nat) (hnc : n ≤ c) (hbytes : i.bytes * c ≤ 281474976710656) (h63 : c ≤ 9223372036854775807) (w : World) :
  (Instr.makeSlice t (.int kl (n : Int)) (.int kc (c : Int))).run P w = .ok (.slice (some ⟨w.heap.size, 0, none⟩) n c) (w.alloc (.cells (madeCells z.cells (c * i.size)) e)) := by
 have hb : (i.bytes : Int) * (c : Int) ≤ 281474976710656 := by
  have h : ((i.bytes * c : Nat) : Int) ≤ 281474976710656 := by omega
  rwa [Int.natCast_mul] at h
 have hr := run_make (P := P) w t e i z ht hi hz kl kc n c (by omega) (by omega) hb (by omega)
 simp only [Int.toNat_natCast] at hr
 exact hr
theorem add_zero_ (a : Addr) : a.add 0 = a := by simp [Addr.add]
/-- A gate. -/
structure Gt where
 k : Int
 a : Int
 b : Int
deriving DecidableEq
def Gt.enc (x : Gt) : List Value := [.int .i64 x.k, .int .i64 x.a, .int .i64 x.b]
theorem Gt.enc_len (x : Gt) : x.enc.length = 3 := rfl
def Gt.zero : Gt := ⟨0, 0, 0⟩
end Go.Proofs.YtcjpalhclgkjiaaDoor
/- Contracts of asking all numbers of a list by a function value.
   Conditions: the function value answers by a plain function and leaves the world alone. -/
namespace Go.Proofs.YtcjpalhclgkjiaaDoor
open Go.RowKit
set_option linter.unusedVariables false
/-- A function value answers f in every world that has grown from W. -/
def Answers (W : World) (K : Nat) (caps : Array Value) (f : Int → Bool) : Prop :=
 ∀ (x : Int) (W' : World), Bl W W' → Calls Tryd.prog K (#[.int .i64 x] ++ caps) W' fun e w' => e = .returned (.bool (f x)) ∧ W' = w'
/-- The model enters function K at a call of it. -/
def Enters (K : Nat) : Prop := ∀ (a : Array Value) (w : World), Sem.run Tryd.prog (callFunc K a) w = .ok (.enter K a) w
/-- All numbers of a list answer. -/
def allF (f : Int → Bool) (l : List Int) : Bool := l.all f
theorem allF_step {f : Int → Bool} {l : List Int} {k : Nat} {x : Int} (h : allF f (l.take k) = true) (hx : l[k]? = some x) (hg : f x = true) : allF f (l.take (k + 1)) = true := by
 unfold allF at *
 rw [List.take_add_one, hx, List.all_append, h]; simp [hg]
theorem allF_not {f : Int → Bool} {l : List Int} {k : Nat} {x : Int} (hx : l[k]? = some x) (hg : f x = false) : allF f l = false := by
 rw [Bool.eq_false_iff]; intro h
 have := List.all_eq_true.1 h x (List.mem_of_getElem? hx)
 rw [hg] at this; cases this
theorem enters_areAll_1 : Enters 122 := fun _ _ => by kernel_rfl
end Go.Proofs.YtcjpalhclgkjiaaDoor
/- Players as plain data, and what they compute.
   Conditions: none. -/
namespace Go.Proofs.YtcjpalhclgkjiaaDoor
open Go.RowKit
set_option linter.unusedVariables false
/-- A tagged value. -/
structure Tg where
 v : Int
 t : Int
deriving DecidableEq
def Tg.enc (x : Tg) : List Value := [.int .i64 x.v, .int .i64 x.t]
theorem Tg.enc_len (x : Tg) : x.enc.length = 2 := rfl
def Tg.zero : Tg := ⟨0, 0⟩
/-- A message. -/
structure Ms where
 f : Int
 s : Int
 b : List Int
deriving DecidableEq
/-- A player. -/
structure Pl where
 p : Int
 party : Int
 x : Int
 mask : Int
 delta : Int
 sh : List Tg
 ks : List Int
 step : Int
 hd : List (List Int)
 status : Int
 out : Int
deriving DecidableEq
/-- Both numbers of a tagged value are elements. -/
def tgB (p : Int) (x : Tg) : Bool := elemB p x.v && elemB p x.t
def tgsB (p : Int) (l : List Tg) : Bool := l.all fun x => tgB p x
theorem tgsB_not {p : Int} {l : List Tg} {k : Nat} {x : Tg} (hx : l[k]? = some x) (h : tgB p x = false) : tgsB p l = false := by
 rw [Bool.eq_false_iff]; intro hc
 have := List.all_eq_true.1 hc x (List.mem_of_getElem? hx)
 rw [h] at this; cases this
theorem tgsB_step {p : Int} {l : List Tg} {k : Nat} {x : Tg} (h : tgsB p (l.take k) = true) (hx : l[k]? = some x) (hg : tgB p x = true) : tgsB p (l.take (k + 1)) = true := by
 unfold tgsB at *
 rw [List.take_add_one, hx, List.all_append, h]; simp [hg]
/-- How long the bodies are. -/
def bodyN (k : Nat) : Nat := if k = 0 then 1 else if k = 1 then 4 else 2
def heardOne (p : Int) (i : Nat) (b : List Int) : Bool := decide (b.length = bodyN i) && allR b 0 (p - 1)
def heardB (p : Int) (LL : List (List Int)) : Bool := (List.range LL.length).all fun i => heardOne p i (LL[i]?.getD [])
theorem heardB_not {p : Int} {LL : List (List Int)} {k : Nat} {b : List Int} (hx : LL[k]? = some b) (h : heardOne p k b = false) : heardB p LL = false := by
 rw [Bool.eq_false_iff]; intro hc
 have hl : k < LL.length := (List.getElem?_eq_some_iff.1 hx).1
 have := List.all_eq_true.1 hc k (List.mem_range.2 hl)
 rw [hx, Option.getD_some, h] at this; cases this
theorem heardB_of {p : Int} {LL : List (List Int)} (h : ∀ k b, LL[k]? = some b → heardOne p k b = true) : heardB p LL = true := by
 unfold heardB
 rw [List.all_eq_true]
 intro i hi
 have hi := List.mem_range.1 hi
 have := h i LL[i] (List.getElem?_eq_getElem hi)
 rwa [List.getElem?_eq_getElem hi]
theorem heardB_at {p : Int} {LL : List (List Int)} (h : heardB p LL = true) {k : Nat} {b : List Int} (hx : LL[k]? = some b) : heardOne p k b = true := by
 have hl : k < LL.length := (List.getElem?_eq_some_iff.1 hx).1
 have := List.all_eq_true.1 h k (List.mem_range.2 hl)
 rwa [hx, Option.getD_some] at this
def endB (step status out : Int) : Bool := if step = 3 then status == 1 else (status == 0 || status == 2) && out == 0
/-- A player is valid. -/
def plB (a : Pl) : Bool :=
 (primeB a.p && allR [a.x, a.mask, a.delta, a.out] 0 (a.p - 1)) && inR a.party 0 1 && !(a.delta == 0) && decide (a.sh.length = 5) && decide (a.ks.length = 5) && allR a.ks 0 (a.p - 1) &&
  tgsB a.p a.sh && inR a.step 0 3 && ((a.hd.length : Int) == a.step) && heardB a.p a.hd && endB a.step a.status a.out
/-- Two players can run. -/
def twoB (a b : Pl) : Bool := plB a && plB b && (a.p == b.p) && (a.party == 0) && (b.party == 1) && (a.step == 0) && (b.step == 0) && (a.status == 0) && (b.status == 0)
/-- A valid player in a run, in step k. -/
structure Ok (a : Pl) (k : Nat) : Prop where
 prime : primeB a.p = true
 p2 : 2 ≤ a.p ∧ a.p ≤ 251
 party : a.party = 0 ∨ a.party = 1
 x : 0 ≤ a.x ∧ a.x < a.p
 mask : 0 ≤ a.mask ∧ a.mask < a.p
 delta : 0 ≤ a.delta ∧ a.delta < a.p
 shn : a.sh.length = 5
 sh : ∀ y ∈ a.sh, (0 ≤ y.v ∧ y.v < a.p) ∧ 0 ≤ y.t ∧ y.t < a.p
 ksn : a.ks.length = 5
 ks : ∀ y ∈ a.ks, 0 ≤ y ∧ y < a.p
 step : a.step = k
 hdn : a.hd.length = k
 hd : ∀ i b, a.hd[i]? = some b → b.length = bodyN i ∧ ∀ y ∈ b, 0 ≤ y ∧ y < a.p
def num (l : List Int) (i : Nat) : Int := l[i]?.getD 0
def shv (a : Pl) (i : Nat) : Int := (a.sh[i]?.getD Tg.zero).v
def sht (a : Pl) (i : Nat) : Int := (a.sh[i]?.getD Tg.zero).t
def key (a : Pl) (i : Nat) : Int := num a.ks i
def said (a : Pl) (i j : Nat) : Int := num (a.hd[i]?.getD []) j
def ownM (a : Pl) : Int := (a.x - a.mask) % a.p
/-- The inputs without their masks, i = 0 or 1. -/
def msk (a : Pl) (i : Int) : Int := if a.party = i then ownM a else said a 0 0
/-- What party 0 alone adds. -/
def if0 (a : Pl) (n : Int) : Int := if a.party = 0 then n else 0
def if1 (a : Pl) (n : Int) : Int := if a.party = 1 then n else 0
def secV (a : Pl) (i : Nat) : Int := (shv a i - shv a (2 + i) + if0 a (msk a i)) % a.p
def secT (a : Pl) (i : Nat) : Int := (sht a i - sht a (2 + i)) % a.p
def dS (a : Pl) : Int := (secV a 0 + said a 1 0) % a.p
def eS (a : Pl) : Int := (secV a 1 + said a 1 2) % a.p
def thV (a : Pl) : Int := (eS a * shv a 2 + dS a * shv a 3 + shv a 4 + if0 a (dS a * eS a)) % a.p
def thT (a : Pl) : Int := (eS a * sht a 2 + dS a * sht a 3 + sht a 4) % a.p
def bodyP (a : Pl) : List Int := if a.step = 0 then [ownM a] else if a.step = 1 then [secV a 0, secT a 0, secV a 1, secT a 1] else [thV a, thT a]
def msgP (a : Pl) : Ms := ⟨a.party, a.step, bodyP a⟩
def keyS (a : Pl) (i : Nat) : Int := (key a i - key a (2 + i) - if1 a (msk a i * a.delta)) % a.p
def keyT (a : Pl) : Int := (eS a * key a 2 + dS a * key a 3 + key a 4 - if1 a ((dS a * eS a) % a.p * a.delta)) % a.p
def hold (p delta k v t : Int) : Bool := (v * delta + k) % p == t
def holdsP (a : Pl) (b : List Int) : Bool :=
 if a.step = 0 then true else if a.step = 1 then hold a.p a.delta (keyS a 0) (num b 0) (num b 1) && hold a.p a.delta (keyS a 1) (num b 2) (num b 3) else hold a.p a.delta (keyT a) (num b 0) (num b 1)
def shapeP (a : Pl) (m : Ms) : Bool := (m.f == 1 - a.party) && (m.s == a.step) && decide (m.b.length = bodyN a.step.toNat) && allR m.b 0 (a.p - 1)
def accP (a : Pl) (m : Ms) : Bool := shapeP a m && holdsP a m.b
def takeP (a : Pl) (m : Ms) : Pl :=
 if accP a m = true then { a with hd := a.hd ++ [m.b], step := a.step + 1, status := if a.step = 2 then 1 else a.status, out := if a.step = 2 then (thV a + num m.b 0) % a.p else a.out } else { a with status := 2 }
/-- A meddle. -/
structure Md where
 k : Int
 at_ : Int
 i : Int
 v : Int
deriving DecidableEq
def Md.enc (x : Md) : List Value := [.int .i64 x.k, .int .i64 x.at_, .int .i64 x.i, .int .i64 x.v]
theorem Md.enc_len (x : Md) : x.enc.length = 4 := rfl
def Md.zero : Md := ⟨0, 0, 0, 0⟩
def mdB (p : Int) (m : Md) : Bool := inR m.at_ 0 5 && (if m.k = 1 then inR m.i 0 ((bodyN (m.at_ / 2).toNat : Int) - 1) && inR m.v 0 (p - 1) else inR m.k 2 4 && (m.i == 0) && (m.v == 0) && (m.k != 3 || decide (2 ≤ m.at_)))
/-- Meddles are valid: each one, and the numbers of their messages grow. -/
def mdsB (p : Int) (l : List Md) : Bool := (List.range l.length).all fun i => mdB p (l[i]?.getD Md.zero) && (decide (i = 0) || decide ((l[i - 1]?.getD Md.zero).at_ < (l[i]?.getD Md.zero).at_))
theorem mdsB_at {p : Int} {l : List Md} (h : mdsB p l = true) {i : Nat} {m : Md} (hi : l[i]? = some m) : mdB p m = true ∧ (0 < i → ∃ o, l[i - 1]? = some o ∧ o.at_ < m.at_) := by
 have hl : i < l.length := (List.getElem?_eq_some_iff.1 hi).1
 have := List.all_eq_true.1 h i (List.mem_range.2 hl)
 rw [hi, Option.getD_some, Bool.and_eq_true] at this
 refine ⟨this.1, fun h0 => ⟨l[i - 1], List.getElem?_eq_getElem (by omega), ?_⟩⟩
 have h2 := this.2
 rw [Bool.or_eq_true, decide_eq_true_eq, decide_eq_true_eq, List.getElem?_eq_getElem (show i - 1 < l.length by omega), Option.getD_some] at h2
 rcases h2 with h2 | h2
 ·omega
 ·exact h2
theorem mdsB_of {p : Int} {l : List Md} (h : ∀ (i : Nat) (m : Md), l[i]? = some m → mdB p m = true ∧ (0 < i → ∀ o, l[i - 1]? = some o → o.at_ < m.at_)) : mdsB p l = true := by
 unfold mdsB
 rw [List.all_eq_true]
 intro i hi
 have hi := List.mem_range.1 hi
 obtain ⟨h1, h2⟩ := h i l[i] (List.getElem?_eq_getElem hi)
 rw [List.getElem?_eq_getElem hi, Option.getD_some, h1, Bool.true_and, Bool.or_eq_true, decide_eq_true_eq, decide_eq_true_eq]
 by_cases h0 : i = 0
 ·exact .inl h0
 ·refine .inr ?_
  rw [List.getElem?_eq_getElem (show i - 1 < l.length by omega), Option.getD_some]
  exact h2 (by omega) _ (List.getElem?_eq_getElem (by omega))
theorem mdsB_not {p : Int} {l : List Md} {i : Nat} {m : Md} (hi : l[i]? = some m) (h : mdB p m = false) : mdsB p l = false := by
 rw [Bool.eq_false_iff]; intro hc
 rw [(mdsB_at hc hi).1] at h; cases h
theorem mdsB_not2 {p : Int} {l : List Md} {i : Nat} {m o : Md} (hi : l[i]? = some m) (h0 : 0 < i) (ho : l[i - 1]? = some o) (h : ¬ o.at_ < m.at_) : mdsB p l = false := by
 rw [Bool.eq_false_iff]; intro hc
 obtain ⟨o', ho', hlt⟩ := (mdsB_at hc hi).2 h0
 rw [ho] at ho'; injection ho' with ho'; subst ho'; exact h hlt
/-- The numbers grow along the list. -/
theorem mds_lt {p : Int} {l : List Md} (h : mdsB p l = true) : ∀ {j i : Nat} {m o : Md}, i < j → l[i]? = some o → l[j]? = some m → o.at_ < m.at_ := by
 intro j
 induction j with
 | zero => intro i m o hij; omega
 | succ j ih =>
  intro i m o hij hi hj
  obtain ⟨q, hq, hlt⟩ := (mdsB_at h hj).2 (by omega)
  rw [show j + 1 - 1 = j by omega] at hq
  by_cases hc : i = j
  ·subst hc; rw [hq] at hi; injection hi with hi; subst hi; exact hlt
  ·have := ih (by omega) hi hq; omega
/-- The first meddle at a message. -/
def meddleAt (l : List Md) (at_ : Int) : Option Md := l.find? fun m => m.at_ == at_
/-- What a meddle makes of a message; o: the message two before. -/
def bent (p : Int) (m : Ms) (i v : Int) : Ms := { m with b := m.b.set i.toNat ((num m.b i.toNat + v) % p) }
def meddled (p : Int) (x : Md) (m o : Ms) : Ms :=
 if x.k = 1 then bent p m x.i x.v else if x.k = 2 then { m with b := [] } else if x.k = 3 then o else { m with f := 1 - m.f }
def takenP (p : Int) (l : List Md) (at_ : Int) (m o : Ms) : Ms := match meddleAt l at_ with
 | none => m
 | some x => meddled p x m o
/-- One round of a run: what is sent, what is taken, the players behind. -/
structure Rn where
 a : Pl
 b : Pl
 sent : List Ms
 taken : List Ms
def stepR (l : List Md) (r : Rn) : Rn :=
 let n : Int := r.sent.length
 let m := msgP r.a
 let o := msgP r.b
 let m' := takenP r.a.p l n m (r.sent[r.sent.length - 2]?.getD ⟨0, 0, []⟩)
 let o' := takenP r.a.p l (n + 1) o (r.sent[r.sent.length - 1]?.getD ⟨0, 0, []⟩)
 ⟨takeP r.a o', takeP r.b m', r.sent ++ [m, o], r.taken ++ [m', o']⟩
def runsR (r : Rn) : Bool := (r.a.status == 0) && (r.b.status == 0)
def runR (l : List Md) : Nat → Rn → Rn
 | 0, r => r
 | f + 1, r => if runsR r = true then runR l f (stepR l r) else r
def runM (a b : Pl) (l : List Md) : Rn := runR l 3 ⟨a, b, [], []⟩
end Go.Proofs.YtcjpalhclgkjiaaDoor
/- Players: residues, ranges, one round.
   Conditions: none. -/
namespace Go.Proofs.YtcjpalhclgkjiaaDoor
open Go.RowKit
set_option linter.unusedVariables false
theorem mod_rng (n : Int) {p : Int} (hp : 2 ≤ p) : 0 ≤ n % p ∧ n % p < p := ⟨Int.emod_nonneg _ (by omega), Int.emod_lt_of_pos _ (by omega)⟩
theorem prod252 (a b : Int) (h1 : -252 ≤ a) (h2 : a ≤ 252) (h3 : -252 ≤ b) (h4 : b ≤ 252) : -63504 ≤ a * b ∧ a * b ≤ 63504 := by
 have e : (a.natAbs : Int) * b.natAbs ≤ 252 * 252 := Int.mul_le_mul (by omega) (by omega) (by omega) (by omega)
 have e2 : ((a * b).natAbs : Int) = (a.natAbs : Int) * b.natAbs := by rw [Int.natAbs_mul]; simp
 omega
theorem plB_ok {a : Pl} (h : plB a = true) {k : Nat} (hk : a.step = k) : Ok a k := by
 simp only [plB, Bool.and_eq_true, decide_eq_true_eq, Bool.not_eq_true', beq_eq_false_iff_ne, beq_iff_eq] at h
 obtain ⟨⟨⟨⟨⟨⟨⟨⟨⟨⟨⟨h1, h2⟩, h6⟩, h7⟩, h8⟩, h9⟩, h10⟩, h11⟩, h12⟩, h13⟩, h14⟩, h15⟩ := h
 have a2 := allR_mem h2 (show a.x ∈ [a.x, a.mask, a.delta, a.out] by simp)
 have a3 := allR_mem h2 (show a.mask ∈ [a.x, a.mask, a.delta, a.out] by simp)
 have a4 := allR_mem h2 (show a.delta ∈ [a.x, a.mask, a.delta, a.out] by simp)
 have a6 := inR_iff.1 h6
 refine ⟨h1, primeB_bd h1, by omega, by omega, by omega, by omega, h8, fun y hy => ?_, h9, fun y hy => ?_, hk, by omega, fun i b hb => ?_⟩
 ·have := List.all_eq_true.1 h11 y hy
  simp only [tgB, elemB, Bool.and_eq_true] at this
  have b1 := inR_iff.1 this.1.2
  have b2 := inR_iff.1 this.2.2
  omega
 ·have := allR_mem h10 hy; omega
 ·have := heardB_at h14 hb
  simp only [heardOne, Bool.and_eq_true, decide_eq_true_eq] at this
  exact ⟨this.1, fun y hy => by have := allR_mem this.2 hy; omega⟩
section
variable {a : Pl} {k : Nat}
theorem Ok.pos (h : Ok a k) : 2 ≤ a.p := h.p2.1
theorem num_rng {l : List Int} {p : Int} (h : ∀ y ∈ l, 0 ≤ y ∧ y < p) (hp : 2 ≤ p) (i : Nat) : 0 ≤ num l i ∧ num l i < p := by
 unfold num
 rcases hx : l[i]? with _ | x
 ·rw [Option.getD_none]; omega
 ·rw [Option.getD_some]; exact h x (List.mem_of_getElem? hx)
theorem Ok.key_rng (h : Ok a k) (i : Nat) : 0 ≤ key a i ∧ key a i < a.p := num_rng h.ks h.pos i
theorem Ok.said_rng (h : Ok a k) (i j : Nat) : 0 ≤ said a i j ∧ said a i j < a.p := by
 unfold said
 refine num_rng ?_ h.pos j
 rcases hx : a.hd[i]? with _ | b
 ·rw [Option.getD_none]; simp
 ·rw [Option.getD_some]; exact (h.hd i b hx).2
theorem Ok.sh_rng (h : Ok a k) (i : Nat) : (0 ≤ shv a i ∧ shv a i < a.p) ∧ 0 ≤ sht a i ∧ sht a i < a.p := by
 unfold shv sht
 have := h.pos
 rcases hx : a.sh[i]? with _ | y
 ·rw [Option.getD_none]; simp only [Tg.zero]; omega
 ·rw [Option.getD_some]; exact h.sh y (List.mem_of_getElem? hx)
theorem Ok.ownM (h : Ok a k) : 0 ≤ ownM a ∧ ownM a < a.p := mod_rng _ h.pos
theorem Ok.msk (h : Ok a k) (i : Int) : 0 ≤ msk a i ∧ msk a i < a.p := by
 unfold Go.Proofs.YtcjpalhclgkjiaaDoor.msk
 split
 ·exact h.ownM
 ·exact h.said_rng 0 0
theorem Ok.secV (h : Ok a k) (i : Nat) : 0 ≤ secV a i ∧ secV a i < a.p := mod_rng _ h.pos
theorem Ok.secT (h : Ok a k) (i : Nat) : 0 ≤ secT a i ∧ secT a i < a.p := mod_rng _ h.pos
theorem Ok.dS (h : Ok a k) : 0 ≤ dS a ∧ dS a < a.p := mod_rng _ h.pos
theorem Ok.eS (h : Ok a k) : 0 ≤ eS a ∧ eS a < a.p := mod_rng _ h.pos
theorem Ok.thV (h : Ok a k) : 0 ≤ thV a ∧ thV a < a.p := mod_rng _ h.pos
theorem Ok.thT (h : Ok a k) : 0 ≤ thT a ∧ thT a < a.p := mod_rng _ h.pos
theorem Ok.keyS (h : Ok a k) (i : Nat) : 0 ≤ keyS a i ∧ keyS a i < a.p := mod_rng _ h.pos
theorem Ok.keyT (h : Ok a k) : 0 ≤ keyT a ∧ keyT a < a.p := mod_rng _ h.pos
theorem Ok.share (h : Ok a k) {i : Nat} (hi : i < 5) : a.sh[i]? = some ⟨shv a i, sht a i⟩ := by
 unfold shv sht
 rw [List.getElem?_eq_getElem (by rw [h.shn]; exact hi), Option.getD_some]
theorem Ok.keyAt (h : Ok a k) {i : Nat} (hi : i < 5) : a.ks[i]? = some (key a i) := by
 unfold key num
 rw [List.getElem?_eq_getElem (by rw [h.ksn]; exact hi), Option.getD_some]
theorem Ok.body (h : Ok a k) (hk : k ≤ 2) : (bodyP a).length = bodyN k ∧ ∀ y ∈ bodyP a, 0 ≤ y ∧ y < a.p := by
 have hs := h.step
 unfold bodyP bodyN
 obtain rfl | rfl | rfl : k = 0 ∨ k = 1 ∨ k = 2 := by omega
 ·rw [if_pos (by omega), if_pos rfl]; refine ⟨rfl, fun y hy => ?_⟩
  simp only [List.mem_cons, List.not_mem_nil, or_false] at hy
  subst hy; exact h.ownM
 ·rw [if_neg (by omega), if_pos (by omega), if_neg (by omega), if_pos rfl]; refine ⟨rfl, fun y hy => ?_⟩
  simp only [List.mem_cons, List.not_mem_nil, or_false] at hy
  rcases hy with rfl | rfl | rfl | rfl
  ·exact h.secV 0
  ·exact h.secT 0
  ·exact h.secV 1
  ·exact h.secT 1
 ·rw [if_neg (by omega), if_neg (by omega), if_neg (by omega), if_neg (by omega)]; refine ⟨rfl, fun y hy => ?_⟩
  simp only [List.mem_cons, List.not_mem_nil, or_false] at hy
  rcases hy with rfl | rfl
  ·exact h.thV
  ·exact h.thT
theorem shape_facts {m : Ms} (h : shapeP a m = true) (hs : a.step = k) : m.f = 1 - a.party ∧ m.s = k ∧ m.b.length = bodyN k ∧ ∀ y ∈ m.b, 0 ≤ y ∧ y < a.p := by
 simp only [shapeP, Bool.and_eq_true, decide_eq_true_eq, beq_iff_eq] at h
 obtain ⟨⟨⟨h1, h2⟩, h3⟩, h4⟩ := h
 refine ⟨h1, by omega, by rw [h3, hs]; simp, fun y hy => ?_⟩
 have := allR_mem h4 hy; omega
theorem Ok.took (h : Ok a k) {m : Ms} (ha : accP a m = true) : Ok (takeP a m) (k + 1) := by
 have hs := h.step
 have hsh : shapeP a m = true := by simp only [accP, Bool.and_eq_true] at ha; exact ha.1
 obtain ⟨h1, h2, h3, h4⟩ := shape_facts hsh hs
 unfold takeP
 rw [if_pos ha]
 refine ⟨h.prime, h.p2, h.party, h.x, h.mask, h.delta, h.shn, h.sh, h.ksn, h.ks, by simp only; omega, by simp [h.hdn], fun i b hb => ?_⟩
 simp only at hb ⊢
 rcases Nat.lt_or_ge i a.hd.length with hi | hi
 ·rw [List.getElem?_append_left hi] at hb; exact h.hd i b hb
 ·rw [List.getElem?_append_right hi] at hb
  have hi2 : i = k := by
   have : i - a.hd.length < 1 := (List.getElem?_eq_some_iff.1 hb).1
   have := h.hdn; omega
  subst hi2
  rw [h.hdn, Nat.sub_self] at hb
  injection hb with hb
  subst hb
  exact ⟨h3, h4⟩
theorem take_y {m : Ms} (ha : accP a m = true) (h2 : ¬ a.step = 2) : takeP a m = { a with hd := a.hd ++ [m.b], step := a.step + 1 } := by
 unfold takeP; rw [if_pos ha, if_neg h2, if_neg h2]
theorem take_y2 {m : Ms} (ha : accP a m = true) (h2 : a.step = 2) : takeP a m = { a with hd := a.hd ++ [m.b], step := a.step + 1, status := 1, out := (Go.Proofs.YtcjpalhclgkjiaaDoor.thV a + num m.b 0) % a.p } := by
 unfold takeP; rw [if_pos ha, if_pos h2, if_pos h2]
theorem take_n {m : Ms} (ha : accP a m = false) : takeP a m = { a with status := 2 } := by
 unfold takeP; rw [if_neg (by rw [ha]; simp)]
end
theorem hold_iff {p delta k v t : Int} (ht : 0 ≤ t ∧ t < p) : ((v * delta + k - t) % p == 0) = hold p delta k v t := by
 unfold hold
 rw [Bool.eq_iff_iff, beq_iff_eq, beq_iff_eq]
 have e : t % p = t := Int.emod_eq_of_lt ht.1 ht.2
 constructor
 ·intro h
  have := (Int.emod_emod_of_dvd (v * delta + k) (Int.dvd_refl p))
  have h2 := Int.emod_eq_emod_iff_emod_sub_eq_zero.2 h
  rw [h2, e]
 ·intro h
  exact Int.emod_eq_emod_iff_emod_sub_eq_zero.1 (by rw [h, e])
/-- Sums in another order, and reduced in between. -/
theorem sum_add (p x y : Int) : ((x % p) + y) % p = (x + y) % p := by rw [Int.emod_add_emod]
theorem sum_add' (p x y : Int) : (x + (y % p)) % p = (x + y) % p := by rw [Int.add_emod_emod]
theorem sum_sub (p x y : Int) : ((x % p) - y) % p = (x - y) % p := by rw [Int.emod_sub_emod]
theorem pm1 (p x y : Int) : (x + (p - 1) * y) % p = (x - y) % p := by
 rw [Int.sub_mul, Int.one_mul, show x + (p * y - y) = x - y + p * y by omega, Int.add_mul_emod_self_left]
theorem spec_sec (p v u f : Int) : ((v + f) % p + (p - 1) * u) % p = (v - u + f) % p := by
 rw [sum_add, show v + f + (p - 1) * u = (v + f) + (p - 1) * u by rfl, pm1]
 congr 1; omega
theorem spec_sec0 (p v u : Int) : (v + (p - 1) * u) % p = (v - u + 0) % p := by rw [pm1]; congr 1; omega
theorem spec_th (p v4 v3 v2 d e : Int) : ((v4 + d * v3) % p + e * v2) % p = (e * v2 + d * v3 + v4 + 0) % p := by
 rw [sum_add]; congr 1; omega
theorem spec_th0 (p v4 v3 v2 d e : Int) : (((v4 + d * v3) % p + e * v2) % p + d * e % p) % p = (e * v2 + d * v3 + v4 + d * e) % p := by
 rw [sum_add, sum_add', Int.add_assoc, sum_add]; congr 1; omega
theorem spec_tht (p v4 v3 v2 d e : Int) : ((v4 + d * v3) % p + e * v2) % p = (e * v2 + d * v3 + v4) % p := by
 rw [sum_add]; congr 1; omega
end Go.Proofs.YtcjpalhclgkjiaaDoor
/- Contracts of asking all numbers of a list by a function value that makes new blocks.
   Conditions: the function value answers by a plain function and only makes new blocks. -/
namespace Go.Proofs.YtcjpalhclgkjiaaDoor
open Go.RowKit
set_option linter.unusedVariables false
/-- A function value answers f in every world that has grown from W, and only makes new blocks. -/
def AnswersB (W : World) (K : Nat) (caps : Array Value) (f : Int → Bool) : Prop :=
 ∀ (x : Int) (W' : World), Bl W W' → Calls Tryd.prog K (#[.int .i64 x] ++ caps) W' fun e w' => e = .returned (.bool (f x)) ∧ Bl W' w'
theorem Answers.b {W : World} {K : Nat} {caps : Array Value} {f : Int → Bool} (h : Answers W K caps f) : AnswersB W K caps f := fun x W' hW => (h x W' hW).mono fun e w' ⟨a, b⟩ => ⟨a, b ▸ Bl.refl _⟩
theorem areAll_1b (K g : Nat) (caps : Array Value) (f : Int → Bool) (x : Int) (W w : World) (hW : Bl W w) (hK : Enters K) (h : AnswersB W K caps f) (hc : w.cell? ⟨g, 0, none⟩ = some (.func (.func K) #[] caps)) :
  Calls Tryd.prog 122 #[.int .i64 x, .pointer (some ⟨g, 0, none⟩)] w fun e w' => e = .returned (.bool (!f x)) ∧ Bl w w' := by
 have H := Lib.hid h
 clear h
 unfold Enters at hK
 go_enter Tryd.func122, Tryd.ntmps122
 go_wp2_with (refine (H.out x _ hW).mono ?_; rintro e w' ⟨rfl, hb1⟩)
 go_ret
 exact ⟨rfl, hb1⟩
def IdxPostB (f : Int → Bool) (l : List Int) (w : World) (e : Ending) (w' : World) : Prop := ∃ i : Int, -1 ≤ i ∧ i ≤ 9223372036854775806 ∧ e = .returned (.int .i64 i) ∧ (decide (0 ≤ i) = !allF f l) ∧ Bl w w'
set_option maxHeartbeats 1000000 in
theorem slices_IndexFunc_allb (A : Option Addr) (n c : Nat) (l : List Int) (K g : Nat) (caps : Array Value) (f : Int → Bool) (W w : World) (hW : Bl W w) (hK : Enters K) (h : AnswersB W K caps f)
  (hc : w.cell? ⟨g, 0, none⟩ = some (.func (.func K) #[] caps)) (hl : RdI w A n c l) :
  Calls Tryd.prog 127 #[.slice A n c, .func (.func 122) #[] #[.pointer (some ⟨g, 0, none⟩)]] w (IdxPostB f l w) := by
 obtain ⟨hle1, hle2⟩ := hl.le
 have hlen := Lib.hid hl.length
 have hen := enters_areAll_1
 unfold Enters at hen
 have HA := Lib.hid h
 have HK := Lib.hid hK
 have h0 := Bl.refl w
 clear h hK
 go_enter Tryd.func127, Tryd.ntmps127
 go_wp2
 go_loopw [8] (fun i wr => ∃ k : Nat, k ≤ n ∧ i = .int .i64 k ∧ Hid (allF f (l.take k) = true) ∧ Bl w wr) (fun i _ => n - (intOf i).toNat)
 case atStart => exact ⟨0, by omega, rfl, Lib.hid (by simp [allF]), h0⟩
 case round =>
  obtain ⟨k, hk, rfl, hq, hb⟩ := hrel
  clear h0
  by_cases hlt : k < n
  ·obtain ⟨ad, x, rfl, hadb, hx, hcell⟩ := (hl.keep hb).at_ hlt
   have HX := Lib.hid hx
   clear hx
   have hc' := hb.cells hc
   rcases hg : f x
   ·have hst := Lib.hid (allF_not HX.out hg)
    go_wp2_with (go_at_call 122; refine (areAll_1b K g caps f x W _ (hW.call hb) HK.out HA.out hc').mono ?_; rintro e w' ⟨rfl, hb1⟩; rw [hg])
    go_ret
    exact ⟨k, by omega, by omega, rfl, by rw [hst.out]; simp, hb.call hb1⟩
   ·have hst := Lib.hid (allF_step hq.out HX.out hg)
    go_wp2_with (go_at_call 122; refine (areAll_1b K g caps f x W _ (hW.call hb) HK.out HA.out hc').mono ?_; rintro e w' ⟨rfl, hb1⟩; rw [hg])
    go_roundw
    case rel => exact ⟨k + 1, by omega, by go_num, hst, hb.call hb1⟩
    case measure => simp [intOf]; omega
  ·have he : k = n := by omega
   have hst := Lib.hid (show allF f l = true by
    have e := hq.out
    rwa [List.take_of_length_le (by rw [hlen.out]; omega)] at e)
   go_wp2
   go_ret
   exact ⟨-1, by omega, by omega, rfl, by rw [hst.out]; rfl, hb⟩
theorem slices_ContainsFunc_allb (A : Option Addr) (n c : Nat) (l : List Int) (K g : Nat) (caps : Array Value) (f : Int → Bool) (W w : World) (hW : Bl W w) (hK : Enters K) (h : AnswersB W K caps f)
  (hc : w.cell? ⟨g, 0, none⟩ = some (.func (.func K) #[] caps)) (hl : RdI w A n c l) :
  Calls Tryd.prog 121 #[.slice A n c, .func (.func 122) #[] #[.pointer (some ⟨g, 0, none⟩)]] w fun e w' => e = .returned (.bool (!allF f l)) ∧ Bl w w' := by
 have HI := Lib.hid (slices_IndexFunc_allb A n c l K g caps f W w hW hK h hc hl)
 clear hW hK h hc hl
 go_enter Tryd.func121, Tryd.ntmps121
 go_wp2_with (go_at_call 127; refine HI.out.mono ?_; rintro e w' ⟨i, h1, h2, rfl, h3, hb⟩; have H3 := Lib.hid h3; clear h3)
 all_goals go_ret
 all_goals exact ⟨ret_bool H3.out, hb⟩
theorem impl_areAllb (A : Option Addr) (n c : Nat) (l : List Int) (K : Nat) (caps : Array Value) (f : Int → Bool) (w : World) (hK : Enters K) (h : AnswersB w K caps f) (hl : RdI w A n c l) :
  Calls Tryd.prog 111 #[.slice A n c, .func (.func K) #[] caps] w fun e w' => e = .returned (.bool (allF f l)) ∧ Bl w w' := by
 have hW := (Bl.refl w).alloc (.cells #[.func (.func K) #[] caps] 110)
 have hB := Blk.new w 110 #[.func (.func K) #[] caps]
 have HC := Lib.hid (slices_ContainsFunc_allb A n c l K w.heap.size caps f w _ hW hK h (hB.cell 0 _ rfl) (hl.keep hW))
 clear hK h hl hB
 go_enter Tryd.func111, Tryd.ntmps111
 go_wp2_with (go_at_call 121; refine HC.out.mono ?_; rintro e w' ⟨rfl, hb1⟩)
 go_ret
 exact ⟨ret_bool (by simp), hW.call hb1⟩
end Go.Proofs.YtcjpalhclgkjiaaDoor
/- append of numbers as one step of a drawn region.
   Conditions: none. -/
namespace Go.Proofs.YtcjpalhclgkjiaaDoor
open Go.RowKit
set_option linter.unusedVariables false
theorem OwnI.drew {base n c : Nat} {w : World} {A : Option Addr} {l : List Int} (h : OwnI base w A n c l) : OwnI base w.drew A n c l := h
theorem RdI.drew {n c : Nat} {w : World} {A : Option Addr} {l : List Int} (h : RdI w A n c l) : RdI w.drew A n c l := ⟨h.len, h.cap, h.max, h.at0⟩
end Go.Proofs.YtcjpalhclgkjiaaDoor
/- Small words: calls that leave the world alone inside a drawn region, five numbers of a slice, residues, lists with further numbers.
   Conditions: none beyond the sizes. -/
namespace Go.Proofs.YtcjpalhclgkjiaaDoor
open Go.RowKit
set_option linter.unusedVariables false
theorem impl_mod (m a : Int) (w : World) (ha : -1000000000000000000 ≤ a) (ha' : a ≤ 1000000000000000000) (hm : 1 ≤ m) (hm' : m ≤ 1000000000000000000) :
  Calls Tryd.prog 45 #[.int .i64 m, .int .i64 a] w fun e w' => e = .returned (.int .i64 (a % m)) ∧ w = w' := by
 have hm0 : (m == 0) = false := by simp; omega
 have h1 := Int.tmod_lt_of_pos a (show 0 < m by omega)
 have h2 : -m < a.tmod m := by
  have := Int.lt_tmod_of_pos a (show 0 < m by omega); omega
 go_enter Tryd.func45, Tryd.ntmps45
 go_wp2
 go_ret
 exact ⟨ret_int (tmod_fix a m), rfl⟩
/-- The cells of a slice of numbers, by their places as the walk writes them. -/
theorem RdI.lit {w : World} {A : Option Addr} {n c : Nat} {l : List Int} (h : RdI w A n c l) (hn : 0 < n) :
  ∃ ad, A = some ad ∧ ad.block < w.heap.size ∧ (∀ x, l[0]? = some x → w.cell? ad = some (.int .i64 x)) ∧ ∀ k x, 0 < k → l[k]? = some x → w.cell? ⟨ad.block, ad.off + k, none⟩ = some (.int .i64 x) := by
 obtain ⟨ad, rfl, hb, hc⟩ := h.at0 hn
 refine ⟨ad, rfl, hb, fun x hx => ?_, fun k x hk hx => ?_⟩
 ·have := hc 0 (.int .i64 x) (by rw [ints_get, hx]; rfl)
  rwa [show ad.add 0 = ad from rfl] at this
 ·have := hc k (.int .i64 x) (by rw [ints_get, hx]; rfl)
  rwa [show ad.add k = ⟨ad.block, ad.off + k, none⟩ by unfold Addr.add; rw [if_neg (by omega)]] at this
/-- A literal slice lies in a block of its own. -/
theorem own_lit (w : World) (l : List Int) {base g : Nat} (hg : w.heap.size = g) (hb : base ≤ g) (hm : l.length ≤ 1000000) : OwnI base (w.alloc (.cells (l.map (Value.int .i64)).toArray 3)) (some ⟨g, 0, none⟩) l.length l.length l := by
 subst hg
 refine ⟨by simp, .inr ⟨w.heap.size, l.length, _, rfl, hb, heap_alloc_new w _, Nat.le_refl _, by unfold maxLen; omega, by simp, ?_⟩⟩
 rw [Nat.mul_one, List.take_of_length_le (by simp)]
 simp [ints]
theorem own_lit1 (w : World) (a : Int) {base g : Nat} (hb : base ≤ g) (hg : w.heap.size = g) : OwnI base (w.alloc (.cells #[.int .i64 a] 3)) (some ⟨g, 0, none⟩) 1 1 [a] := own_lit w [a] hg hb (by simp)
theorem own_lit2 (w : World) (a b : Int) {base g : Nat} (hb : base ≤ g) (hg : w.heap.size = g) : OwnI base (w.alloc (.cells #[.int .i64 a, .int .i64 b] 3)) (some ⟨g, 0, none⟩) 2 2 [a, b] := own_lit w [a, b] hg hb (by simp)
theorem RdI.far {w : World} {A : Option Addr} {n c : Nat} {l : List Int} {g : Nat} (hne : ∀ a, A = some a → a.block ≠ g) (k : Nat) (u : Value) (h : RdI w A n c l) : RdI (w.setCell ⟨g, k, none⟩ u) A n c l :=
 h.grown (grownBy_setCell w g k u) (fun a ha he => hne a ha (by injection he))
theorem RdI.five {w : World} {A : Option Addr} {c : Nat} {x0 x1 x2 x3 x4 : Int} (h : RdI w A 5 c [x0, x1, x2, x3, x4]) :
  ∃ ad, A = some ad ∧ ad.block < w.heap.size ∧ w.cell? ad = some (.int .i64 x0) ∧ w.cell? ⟨ad.block, ad.off + 1, none⟩ = some (.int .i64 x1) ∧ w.cell? ⟨ad.block, ad.off + 2, none⟩ = some (.int .i64 x2) ∧ w.cell? ⟨ad.block, ad.off + 3, none⟩ = some (.int .i64 x3) ∧ w.cell? ⟨ad.block, ad.off + 4, none⟩ = some (.int .i64 x4) := by
 obtain ⟨ad, e, hb, h0, hc⟩ := h.lit (by omega)
 exact ⟨ad, e, hb, h0 _ rfl, hc 1 _ (by omega) rfl, hc 2 _ (by omega) rfl, hc 3 _ (by omega) rfl, hc 4 _ (by omega) rfl⟩
end Go.Proofs.YtcjpalhclgkjiaaDoor
/- A drawn region with several stores: S holds throughout, C until number s has come up; what reads under C and is waited for by s, and what reads under S, may be taken first.
   Conditions: as said. -/
namespace Go.Proofs.YtcjpalhclgkjiaaDoor
open Go.RowKit
set_option linter.unusedVariables false
section
variable {P : Program} {ops : Array Oper} {Q : Exit → Act → World → Prop} {md : Region.Mode} {S C : World → Prop} {s : Nat}
/-- Whatever order comes: behind every operation S holds, and C until number s has come up. -/
def AnyF (P : Program) (md : Region.Mode) (ops : Array Oper) (Q : Exit → Act → World → Prop) (S C : World → Prop) (s : Nat) : Nat → Array Bool → Act → World → Prop
 | 0, listed, a, w => Region.ready md ops listed = [] ∧ Q .normal a w
 | fuel + 1, listed, a, w =>
  (Region.ready md ops listed = [] → Q .normal a w) ∧
  ∀ i ∈ Region.ready md ops listed, wpOp P ops Q i (fun a' w' => (S w' ∧ ((listed.setIfInBounds i true).getD s false = false → C w')) ∧ AnyF P md ops Q S C s fuel (listed.setIfInBounds i true) a' w') a w
theorem any_of_F : ∀ (fuel : Nat) (listed : Array Bool) (a : Act) (w : World), AnyF P md ops Q S C s fuel listed a w → wpAny P md ops Q fuel listed a w
 | 0, _, _, _, h => h
 | fuel + 1, _, _, _, h => ⟨h.1, fun i hi => wpOp_mono (fun a' w' h' => any_of_F fuel _ a' w' h'.2) (h.2 i hi)⟩
/-- The condition under which number i is read: C where s waits for it, else S. -/
theorem f_first {i : Nat} {oi : Oper} {v : Value} {D : World → Prop} (hi : ops[i]? = some oi)
  (hD : ∀ (listed : Array Bool) (w : World), Closed md ops listed → i ∈ Region.ready md ops listed → S w → (listed.getD s false = false → C w) → D w)
  (hsel : ∀ (j : Nat) (o : Oper) cs b, ops[j]? = some o → o.op ≠ .select cs b) (hQ : ∀ c a w, Q (.panic c) (a.put oi.dst v) w → Q (.panic c) a w) (his : i ≠ s) :
  ∀ (fuel : Nat) (listed : Array Bool) (a : Act) (w : World),
   (∀ j oj, ops[j]? = some oj → j ≠ i → listed.getD j true = false → (∀ e ∈ oj.after, Region.binds md e = true → e.on ≠ i) → oi.apart ops oj = true) →
   i ∈ Region.ready md ops listed → YieldsIf P ops D oi v a → Closed md ops listed → S w → (listed.getD s false = false → C w) →
   AnyF P md ops Q S C s fuel (listed.setIfInBounds i true) (a.put oi.dst v) w → AnyF P md ops Q S C s (fuel + 1) listed a w := by
 intro fuel
 induction fuel with
 | zero =>
  intro listed a w _ hr hy hcl hS hC H
  refine ⟨fun h => (by rw [h] at hr; cases hr), fun j hj => ?_⟩
  by_cases hji : j = i
  ·subst hji; exact hy.wpOp hi (hD _ _ hcl hr hS hC) ⟨⟨hS, fun h => hC (by rwa [getD_set_ne false his] at h)⟩, H⟩
  ·have := ready_mono hj hji
   rw [H.1] at this
   cases this
 | succ fuel ih =>
  intro listed a w hfree hr hy hcl hS hC H
  refine ⟨fun h => (by rw [h] at hr; cases hr), fun j hj => ?_⟩
  by_cases hji : j = i
  ·subst hji; exact hy.wpOp hi (hD _ _ hcl hr hS hC) ⟨⟨hS, fun h => hC (by rwa [getD_set_ne false his] at h)⟩, H⟩
  ·have h1 := H.2 j (ready_mono hj hji)
   obtain ⟨hjun, oj, hoj, hall⟩ := mem_ready.1 hj
   have hnot : ∀ e ∈ oj.after, Region.binds md e = true → e.on ≠ i := fun e he hb heq => by
    have h1 := hall e he hb
    have h0 := (mem_ready.1 hr).1
    rw [heq] at h1
    rcases Nat.lt_or_ge i listed.size with h' | h'
    ·simp [h'] at h0 h1; rw [h0] at h1; cases h1
    ·simp [Array.getElem?_eq_none h'] at h1
   have h2 := wpOp_putIf hoj (hfree j oj hoj hji hjun hnot) (fun cs b => hsel i oi cs b hi) (fun cs b => hsel j oj cs b hoj) hQ hy h1
   have hfree' : ∀ k ok, ops[k]? = some ok → k ≠ i → (listed.setIfInBounds j true).getD k true = false →
     (∀ e ∈ ok.after, Region.binds md e = true → e.on ≠ i) → oi.apart ops ok = true := fun k ok hk hki hun hno => by
    refine hfree k ok hk hki ?_ hno
    by_cases hjk : j = k
    ·subst hjk; exact hjun
    ·rw [getD_set_ne true hjk] at hun; exact hun
   refine wpOp_mono (fun a' w' h3 => ?_) h2
   have hC' : (listed.setIfInBounds j true).getD s false = false → C w' := fun h => h3.2.1.2 (by
    by_cases hjs : j = s
    ·subst hjs
     rw [Array.setIfInBounds_comm _ _ his, getD_set_ne false his]; exact h
    ·rw [getD_set_ne false hjs, getD_set_ne false his]; rwa [getD_set_ne false hjs] at h)
   refine ⟨⟨h3.2.1.1, hC'⟩, ih (listed.setIfInBounds j true) a' w' hfree' (ready_mono hr (Ne.symm hji)) h3.1 (hcl.set hj) h3.2.1.1 hC' ?_⟩
   rw [Array.setIfInBounds_comm _ _ hji]
   exact h3.2.2
/-- Taken first under C: s waits for it. -/
theorem f_takeC {i d : Nat} {oi : Oper} {v : Value} {fuel : Nat} {listed : Array Bool} {l : List Value} {w : World} (p : List Nat) (hi : ops[i]? = some oi) (hd : oi.dst = some d) (hc : chainG md ops s p = true) (hil : p.contains i = true)
  (hsl : Region.noSelect ops = true) (hf : Region.free md ops listed i = true) (hr : (Region.ready md ops listed).contains i = true) (hcl : closedB md ops listed = true)
  (hQ : ∀ c a w, Q (.panic c) (a.put oi.dst v) w → Q (.panic c) a w) (his : i ≠ s) (hy : YieldsIf P ops C oi v ⟨l.toArray, []⟩) (hSC : S w ∧ C w)
  (h : AnyF P md ops Q S C s fuel (listed.setIfInBounds i true) ⟨(l.set d v).toArray, []⟩ w) : AnyF P md ops Q S C s (fuel + 1) listed ⟨l.toArray, []⟩ w := by
 refine f_first (D := C) hi (fun li w hcl hr _ hC => hC ?_) (Region.noSelect_spec hsl) hQ his fuel listed _ w (Region.free_spec hi hf) (by simpa using hr) hy (closed_of hcl) hSC.1 (fun _ => hSC.2) ?_
 ·rcases hb : li.getD s false
  ·rfl
  ·have h1 := chain_listed hcl p s hb hc i (by simpa using hil)
   have h0 := (mem_ready.1 hr).1
   rcases Nat.lt_or_ge i li.size with h' | h'
   ·simp [h'] at h0 h1; rw [h0] at h1; cases h1
   ·simp [Array.getElem?_eq_none h'] at h1
 ·rw [hd]
  simpa [Act.put] using h
/-- Taken first under S. -/
theorem f_takeS {i d : Nat} {oi : Oper} {v : Value} {fuel : Nat} {listed : Array Bool} {l : List Value} {w : World} (hi : ops[i]? = some oi) (hd : oi.dst = some d)
  (hsl : Region.noSelect ops = true) (hf : Region.free md ops listed i = true) (hr : (Region.ready md ops listed).contains i = true) (hcl : closedB md ops listed = true)
  (hQ : ∀ c a w, Q (.panic c) (a.put oi.dst v) w → Q (.panic c) a w) (his : i ≠ s) (hy : YieldsIf P ops S oi v ⟨l.toArray, []⟩) (hS : S w) (hC : listed.getD s false = false → C w)
  (h : AnyF P md ops Q S C s fuel (listed.setIfInBounds i true) ⟨(l.set d v).toArray, []⟩ w) : AnyF P md ops Q S C s (fuel + 1) listed ⟨l.toArray, []⟩ w := by
 refine f_first (D := S) hi (fun _ _ _ _ hS _ => hS) (Region.noSelect_spec hsl) hQ his fuel listed _ w (Region.free_spec hi hf) (by simpa using hr) hy (closed_of hcl) hS hC ?_
 rw [hd]
 simpa [Act.put] using h
/-- The only one that may come up, before number s. -/
theorem f_step {i : Nat} {o : Oper} {fuel : Nat} {listed : Array Bool} {a : Act} {w : World} (hr : Region.ready md ops listed = [i]) (ho : ops[i]? = some o)
  (h : ∀ K' : Act → World → Prop, Shut (∀ a w, S w ∧ C w → (S w ∧ C w → AnyF P md ops Q S C s fuel (listed.setIfInBounds i true) a w) → K' a w) → if Region.wanted o (yielded ops a.tmps) = true then Oper.wp P o a w K' Q else K' (a.put o.dst undef) w) :
  AnyF P md ops Q S C s (fuel + 1) listed a w := by
 refine ⟨fun h0 => (by rw [hr] at h0; cases h0), fun j hj => ?_⟩
 rw [hr, List.mem_singleton] at hj
 subst hj
 exact wpOp_step ho fun K' hK => h K' (fun a w hC hG => hK a w ⟨⟨hC.1, fun _ => hC.2⟩, hG hC⟩)
/-- The only one that may come up: number s, or one behind it. -/
theorem f_last {i : Nat} {o : Oper} {fuel : Nat} {listed : Array Bool} {a : Act} {w : World} (hr : Region.ready md ops listed = [i]) (ho : ops[i]? = some o) (hs : (listed.setIfInBounds i true).getD s false = true)
  (h : ∀ K' : Act → World → Prop, Shut (∀ a w, S w → (S w → AnyF P md ops Q S C s fuel (listed.setIfInBounds i true) a w) → K' a w) → if Region.wanted o (yielded ops a.tmps) = true then Oper.wp P o a w K' Q else K' (a.put o.dst undef) w) :
  AnyF P md ops Q S C s (fuel + 1) listed a w := by
 refine ⟨fun h0 => (by rw [hr] at h0; cases h0), fun j hj => ?_⟩
 rw [hr, List.mem_singleton] at hj
 subst hj
 exact wpOp_step ho fun K' hK => h K' (fun a w hS hG => hK a w ⟨⟨hS, fun h0 => by rw [hs] at h0; cases h0⟩, hG hS⟩)
theorem f_done {listed : Array Bool} {a : Act} {w : World} (hr : Region.ready md ops listed = []) (h : Q .normal a w) : ∀ fuel, AnyF P md ops Q S C s fuel listed a w
 | 0 => ⟨hr, h⟩
 | _ + 1 => ⟨fun _ => h, by rw [hr]; simp⟩
theorem region_F {id : Nat} {a : Act} {w : World} (S C : World → Prop) (s : Nat) (hm : P.follows .mixedOrders = true) (hC : S w.drew ∧ C w.drew)
  (h : S w.drew ∧ C w.drew → AnyF P .any ops Q S C s ops.size (Array.replicate ops.size false) a w.drew) : (Code.region id ops true).wp P Q a w :=
 wp_region_any hm (any_of_F _ _ _ _ (h hC))
end
section
variable {P : Program} {ops : Array Oper} {Q : Exit → Act → World → Prop} {md : Region.Mode} {S C : World → Prop} {s : Nat}
theorem tC (i d : Nat) {oi : Oper} {v : Value} {fuel : Nat} {listed : Array Bool} {l l' : List Value} {w : World} (p : List Nat)
  (h : AnyF P md ops Q S C s fuel (listed.setIfInBounds i true) ⟨l'.toArray, []⟩ w) (hSC : S w ∧ C w) (hi : ops[i]? = some oi := by rfl) (hd : oi.dst = some d := by rfl)
  (hy : YieldsIf P ops C oi v ⟨l.toArray, []⟩ := by exact Or.inl ⟨by rfl, by intro w_ hSw; (try dsimp only at hSw); go_simp; (try with_reducible rfl)⟩) (hl : l.set d v = l' := by simp only [List.set_cons_zero, List.set_cons_succ]; rfl) (hc : chainG md ops s p = true := by kernel_rfl) (hil : p.contains i = true := by kernel_rfl)
  (hsl : Region.noSelect ops = true := by kernel_rfl) (hf : Region.free md ops listed i = true := by kernel_rfl) (hr : (Region.ready md ops listed).contains i = true := by kernel_rfl) (hcl : closedB md ops listed = true := by kernel_rfl)
  (hQ : ∀ c a w, Q (.panic c) (a.put oi.dst v) w → Q (.panic c) a w := by exact fun _ _ _ h => h) (his : i ≠ s := by decide) : AnyF P md ops Q S C s (fuel + 1) listed ⟨l.toArray, []⟩ w := f_takeC p hi hd hc hil hsl hf hr hcl hQ his hy hSC (hl ▸ h)
theorem tS (i d : Nat) {oi : Oper} {v : Value} {fuel : Nat} {listed : Array Bool} {l l' : List Value} {w : World}
  (h : AnyF P md ops Q S C s fuel (listed.setIfInBounds i true) ⟨l'.toArray, []⟩ w) (hS : S w) (hC : listed.getD s false = false → C w) (hi : ops[i]? = some oi := by rfl) (hd : oi.dst = some d := by rfl)
  (hy : YieldsIf P ops S oi v ⟨l.toArray, []⟩ := by exact Or.inl ⟨by rfl, by intro w_ hSw; (try dsimp only at hSw); go_simp; (try with_reducible rfl)⟩) (hl : l.set d v = l' := by simp only [List.set_cons_zero, List.set_cons_succ]; rfl)
  (hsl : Region.noSelect ops = true := by kernel_rfl) (hf : Region.free md ops listed i = true := by kernel_rfl) (hr : (Region.ready md ops listed).contains i = true := by kernel_rfl) (hcl : closedB md ops listed = true := by kernel_rfl)
  (hQ : ∀ c a w, Q (.panic c) (a.put oi.dst v) w → Q (.panic c) a w := by exact fun _ _ _ h => h) (his : i ≠ s := by decide) : AnyF P md ops Q S C s (fuel + 1) listed ⟨l.toArray, []⟩ w := f_takeS hi hd hsl hf hr hcl hQ his hy hS hC (hl ▸ h)
end
end Go.Proofs.YtcjpalhclgkjiaaDoor
