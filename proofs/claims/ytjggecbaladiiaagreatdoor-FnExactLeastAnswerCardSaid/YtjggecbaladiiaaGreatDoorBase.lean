/- Small words for the walks of this claim: a world that has only grown, slices that read as lists, and numbers in a range.
   Conditions: none. -/
import Derived.Test.YtjggecbaladiiaaGreatDoorRows
import Derived.WalkKit
import Derived.WalkLawsBesides
import Derived.WalkSpells
import Derived.ProofKit
import Derived.OpenShut
import Derived.BigQuiet
import Derived.Deep.QuietTactic
import Derived.Deep.AppendLies
import Derived.Deep.Draws
import Derived.Deep.RegionHeld3
import Derived.Deep.RegionWith
import Derived.Deep.RegionLaw
import Derived.StillTailTactics
import Derived.Maps.AppendAt
import Derived.Lib.Hide
import Derived.PlainAid
import Derived.Handy
namespace Go.Proofs.YtjggecbaladiiaaGreatDoor
open Go.RowKit
/-- The world w is W with more blocks; nothing of W has turned. -/
def Bl (W w : World) : Prop := Below W.heap.size W w
theorem Bl.refl (w : World) : Bl w w := Below.refl _ _
theorem Bl.alloc {W w : World} (h : Bl W w) (o : Obj) : Bl W (w.alloc o) := Below.alloc h h.size o
theorem Bl.drew {W w : World} (h : Bl W w) : Bl W w.drew := Below.drew h
theorem Bl.drewN {W w : World} (h : Bl W w) (n : Nat) : Bl W (w.drewN n) := ⟨h.os, h.tape, h.output, h.size, h.block⟩
theorem Bl.call {W w w1 : World} (h : Bl W w) (k : Bl w w1) : Bl W w1 := Below.trans h (Below.mono k h.size)
theorem Bl.setCell {W w : World} (h : Bl W w) {p : Addr} (hp : W.heap.size ≤ p.block) (u : Value) : Bl W (w.setCell p u) := Below.setCell h hp u
theorem Bl.grown {W w w' : World} {row : Option Nat} (h : Bl W w) (hg : w.grownBy w' row) (hr : ∀ k, row = some k → W.heap.size ≤ k) : Bl W w' :=
  Below.grown h hg h.size hr
theorem Bl.sz {W w : World} (h : Bl W w) : W.heap.size ≤ w.heap.size := h.size
theorem Bl.cell0 {W w : World} (h : Bl W w) : ∀ b o, b < W.heap.size → w.cell? ⟨b, o, none⟩ = W.cell? ⟨b, o, none⟩ := fun b o hb => Below.cell (p := ⟨b, o, none⟩) h hb
theorem Bl.froz0 {W w : World} (h : Bl W w) : ∀ b o, b < W.heap.size → w.frozen? ⟨b, o, none⟩ = W.frozen? ⟨b, o, none⟩ := fun b o hb => Below.frozen (p := ⟨b, o, none⟩) h hb
theorem Bl.cells {W w : World} (h : Bl W w) {p : Addr} {v : Value} (hc : W.cell? p = some v) : w.cell? p = some v := by
  rw [Below.cell h (World.block_lt_of_cell? W p hc)]; exact hc
theorem bcell {W w1 : World} (hb : Bl W w1) : (∀ b o, b < W.heap.size → w1.cell? ⟨b, o, none⟩ = W.cell? ⟨b, o, none⟩) ∧ (∀ b o, b < W.heap.size → w1.frozen? ⟨b, o, none⟩ = W.frozen? ⟨b, o, none⟩) ∧ W.heap.size ≤ w1.heap.size :=
  ⟨hb.cell0, hb.froz0, hb.size⟩
/-- Block g of w is just these cells of type t, none frozen. -/
def Blk (w : World) (g : Nat) (t : TypeId) (cs : Array Value) : Prop := w.heap[g]? = some (.cells cs t (0, 0))
section
variable {w w' : World} {g : Nat} {t : TypeId} {cs : Array Value}
theorem Blk.lt (h : Blk w g t cs) : g < w.heap.size := (Array.getElem?_eq_some_iff.1 h).1
theorem Blk.cell (h : Blk w g t cs) (i : Nat) (u : Value) (hu : cs[i]? = some u) : w.cell? ⟨g, i, none⟩ = some u := by
  rw [cell_of_row w g i cs t (0, 0) h]; exact hu
theorem Blk.frozen (h : Blk w g t cs) : ∀ i, w.frozen? ⟨g, i, none⟩ = false := by
  intro i
  unfold Blk at h
  simp [World.frozen?, h]
theorem Blk.new (w : World) (t : TypeId) (cs : Array Value) {g : Nat} (hg : w.heap.size = g := by first | with_reducible rfl | simp) : Blk (w.alloc (.cells cs t)) g t cs := by
  subst hg; exact heap_alloc_new w _
theorem Blk.drew (h : Blk w g t cs) : Blk w.drew g t cs := h
theorem Blk.drewN (h : Blk w g t cs) (n : Nat) : Blk (w.drewN n) g t cs := h
theorem Blk.alloc (h : Blk w g t cs) (o : Obj) : Blk (w.alloc o) g t cs := (Below.heap_alloc w o g h.lt).trans h
theorem Blk.set_ (h : Blk w g t cs) (i : Nat) (u : Value) : Blk (w.setCell ⟨g, i, none⟩ u) g t (cs.setIfInBounds i u) := by
  unfold Blk at h ⊢
  simp [World.setCell, Array.getElem?_modify, h]
theorem Blk.far (h : Blk w g t cs) {p : Addr} (hp : g ≠ p.block) (u : Value) : Blk (w.setCell p u) g t cs := (Below.heap_setCell w p u g hp).trans h
theorem Blk.keep (h : Blk w g t cs) (hb : Bl w w') : Blk w' g t cs := (hb.block g h.lt).trans h
theorem Blk.grown {row : Option Nat} (h : Blk w g t cs) (hb : w.grownBy w' row) (hg : some g ≠ row) : Blk w' g t cs := (hb.block g h.lt hg).trans h
end
section
variable {P : Program} {ops : Array Oper} {Q : Exit → Act → World → Prop} {md : Region.Mode} {S : World → Prop}
/-- One operation of a drawn region is taken first: its slot is written. -/
theorem held_take {i d : Nat} {oi : Oper} {v : Value} {fuel : Nat} {listed : Array Bool} {l : List Value} {w : World} (hi : ops[i]? = some oi) (hd : oi.dst = some d)
    (hs : Region.noSelect ops = true) (hf : Region.free md ops listed i = true) (hr : (Region.ready md ops listed).contains i = true)
    (hQ : ∀ c a w, Q (.panic c) (a.put oi.dst v) w → Q (.panic c) a w) (hy : YieldsIf P ops S oi v ⟨l.toArray, []⟩) (hS : S w)
    (h : wpAnyH P md ops Q S fuel (listed.setIfInBounds i true) ⟨(l.set d v).toArray, []⟩ w) : wpAnyH P md ops Q S (fuel + 1) listed ⟨l.toArray, []⟩ w := by
  refine wpAnyH_take hi hs hf hr hQ hy hS ?_
  rw [hd]
  simpa [Act.put] using h
end
/-- A number in a range, as a Bool of its own. -/
def inR (n lo hi : Int) : Bool := decide (lo ≤ n ∧ n ≤ hi)
theorem inR_iff {n lo hi : Int} : inR n lo hi = true ↔ lo ≤ n ∧ n ≤ hi := by simp [inR]
theorem inR_not {n lo hi : Int} : inR n lo hi = false ↔ ¬ (lo ≤ n ∧ n ≤ hi) := by simp only [inR, decide_eq_false_iff_not]
theorem ret_int {k : IntKind} {a b : Int} (h : a = b) : Ending.returned (.int k a) = .returned (.int k b) := by rw [h]
theorem ret_bool {a b : Bool} (h : a = b) : Ending.returned (.bool a) = .returned (.bool b) := by rw [h]
theorem block_of_add (a : Addr) (n : Nat) : (a.add n).block = a.block := by unfold Addr.add; split <;> rfl
theorem add_of_add (a : Addr) (i j : Nat) : (a.add i).add j = a.add (i + j) := by
  unfold Addr.add
  by_cases hi : i = 0 <;> by_cases hj : j = 0 <;> simp [hi, hj, Nat.add_assoc]
/-- The slice at A with n elements of 'size' cells reads as the cells xs; c is its capacity. -/
structure Rd (w : World) (size : Nat) (A : Option Addr) (n c : Nat) (xs : List Value) : Prop where
  len : xs.length = n * size
  cap : n ≤ c
  max : c ≤ maxLen
  at0 : 0 < n → ∃ ad, A = some ad ∧ ad.block < w.heap.size ∧ ∀ j u, xs[j]? = some u → w.cell? (ad.add j) = some u
section
variable {w w' : World} {size n c : Nat} {A : Option Addr} {xs : List Value}
theorem Rd.nil (w : World) (size : Nat) : Rd w size none 0 0 [] := ⟨by simp, by simp, by simp, fun h => absurd h (by omega)⟩
theorem Rd.keep (h : Rd w size A n c xs) (hb : Bl w w') : Rd w' size A n c xs :=
  ⟨h.len, h.cap, h.max, fun hn => by
    obtain ⟨ad, e, hl, hc⟩ := h.at0 hn
    exact ⟨ad, e, Nat.lt_of_lt_of_le hl hb.size, fun j u hu => hb.cells (hc j u hu)⟩⟩
theorem Rd.of_own {base : Nat} {e : TypeId} (h : w.ownsRow base e size (.slice A n c) n xs) : Rd w size A n c xs := by
  refine ⟨h.1, ?_, ?_, fun hn => ?_⟩
  · rcases h.2 with ⟨hv, hn⟩ | ⟨g, cap, cur, hv, _, _, hc, hm, _⟩
    · omega
    · injection hv with _ _ h3; omega
  · rcases h.2 with ⟨hv, hn⟩ | ⟨g, cap, cur, hv, _, _, hc, hm, _⟩
    · injection hv with _ _ h3; omega
    · injection hv with _ _ h3; omega
  · rcases h.2 with ⟨hv, h0⟩ | ⟨g, cap, cur, hv, _, hg, hc, hm, _⟩
    · omega
    · injection hv with h1 h2 h3
      subst h1
      refine ⟨_, rfl, (Array.getElem?_eq_some_iff.1 hg).1, h.cells (g := g) rfl⟩
theorem Rd.cut (h : Rd w size A n c xs) {k : Nat} (hk : k ≤ n) :
    Rd w size (if c = k then A else A.map (·.add (k * size))) (n - k) (c - k) (xs.drop (k * size)) := by
  refine ⟨by rw [List.length_drop, h.len, Nat.sub_mul], by have := h.cap; omega, by have := h.max; omega, fun hn => ?_⟩
  obtain ⟨ad, rfl, hb, hcell⟩ := h.at0 (by omega)
  rw [if_neg (by have := h.cap; omega)]
  refine ⟨ad.add (k * size), rfl, by rw [block_of_add]; exact hb, fun j u hu => ?_⟩
  rw [add_of_add]
  exact hcell _ u (by rw [← hu, List.getElem?_drop])
theorem Rd.take (h : Rd w size A n c xs) {k : Nat} (hk : k ≤ n) : Rd w size A k c (xs.take (k * size)) := by
  refine ⟨by rw [List.length_take, h.len]; exact Nat.min_eq_left (Nat.mul_le_mul_right _ hk), by have := h.cap; omega, h.max, fun hn => ?_⟩
  obtain ⟨ad, rfl, hb, hcell⟩ := h.at0 (by omega)
  refine ⟨ad, rfl, hb, fun j u hu => hcell j u ?_⟩
  rw [List.getElem?_take] at hu
  split at hu
  · exact hu
  · cases hu
end
/-- Numbers as cells. -/
def ints (l : List Int) : List Value := l.map (Value.int .i64)
@[simp] theorem ints_length (l : List Int) : (ints l).length = l.length := by simp [ints]
theorem ints_append (a b : List Int) : ints (a ++ b) = ints a ++ ints b := by simp [ints]
theorem ints_get (l : List Int) (j : Nat) : (ints l)[j]? = l[j]?.map (Value.int .i64) := by simp [ints]
theorem ints_one (l : List Int) : ∀ u ∈ ints l, u.oneCell' = true := by simp [ints, Value.oneCell']
theorem ownBlock_slice (A : Option Addr) (n c : Nat) : Value.ownBlock (.slice A n c) = A.map (·.block) := by cases A <;> rfl
/-- A slice of numbers reads as the list l. -/
def RdI (w : World) (A : Option Addr) (n c : Nat) (l : List Int) : Prop := Rd w 1 A n c (ints l)
/-- A slice of numbers that lies in a block of its own, from block 'base' on, and reads as the list l. -/
def OwnI (base : Nat) (w : World) (A : Option Addr) (n c : Nat) (l : List Int) : Prop := w.ownsRow base 3 1 (.slice A n c) n (ints l)
section
variable {w w' : World} {base n c : Nat} {A : Option Addr} {l : List Int}
theorem RdI.length (h : RdI w A n c l) : l.length = n := by have := h.len; simpa using this
theorem RdI.at_ (h : RdI w A n c l) {k : Nat} (hk : k < n) :
    ∃ ad v, A = some ad ∧ ad.block < w.heap.size ∧ l[k]? = some v ∧ w.cell? (ad.add k) = some (.int .i64 v) := by
  obtain ⟨ad, e, hb, hc⟩ := h.at0 (by omega)
  have hl : k < l.length := by rw [h.length]; exact hk
  exact ⟨ad, l[k], e, hb, List.getElem?_eq_getElem hl, hc k _ (by rw [ints_get, List.getElem?_eq_getElem hl]; rfl)⟩
theorem RdI.nil (w : World) : RdI w none 0 0 [] := Rd.nil w 1
theorem RdI.keep (h : RdI w A n c l) (hb : Bl w w') : RdI w' A n c l := Rd.keep h hb
theorem RdI.le (h : RdI w A n c l) : n ≤ c ∧ c ≤ 9223372036854775807 := ⟨h.cap, by have := h.max; unfold maxLen at this; exact this⟩
theorem OwnI.rd (h : OwnI base w A n c l) : RdI w A n c l := Rd.of_own h
theorem OwnI.length (h : OwnI base w A n c l) : l.length = n := h.rd.length
theorem OwnI.nil (base : Nat) (w : World) : OwnI base w none 0 0 [] := World.ownsRow_nil w base _ 1
theorem OwnI.alloc (h : OwnI base w A n c l) (o : Obj) : OwnI base (w.alloc o) A n c l := World.ownsRow.alloc h o
theorem OwnI.keep (h : OwnI base w A n c l) (hb : Bl w w') : OwnI base w' A n c l :=
  World.ownsRow.kept (row := none) h ⟨hb.os, hb.tape, hb.output, hb.size, fun k hk _ => hb.block k hk⟩ (by cases hv : Value.ownBlock (.slice A n c) <;> simp)
theorem OwnI.mono {base' : Nat} (h : OwnI base w A n c l) (hb : base' ≤ base) : OwnI base' w A n c l := by
  refine ⟨h.1, ?_⟩
  rcases h.2 with h | ⟨g, cap, cur, h1, h2, h3⟩
  · exact .inl h
  · exact .inr ⟨g, cap, cur, h1, by omega, h3⟩
theorem OwnI.blk (h : OwnI base w A n c l) : ∀ k, A.map (·.block) = some k → base ≤ k ∧ k < w.heap.size := by
  intro k hk
  exact World.ownsRow.lt h k (by rw [ownBlock_slice]; exact hk)
theorem own_made (w : World) {g : Nat} (hg : w.heap.size = g := by first | with_reducible rfl | simp) : OwnI w.heap.size (w.alloc (.cells #[] 3)) (some ⟨g, 0, none⟩) 0 0 [] := by
  subst hg
  exact World.ownsRow_made (size := 1) w #[] 0 (Nat.le_refl _) (by simp) (by simp)
theorem rd_new (w : World) (cur : Array Value) (e : TypeId) (hm : cur.size ≤ maxLen) {g : Nat} (hg : w.heap.size = g) : Rd (w.alloc (.cells cur e)) 1 (some ⟨g, 0, none⟩) cur.size cur.size cur.toList := by
  subst hg
  refine ⟨by simp, Nat.le_refl _, hm, fun _ => ⟨_, rfl, by simp, fun j u hu => ?_⟩⟩
  have hadd : (⟨w.heap.size, 0, none⟩ : Addr).add j = ⟨w.heap.size, j, none⟩ := by unfold Addr.add; split <;> simp_all
  rw [hadd, cell_of_row _ w.heap.size j cur e (0, 0) (heap_alloc_new w _)]
  simpa using hu
theorem rd_new1 (w : World) (e : TypeId) (a : Int) {g : Nat} (hg : w.heap.size = g := by first | with_reducible rfl | simp) : RdI (w.alloc (.cells #[.int .i64 a] e)) (some ⟨g, 0, none⟩) 1 1 [a] := rd_new w #[.int .i64 a] e (by simp [maxLen]) hg
theorem rd_new2 (w : World) (e : TypeId) (a b : Int) {g : Nat} (hg : w.heap.size = g := by first | with_reducible rfl | simp) : RdI (w.alloc (.cells #[.int .i64 a, .int .i64 b] e)) (some ⟨g, 0, none⟩) 2 2 [a, b] := rd_new w #[.int .i64 a, .int .i64 b] e (by simp [maxLen]) hg
theorem rd_new3 (w : World) (e : TypeId) (a b d : Int) {g : Nat} (hg : w.heap.size = g := by first | with_reducible rfl | simp) : RdI (w.alloc (.cells #[.int .i64 a, .int .i64 b, .int .i64 d] e)) (some ⟨g, 0, none⟩) 3 3 [a, b, d] := rd_new w #[.int .i64 a, .int .i64 b, .int .i64 d] e (by simp [maxLen]) hg
theorem rd_new4 (w : World) (e : TypeId) (a b d f : Int) {g : Nat} (hg : w.heap.size = g := by first | with_reducible rfl | simp) : RdI (w.alloc (.cells #[.int .i64 a, .int .i64 b, .int .i64 d, .int .i64 f] e)) (some ⟨g, 0, none⟩) 4 4 [a, b, d, f] := rd_new w #[.int .i64 a, .int .i64 b, .int .i64 d, .int .i64 f] e (by simp [maxLen]) hg
end
theorem tmod_fix (a m : Int) : (a.tmod m + m) % m = a % m := by
  rw [Int.add_emod_right, Int.tmod_def, Int.sub_mul_emod_self_left]
/-- What int64 can hold. -/
def Fit (n : Int) : Prop := -9223372036854775808 ≤ n ∧ n ≤ 9223372036854775807
theorem int_info : (Tryz.prog.info? 3).map (fun i => (i.zero, i.size, i.bytes)) = some (some (.int .i64 0), 1, 8) := by kernel_rfl
theorem run_append_of_nil {P : Program} (w : World) (base : Nat) (t ty e : TypeId) (i : TypeInfo) (size : Nat) (ht : P.underlying t = some (.slice e)) (hi : P.info? e = some i)
    (v : Value) (n : Nat) (xs : List Value) (hown : w.ownsRow base e size v n xs) (c : Nat) : (Builtin.append_ #[t, t] ty #[v, .slice none 0 c]).run P w = .ok v w := by
  rcases hown.2 with ⟨rfl, rfl⟩ | ⟨g, cap, cur, rfl, _, _, hnc, _⟩
  · simp [Builtin.append_, run_underlying ht, sizeOf, typeInfo, hi, Builtin.lenOf, Builtin.firstCells]
  · simp [Builtin.append_, run_underlying ht, sizeOf, typeInfo, hi, Builtin.lenOf, Builtin.firstCells, hnc, storeCells]
/-- append onto a row of the call's own, whatever the source. -/
theorem run_append_any {P : Program} (w : World) (base : Nat) (t ty e : TypeId) (i : TypeInfo) (z : Value) (size bytes : Nat) (ht : P.underlying t = some (.slice e)) (hi : P.info? e = some i) (hz : i.zero = some z)
    (hsize : i.size = size) (hby : i.bytes = bytes) (hzs : z.cells.size = size) (hsz : 0 < size)
    (v : Value) (n : Nat) (xs : List Value) (hown : w.ownsRow base e size v n xs)
    (A : Option Addr) (m c : Nat) (news : List Value) (hr : Rd w size A m c news) (h1 : ∀ u ∈ news, u.oneCell' = true)
    (h63 : n + m ≤ maxLen) (hbytes : (n + m) * bytes ≤ 140737488355328) (hbase : base ≤ w.heap.size) :
    ∃ A' c' w', (Builtin.append_ #[t, t] ty #[v, .slice A m c]).run P w = .ok (.slice A' (n + m) c') w' ∧ w'.ownsRow base e size (.slice A' (n + m) c') (n + m) (xs ++ news) ∧ w.grownBy w' v.ownBlock ∧
      (A'.map (·.block) = v.ownBlock ∨ A'.map (·.block) = some w.heap.size) := by
  have key : ∃ v' w', (Builtin.append_ #[t, t] ty #[v, .slice A m c]).run P w = .ok v' w' ∧ w'.ownsRow base e size v' (n + m) (xs ++ news) ∧ w.grownBy w' v.ownBlock ∧
      (v'.ownBlock = v.ownBlock ∨ v'.ownBlock = some w.heap.size) := by
    rcases A with _ | ad
    · have hm : m = 0 := by
        rcases Nat.eq_zero_or_pos m with h0 | h0
        · exact h0
        · obtain ⟨ad, h, _⟩ := hr.at0 h0
          cases h
      subst hm
      have hn : news = [] := List.eq_nil_of_length_eq_zero (by simpa using hr.len)
      subst hn
      exact ⟨v, w, run_append_of_nil w base t ty e i size ht hi v n xs hown c, by simpa using hown, World.grownBy.refl w _, .inl rfl⟩
    · have hcells : ∀ j u, news[j]? = some u → w.cell? (ad.add j) = some u := by
        intro j u hu
        rcases Nat.eq_zero_or_pos m with h0 | h0
        · subst h0
          have hn : news = [] := List.eq_nil_of_length_eq_zero (by simpa using hr.len)
          subst hn
          simp at hu
        · obtain ⟨ad', h, _, hc⟩ := hr.at0 h0
          injection h with h
          subst h
          exact hc j u hu
      obtain ⟨v', w', hrun, h2, h3, _, h5⟩ := run_append_own_at (P := P) w base t ty e i z size bytes ht hi hz hsize hby hzs hsz v n xs hown ad m c news hr.len hcells h1 h63 hbytes hbase
      exact ⟨v', w', hrun, h2, h3, h5⟩
  obtain ⟨v', w', hrun, h2, h3, h4⟩ := key
  have hv : ∃ A' c', v' = .slice A' (n + m) c' := by
    rcases h2.2 with ⟨hv, h0⟩ | ⟨g, cap, cur, hv, _⟩
    · exact ⟨none, 0, by rw [hv, h0]⟩
    · exact ⟨_, _, hv⟩
  obtain ⟨A', c', rfl⟩ := hv
  refine ⟨A', c', w', hrun, h2, h3, ?_⟩
  cases A' <;> simpa [Value.ownBlock] using h4
section
variable {ops : Array Oper} {rest : List Oper} {o : Oper} {a : Act} {Q : Exit → Act → World → Prop} {w : World}
/-- append of numbers onto a row of the call's own, as a step of the walk. -/
theorem ap_int (hgd : o.guard = none) {s x : Operand} (ho : o.op = .call { callee := .builtin .append, args := #[s, x], argTypes := #[27, 27] })
    {base n c m d : Nat} {A B : Option Addr} {l l' : List Int} (hs : a.eval s = .slice A n c) (hown : OwnI base w A n c l) (hx : a.eval x = .slice B m d) (hr : RdI w B m d l')
    (hb : n + m ≤ 17592186044415) (hbase : base ≤ w.heap.size)
    (h : ∀ A' c' w', OwnI base w' A' (n + m) c' (l ++ l') → w.grownBy w' (A.map (·.block)) → (A'.map (·.block) = A.map (·.block) ∨ A'.map (·.block) = some w.heap.size) →
      wpList Tryz.prog ops Q rest (a.put o.dst (.slice A' (n + m) c')) w') : wpList Tryz.prog ops Q (o :: rest) a w := by
  obtain ⟨i0, hi, hz0, hz1, hz2⟩ := info_parts int_info
  obtain ⟨A', c', w', hrun, h2, h3, h4⟩ := run_append_any (P := Tryz.prog) w base 27 o.type 3 i0 _ 1 8 Tryz.underlying27 hi hz0 hz1 hz2 rfl (by decide)
    (.slice A n c) n (ints l) hown B m d (ints l') hr (ints_one l') (by simp only [maxLen]; omega) (by omega) hbase
  rw [ownBlock_slice] at h3 h4
  refine wpList_plain hgd fun K hK => ?_
  unfold Oper.wp execOp
  simp only [ho, resolve, invoke, builtin, Sem.run_bind, Sem.run_pure, Result.andThen_ok, List.map_toArray, List.map_cons, List.map_nil, hs, hx, hrun]
  refine hK _ _ (h A' c' w' ?_ h3 h4)
  unfold OwnI
  rw [ints_append]
  exact h2
end
end Go.Proofs.YtjggecbaladiiaaGreatDoor
