/- A world in which only some blocks have turned; headers of messages.
   Conditions: none. -/
import Derived.Test.YtcjpalhclgkjiaaDoorPiy
namespace Go.Proofs.YtcjpalhclgkjiaaDoor
open Go.RowKit
set_option linter.unusedVariables false
/-- From W to w only blocks of P have turned, and new ones have come. -/
structure Gp (P : Nat → Prop) (W w : World) : Prop where
 os : w.os = W.os
 tape : w.tape = W.tape
 output : w.output = W.output
 size : W.heap.size ≤ w.heap.size
 block : ∀ k, k < W.heap.size → ¬ P k → w.heap[k]? = W.heap[k]?
section
variable {P : Nat → Prop} {W w w' : World}
theorem Gp.refl (P : Nat → Prop) (w : World) : Gp P w w := ⟨rfl, rfl, rfl, Nat.le_refl _, fun _ _ _ => rfl⟩
theorem Gp.trans (h : Gp P W w) (k : Gp P w w') : Gp P W w' :=
 ⟨k.os.trans h.os, k.tape.trans h.tape, k.output.trans h.output, Nat.le_trans h.size k.size, fun b hb hn => (k.block b (Nat.lt_of_lt_of_le hb h.size) hn).trans (h.block b hb hn)⟩
theorem Gp.of_bl (h : Bl W w) : Gp P W w := ⟨h.os, h.tape, h.output, h.size, fun b hb _ => h.block b hb⟩
theorem Gp.call (h : Gp P W w) (k : Bl w w') : Gp P W w' := h.trans (Gp.of_bl k)
theorem Gp.drew (h : Gp P W w) : Gp P W w.drew := h.call (Bl.refl w).drew
theorem Gp.alloc (h : Gp P W w) (o : Obj) : Gp P W (w.alloc o) := h.call ((Bl.refl w).alloc o)
theorem Gp.of_grown {row : Option Nat} (hg : w.grownBy w' row) (hr : ∀ k, row = some k → P k) : Gp P w w' :=
 ⟨hg.os, hg.tape, hg.output, hg.size, fun b hb hn => hg.block b hb (fun e => hn (hr b e.symm))⟩
theorem Gp.grown {row : Option Nat} (h : Gp P W w) (hg : w.grownBy w' row) (hr : ∀ k, row = some k → P k ∨ W.heap.size ≤ k) : Gp P W w' :=
 ⟨hg.os.trans h.os, hg.tape.trans h.tape, hg.output.trans h.output, Nat.le_trans h.size hg.size, fun b hb hn => (hg.block b (Nat.lt_of_lt_of_le hb h.size) (fun e => by
  rcases hr b e.symm with h1 | h1
  ·exact hn h1
  ·omega)).trans (h.block b hb hn)⟩
theorem Gp.mono {Q : Nat → Prop} (h : Gp P W w) (hq : ∀ b, P b → Q b) : Gp Q W w := ⟨h.os, h.tape, h.output, h.size, fun b hb hn => h.block b hb (fun e => hn (hq b e))⟩
theorem Bl.gp (h : Bl W w) (hg : Gp P w w') (hp : ∀ b, P b → W.heap.size ≤ b) : Bl W w' :=
 ⟨hg.os.trans h.os, hg.tape.trans h.tape, hg.output.trans h.output, Nat.le_trans h.size hg.size, fun b hb => (hg.block b (Nat.lt_of_lt_of_le hb h.size) (fun e => by have := hp b e; omega)).trans (h.block b hb)⟩
theorem Blk.gp {g : Nat} {t : TypeId} {cs : Array Value} (h : Blk w g t cs) (hg : Gp P w w') (hn : ¬ P g) : Blk w' g t cs := (hg.block g h.lt hn).trans h
theorem Rd.gp {size n c : Nat} {A : Option Addr} {xs : List Value} (h : Rd w size A n c xs) (hg : Gp P w w') (hA : ∀ k, A.map (·.block) = some k → ¬ P k) : Rd w' size A n c xs :=
 ⟨h.len, h.cap, h.max, fun hn => by
  obtain ⟨ad, rfl, hl, hc⟩ := h.at0 hn
  refine ⟨ad, rfl, Nat.lt_of_lt_of_le hl hg.size, fun j u hu => ?_⟩
  have e : w'.cell? (ad.add j) = w.cell? (ad.add j) := World.cell?_of_block (by rw [block_of_add]; exact hg.block _ hl (hA _ rfl))
  rw [e]
  exact hc j u hu⟩
theorem OwnV.gp {e size base n c : Nat} {A : Option Addr} {xs : List Value} (h : OwnV e size base w A n c xs) (hg : Gp P w w') (hA : ∀ k, A.map (·.block) = some k → ¬ P k) : OwnV e size base w' A n c xs := by
 refine ⟨h.1, ?_⟩
 rcases h.2 with h | ⟨g, cap, cur, hv, h2, hh, h3⟩
 ·exact .inl h
 ·refine .inr ⟨g, cap, cur, hv, h2, ?_, h3⟩
  injection hv with h1 h4 h5
  rw [hg.block g (Array.getElem?_eq_some_iff.1 hh).1 (hA g (by rw [h1]; rfl))]
  exact hh
theorem OwnI.gp {base n c : Nat} {A : Option Addr} {l : List Int} (h : OwnI base w A n c l) (hg : Gp P w w') (hA : ∀ k, A.map (·.block) = some k → ¬ P k) : OwnI base w' A n c l := OwnV.gp (e := 3) h hg hA
theorem OwnTg.gp {base n c : Nat} {A : Option Addr} {l : List Tg} (h : OwnTg base w A n c l) (hg : Gp P w w') (hA : ∀ k, A.map (·.block) = some k → ¬ P k) : OwnTg base w' A n c l := ⟨h.1.gp hg hA, h.2⟩
theorem OwnMd.gp {base n c : Nat} {A : Option Addr} {l : List Md} (h : OwnMd base w A n c l) (hg : Gp P w w') (hA : ∀ k, A.map (·.block) = some k → ¬ P k) : OwnMd base w' A n c l := ⟨h.1.gp hg hA, h.2⟩
theorem OwnSS.gp {base n c : Nat} {A : Option Addr} {hs : List Hd} {LL : List (List Int)} (h : OwnSS base w A n c hs LL) (hg : Gp P w w') (hA : ∀ k, A.map (·.block) = some k → ¬ P k) (hR : ∀ (i : Nat) (x : Hd), hs[i]? = some x → ∀ k, x.blk = some k → ¬ P k) : OwnSS base w' A n c hs LL :=
 ⟨h.hd.gp hg hA, h.len, fun i x l h1 h2 => (h.row i x l h1 h2).gp hg (hR i x h1), h.apA, h.apR⟩
end
/-- All of a player's blocks lie below N. -/
structure UnderP (N : Nat) (As Ak Ah : Option Addr) (hs : List Hd) : Prop where
 s : ∀ k, As.map (·.block) = some k → k < N
 k : ∀ k, Ak.map (·.block) = some k → k < N
 h : UnderSS N Ah hs
section
variable {P : Nat → Prop} {w w' : World} {base T N : Nat} {a : Pl} {As Ak Ah : Option Addr} {ns cs nk ck nh ch : Nat} {hs : List Hd}
theorem OwnP.under (h : OwnP base T w a As Ak Ah ns cs nk ck nh ch hs) : UnderP w.heap.size As Ak Ah hs := ⟨fun k hk => (h.sh.blk k hk).2, fun k hk => (h.ks.blk k hk).2, h.hd.under⟩
theorem UnderP.mono {N' : Nat} (h : UnderP N As Ak Ah hs) (hn : N ≤ N') : UnderP N' As Ak Ah hs :=
 ⟨fun k hk => Nat.lt_of_lt_of_le (h.s k hk) hn, fun k hk => Nat.lt_of_lt_of_le (h.k k hk) hn, fun k hk => Nat.lt_of_lt_of_le (h.h.1 k hk) hn, fun i x hx k hk => Nat.lt_of_lt_of_le (h.h.2 i x hx k hk) hn⟩
theorem OwnP.gp (h : OwnP base T w a As Ak Ah ns cs nk ck nh ch hs) (hu : UnderP N As Ak Ah hs) (hg : Gp P w w') (hp : ∀ b, P b → b < base ∨ N ≤ b) : OwnP base T w' a As Ak Ah ns cs nk ck nh ch hs := by
 have hb := h.bT
 exact ⟨h.sh.gp hg (fun k hk e => by have := (h.sh.blk k hk).1; have := hu.s k hk; rcases hp k e with h1 | h1 <;> omega),
  h.ks.gp hg (fun k hk e => by have := (h.ks.blk k hk).1; have := hu.k k hk; rcases hp k e with h1 | h1 <;> omega),
  h.hd.gp hg (fun k hk e => by have := h.hd.above.1 k hk; have := hu.h.1 k hk; rcases hp k e with h1 | h1 <;> omega) (fun i x hx k hk e => by have := h.hd.above.2 i x hx k hk; have := hu.h.2 i x hx k hk; rcases hp k e with h1 | h1 <;> omega),
  h.bT, h.ls, h.lk, h.lsk, Nat.le_trans h.hT hg.size⟩
end
/-- The header of a message in memory. -/
structure Hm where
 f : Int
 s : Int
 A : Option Addr
 n : Nat
 c : Nat
def Hm.enc (h : Hm) : List Value := [.int .i64 h.f, .int .i64 h.s, .slice h.A h.n h.c]
def Hm.val (h : Hm) : Value := .agg #[.int .i64 h.f, .int .i64 h.s, .slice h.A h.n h.c]
theorem Hm.enc_len (h : Hm) : h.enc.length = 3 := rfl
def Hm.zero : Hm := ⟨0, 0, none, 0, 0⟩
def Hm.blk (h : Hm) : Option Nat := h.A.map (·.block)
/-- A header reads as a message. -/
structure RdM (w : World) (h : Hm) (m : Ms) : Prop where
 f : h.f = m.f
 s : h.s = m.s
 b : RdI w h.A h.n h.c m.b
theorem RdM.keep {w w' : World} {h : Hm} {m : Ms} (r : RdM w h m) (hb : Bl w w') : RdM w' h m := ⟨r.f, r.s, r.b.keep hb⟩
theorem RdM.gp {P : Nat → Prop} {w w' : World} {h : Hm} {m : Ms} (r : RdM w h m) (hg : Gp P w w') (hn : ∀ k, h.blk = some k → ¬ P k) : RdM w' h m := ⟨r.f, r.s, Rd.gp r.b hg hn⟩
/-- Six headers as cells. -/
def six (L : List Hm) : Array Value := (encs Hm.enc L).toArray
/-- Two blocks. -/
def Two (g t : Nat) (b : Nat) : Prop := b = g ∨ b = t
end Go.Proofs.YtcjpalhclgkjiaaDoor
