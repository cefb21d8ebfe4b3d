/- Each view is met as often as it is simulated, in plain Lean; and the walk of that law.
   Conditions: none beyond the calls' own tests. -/
import Derived.Test.YtglgaicbcackbaaEqv
namespace Go.Proofs.Ytglgaicbcackbaa
open Go.RowKit
set_option linter.unusedVariables false
/-- Alike up to multiples of p. -/
def Cg (p a b : Int) : Prop := a % p = b % p
section
variable {p a a' b b' : Int}
theorem Cg.refl : Cg p a a := rfl
theorem Cg.mod (h : Cg p a a') : Cg p (a % p) a' := by unfold Cg at *; rw [Int.emod_emod]; exact h
theorem Cg.add (h : Cg p a a') (k : Cg p b b') : Cg p (a + b) (a' + b') := by unfold Cg at *; rw [Int.add_emod, h, k, ← Int.add_emod]
theorem Cg.sub (h : Cg p a a') (k : Cg p b b') : Cg p (a - b) (a' - b') := by unfold Cg at *; rw [Int.sub_emod, h, k, ← Int.sub_emod]
theorem Cg.mul (h : Cg p a a') (k : Cg p b b') : Cg p (a * b) (a' * b') := by unfold Cg at *; rw [Int.mul_emod, h, k, ← Int.mul_emod]
theorem Cg.to {c : Int} (h : Cg p a b) (e : b = c) : Cg p a c := e ▸ h
end
theorem cgU0 (p x r0 r2 r4 r6 : Int) : Cg p ((prtD p 0 r4 r6 ((x - r0) % p) + prtD p 1 ((r0 - r4) % p) ((r2 - r6) % p) ((x - r0) % p)) % p) (x - r2) := by
  unfold prtD
  rw [if_pos rfl, if_neg (by decide)]
  exact (Cg.mod (Cg.add (Cg.mod (Cg.add Cg.refl (Cg.mod Cg.refl))) (Cg.mod (Cg.add (Cg.sub (Cg.mod Cg.refl) (Cg.mod Cg.refl)) Cg.refl)))).to (by omega)
theorem cgU1 (p x r0 r2 r4 r6 : Int) : Cg p ((prtD p 1 ((r0 - r4) % p) ((r2 - r6) % p) ((x - r0) % p) + prtD p 0 r4 r6 ((x - r0) % p)) % p) (x - r2) := by
  rw [Int.add_comm]; exact cgU0 p x r0 r2 r4 r6
theorem zReal0 (p b c d u v b' c' d' u' v' : Int) (hb : Cg p b b') (hc : Cg p c c') (hd : Cg p d d') (hu : Cg p u u') (hv : Cg p v v') : Cg p (shrZ p 1 b c d u v) (d' + u' * c' + v' * b') := by
  unfold shrZ
  rw [if_neg (by decide)]
  exact (Cg.mod (Cg.add (Cg.add (Cg.add hd (Cg.mul hu hc)) (Cg.mul hv hb)) Cg.refl)).to (by omega)
theorem zReal1 (p b c d u v b' c' d' u' v' : Int) (hb : Cg p b b') (hc : Cg p c c') (hd : Cg p d d') (hu : Cg p u u') (hv : Cg p v v') : Cg p (shrZ p 0 b c d u v) (d' + u' * c' + v' * b' + u' * v') := by
  unfold shrZ
  rw [if_pos rfl]
  exact Cg.mod (Cg.add (Cg.add (Cg.add hd (Cg.mul hu hc)) (Cg.mul hv hb)) (Cg.mul hu hv))
theorem poly (x y a b c d e : Int) : (a * b - e) + (x - a) * (b - d) + (y - b) * (a - c) = x * y - (e + (x - a) * d + (y - b) * c + (x - a) * (y - b)) := by
  simp only [Int.mul_sub, Int.mul_comm]; omega
theorem poly1 (x y a b c d e : Int) : e + (x - a) * d + (y - b) * c + (x - a) * (y - b) = x * y - ((a * b - e) + (x - a) * (b - d) + (y - b) * (a - c)) := by
  have := poly x y a b c d e
  omega
theorem eq_of_cg {p a b : Int} (h : Cg p a b) (ha : a % p = a) (hb : b % p = b) : a = b := by unfold Cg at h; rw [← ha, ← hb]; exact h
theorem z0 (p x y r0 r1 r2 r3 r4 r5 r6 r7 r8 : Int) :
    shrZ p 1 ((r2 - r6) % p) ((r3 - r7) % p) ((r2 * r3 - r8) % p) ((prtD p 0 r4 r6 ((x - r0) % p) + prtD p 1 ((r0 - r4) % p) ((r2 - r6) % p) ((x - r0) % p)) % p)
      ((prtD p 0 r5 r7 ((y - r1) % p) + prtD p 1 ((r1 - r5) % p) ((r3 - r7) % p) ((y - r1) % p)) % p)
    = smZ p 0 x (x * y % p) r0 r4 r5 r6 r7 r8 ((y - r1) % p) (prtD p 1 ((r0 - r4) % p) ((r2 - r6) % p) ((x - r0) % p)) (prtD p 1 ((r1 - r5) % p) ((r3 - r7) % p) ((y - r1) % p)) := by
  refine eq_of_cg ?_ (Int.emod_emod _ _) (Int.emod_emod _ _)
  refine Eq.trans (zReal0 p _ _ _ _ _ _ _ _ _ _ (Cg.mod Cg.refl) (Cg.mod Cg.refl) (Cg.mod Cg.refl) (cgU0 p x r0 r2 r4 r6) (cgU0 p y r1 r3 r5 r7)) ?_
  rw [poly]
  refine Eq.symm ?_
  unfold smZ
  rw [if_pos rfl, if_pos rfl]
  exact Cg.mod (Cg.sub (Cg.mod Cg.refl) (zReal1 p _ _ _ _ _ _ _ _ _ _ Cg.refl Cg.refl Cg.refl (cgU0 p x r0 r2 r4 r6) (cgU0 p y r1 r3 r5 r7)))
theorem z1 (p x y r0 r1 r2 r3 r4 r5 r6 r7 r8 : Int) :
    shrZ p 0 r6 r7 r8 ((prtD p 0 r4 r6 ((x - r0) % p) + prtD p 1 ((r0 - r4) % p) ((r2 - r6) % p) ((x - r0) % p)) % p)
      ((prtD p 0 r5 r7 ((y - r1) % p) + prtD p 1 ((r1 - r5) % p) ((r3 - r7) % p) ((y - r1) % p)) % p)
    = smZ p 1 y (x * y % p) r1 ((r0 - r4) % p) ((r1 - r5) % p) ((r2 - r6) % p) ((r3 - r7) % p) ((r2 * r3 - r8) % p) ((x - r0) % p) (prtD p 0 r4 r6 ((x - r0) % p)) (prtD p 0 r5 r7 ((y - r1) % p)) := by
  refine eq_of_cg ?_ (Int.emod_emod _ _) (Int.emod_emod _ _)
  refine Eq.trans (zReal1 p _ _ _ _ _ _ _ _ _ _ Cg.refl Cg.refl Cg.refl (cgU0 p x r0 r2 r4 r6) (cgU0 p y r1 r3 r5 r7)) ?_
  rw [poly1]
  refine Eq.symm ?_
  unfold smZ
  rw [if_neg (by decide), if_neg (by decide)]
  exact Cg.mod (Cg.sub (Cg.mod Cg.refl) (zReal0 p _ _ _ _ _ _ _ _ _ _ (Cg.mod Cg.refl) (Cg.mod Cg.refl) (Cg.mod Cg.refl) (cgU1 p x r0 r2 r4 r6) (cgU1 p y r1 r3 r5 r7)))
/-- The random choices of the simulation that give the same view. -/
def sg (p x y q : Int) : List Int → List Int
  | [r0, r1, r2, r3, r4, r5, r6, r7, r8] => if q = 0 then [r0, r4, r5, r6, r7, r8, (y - r1) % p, prtD p 1 ((r0 - r4) % p) ((r2 - r6) % p) ((x - r0) % p), prtD p 1 ((r1 - r5) % p) ((r3 - r7) % p) ((y - r1) % p)]
    else [r1, (r0 - r4) % p, (r1 - r5) % p, (r2 - r6) % p, (r3 - r7) % p, (r2 * r3 - r8) % p, (x - r0) % p, prtD p 0 r4 r6 ((x - r0) % p), prtD p 0 r5 r7 ((y - r1) % p)]
  | _ => []
theorem rv_sv (p x y q : Int) (l : List Int) (hl : l.length = 9) (hq : q = 0 ∨ q = 1) : rvL p x y q l = svL p q (if q = 0 then x else y) (x * y % p) (sg p x y q l) := by
  obtain ⟨r0, r1, r2, r3, r4, r5, r6, r7, r8, rfl⟩ := nine hl
  rcases hq with rfl | rfl
  · simp only [rvL, sg, svL, vw0, smR, if_pos]
    rw [z0]
  · simp only [rvL, sg, svL, vw1, smR, Int.one_ne_zero, if_false]
    rw [z1]
/-- The way back, for each party. -/
def tu0 (p x y : Int) : List Int → List Int
  | [s0, s1, s2, s3, s4, s5, s6, s7, s8] => [s0, (y - s6) % p, (s0 - s1 + s3 - s7) % p, ((y - s6) % p - s2 + s4 - s8) % p, s1, s2, s3, s4, s5]
  | _ => []
def tuB (p a b g h c d e : Int) (r4 r5 : Int) : List Int := [a, b, (c + (r4 + g) % p) % p, (d + (r5 + h) % p) % p, r4, r5, (r4 + g) % p, (r5 + h) % p, ((c + (r4 + g) % p) % p * ((d + (r5 + h) % p) % p) - e) % p]
def tu1 (p x y : Int) : List Int → List Int
  | [s0, s1, s2, s3, s4, s5, s6, s7, s8] => tuB p ((x - s6) % p) s0 (s6 - s7) (y - s0 - s8) s3 s4 s5 (((x - s6) % p - s1) % p) ((s0 - s2) % p)
  | _ => []
theorem sg_mem (p x y q : Int) (hp : 2 ≤ p) (l : List Int) (hl : l.length = 9) (h : ∀ z ∈ l, 0 ≤ z ∧ z < p) : (sg p x y q l).length = 9 ∧ ∀ z ∈ sg p x y q l, 0 ≤ z ∧ z < p := by
  obtain ⟨r0, r1, r2, r3, r4, r5, r6, r7, r8, rfl⟩ := nine hl
  have m : ∀ a : Int, 0 ≤ a % p ∧ a % p < p := fun a => ⟨Int.emod_nonneg _ (by omega), Int.emod_lt_of_pos _ (by omega)⟩
  simp only [List.mem_cons, List.not_mem_nil, or_false, forall_eq_or_imp, forall_eq] at h
  unfold sg prtD
  dsimp only
  split
  all_goals
    refine ⟨rfl, ?_⟩
    simp only [List.mem_cons, List.not_mem_nil, or_false, forall_eq_or_imp, forall_eq]
    simp only [m, h, and_self]
theorem tu_mem (p x y : Int) (hp : 2 ≤ p) (l : List Int) (hl : l.length = 9) (h : ∀ z ∈ l, 0 ≤ z ∧ z < p) : ((tu0 p x y l).length = 9 ∧ ∀ z ∈ tu0 p x y l, 0 ≤ z ∧ z < p) ∧ ((tu1 p x y l).length = 9 ∧ ∀ z ∈ tu1 p x y l, 0 ≤ z ∧ z < p) := by
  obtain ⟨r0, r1, r2, r3, r4, r5, r6, r7, r8, rfl⟩ := nine hl
  have m : ∀ a : Int, 0 ≤ a % p ∧ a % p < p := fun a => ⟨Int.emod_nonneg _ (by omega), Int.emod_lt_of_pos _ (by omega)⟩
  simp only [List.mem_cons, List.not_mem_nil, or_false, forall_eq_or_imp, forall_eq] at h
  unfold tu0 tu1 tuB
  refine ⟨⟨rfl, ?_⟩, ⟨rfl, ?_⟩⟩
  all_goals
    simp only [List.mem_cons, List.not_mem_nil, or_false, forall_eq_or_imp, forall_eq]
    simp only [m, h, and_self]
theorem tu0_sg (p x y : Int) (hp : p = 2 ∨ p = 3) (l : List Int) (hl : l.length = 9) (h : ∀ z ∈ l, 0 ≤ z ∧ z < p) : tu0 p x y (sg p x y 0 l) = l ∧ sg p x y 0 (tu0 p x y l) = l := by
  obtain ⟨r0, r1, r2, r3, r4, r5, r6, r7, r8, rfl⟩ := nine hl
  simp only [List.mem_cons, List.not_mem_nil, or_false, forall_eq_or_imp, forall_eq] at h
  obtain ⟨h0, h1, h2, h3, h4, h5, h6, h7, h8⟩ := h
  simp only [sg, tu0, if_pos, prtD, Int.one_ne_zero, if_false, List.cons.injEq, and_true, true_and]
  rcases hp with rfl | rfl
  · constructor
    · refine ⟨?_, ?_, ?_⟩ <;> omega
    · refine ⟨?_, ?_, ?_⟩ <;> omega
  · constructor
    · refine ⟨?_, ?_, ?_⟩ <;> omega
    · refine ⟨?_, ?_, ?_⟩ <;> omega
theorem tu1_sg (p x y : Int) (hp : p = 2 ∨ p = 3) (l : List Int) (hl : l.length = 9) (h : ∀ z ∈ l, 0 ≤ z ∧ z < p) : tu1 p x y (sg p x y 1 l) = l ∧ sg p x y 1 (tu1 p x y l) = l := by
  obtain ⟨r0, r1, r2, r3, r4, r5, r6, r7, r8, rfl⟩ := nine hl
  simp only [List.mem_cons, List.not_mem_nil, or_false, forall_eq_or_imp, forall_eq] at h
  obtain ⟨h0, h1, h2, h3, h4, h5, h6, h7, h8⟩ := h
  simp only [sg, tu1, prtD, if_pos, Int.one_ne_zero, if_false]
  have hb : ∀ P e : Int, 0 ≤ e → e < p → (P - (P - e) % p) % p = e := by
    intro P e; rcases hp with rfl | rfl <;> omega
  constructor
  · have e1 : (x - (x - r0) % p) % p = r0 := hb _ _ h0.1 h0.2
    rw [e1]
    have e4 : (r0 - (r0 - r4) % p) % p = r4 := hb _ _ h4.1 h4.2
    have e5 : (r1 - (r1 - r5) % p) % p = r5 := hb _ _ h5.1 h5.2
    rw [e4, e5]
    unfold tuB
    have e6 : (r4 + ((x - r0) % p - (r4 - r6 + (x - r0) % p) % p)) % p = r6 := by rcases hp with rfl | rfl <;> omega
    have e7 : (r5 + (y - r1 - (r5 - r7 + (y - r1) % p) % p)) % p = r7 := by rcases hp with rfl | rfl <;> omega
    rw [e6, e7]
    have e2 : ((r2 - r6) % p + r6) % p = r2 := by rcases hp with rfl | rfl <;> omega
    have e3 : ((r3 - r7) % p + r7) % p = r3 := by rcases hp with rfl | rfl <;> omega
    rw [e2, e3, hb _ _ h8.1 h8.2]
  · unfold tuB
    dsimp only
    have e1 : (x - (x - r6) % p) % p = r6 := hb _ _ h6.1 h6.2
    rw [e1, hb _ _ h1.1 h1.2, hb _ _ h2.1 h2.2, hb _ _ h5.1 h5.2]
    simp only [List.cons.injEq, and_true, true_and]
    rcases hp with rfl | rfl
    · refine ⟨?_, ?_, ?_, ?_⟩ <;> omega
    · refine ⟨?_, ?_, ?_, ?_⟩ <;> omega
theorem digs_cons (p c : Int) : ∀ k, digs p c (k + 1) = (c % p :: (digs p (c / p) k).1, (digs p (c / p) k).2)
  | 0 => rfl
  | k + 1 => by
    have e : digs p c (k + 1 + 1) = ((digs p c (k + 1)).1 ++ [(digs p c (k + 1)).2 % p], (digs p c (k + 1)).2 / p) := rfl
    rw [e, digs_cons p c k]
    rfl
theorem digs_code (p : Int) (hp : 2 ≤ p) : ∀ l : List Int, (∀ z ∈ l, 0 ≤ z ∧ z < p) → (digs p (vcF p l) l.length).1 = l
  | [], _ => rfl
  | x :: l, h => by
    have hx := h x (by simp)
    have ih := digs_code p hp l (fun z hz => h z (List.mem_cons_of_mem _ hz))
    rw [List.length_cons, digs_cons]
    have h1 : vcF p (x :: l) % p = x := by
      show (p * vcF p l + x) % p = x
      rw [Int.add_comm, Int.add_mul_emod_self_left]; exact Int.emod_eq_of_lt hx.1 hx.2
    have h2 : vcF p (x :: l) / p = vcF p l := by
      show (p * vcF p l + x) / p = vcF p l
      rw [Int.add_comm, Int.add_mul_ediv_left _ _ (by omega), Int.ediv_eq_zero_of_lt hx.1 hx.2, Int.zero_add]
    rw [h1, h2, ih]
theorem code_digs (p : Int) (hp : 2 ≤ p) : ∀ (k : Nat) (c : Int), 0 ≤ c → c < pw p k → vcF p (digs p c k).1 = c
  | 0, c, h0, h1 => by simp only [pw] at h1; simp only [digs, vcF]; omega
  | k + 1, c, h0, h1 => by
    rw [digs_cons]
    show p * vcF p (digs p (c / p) k).1 + c % p = c
    rw [code_digs p hp k (c / p) (Int.ediv_nonneg h0 (by omega)) (Int.ediv_lt_of_lt_mul (by omega) h1)]
    exact Int.mul_ediv_add_emod c p
theorem bump_comm (l : List Int) (a b : Nat) : bump (bump l a) b = bump (bump l b) a := by
  by_cases h : a = b
  · subst h; rfl
  · unfold bump
    rw [List.getElem?_set_ne h, List.getElem?_set_ne (Ne.symm h), List.set_comm _ _ h]
theorem tally_fold (n : Nat) (f : Nat → Nat) (k : Nat) : tally n f k = ((List.range k).map f).foldl bump (List.replicate n 0) := by
  induction k with
  | zero => rfl
  | succ k ih => rw [List.range_succ, List.map_append, List.foldl_append, ← ih]; rfl
theorem tally_perm (n M : Nat) (g s t : Nat → Nat) (hs : ∀ k, k < M → s k < M) (ht : ∀ k, k < M → t k < M) (h1 : ∀ k, k < M → t (s k) = k) (h2 : ∀ k, k < M → s (t k) = k) :
    tally n (fun k => g (s k)) M = tally n g M := by
  rw [tally_fold, tally_fold]
  have e : (List.range M).map (fun k => g (s k)) = ((List.range M).map s).map g := by rw [List.map_map]; rfl
  rw [e]
  refine List.Perm.foldl_eq' (List.Perm.map g ?_) (fun a _ c _ z => bump_comm z a c) _
  refine (List.perm_ext_iff_of_nodup ?_ List.nodup_range).2 fun a => ?_
  · unfold List.Nodup
    rw [List.pairwise_map]
    refine List.Pairwise.imp_of_mem ?_ (List.nodup_range (n := M))
    intro a b ha hb hab he
    apply hab
    rw [← h1 a (List.mem_range.1 ha), ← h1 b (List.mem_range.1 hb), he]
  · rw [List.mem_map, List.mem_range]
    constructor
    · rintro ⟨k, hk, rfl⟩
      exact hs k (List.mem_range.1 hk)
    · intro ha
      exact ⟨t a, List.mem_range.2 (ht a ha), h2 a ha⟩
theorem tally_congr (n : Nat) (f g : Nat → Nat) : ∀ M, (∀ k, k < M → f k = g k) → tally n f M = tally n g M
  | 0, _ => rfl
  | M + 1, h => by rw [tally, tally, tally_congr n f g M (fun k hk => h k (by omega)), h M (by omega)]
/-- A map of nine elements as a map of their numbers. -/
def onCode (p : Int) (m : List Int → List Int) (k : Nat) : Nat := (vcF p (m (digs p k 9).1)).toNat
theorem onCode_spec (p : Int) (hp : 2 ≤ p ∧ p ≤ 7) (m : List Int → List Int) (hm : ∀ l : List Int, l.length = 9 → (∀ z ∈ l, 0 ≤ z ∧ z < p) → (m l).length = 9 ∧ ∀ z ∈ m l, 0 ≤ z ∧ z < p) (k : Nat) :
    onCode p m k < (pw p 9).toNat ∧ (digs p (onCode p m k : Int) 9).1 = m (digs p k 9).1 := by
  obtain ⟨hl, hz⟩ := hm (digs p k 9).1 (digs_len p k 9) (digs_mem p k (by omega) 9)
  obtain ⟨b1, b2⟩ := vcF_bd p (by omega) hp.2 _ hz
  rw [hl] at b2
  unfold onCode
  refine ⟨by omega, ?_⟩
  have e : ((vcF p (m (digs p k 9).1)).toNat : Int) = vcF p (m (digs p k 9).1) := by omega
  rw [e]
  have := digs_code p hp.1 _ hz
  rwa [hl] at this
theorem onCode_inv (p : Int) (hp : 2 ≤ p ∧ p ≤ 7) (m t : List Int → List Int) (hm : ∀ l : List Int, l.length = 9 → (∀ z ∈ l, 0 ≤ z ∧ z < p) → (m l).length = 9 ∧ ∀ z ∈ m l, 0 ≤ z ∧ z < p)
    (hi : ∀ l : List Int, l.length = 9 → (∀ z ∈ l, 0 ≤ z ∧ z < p) → t (m l) = l) (k : Nat) (hk : k < (pw p 9).toNat) : onCode p t (onCode p m k) = k := by
  have h := (onCode_spec p hp m hm k).2
  have e : onCode p t (onCode p m k) = (vcF p (t (digs p (onCode p m k : Int) 9).1)).toNat := rfl
  rw [e, h, hi _ (digs_len p k 9) (digs_mem p k (by omega) 9), code_digs p hp.1 9 k (by omega) (by omega)]
  omega
theorem cnt_equal (p x y q : Int) (hp : p = 2 ∨ p = 3) (hq : q = 0 ∨ q = 1) :
    cntN p (fun code : Nat => rvL p x y q (digs p code 9).1) = cntN p (fun code : Nat => svL p q (if q = 0 then x else y) (x * y % p) (digs p code 9).1) := by
  have hp2 : 2 ≤ p ∧ p ≤ 7 := by omega
  have hs := sg_mem p x y q hp2.1
  obtain ⟨t, ht, i1, i2⟩ : ∃ t : List Int → List Int, (∀ l : List Int, l.length = 9 → (∀ z ∈ l, 0 ≤ z ∧ z < p) → (t l).length = 9 ∧ ∀ z ∈ t l, 0 ≤ z ∧ z < p) ∧
      (∀ l : List Int, l.length = 9 → (∀ z ∈ l, 0 ≤ z ∧ z < p) → t (sg p x y q l) = l) ∧ ∀ l : List Int, l.length = 9 → (∀ z ∈ l, 0 ≤ z ∧ z < p) → sg p x y q (t l) = l := by
    rcases hq with rfl | rfl
    · exact ⟨tu0 p x y, fun l a b => (tu_mem p x y hp2.1 l a b).1, fun l a b => (tu0_sg p x y hp l a b).1, fun l a b => (tu0_sg p x y hp l a b).2⟩
    · exact ⟨tu1 p x y, fun l a b => (tu_mem p x y hp2.1 l a b).2, fun l a b => (tu1_sg p x y hp l a b).1, fun l a b => (tu1_sg p x y hp l a b).2⟩
  unfold cntN
  rw [← tally_perm _ _ (fun code : Nat => (vcF p (svL p q (if q = 0 then x else y) (x * y % p) (digs p code 9).1)).toNat) (onCode p (sg p x y q)) (onCode p t)
    (fun k _ => (onCode_spec p hp2 _ hs k).1) (fun k _ => (onCode_spec p hp2 _ ht k).1) (fun k hk => onCode_inv p hp2 _ _ hs i1 k hk) (fun k hk => onCode_inv p hp2 _ _ ht i2 k hk)]
  refine tally_congr _ _ _ _ fun k _ => ?_
  dsimp only
  rw [(onCode_spec p hp2 _ hs k).2, rv_sv p x y q _ (digs_len p k 9) hq]
theorem evT_true {p x y q : Int} (h : evB p x y q = true) : evT p x y q = true := by
  obtain ⟨hp, _, _, hq, _⟩ := evB_facts h
  unfold evT
  exact decide_eq_true (cnt_equal p x y q hp hq)
theorem evV_eq (p x y q : Int) : evV p x y q = evB p x y q := by
  rcases h : evB p x y q
  · simp [evV, h]
  · simp [evV, h, evT_true h]
end Go.Proofs.Ytglgaicbcackbaa
