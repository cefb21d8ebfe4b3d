/- Plain facts: an evaluation in the cells of a right plan is that of the circuit; the plan of CellPlan is right; as many cells are needed as wires are live.
   Conditions: none. -/
import Derived.Test.YtlmlffiajgofeaaEvp
import Derived.Test.YtlmlffiajgofeaaClp
namespace Go.Proofs.Ytlmlffiajgofeaa
open Go.RowKit
set_option linter.unusedVariables false
/-- The values of all wires behind k gates. -/
def vlL (gl : List Gt) (I : List Int) : Nat → List Int
  | 0 => I
  | k + 1 => vlL gl I k ++ [gop (gl[k]?.getD Gt.zero).k ((vlL gl I k)[(gl[k]?.getD Gt.zero).a.toNat]?.getD 0) ((vlL gl I k)[(gl[k]?.getD Gt.zero).b.toNat]?.getD 0)]
theorem vlL_len (gl : List Gt) (I : List Int) (k : Nat) : (vlL gl I k).length = I.length + k := by
  induction k with
  | zero => rfl
  | succ k ih => rw [vlL, List.length_append, ih]; simp; omega
theorem vlL_old {gl : List Gt} {I : List Int} {k i : Nat} (h : i < I.length + k) : (vlL gl I (k + 1))[i]? = (vlL gl I k)[i]? := by
  rw [vlL, List.getElem?_append_left (by rw [vlL_len]; exact h)]
theorem vlL_new {gl : List Gt} {I : List Int} {k : Nat} {K x y : Int} (h : gl[k]? = some ⟨K, x, y⟩) : (vlL gl I (k + 1))[I.length + k]?.getD 0 = gop K ((vlL gl I k)[x.toNat]?.getD 0) ((vlL gl I k)[y.toNat]?.getD 0) := by
  rw [vlL, List.getElem?_append_right (by rw [vlL_len]; exact Nat.le_refl _), vlL_len, Nat.sub_self, h]; rfl
theorem vlL_bit {gl : List Gt} {I : List Int} (hI : ∀ z ∈ I, z = 0 ∨ z = 1) : ∀ k, ∀ z ∈ vlL gl I k, z = 0 ∨ z = 1
  | 0 => hI
  | k + 1 => fun z hz => by
    rcases List.mem_append.1 (by simpa only [vlL] using hz) with h | h
    · exact vlL_bit hI k z h
    · rw [List.mem_singleton.1 h]; exact gop_bit (getD_bit (vlL_bit hI k) _) (getD_bit (vlL_bit hI k) _)
/-- What a list keeps where places are written with greater numbers. -/
theorem putA_cons (l : List Int) (x : Int) (ps : List Int) (v : Int) : putA l (x :: ps) v = putA (l.set x.toNat v) ps v := rfl
theorem putA_ge (v : Int) (ps : List Int) : ∀ (l : List Int) (p : Nat) (u : Int), l[p]? = some u → u ≤ v → ∃ u', (putA l ps v)[p]? = some u' ∧ u ≤ u' := by
  induction ps with
  | nil => intro l p u h _; exact ⟨u, h, Int.le_refl _⟩
  | cons x ps ih =>
    intro l p u h huv
    rw [putA_cons]
    by_cases hp : x.toNat = p
    · have hl : p < l.length := (List.getElem?_eq_some_iff.1 h).1
      obtain ⟨u', h1, h2⟩ := ih (l.set x.toNat v) p v (by rw [hp, List.getElem?_set_self hl]) (Int.le_refl _)
      exact ⟨u', h1, by omega⟩
    · exact ih (l.set x.toNat v) p u (by rw [List.getElem?_set_ne hp]; exact h) huv
theorem putA_in (v : Int) (ps : List Int) : ∀ (l : List Int) (x : Int), x ∈ ps → x.toNat < l.length → ∃ u', (putA l ps v)[x.toNat]? = some u' ∧ v ≤ u' := by
  induction ps with
  | nil => intro l x h _; cases h
  | cons y ps ih =>
    intro l x h hl
    rw [putA_cons]
    rcases List.mem_cons.1 h with rfl | h
    · exact putA_ge v ps _ _ v (by rw [List.getElem?_set_self hl]) (Int.le_refl _)
    · exact ih _ x h (by rw [List.length_set]; exact hl)
theorem luG_ge {N : Nat} {gl : List Gt} {k : Nat} {x : Int} (hx : x ∈ partsL (gl[k]?.getD Gt.zero)) (hl : x.toNat < N) : ∀ j, k < j → ∃ u, (luG N gl j)[x.toNat]? = some u ∧ (k : Int) ≤ u
  | 0, h => by omega
  | j + 1, h => by
    rcases Nat.lt_or_ge k j with hk | hk
    · obtain ⟨u, h1, h2⟩ := luG_ge (N := N) hx hl j hk
      have := (luG_bd N gl j u (List.mem_of_getElem? h1)).2
      obtain ⟨u', h3, h4⟩ := putA_ge (j : Int) (partsL (gl[j]?.getD Gt.zero)) _ _ _ h1 this
      exact ⟨u', h3, by omega⟩
    · have : k = j := by omega
      subst this
      exact putA_in (k : Int) _ (luG N gl k) x hx (by rw [luG_len]; exact hl)
theorem luL_gate {N : Nat} {gl : List Gt} {ol : List Int} {k : Nat} {g : Gt} {x : Int} (hk : gl[k]? = some g) (hx : x ∈ partsL g) (hl : x.toNat < N) : (k : Int) ≤ (luL N gl ol)[x.toNat]?.getD 0 := by
  obtain ⟨u, h1, h2⟩ := luG_ge (N := N) (gl := gl) (k := k) (x := x) (by rw [hk]; exact hx) hl gl.length (List.getElem?_eq_some_iff.1 hk).1
  have := (luG_bd N gl gl.length u (List.mem_of_getElem? h1)).2
  obtain ⟨u', h3, h4⟩ := putA_ge (gl.length : Int) ol _ _ _ h1 this
  unfold luL
  rw [h3]
  show (k : Int) ≤ u'
  omega
theorem luL_out {N : Nat} {gl : List Gt} {ol : List Int} {x : Int} (hx : x ∈ ol) (hl : x.toNat < N) : (gl.length : Int) ≤ (luL N gl ol)[x.toNat]?.getD 0 := by
  obtain ⟨u', h3, h4⟩ := putA_in (gl.length : Int) ol (luG N gl gl.length) x hx (by rw [luG_len]; exact hl)
  unfold luL
  rw [h3]; exact h4
/-- Who is live. -/
theorem liveL_iff (L : List Int) (G : Int) : ∀ (T : Nat) (x : Int), x ∈ liveL L G T ↔ 0 ≤ x ∧ x < T ∧ G < L[x.toNat]?.getD 0
  | 0, x => by simp [liveL]; omega
  | T + 1, x => by
    rw [liveL, List.mem_append, liveL_iff L G T x]
    by_cases h : G < L[T]?.getD 0
    · rw [if_pos h, List.mem_singleton]
      constructor
      · rintro (⟨a, b, c⟩ | rfl)
        · exact ⟨a, by omega, c⟩
        · exact ⟨by omega, by omega, by rw [Int.toNat_natCast]; exact h⟩
      · rintro ⟨a, b, c⟩
        by_cases hx : x = (T : Int)
        · exact .inr hx
        · exact .inl ⟨a, by omega, c⟩
    · rw [if_neg h]
      constructor
      · rintro (⟨a, b, c⟩ | hh)
        · exact ⟨a, by omega, c⟩
        · cases hh
      · rintro ⟨a, b, c⟩
        refine .inl ⟨a, ?_, c⟩
        by_cases hx : x = (T : Int)
        · subst hx; rw [Int.toNat_natCast] at c; exact absurd c h
        · omega
theorem difB_pair {l : List Int} (h : difB l = true) : l.Pairwise (· ≠ ·) := by
  rw [List.pairwise_iff_getElem]
  intro i j hi hj hij he
  have h1 := List.all_eq_true.1 h j (List.mem_range.2 hj)
  simp only [memB, List.getElem?_eq_getElem hj, Option.getD_some, Bool.not_eq_true', decide_eq_false_iff_not] at h1
  refine h1 ?_
  rw [List.mem_take_iff_getElem]
  exact ⟨i, by omega, he⟩
theorem pair_difB {l : List Int} (h : l.Pairwise (· ≠ ·)) : difB l = true := by
  refine difB_of fun i x hx => ?_
  simp only [memB, decide_eq_false_iff_not]
  intro hm
  obtain ⟨j, hj, he⟩ := List.mem_take_iff_getElem.1 hm
  obtain ⟨hi, hv⟩ := List.getElem?_eq_some_iff.1 hx
  exact (List.pairwise_iff_getElem.1 h) j i (by omega) hi (by omega) (by rw [he, hv])
/-- Two live inputs have two cells. -/
theorem dif_live {P L : List Int} {G : Int} : ∀ (T : Nat), (pickL P (liveL L G T)).Pairwise (· ≠ ·) → ∀ i j : Nat, i < j → j < T → G < L[i]?.getD 0 → G < L[j]?.getD 0 → P[i]?.getD 0 ≠ P[j]?.getD 0
  | 0, _, i, j, _, hj, _, _ => by omega
  | T + 1, h, i, j, hij, hj, hi1, hj1 => by
    rw [liveL] at h
    by_cases hT : G < L[T]?.getD 0
    · rw [if_pos hT, pickL_snoc, List.pairwise_append] at h
      by_cases hjT : j = T
      · subst hjT
        refine h.2.2 _ ?_ _ (List.mem_singleton.2 (by rw [Int.toNat_natCast]))
        exact List.mem_map.2 ⟨(i : Int), (liveL_iff L G j i).2 ⟨by omega, by omega, by rw [Int.toNat_natCast]; exact hi1⟩, by rw [Int.toNat_natCast]⟩
      · exact dif_live T h.1 i j hij (by omega) hi1 hj1
    · rw [if_neg hT, List.append_nil] at h
      refine dif_live T h i j hij ?_ hi1 hj1
      by_cases hjT : j = T
      · subst hjT; exact absurd hj1 hT
      · omega
theorem live_dif {P L : List Int} {G : Int} : ∀ (T : Nat), (∀ i j : Nat, i < j → j < T → G < L[i]?.getD 0 → G < L[j]?.getD 0 → P[i]?.getD 0 ≠ P[j]?.getD 0) → (pickL P (liveL L G T)).Pairwise (· ≠ ·)
  | 0, _ => by simp [liveL, pickL]
  | T + 1, h => by
    have ih := live_dif T (fun i j hij hj => h i j hij (by omega))
    rw [liveL]
    by_cases hT : G < L[T]?.getD 0
    · rw [if_pos hT, pickL_snoc, List.pairwise_append]
      refine ⟨ih, by simp, fun a ha b hb => ?_⟩
      obtain ⟨x, hx, rfl⟩ := List.mem_map.1 ha
      obtain ⟨h1, h2, h3⟩ := (liveL_iff L G T x).1 hx
      rw [List.mem_singleton.1 hb, Int.toNat_natCast]
      exact h x.toNat T (by omega) (by omega) h3 hT
    · rw [if_neg hT, List.append_nil]; exact ih
theorem cellAt_set {P cs : List Int} {q : Nat} {v : Int} {x : Int} (hx : (P[x.toNat]?.getD 0).toNat ≠ q) : cellAt P (cs.set q v) x = cellAt P cs x := by
  unfold cellAt
  rw [List.getElem?_set_ne (fun e => hx e.symm)]
theorem cellAt_own {P cs : List Int} {q : Nat} {v : Int} {x : Int} (hx : (P[x.toNat]?.getD 0).toNat = q) (hq : q < cs.length) : cellAt P (cs.set q v) x = v := by
  unfold cellAt
  rw [hx, List.getElem?_set_self hq]; rfl
theorem getD_range {P : List Int} (hP : ∀ x ∈ P, 0 ≤ x ∧ x < 1000) {i : Nat} (hi : i < P.length) : 0 ≤ P[i]?.getD 0 ∧ P[i]?.getD 0 < 1000 := by
  rw [List.getElem?_eq_getElem hi]; exact hP _ (List.getElem_mem hi)
/-- The cells of live inputs. -/
theorem in_inv {P L I : List Int} {N : Nat} (hP : ∀ x ∈ P, 0 ≤ x ∧ x < 1000) (hlen : N ≤ P.length) (hI : ∀ z ∈ I, z = 0 ∨ z = 1) (hdif : ∀ i j : Nat, i < j → j < N → -1 < L[i]?.getD 0 → -1 < L[j]?.getD 0 → P[i]?.getD 0 ≠ P[j]?.getD 0) :
    ∀ T, T ≤ N → ∀ i : Nat, i < T → -1 < L[i]?.getD 0 → cellAt P (inC P L I T) (i : Int) = I[i]?.getD 0
  | 0, _, i, hi, _ => by omega
  | T + 1, hT, i, hi, hl => by
    have hc := (inC_cells P L I hI T).1
    have rT := getD_range hP (i := T) (by omega)
    have ri := getD_range hP (i := i) (by omega)
    rw [inC]
    by_cases h : 0 ≤ L[T]?.getD 0
    · rw [if_pos h]
      unfold putE
      rw [Int.toNat_natCast]
      by_cases he : i = T
      · subst he
        exact cellAt_own (by rw [Int.toNat_natCast]) (by omega)
      · have := hdif i T (by omega) (by omega) hl (by omega)
        rw [cellAt_set (by rw [Int.toNat_natCast]; omega)]
        exact in_inv hP hlen hI hdif T (by omega) i (by omega) hl
    · rw [if_neg h]
      have he : i ≠ T := by rintro rfl; omega
      exact in_inv hP hlen hI hdif T (by omega) i (by omega) hl
theorem gate_clash {P L : List Int} {N k : Nat} (h : gateB P L N k = true) (i : Nat) (hi : i < N + k) (hl : (k : Int) < L[i]?.getD 0) : P[i]?.getD 0 ≠ P[N + k]?.getD 0 := by
  intro he
  unfold gateB at h
  rw [Bool.not_eq_true', List.any_eq_false] at h
  refine h (i : Int) ((liveL_iff L k (N + k + 1) i).2 ⟨by omega, by omega, by rw [Int.toNat_natCast]; exact hl⟩) ?_
  simp only [clash, Int.toNat_natCast, he, beq_self_eq_true, Bool.and_true]
  simp; omega
/-- A gate computes as its parts' values say. -/
theorem gop_parts {K x y : Int} {f f' : Int → Int} (h : ∀ z ∈ partsL ⟨K, x, y⟩, f z = f' z) : gop K (f x) (f y) = gop K (f' x) (f' y) := by
  unfold gop
  simp only [partsL] at h
  by_cases h3 : K = 3
  · subst h3; rfl
  · rw [if_neg h3] at h
    by_cases h2 : K = 2
    · subst h2
      have := h x (by simp)
      simp [this]
    · rw [if_neg h2] at h
      rw [h x (by simp), h y (by simp)]
/-- The cells of live wires behind k gates. -/
theorem ga_inv {P L I : List Int} {N n : Nat} {gl : List Gt} (hgl : gl.length = n) (hgood : goodGs (N : Int) gl = true) (hIl : I.length = N) (hI : ∀ z ∈ I, z = 0 ∨ z = 1) (hP : ∀ x ∈ P, 0 ≤ x ∧ x < 1000) (hlen : P.length = N + n)
    (hdif : ∀ i j : Nat, i < j → j < N → -1 < L[i]?.getD 0 → -1 < L[j]?.getD 0 → P[i]?.getD 0 ≠ P[j]?.getD 0) (hg : gatesB P L N n = true) (hu : ∀ (k : Nat) (g : Gt) (x : Int), gl[k]? = some g → x ∈ partsL g → 0 ≤ x → x < (N : Int) + k → (k : Int) ≤ L[x.toNat]?.getD 0) :
    ∀ k, k ≤ n → ∀ i : Nat, i < N + k → (k : Int) - 1 < L[i]?.getD 0 → cellAt P (gaC P N gl (inC P L I N) k) (i : Int) = (vlL gl I k)[i]?.getD 0
  | 0, _, i, hi, hl => in_inv hP (by omega) hI hdif N (Nat.le_refl _) i (by omega) (by omega)
  | k + 1, hk, i, hi, hl => by
    have ih := ga_inv hgl hgood hIl hI hP hlen hdif hg hu k (by omega)
    have hc := (gaC_cells (P := P) (N := N) (gl := gl) (inC_cells P L I hI N) k).1
    have hkl : k < gl.length := by omega
    obtain ⟨⟨K, x, y⟩, hget⟩ : ∃ g, gl[k]? = some g := ⟨_, List.getElem?_eq_getElem hkl⟩
    have hgk := goodG_facts (goodGs_at hgood hget)
    have ri := getD_range hP (i := i) (by omega)
    have rk := getD_range hP (i := N + k) (by omega)
    have hq : P[N + k]? = some ((P[N + k]?.getD 0).toNat : Int) := by
      rw [List.getElem?_eq_getElem (by omega)] at rk ⊢
      simp only [Option.getD_some] at rk ⊢
      congr 1; omega
    rw [gaC_step hget hq]
    by_cases he : i = N + k
    · subst he
      rw [cellAt_own (by rw [Int.toNat_natCast]) (by omega)]
      have hv := vlL_new (I := I) hget
      rw [hIl] at hv
      rw [hv]
      refine gop_parts (f := cellAt P (gaC P N gl (inC P L I N) k)) (f' := fun z => (vlL gl I k)[z.toNat]?.getD 0) (fun z hz => ?_)
      obtain ⟨z0, z1⟩ := hgk.2 z hz
      have hz2 := hu k _ z hget hz z0 z1
      have := ih z.toNat (by omega) (by omega)
      rw [show ((z.toNat : Nat) : Int) = z by omega] at this
      exact this
    · have hcl := gate_clash (List.all_eq_true.1 hg k (List.mem_range.2 (by omega))) i (by omega) (by omega)
      rw [cellAt_set (by rw [Int.toNat_natCast]; omega), vlL_old (by omega)]
      exact ih i (by omega) (by omega)
/-- The values of the outs. -/
def evP (a b : Int) (gl : List Gt) (ol la lb : List Int) : List Int := pickE (vlL gl (la ++ lb) gl.length) ol
theorem evO_plain {a b : Int} {gl : List Gt} {ol P la lb : List Int} (h : evB a b gl ol P la lb = true) : evO a b gl ol P la lb = evP a b gl ol la lb := by
  simp only [evB, Bool.and_eq_true] at h
  obtain ⟨hq, hr⟩ := h
  obtain ⟨hgood, ea, eb, hI⟩ := ask_facts hq
  obtain ⟨a0, a1, b0, b1, _, _, hgs, hol⟩ := goodC_facts hgood
  have hN : ((a + b).toNat : Int) = a + b := by omega
  obtain ⟨hlen, hP⟩ := rightB_facts hr
  simp only [rightB, Bool.and_eq_true] at hr
  have hinv := ga_inv (P := P) (L := luL ((a + b).toNat + gl.length) gl ol) (I := la ++ lb) (N := (a + b).toNat) (gl := gl) rfl (by rw [hN]; exact hgs) (by rw [List.length_append]; omega) hI hP hlen
    (dif_live _ (difB_pair hr.1.2)) hr.2 (fun k g x hk hx h0 h1 => luL_gate hk hx (by have := (List.getElem?_eq_some_iff.1 hk).1; omega)) gl.length (Nat.le_refl _)
  unfold evO evP pickE
  rw [List.map_map]
  refine List.map_congr_left fun x hx => ?_
  obtain ⟨x0, x1⟩ := hol x hx
  have := hinv x.toNat (by omega) (by have := luL_out (N := (a + b).toNat + gl.length) (gl := gl) hx (by omega); omega)
  rw [show ((x.toNat : Nat) : Int) = x by omega] at this
  exact this
/-- The plan of CellPlan is right. -/
theorem cpG_old (N : Nat) (L : List Int) (k : Nat) : ∀ (j i : Nat), k ≤ j → i < N + k → (cpG N L j)[i]? = (cpG N L k)[i]?
  | 0, i, hj, hi => by rw [show k = 0 by omega]
  | j + 1, i, hj, hi => by
    rcases Nat.lt_or_ge k (j + 1) with h | h
    · rw [cpG, List.getElem?_append_left (by rw [cpG_len]; omega)]
      exact cpG_old N L k j i (by omega) hi
    · rw [show k = j + 1 by omega]
theorem cpG_in (N : Nat) (L : List Int) (j i : Nat) (hi : i < N) : (cpG N L j)[i]?.getD 0 = cpW L i := by
  rw [cpG_old N L 0 j i (Nat.zero_le _) (by omega), cpG, cpI, List.getElem?_map, List.getElem?_range hi]; rfl
theorem cpG_own (N : Nat) (L : List Int) (j k : Nat) (hk : k < j) : (cpG N L j)[N + k]?.getD 0 = ((mex (pickL (cpG N L k) (liveL L (k : Int) (N + k))) : Nat) : Int) := by
  rw [cpG_old N L (k + 1) j (N + k) (by omega) (by omega), cpG, List.getElem?_append_right (by rw [cpG_len]; exact Nat.le_refl _), cpG_len, Nat.sub_self]; rfl
theorem liveL_lt {L : List Int} {G : Int} : ∀ {i j : Nat}, i < j → G < L[i]?.getD 0 → (liveL L G i).length < (liveL L G j).length
  | i, 0, h, _ => by omega
  | i, j + 1, h, hl => by
    rw [liveL, List.length_append]
    rcases Nat.lt_or_ge i j with hij | hij
    · have := liveL_lt hij hl; omega
    · rw [show j = i by omega, if_pos hl]; simp
theorem cp_right {a b : Int} {gl : List Gt} {ol : List Int} (hgood : goodC a b gl ol = true) : rgB a b gl ol (cpL a b gl ol) = true := by
  obtain ⟨a0, a1, b0, b1, hn, _, _, _⟩ := goodC_facts hgood
  unfold rgB cpL
  generalize luL ((a + b).toNat + gl.length) gl ol = L
  have hN : (a + b).toNat ≤ 40 := by omega
  generalize (a + b).toNat = N at hN ⊢
  generalize gl.length = n at hn ⊢
  simp only [rightB, Bool.and_eq_true, decide_eq_true_eq]
  refine ⟨⟨⟨cpG_len N L n, List.all_eq_true.2 fun x hx => inR_iff.2 (by have := cpG_bd N L n x hx; omega)⟩, pair_difB (live_dif N fun i j hij hj hi hl => ?_)⟩, gatesB_of fun k hk => ?_⟩
  · rw [cpG_in N L n i (by omega), cpG_in N L n j hj]
    have := liveL_lt hij hi
    unfold cpW
    rw [if_pos hi, if_pos hl]
    omega
  · unfold gateB
    rw [Bool.not_eq_true', List.any_eq_false]
    intro x hx hc
    obtain ⟨x0, x1, x2⟩ := (liveL_iff L k (N + k + 1) x).1 hx
    simp only [clash, Bool.and_eq_true, bne_iff_ne, ne_eq, beq_iff_eq] at hc
    rw [cpG_own N L n k hk, cpG_old N L k n x.toNat (by omega) (by omega)] at hc
    refine mex_out (pickL (cpG N L k) (liveL L (k : Int) (N + k))) ?_
    rw [← hc.2]
    exact List.mem_map.2 ⟨x, (liveL_iff L k (N + k) x).2 ⟨x0, by omega, x2⟩, rfl⟩
/-- Different numbers below M are at most M. -/
theorem pair_len : ∀ (M : Nat) (l : List Int), l.Pairwise (· ≠ ·) → (∀ x ∈ l, 0 ≤ x ∧ x < M) → l.length ≤ M
  | 0, l, _, h => by
    rcases l with _ | ⟨x, l⟩
    · simp
    · have := h x (by simp); omega
  | M + 1, l, hp, h => by
    have h1 := pair_len M (l.filter fun x => x != (M : Int)) (hp.filter _) (fun x hx => by
      obtain ⟨h1, h2⟩ := List.mem_filter.1 hx
      have := h x h1
      simp only [bne_iff_ne, ne_eq] at h2
      omega)
    have h2 : l.length ≤ (l.filter fun x => x != (M : Int)).length + 1 := by
      clear h1 h
      induction l with
      | nil => simp
      | cons y l ih =>
        rw [List.pairwise_cons] at hp
        by_cases hy : y = (M : Int)
        · subst hy
          have : l.filter (fun x => x != (M : Int)) = l := List.filter_eq_self.2 fun x hx => by simp only [bne_iff_ne, ne_eq]; exact fun e => hp.1 x hx e.symm
          rw [List.filter_cons, if_neg (by simp), this]
          simp
        · rw [List.filter_cons, if_pos (by simpa using hy)]
          have := ih hp.2
          simp only [List.length_cons]; omega
    omega
/-- Live wires have different cells at any time. -/
theorem live_pair {P L : List Int} {N n : Nat} (hr : rightB P L N n = true) : ∀ k, k ≤ n → ∀ i j : Nat, i < j → j < N + k → (k : Int) - 1 < L[i]?.getD 0 → (k : Int) - 1 < L[j]?.getD 0 → P[i]?.getD 0 ≠ P[j]?.getD 0
  | 0, _, i, j, hij, hj, hi, hl => by
    simp only [rightB, Bool.and_eq_true] at hr
    exact dif_live _ (difB_pair hr.1.2) i j hij (by omega) (by omega) (by omega)
  | k + 1, hk, i, j, hij, hj, hi, hl => by
    by_cases he : j = N + k
    · subst he
      simp only [rightB, Bool.and_eq_true] at hr
      exact gate_clash (List.all_eq_true.1 hr.2 k (List.mem_range.2 (by omega))) i hij (by omega)
    · exact live_pair hr k (by omega) i j hij (by omega) (by omega) (by omega)
theorem lvC_mem {N : Nat} {L : List Int} : ∀ (j : Nat) (x : Int), x ∈ lvC N L j → ∃ k, k < j ∧ x = ((liveL L ((k : Int) - 1) (N + k)).length : Int)
  | 0, x, h => by simp [lvC] at h
  | j + 1, x, h => by
    rw [lvC, List.mem_append] at h
    rcases h with h | h
    · obtain ⟨k, hk, e⟩ := lvC_mem j x h; exact ⟨k, by omega, e⟩
    · exact ⟨j, by omega, List.mem_singleton.1 h⟩
theorem mxL_le {M : Int} (l : List Int) : ∀ m : Int, m ≤ M → (∀ x ∈ l, x ≤ M) → mxL m l ≤ M := by
  induction l with
  | nil => intro m h _; exact h
  | cons x l ih => intro m h hx; exact ih _ (by have := hx x (by simp); omega) (fun y hy => hx y (by simp [hy]))
theorem fold_ge (l : List Int) : ∀ m : Int, m ≤ l.foldl (fun m c => max m (c + 1)) m ∧ ∀ x ∈ l, x < l.foldl (fun m c => max m (c + 1)) m := by
  induction l with
  | nil => intro m; exact ⟨Int.le_refl _, fun x hx => by cases hx⟩
  | cons y l ih =>
    intro m
    obtain ⟨h1, h2⟩ := ih (max m (y + 1))
    refine ⟨by simp only [List.foldl_cons]; omega, fun x hx => ?_⟩
    simp only [List.foldl_cons]
    rcases List.mem_cons.1 hx with rfl | hx
    · omega
    · exact h2 x hx
theorem live_needed {a b : Int} {gl : List Gt} {ol : List Int} (hgood : goodC a b gl ol = true) : glR a b gl ol ≤ cnR a b gl ol := by
  have hr := cp_right hgood
  unfold glR cnR
  rw [if_pos hgood, if_pos hgood]
  obtain ⟨h0, hc⟩ := fold_ge (cpL a b gl ol) 0
  refine mxL_le _ _ h0 fun x hx => ?_
  unfold lcL at hx
  obtain ⟨k, hk, rfl⟩ := lvC_mem _ _ hx
  have hb := cpL_bd a b gl ol
  unfold rgB at hr
  have hlen : (cpL a b gl ol).length = (a + b).toNat + gl.length := cpG_len _ _ _
  generalize hLL : luL ((a + b).toNat + gl.length) gl ol = L at hr hk ⊢
  have hlp := live_pair hr k (by omega)
  have := pair_len ((cpL a b gl ol).foldl (fun m c => max m (c + 1)) 0).toNat _ (live_dif ((a + b).toNat + k) hlp) (fun x hx => by
    obtain ⟨y, hy, rfl⟩ := List.mem_map.1 hx
    obtain ⟨y0, y1, _⟩ := (liveL_iff _ _ _ _).1 hy
    have hyl : y.toNat < (cpL a b gl ol).length := by omega
    rw [List.getElem?_eq_getElem hyl, Option.getD_some]
    have h1 := hb _ (List.getElem_mem hyl)
    have h2 := hc _ (List.getElem_mem hyl)
    omega)
  rw [pickL_len] at this
  omega
end Go.Proofs.Ytlmlffiajgofeaa
