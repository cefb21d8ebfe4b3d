/- Contracts of RowChunks, CountGates, sameLists and pSum, and the plain facts of the law on layers.
   Conditions: none beyond the sizes. -/
import Derived.Test.YtlmlffiajgofeaaFlu
import Derived.Test.YtlmlffiajgofeaaFrf
import Derived.Test.YtlmlffiajgofeaaLai
import Derived.Test.YtlmlffiajgofeaaAly
import Derived.Test.YtlmlffiajgofeaaLsm
namespace Go.Proofs.Ytlmlffiajgofeaa
open Go.RowKit
set_option linter.unusedVariables false
/-- How many gates GtAnd are in each chunk. -/
def chW (m : Int) : Nat → Int → List Int
  | 0, _ => []
  | f + 1, n => if 0 < n then min n m :: chW m f (n - m) else []
theorem chW_end {m n : Int} {f : Nat} (h : ¬ 0 < n) : chW m f n = [] := by cases f <;> simp [chW, h]
theorem chW_step {m n : Int} {f : Nat} (h : 0 < n) : chW m (f + 1) n = min n m :: chW m f (n - m) := by rw [chW, if_pos h]
theorem chW_sum {m : Int} (hm : 1 ≤ m) : ∀ (f : Nat) (n : Int), n ≤ f → (chW m f n).sum = max n 0
  | 0, n, h => by simp [chW]; omega
  | f + 1, n, h => by
    by_cases h0 : 0 < n
    · rw [chW_step h0, List.sum_cons, chW_sum hm f (n - m) (by omega)]; omega
    · rw [chW_end h0]; simp; omega
theorem chW_bd {m : Int} (hm : 1 ≤ m) : ∀ (f : Nat) (n : Int), ∀ x ∈ chW m f n, 0 ≤ x ∧ x ≤ m
  | 0, n, x, h => by simp [chW] at h
  | f + 1, n, x, h => by
    by_cases h0 : 0 < n
    · rw [chW_step h0] at h
      rcases List.mem_cons.1 h with rfl | h
      · omega
      · exact chW_bd hm f _ x h
    · rw [chW_end h0] at h; cases h
theorem chW_len (m : Int) : ∀ (f : Nat) (n : Int), (chW m f n).length ≤ f
  | 0, n => by simp [chW]
  | f + 1, n => by
    by_cases h0 : 0 < n
    · rw [chW_step h0]; have := chW_len m f (n - m); simp only [List.length_cons]; omega
    · rw [chW_end h0]; simp
def rcB (a b : Int) (gl : List Gt) (ol : List Int) (v : Int) : Bool := goodC a b gl ol && inR v 1 300
def rcR (a b : Int) (gl : List Gt) (ol : List Int) (v : Int) : List Int := if rcB a b gl ol v then chW v gl.length (kN 1 gl gl.length : Int) else []
theorem total_set : ∀ {LL : List (List Int)} {i : Nat} {l : List Int} (l' : List Int), LL[i]? = some l → total (LL.set i l') + l.length = total LL + l'.length
  | [], i, l, l', h => by simp at h
  | x :: LL, 0, l, l', h => by
    simp at h; subst h
    simp only [List.set_cons_zero, total]; omega
  | x :: LL, i + 1, l, l', h => by
    have := total_set (LL := LL) (i := i) (l := l) l' (by simpa using h)
    simp only [List.set_cons_succ, total]; omega
theorem total_nil (N : Nat) (L : List Int) (gl : List Gt) (m : Nat) : total (LLk N L gl 0 m) = 0 := by
  induction m with
  | zero => rfl
  | succ m ih => rw [LLk_snoc, total_snoc, ih]; simp [lay]
/-- The layers have all gates GtAnd. -/
theorem total_LL {N n M : Nat} {gl : List Gt} (hn : gl.length = n) (hT : IsTop N (adL N gl n) gl n M) : ∀ k, k ≤ n → total (LLk N (adL N gl n) gl k M) = kN 1 gl k
  | 0, _ => total_nil _ _ _ _
  | k + 1, hk => by
    have ih := total_LL hn hT k (by omega)
    obtain ⟨⟨K, x, y⟩, hg⟩ : ∃ g, gl[k]? = some g := ⟨_, List.getElem?_eq_getElem (by omega)⟩
    by_cases h1 : K = 1
    · subst h1
      have hv := adL_get N gl n k (by omega)
      obtain ⟨v1, v2⟩ := adL_and hg (by omega) hv
      generalize hdv : depG (adL N gl k) (gl[k]?.getD Gt.zero) = v at hv v1 v2
      obtain ⟨e, rfl⟩ : ∃ e : Nat, v = ((e + 1 : Nat) : Int) := ⟨(v - 1).toNat, by omega⟩
      have he := top_le hT hg (by omega) hv
      rw [LLk_set hg hv (by omega), kN, hg]
      have := total_set (lay N (adL N gl n) gl (e + 1) k ++ [(k : Int)]) (LLk_get N (adL N gl n) gl k M e (by omega))
      rw [List.length_append, List.length_singleton] at this
      simp only [Option.getD_some, if_true]
      omega
    · rw [LLk_kind hg h1, kN, hg, ih]
      simp [h1]
theorem putA_or (v : Int) (ps : List Int) : ∀ (l : List Int) (i : Nat) (u : Int), (putA l ps v)[i]? = some u → (u = v ∧ ∃ x ∈ ps, x.toNat = i) ∨ l[i]? = some u := by
  induction ps with
  | nil => intro l i u h; exact .inr h
  | cons y ps ih =>
    intro l i u h
    rw [putA_cons] at h
    rcases ih _ i u h with ⟨h1, x, hx, h2⟩ | h1
    · exact .inl ⟨h1, x, List.mem_cons_of_mem _ hx, h2⟩
    · by_cases hp : y.toNat = i
      · have hl : i < l.length := by have := (List.getElem?_eq_some_iff.1 h1).1; rwa [List.length_set] at this
        rw [hp, List.getElem?_set_self hl] at h1
        exact .inl ⟨by injection h1 with h1; exact h1.symm, y, by simp, hp⟩
      · rw [List.getElem?_set_ne hp] at h1
        exact .inr h1
theorem luG_lo {N W : Nat} {gl : List Gt} (hgs : goodGs (N : Int) gl = true) : ∀ k, k ≤ gl.length → ∀ (i : Nat) (v : Int), (luG W gl k)[i]? = some v → v = -1 ∨ (i : Int) - N < v
  | 0, _, i, v, h => by
    have := List.mem_of_getElem? h
    exact .inl (List.eq_of_mem_replicate this)
  | k + 1, hk, i, v, h => by
    rw [luG] at h
    rcases putA_or _ _ _ i v h with ⟨rfl, x, hx, rfl⟩ | h1
    · obtain ⟨g, hg⟩ : ∃ g, gl[k]? = some g := ⟨_, List.getElem?_eq_getElem (by omega)⟩
      rw [hg] at hx
      have := (goodG_facts (goodGs_at hgs hg)).2 x hx
      exact .inr (by omega)
    · exact luG_lo hgs k (by omega) i v h1
/-- A last use comes behind its wire. -/
theorem luL_lo {N W : Nat} {gl : List Gt} {ol : List Int} (hgs : goodGs (N : Int) gl = true) (hol : ∀ x ∈ ol, 0 ≤ x ∧ x < (N : Int) + gl.length) {i : Nat} {v : Int} (h : (luL W gl ol)[i]? = some v) : v = -1 ∨ (i : Int) - N < v := by
  unfold luL at h
  rcases putA_or _ _ _ i v h with ⟨rfl, x, hx, rfl⟩ | h1
  · have := hol x hx
    exact .inr (by omega)
  · exact luG_lo hgs _ (Nat.le_refl _) i v h1
theorem late_last {W : Nat} {gl : List Gt} {ol : List Int} {i : Nat} (hl : firstG gl (i : Int) < gl.length) (hi : i < W) : (firstG gl (i : Int) : Int) ≤ (luL W gl ol)[i]?.getD 0 := by
  have hp : memB (partsL (gl[firstG gl (i : Int)])) (i : Int) = true := List.findIdx_getElem (w := hl)
  simp only [memB, decide_eq_true_eq] at hp
  have := luL_gate (N := W) (ol := ol) (List.getElem?_eq_getElem hl) hp (by omega)
  rwa [Int.toNat_natCast] at this
/-- What the law asks of last uses and late inputs. -/
theorem lay_facts {a b : Int} {gl : List Gt} {ol : List Int} (h : goodC a b gl ol = true) : ∃ N : Nat, a + b = (N : Int) ∧ (0 ≤ a ∧ a ≤ 20) ∧ (0 ≤ b ∧ b ≤ 20) ∧ (luR a b gl ol).length = N + gl.length ∧ (laR a b gl ol).length = N ∧
    (∀ (i : Nat) (v : Int), (luR a b gl ol)[i]? = some v → v ≤ gl.length ∧ (v = -1 ∨ (i : Int) - N < v)) ∧ (∀ (i : Nat) (f u : Int), (laR a b gl ol)[i]? = some f → (luR a b gl ol)[i]? = some u → f < gl.length → f ≤ u) := by
  obtain ⟨a0, a1, b0, b1, hn, hm, hgs, hol⟩ := goodC_facts h
  refine ⟨(a + b).toNat, by omega, ⟨a0, a1⟩, ⟨b0, b1⟩, ?_, ?_, fun i v hv => ?_, fun i f u hf hu hfl => ?_⟩
  · unfold luR; rw [if_pos h, luL_len]
  · unfold laR; rw [if_pos h, laL_len]
  · unfold luR at hv; rw [if_pos h] at hv
    exact ⟨(luL_bd _ gl ol v (List.mem_of_getElem? hv)).2, luL_lo (by rw [← hgs]; congr 1; omega) (fun x hx => by have := hol x hx; omega) hv⟩
  · unfold laR at hf; rw [if_pos h] at hf
    unfold luR at hu; rw [if_pos h] at hu
    have hi : i < (a + b).toNat := by have := (List.getElem?_eq_some_iff.1 hf).1; rwa [laL_len] at this
    unfold laL at hf
    rw [List.getElem?_map, List.getElem?_range hi] at hf
    replace hf : ((firstG gl (i : Int) : Nat) : Int) = f := by injection hf
    have := late_last (W := (a + b).toNat + gl.length) (gl := gl) (ol := ol) (i := i) (by omega) (by omega)
    rw [hu] at this
    simp only [Option.getD_some] at this
    omega
/-- What the law asks of chunks and layers. -/
theorem chunk_facts {a b v : Int} {gl : List Gt} {ol : List Int} {M n : Nat} (hn : gl.length = n) (h : rcB a b gl ol v = true) (hT : IsTop (a + b).toNat (adL (a + b).toNat gl n) gl n M) : goodC a b gl ol = true ∧ (rcR a b gl ol v).sum = (kN 1 gl n : Int) ∧ (∀ z ∈ rcR a b gl ol v, 0 ≤ z ∧ z ≤ 300) ∧ (rcR a b gl ol v).length ≤ 300 ∧ total (alR a b gl ol M) = kN 1 gl n ∧ kN 1 gl n ≤ 300 ∧ (knL gl n)[1]? = some (kN 1 gl n : Int) := by
  have h0 := h
  simp only [rcB, Bool.and_eq_true] at h0
  have hv := inR_iff.1 h0.2
  have hgf := goodC_facts h0.1
  have hk := kN_le 1 gl n
  subst hn
  refine ⟨h0.1, ?_, ?_, ?_, ?_, by omega, rfl⟩
  · unfold rcR; rw [if_pos h, chW_sum hv.1 _ _ (by omega)]; omega
  · unfold rcR; rw [if_pos h]; intro z hz; have := chW_bd hv.1 _ _ z hz; omega
  · unfold rcR; rw [if_pos h]; have := chW_len v gl.length (kN 1 gl gl.length : Int); omega
  · unfold alR; rw [if_pos h0.1]; exact total_LL rfl hT _ (Nat.le_refl _)
theorem sum_takeL (l : List Int) (k : Nat) (x : Int) (h : l[k]? = some x) : (l.take (k + 1)).sum = (l.take k).sum + x := by
  rw [List.take_add_one, h]; simp
theorem sum_bdL (l : List Int) (h : ∀ z ∈ l, 0 ≤ z ∧ z ≤ 300) (k : Nat) : 0 ≤ (l.take k).sum ∧ (l.take k).sum ≤ 300 * k := by
  induction k with
  | zero => simp
  | succ k ih =>
    by_cases hk : k < l.length
    · have hx := h _ (List.getElem_mem hk)
      rw [sum_takeL l k _ (List.getElem?_eq_getElem hk)]
      omega
    · rw [List.take_of_length_le (by omega)]
      rw [List.take_of_length_le (by omega)] at ih
      omega
set_option maxHeartbeats 2000000 in
theorem pSum_l (A : Option Addr) (n c : Nat) (l : List Int) (w : World) (h : RdI w A n c l) (hb : ∀ z ∈ l, 0 ≤ z ∧ z ≤ 300) (hn : n ≤ 1000) :
    Calls Try.prog 30 #[.slice A n c] w fun e w' => e = .returned (.int .i64 l.sum) ∧ Bl w w' := by
  obtain ⟨hle1, hle2⟩ := h.le
  have hl := Lib.hid h.length
  have hB := Lib.hid hb
  clear hb
  obtain ⟨S, hS0, hSs, hSb, hSn⟩ : ∃ S : Nat → Int, Hid (S 0 = 0) ∧ Hid (∀ k x, l[k]? = some x → S (k + 1) = S k + x) ∧ Hid (∀ k, 0 ≤ S k ∧ S k ≤ 300 * k) ∧ Hid (l.sum = S n) :=
    ⟨fun k => (l.take k).sum, Lib.hid (by simp), Lib.hid fun k x hx => sum_takeL l k x hx, Lib.hid fun k => sum_bdL l hB.out k, Lib.hid (by show l.sum = (l.take n).sum; rw [← hl.out, List.take_length])⟩
  go_enter Try.func30, Try.ntmps30
  go_wp2
  go_loopw [3, 8] (fun a i wr => ∃ k : Nat, k ≤ n ∧ i = .int .i64 (k : Nat) ∧ a = .int .i64 (S k) ∧ Bl w wr) (fun _ i _ => n - (intOf i).toNat)
  case atStart => exact ⟨0, by omega, rfl, by rw [hS0.out], Bl.refl w⟩
  case round =>
    obtain ⟨k, hk, rfl, rfl, hW⟩ := hrel
    by_cases hlt : k < n
    · obtain ⟨ad, x, rfl, hadb, hx, hcell⟩ := (RdI.keep h hW).at_ hlt
      have hs := Lib.hid (hSs.out k x hx)
      have h1 := hSb.out k
      have h2 := hSb.out (k + 1)
      rw [hs.out] at h2
      clear hx
      generalize S k = T at *
      have i1 : (k : Int) < n := by omega
      go_wp2
      go_roundw
      case rel => exact ⟨k + 1, by omega, by go_num, by rw [hs.out], hW⟩
      case measure => simp [intOf]; omega
    · have hf := Lib.hid (show l.sum = S k by rw [hSn.out, show k = n by omega])
      have i1 : ¬ (k : Int) < n := by omega
      go_wp2
      go_ret
      exact ⟨by rw [hf.out]; rfl, hW⟩
theorem spec_l1LeastV (a b : Int) (w : World) : Calls Try.prog 80 #[.int .i64 a, .int .i64 b] w fun e w' => e = .returned (.int .i64 (min a b)) ∧ w = w' := by
  go_enter Try.func80, Try.ntmps80
  go_wp2
  all_goals go_ret
  all_goals exact ⟨ret_int (by omega), rfl⟩
set_option maxRecDepth 20000 in
set_option maxHeartbeats 4000000 in
theorem impl_RowChunks (a b v : Int) (Ag Ao : Option Addr) (n cg m co : Nat) (gl : List Gt) (ol : List Int) (w : World) (hg : RdG w Ag n cg gl) (ho : RdI w Ao m co ol) (hv : 0 ≤ v ∧ v ≤ 400) :
    Calls Try.prog 25 #[.agg #[.int .i64 a, .int .i64 b, .slice Ag n cg, .slice Ao m co], .int .i64 v] w fun e w' => ∃ A' n' c', e = .returned (.tuple #[.slice A' n' c', .bool (rcB a b gl ol v)]) ∧ OwnI w.heap.size w' A' n' c' (rcR a b gl ol v) ∧ Bl w w' := by
  have hW := (Bl.refl w).alloc (.cells #[.int .i64 a, .int .i64 b, .slice Ag n cg, .slice Ao m co] 26)
  have hB := Blk.new w 26 #[.int .i64 a, .int .i64 b, .slice Ag n cg, .slice Ao m co]
  have hG := Lib.hid (impl_IsCircuit a b Ag Ao n cg m co gl ol _ (hg.keep hW) (ho.keep hW))
  have hgl := hg.2
  have hB_l := hB.lt; have hB_f := hB.frozen; have hB_0 := hB.cell 0 _ rfl; have hB_1 := hB.cell 1 _ rfl; have hB_2 := hB.cell 2 _ rfl; have hB_3 := hB.cell 3 _ rfl
  rcases hgd : goodC a b gl ol
  · have HB := Lib.hid (show rcB a b gl ol v = false by unfold rcB; rw [hgd]; rfl)
    have HR := Lib.hid (show rcR a b gl ol v = [] by unfold rcR; rw [HB.out]; rfl)
    go_enter Try.func25, Try.ntmps25
    go_wp2_with fail
    refine hG.out.mono ?_
    rintro e w1 ⟨rfl, hb1⟩
    rw [hgd]
    go_wp2_with fail
    go_ret2
    exact ⟨none, 0, 0, by rw [HB.out]; rfl, by rw [HR.out]; exact OwnI.nil _ _, hW.call hb1⟩
  · rcases hin : inR v 1 300
    · have HB := Lib.hid (show rcB a b gl ol v = false by unfold rcB; rw [hin, Bool.and_false])
      have HR := Lib.hid (show rcR a b gl ol v = [] by unfold rcR; rw [HB.out]; rfl)
      go_enter Try.func25, Try.ntmps25
      go_wp2_with fail
      refine hG.out.mono ?_
      rintro e w1 ⟨rfl, hb1⟩
      rw [hgd]
      go_wp2_with fail
      refine (impl_within v 1 300 _).mono ?_
      rintro e w2 ⟨rfl, rfl⟩
      rw [hin]
      go_wp2_with fail
      go_ret2
      exact ⟨none, 0, 0, by rw [HB.out]; rfl, by rw [HR.out]; exact OwnI.nil _ _, hW.call hb1⟩
    · have HB := Lib.hid (show rcB a b gl ol v = true by unfold rcB; rw [hgd, hin]; rfl)
      have HR := Lib.hid (show rcR a b gl ol v = chW v n (kN 1 gl n : Int) by unfold rcR; rw [if_pos HB.out, hgl])
      have hvb := inR_iff.1 hin
      have hf := goodC_facts hgd
      have hn3 : n ≤ 300 := by omega
      have hkd := Lib.hid (kinds_of hgd)
      have hkn := kN_le 1 gl n
      clear hf
      go_enter Try.func25, Try.ntmps25
      go_wp2_with fail
      refine hG.out.mono ?_
      rintro e w1 ⟨rfl, hb1⟩
      rw [hgd]
      go_wp2_with fail
      refine (impl_within v 1 300 _).mono ?_
      rintro e w2 ⟨rfl, rfl⟩
      rw [hin]
      clear hgd hin hG
      replace hB := hB.keep hb1
      replace hW := hW.call hb1
      clear hb1
      (try clear hB_l hB_f hB_0 hB_1 hB_2 hB_3)
      have hO := (own_made w1).mono (base' := w.heap.size) hW.sz
      replace hB := hB.alloc (.cells #[] 3)
      replace hW := hW.alloc (.cells #[] 3)
      have hB_l := hB.lt; have hB_f := hB.frozen; have hB_0 := hB.cell 0 _ rfl; have hB_1 := hB.cell 1 _ rfl; have hB_2 := hB.cell 2 _ rfl; have hB_3 := hB.cell 3 _ rfl
      go_wp2_with fail
      (try clear hB_l hB_f hB_0 hB_1 hB_2 hB_3)
      refine (impl_countKinds Ag n cg gl _ (hg.keep hW) hkd.out (by omega)).mono ?_
      rintro e w2 ⟨A2, rfl, ho2, hb2⟩
      replace hO := hO.keep hb2
      replace hB := hB.keep hb2
      replace hW := hW.call hb2
      clear hb2
      obtain ⟨g2, hg2, _, _, hc2, hfr⟩ := ho2.form (by omega)
      subst hg2
      have hcv := hc2 1 (kN 1 gl n : Int) rfl
      clear hc2 hfr
      go_wp2_with fail
      clear hcv
      have hWr := hW
      clear hW
      go_loopw [6, 7] (fun o i wr => ∃ (f : Nat) (r : Int) (q c : Nat) (A : Option Addr) (l : List Int), i = .int .i64 r ∧ o = .slice A q c ∧ OwnI w.heap.size wr A q c l ∧ Hid (l ++ chW v f r = rcR a b gl ol v) ∧ r ≤ f ∧ f ≤ 300 ∧ -1000 ≤ r ∧ q + f ≤ 301 ∧ Bl w wr) (fun _ i _ => (intOf i).toNat)
      case atStart => exact ⟨n, (kN 1 gl n : Int), 0, 0, _, [], rfl, rfl, hO, Lib.hid (by rw [HR.out]; rfl), by omega, by omega, by omega, by omega, hWr⟩
      case round =>
        clear hO hWr hB ho2
        obtain ⟨f, r, q, c, A, l, rfl, rfl, hown, hL, hrf, hf3, hr0, hqf, hWr⟩ := hrel
        by_cases h0 : 0 < r
        · obtain ⟨f, rfl⟩ : ∃ q, f = q + 1 := ⟨f - 1, by omega⟩
          have hst := Lib.hid (show (l ++ [min r v]) ++ chW v f (r - v) = rcR a b gl ol v by rw [← hL.out, chW_step h0]; simp)
          clear hL
          go_wp2_with (first | (at_builtin; refine ap_int rfl rfl rfl (hown.alloc _) rfl (rd_new1 _ _ _) (by omega) (by have := hWr.sz; simp; omega) ?_; intro A7 c7 w7 ho7 hg7 hat7))
          go_roundw
          case rel => exact ⟨f, r - v, q + 1, c7, A7, _, by go_num, rfl, ho7, by rw [show (if v < r then v else r) = min r v by omega]; exact hst, by omega, by omega, by omega, by omega, Bl.grown (hWr.alloc _) hg7 (fun k hk => (hown.blk k hk).1)⟩
          case measure => simp [intOf]; omega
        · have hE := Lib.hid (show l = rcR a b gl ol v by rw [← hL.out, chW_end h0, List.append_nil])
          clear hL
          go_wp2_with fail
          go_ret2
          exact ⟨A, q, c, by rw [HB.out]; rfl, by rw [← hE.out]; exact hown, hWr⟩
set_option maxRecDepth 20000 in
set_option maxHeartbeats 4000000 in
theorem spec_RowChunks (a b v : Int) (Ag Ao : Option Addr) (n cg m co : Nat) (gl : List Gt) (ol : List Int) (w : World) (hg : RdG w Ag n cg gl) (ho : RdI w Ao m co ol) (hv : 0 ≤ v ∧ v ≤ 400) :
    Calls Try.prog 26 #[.agg #[.int .i64 a, .int .i64 b, .slice Ag n cg, .slice Ao m co], .int .i64 v] w fun e w' => ∃ A' n' c', e = .returned (.tuple #[.slice A' n' c', .bool (rcB a b gl ol v)]) ∧ OwnI w.heap.size w' A' n' c' (rcR a b gl ol v) ∧ Bl w w' := by
  have hW := (Bl.refl w).alloc (.cells #[.int .i64 a, .int .i64 b, .slice Ag n cg, .slice Ao m co] 26)
  have hB := Blk.new w 26 #[.int .i64 a, .int .i64 b, .slice Ag n cg, .slice Ao m co]
  have hG := Lib.hid (spec_ciGood a b Ag Ao n cg m co gl ol _ (hg.keep hW) (ho.keep hW))
  have hgl := hg.2
  have hB_l := hB.lt; have hB_f := hB.frozen; have hB_0 := hB.cell 0 _ rfl; have hB_1 := hB.cell 1 _ rfl; have hB_2 := hB.cell 2 _ rfl; have hB_3 := hB.cell 3 _ rfl
  rcases hgd : goodC a b gl ol
  · have HB := Lib.hid (show rcB a b gl ol v = false by unfold rcB; rw [hgd]; rfl)
    have HR := Lib.hid (show rcR a b gl ol v = [] by unfold rcR; rw [HB.out]; rfl)
    go_enter Try.func26, Try.ntmps26
    go_wp2_with fail
    refine hG.out.mono ?_
    rintro e w1 ⟨rfl, hb1⟩
    rw [hgd]
    go_wp2_with fail
    go_ret2
    exact ⟨none, 0, 0, by rw [HB.out]; rfl, by rw [HR.out]; exact OwnI.nil _ _, hW.call hb1⟩
  · rcases hin : inR v 1 300
    · have HB := Lib.hid (show rcB a b gl ol v = false by unfold rcB; rw [hin, Bool.and_false])
      have HR := Lib.hid (show rcR a b gl ol v = [] by unfold rcR; rw [HB.out]; rfl)
      go_enter Try.func26, Try.ntmps26
      go_wp2_with fail
      refine hG.out.mono ?_
      rintro e w1 ⟨rfl, hb1⟩
      rw [hgd]
      go_wp2_with fail
      refine (spec_l1In v 1 300 _).mono ?_
      rintro e w2 ⟨rfl, rfl⟩
      rw [hin]
      go_wp2_with fail
      go_ret2
      exact ⟨none, 0, 0, by rw [HB.out]; rfl, by rw [HR.out]; exact OwnI.nil _ _, hW.call hb1⟩
    · have HB := Lib.hid (show rcB a b gl ol v = true by unfold rcB; rw [hgd, hin]; rfl)
      have HR := Lib.hid (show rcR a b gl ol v = chW v n (kN 1 gl n : Int) by unfold rcR; rw [if_pos HB.out, hgl])
      have hvb := inR_iff.1 hin
      have hf := goodC_facts hgd
      have hn3 : n ≤ 300 := by omega
      have hkd := Lib.hid (kinds_of hgd)
      have hkn := kN_le 1 gl n
      clear hf
      go_enter Try.func26, Try.ntmps26
      go_wp2_with fail
      refine hG.out.mono ?_
      rintro e w1 ⟨rfl, hb1⟩
      rw [hgd]
      go_wp2_with fail
      refine (spec_l1In v 1 300 _).mono ?_
      rintro e w2 ⟨rfl, rfl⟩
      rw [hin]
      clear hgd hin hG
      replace hB := hB.keep hb1
      replace hW := hW.call hb1
      clear hb1
      (try clear hB_l hB_f hB_0 hB_1 hB_2 hB_3)
      have hO := OwnI.nil w.heap.size w1
      have hB_l := hB.lt; have hB_f := hB.frozen; have hB_0 := hB.cell 0 _ rfl; have hB_1 := hB.cell 1 _ rfl; have hB_2 := hB.cell 2 _ rfl; have hB_3 := hB.cell 3 _ rfl
      go_wp2_with fail
      (try clear hB_l hB_f hB_0 hB_1 hB_2 hB_3)
      refine (spec_ciCounts a b Ag Ao n cg m co gl _ (hg.keep hW) hkd.out (by omega)).mono ?_
      rintro e w2 ⟨A2, rfl, ho2, hb2⟩
      replace hO := hO.keep hb2
      replace hB := hB.keep hb2
      replace hW := hW.call hb2
      clear hb2
      obtain ⟨g2, hg2, _, _, hc2, hfr⟩ := ho2.form (by omega)
      subst hg2
      have hcv := hc2 1 (kN 1 gl n : Int) rfl
      clear hc2 hfr
      go_wp2_with fail
      clear hcv
      have hWr := hW
      clear hW
      go_loopw [6, 7] (fun o i wr => ∃ (f : Nat) (r : Int) (q c : Nat) (A : Option Addr) (l : List Int), i = .int .i64 r ∧ o = .slice A q c ∧ OwnI w.heap.size wr A q c l ∧ Hid (l ++ chW v f r = rcR a b gl ol v) ∧ r ≤ f ∧ f ≤ 300 ∧ -1000 ≤ r ∧ q + f ≤ 301 ∧ Bl w wr) (fun _ i _ => (intOf i).toNat)
      case atStart => exact ⟨n, (kN 1 gl n : Int), 0, 0, none, [], rfl, rfl, hO, Lib.hid (by rw [HR.out]; rfl), by omega, by omega, by omega, by omega, hWr⟩
      case round =>
        clear hO hWr hB ho2
        obtain ⟨f, r, q, c, A, l, rfl, rfl, hown, hL, hrf, hf3, hr0, hqf, hWr⟩ := hrel
        by_cases h0 : 0 < r
        · obtain ⟨f, rfl⟩ : ∃ q, f = q + 1 := ⟨f - 1, by omega⟩
          have hst := Lib.hid (show (l ++ [min r v]) ++ chW v f (r - v) = rcR a b gl ol v by rw [← hL.out, chW_step h0]; simp)
          clear hL
          go_wp2_with (first | (at_builtin; refine ap_int rfl rfl rfl (hown.alloc _) rfl (rd_new1 _ _ _) (by omega) (by have := hWr.sz; simp; omega) ?_; intro A7 c7 w7 ho7 hg7 hat7) | (go_at_call 80; refine (spec_l1LeastV _ _ _).mono ?_; rintro e w6 ⟨rfl, rfl⟩))
          go_roundw
          case rel => exact ⟨f, r - v, q + 1, c7, A7, _, by go_num, rfl, ho7, hst, by omega, by omega, by omega, by omega, Bl.grown (hWr.alloc _) hg7 (fun k hk => (hown.blk k hk).1)⟩
          case measure => simp [intOf]; omega
        · have hE := Lib.hid (show l = rcR a b gl ol v by rw [← hL.out, chW_end h0, List.append_nil])
          clear hL
          go_wp2_with fail
          go_ret2
          exact ⟨A, q, c, by rw [HB.out]; rfl, by rw [← hE.out]; exact hown, hWr⟩
set_option maxHeartbeats 2000000 in
theorem impl_CountGates_t (a b : Int) (Ag Ao : Option Addr) (n cg m co : Nat) (gl : List Gt) (ol : List Int) (w : World) (hg : RdG w Ag n cg gl) (ho : RdI w Ao m co ol) (hgd : goodC a b gl ol = true) :
    Calls Try.prog 27 #[.agg #[.int .i64 a, .int .i64 b, .slice Ag n cg, .slice Ao m co]] w fun e w' => ∃ A', e = .returned (.tuple #[.slice A' 4 4, .bool true]) ∧ OwnI w.heap.size w' A' 4 4 (knL gl n) ∧ Bl w w' := by
  have hW := (Bl.refl w).alloc (.cells #[.int .i64 a, .int .i64 b, .slice Ag n cg, .slice Ao m co] 26)
  have hB := Blk.new w 26 #[.int .i64 a, .int .i64 b, .slice Ag n cg, .slice Ao m co]
  have hG := Lib.hid (impl_IsCircuit a b Ag Ao n cg m co gl ol _ (hg.keep hW) (ho.keep hW))
  have hgl := hg.2
  have hf := goodC_facts hgd
  have hn3 : n ≤ 300 := by omega
  have hkd := Lib.hid (kinds_of hgd)
  clear hf
  go_enter Try.func27, Try.ntmps27
  go_wp2_with fail
  refine hG.out.mono ?_
  rintro e w1 ⟨rfl, hb1⟩
  rw [hgd]
  replace hB := hB.keep hb1
  replace hW := hW.call hb1
  have hB_l := hB.lt; have hB_f := hB.frozen; have hB_0 := hB.cell 0 _ rfl; have hB_1 := hB.cell 1 _ rfl; have hB_2 := hB.cell 2 _ rfl; have hB_3 := hB.cell 3 _ rfl
  go_wp2_with fail
  refine (impl_countKinds Ag n cg gl w1 (hg.keep hW) hkd.out (by omega)).mono ?_
  rintro e w2 ⟨A2, rfl, ho2, hb2⟩
  go_wp2_with fail
  go_ret2
  exact ⟨A2, rfl, OwnI.mono ho2 hW.sz, hW.call hb2⟩
set_option maxHeartbeats 2000000 in
theorem laws_sameLists {base base' : Nat} (A B : Option Addr) (n c m d : Nat) (hs hs' : List Hd) (LL : List (List Int)) (w : World) (h : OwnSS base w A n c hs LL) (h' : OwnSS base' w B m d hs' LL) :
    Calls Try.prog 31 #[.slice A n c, .slice B m d] w fun e w' => e = .returned (.bool true) ∧ Bl w w' := by
  obtain rfl : n = m := h.l_eq.symm.trans h'.l_eq
  obtain ⟨hle1, hle2⟩ := h.le
  obtain ⟨hle3, hle4⟩ := h'.le
  have h0 := Bl.refl w
  go_enter Try.func31, Try.ntmps31
  go_wp2
  go_loopw [13] (fun i wr => ∃ k, k ≤ n ∧ i = .int .i64 (k : Nat) ∧ Bl w wr) (fun i _ => n - (intOf i).toNat)
  case atStart => exact ⟨0, by omega, rfl, h0⟩
  case round =>
    obtain ⟨k, hk, rfl, hW⟩ := hrel
    clear h0
    by_cases hlt : k < n
    · obtain ⟨g, x, y, rfl, hx, hy, hbg, hgl, kc, hfr, hro⟩ := (h.keep hW).cell hlt
      obtain ⟨g', x', y', rfl, hx', hy', hbg', hgl', kc2, hfr', hro2⟩ := (h'.keep hW).cell hlt
      obtain rfl : y = y' := by rw [hy] at hy'; injection hy'
      clear hx hy hx' hy' hfr hfr'
      have i1 : (k : Int) < n := by omega
      go_wp2
      refine wp_region_held_drew (S := (fun w' => w'.cell? ⟨g, k, none⟩ = some (.slice x.A x.n x.c) ∧ w'.cell? ⟨g', k, none⟩ = some (.slice x'.A x'.n x'.c))) (by kernel_rfl) ?_ (fun hHeld => ?_)
      · (try dsimp only); exact ⟨Bl.cells (by (repeat (first | assumption | with_reducible exact Bl.refl _ | with_reducible refine Bl.drewN ?_ _ | with_reducible refine Bl.drew ?_ | with_reducible refine Bl.alloc ?_ _ | (with_reducible refine Bl.call ?_ (by assumption))))) kc, Bl.cells (by (repeat (first | assumption | with_reducible exact Bl.refl _ | with_reducible refine Bl.drewN ?_ _ | with_reducible refine Bl.drew ?_ | with_reducible refine Bl.alloc ?_ _ | (with_reducible refine Bl.call ?_ (by assumption))))) kc2⟩
      refine held_take (i := 0) (d := 16) (v := ?_) rfl rfl (by kernel_rfl) (by kernel_rfl) (by kernel_rfl) (fun _ _ _ h => h) (Or.inl ⟨by rfl, ?_⟩) (by assumption) ?_
      rotate_left
      · (intro w hSw; (try dsimp only at hSw); go_simp; (try with_reducible rfl))
      (try simp only [List.set_cons_zero, List.set_cons_succ])
      refine held_take (i := 1) (d := 17) (v := ?_) rfl rfl (by kernel_rfl) (by kernel_rfl) (by kernel_rfl) (fun _ _ _ h => h) (Or.inl ⟨by rfl, ?_⟩) (by assumption) ?_
      rotate_left
      · (intro w hSw; (try dsimp only at hSw); go_simp; (try with_reducible rfl))
      (try simp only [List.set_cons_zero, List.set_cons_succ])
      refine held_take (i := 2) (d := 18) (v := ?_) rfl rfl (by kernel_rfl) (by kernel_rfl) (by kernel_rfl) (fun _ _ _ h => h) (Or.inl ⟨by rfl, ?_⟩) (by assumption) ?_
      rotate_left
      · (intro w hSw; (try dsimp only at hSw); go_simp; (try with_reducible rfl))
      (try simp only [List.set_cons_zero, List.set_cons_succ])
      refine held_take (i := 3) (d := 19) (v := ?_) rfl rfl (by kernel_rfl) (by kernel_rfl) (by kernel_rfl) (fun _ _ _ h => h) (Or.inl ⟨by rfl, ?_⟩) (by assumption) ?_
      rotate_left
      · (intro w hSw; (try dsimp only at hSw); go_simp; (try with_reducible rfl))
      (try simp only [List.set_cons_zero, List.set_cons_succ])
      refine held_take (i := 4) (d := 20) (v := ?_) rfl rfl (by kernel_rfl) (by kernel_rfl) (by kernel_rfl) (fun _ _ _ h => h) (Or.inl ⟨by rfl, ?_⟩) (by assumption) ?_
      rotate_left
      · (intro w hSw; (try dsimp only at hSw); go_simp; (try with_reducible rfl))
      (try simp only [List.set_cons_zero, List.set_cons_succ])
      refine held_take (i := 5) (d := 21) (v := ?_) rfl rfl (by kernel_rfl) (by kernel_rfl) (by kernel_rfl) (fun _ _ _ h => h) (Or.inl ⟨by rfl, ?_⟩) (by assumption) ?_
      rotate_left
      · (intro w hSw; (try dsimp only at hSw); go_simp; (try with_reducible rfl))
      (try simp only [List.set_cons_zero, List.set_cons_succ])
      refine held_take (i := 6) (d := 22) (v := ?_) rfl rfl (by kernel_rfl) (by kernel_rfl) (by kernel_rfl) (fun _ _ _ h => h) (Or.inl ⟨by rfl, ?_⟩) (by assumption) ?_
      rotate_left
      · (intro w hSw; (try dsimp only at hSw); go_simp; (try with_reducible rfl))
      (try simp only [List.set_cons_zero, List.set_cons_succ])
      refine held_take (i := 7) (d := 23) (v := ?_) rfl rfl (by kernel_rfl) (by kernel_rfl) (by kernel_rfl) (fun _ _ _ h => h) (Or.inl ⟨by rfl, ?_⟩) (by assumption) ?_
      rotate_left
      · (intro w hSw; (try dsimp only at hSw); go_simp; (try with_reducible rfl))
      (try simp only [List.set_cons_zero, List.set_cons_succ])
      refine wpAnyH_ready (rs := [8]) (by kernel_rfl) (by simp) ?_
      refine AllReadyH.cons rfl (fun K hK => ?_) AllReadyH.nil
      go_simp
      (go_at_call 21; refine (same_t _ _ _ _ _ _ _ _ (hro.rd.keep (by (repeat (first | assumption | with_reducible exact Bl.refl _ | with_reducible refine Bl.drewN ?_ _ | with_reducible refine Bl.drew ?_ | with_reducible refine Bl.alloc ?_ _ | (with_reducible refine Bl.call ?_ (by assumption)))))) (hro2.rd.keep (by (repeat (first | assumption | with_reducible exact Bl.refl _ | with_reducible refine Bl.drewN ?_ _ | with_reducible refine Bl.drew ?_ | with_reducible refine Bl.alloc ?_ _ | (with_reducible refine Bl.call ?_ (by assumption))))))).mono ?_; rintro e w1 ⟨rfl, hb1⟩; replace kc : w1.cell? ⟨g, k, none⟩ = _ := Bl.cells (by (repeat (first | assumption | with_reducible exact Bl.refl _ | with_reducible refine Bl.drewN ?_ _ | with_reducible refine Bl.drew ?_ | with_reducible refine Bl.alloc ?_ _ | (with_reducible refine Bl.call ?_ (by assumption))))) kc; replace kc2 : w1.cell? ⟨g', k, none⟩ = _ := Bl.cells (by (repeat (first | assumption | with_reducible exact Bl.refl _ | with_reducible refine Bl.drewN ?_ _ | with_reducible refine Bl.drew ?_ | with_reducible refine Bl.alloc ?_ _ | (with_reducible refine Bl.call ?_ (by assumption))))) kc2; replace hW : Bl w w1 := (by (repeat (first | assumption | with_reducible exact Bl.refl _ | with_reducible refine Bl.drewN ?_ _ | with_reducible refine Bl.drew ?_ | with_reducible refine Bl.alloc ?_ _ | (with_reducible refine Bl.call ?_ (by assumption))))))
      go_wp2_with fail
      refine hK.out _ _ ?_ (fun hHeld => ?_)
      · (try dsimp only); exact ⟨Bl.cells (by (repeat (first | assumption | with_reducible exact Bl.refl _ | with_reducible refine Bl.drewN ?_ _ | with_reducible refine Bl.drew ?_ | with_reducible refine Bl.alloc ?_ _ | (with_reducible refine Bl.call ?_ (by assumption))))) kc, Bl.cells (by (repeat (first | assumption | with_reducible exact Bl.refl _ | with_reducible refine Bl.drewN ?_ _ | with_reducible refine Bl.drew ?_ | with_reducible refine Bl.alloc ?_ _ | (with_reducible refine Bl.call ?_ (by assumption))))) kc2⟩
      clear hK K
      (try simp only [Act.put]); (try simp only [List.setIfInBounds_toArray]); (try simp only [List.set_cons_succ]); (try simp only [List.set_cons_zero])
      refine held_take (i := 9) (d := 25) (v := ?_) rfl rfl (by kernel_rfl) (by kernel_rfl) (by kernel_rfl) (fun _ _ _ h => h) (Or.inl ⟨by rfl, ?_⟩) (by assumption) ?_
      rotate_left
      · (intro w hSw; (try dsimp only at hSw); go_simp; (try with_reducible rfl))
      (try simp only [List.set_cons_zero, List.set_cons_succ])
      refine wpAnyH_done (by kernel_rfl) ?_ _
      go_wp2
      go_roundw
      case rel => exact ⟨k + 1, by omega, by go_num, (by (repeat (first | assumption | with_reducible exact Bl.refl _ | with_reducible refine Bl.drewN ?_ _ | with_reducible refine Bl.drew ?_ | with_reducible refine Bl.alloc ?_ _ | (with_reducible refine Bl.call ?_ (by assumption)))))⟩
      case measure => simp [intOf]; omega
    · have i1 : ¬ (k : Int) < n := by omega
      go_wp2
      go_ret
      exact ⟨rfl, hW⟩
end Go.Proofs.Ytlmlffiajgofeaa
