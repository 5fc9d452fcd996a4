/- Plain law of chapter 14, part 4: the stable sort leaves a row in order as it is. Condition: no more than 10^7 tables. -/
import Derived.Test.YtoonheembcejfaaHLawA
import Derived.Test.YtoonheembcejfaaPAx7
import Derived.Test.YtoonheembcejfaaHSymA
import Derived.IntWalk
namespace Go.Proofs.Ytoonheembcejfaa.PA
open Go.RowKit Go.Proofs.YtoonheembcejfaaW.PrintWords Go.Proofs.YtoonheembcejfaaW.PrintLast Go.Proofs.YtoonheembcejfaaW.PrintMore
set_option linter.unusedVariables false
set_option linter.unusedSimpArgs false
theorem cmpI_gt {a b : Int} (h : b < a) : cmpI a b = 1 := by unfold cmpI; rw [if_neg (by omega), if_pos h]
theorem bl_asymm {a b : List UInt8} (h : Op.bytesLess b a = true) : Op.bytesLess a b = false := by
  cases h2 : Op.bytesLess a b with
  | false => rfl
  | true =>
    have := bl_trans _ _ _ h h2
    rw [bl_irrefl] at this
    cases this
/-- What stands behind is not less. -/
theorem pair_back {b a : S35} (hb : MetaOK b) (h : PairOK b a) : ¬ cmpP a b < 0 := by
  have hm : Op.bytesLess b.f3.toList b.f2.toList = false := hb.2.2.2.2.2.2.2.1
  have o1 : ∀ x, orI 1 x = 1 := fun x => by unfold orI; rw [if_neg (by omega)]
  have o0 : ∀ x, orI 0 x = x := fun x => by unfold orI; rw [if_pos rfl]
  unfold cmpP
  rcases h with h | ⟨e, ⟨z, h⟩ | ⟨z, h⟩⟩
  · rw [cmpI_gt h]; simp only [o1]; split <;> omega
  · rw [if_neg (by omega), show cmpI a.f1 b.f1 = 0 from (cmpI_eq _ _).2 e.symm, o0, cmpI_gt h]; omega
  · have hs : cmpS a.f2.toList b.f2.toList = 1 := by
      have h2 : Op.bytesLess b.f2.toList a.f2.toList = true := bl_le_trans _ _ _ hm h
      unfold cmpS
      rw [if_neg (by rw [bl_asymm h2]; simp), if_pos h2]
    rw [if_pos z, show cmpI a.f1 b.f1 = 0 from (cmpI_eq _ _).2 e.symm, o0, hs, o1]; omega
/-- A row in order: what stands behind is not less. -/
def InOrder (T : List S35) : Prop := T.length ≤ 10000000 ∧ ∀ x y : Int, 0 ≤ x → x < y → y < (T.length : Int) → ¬ cmpP (rd_T35 T y) (rd_T35 T x) < 0
theorem right_order {T : List S35} {L : List Int} {s : Int} (h : rightB T L s = true) : InOrder T := by
  refine ⟨Nat.le_trans (rightB_len h).1 (by omega), ?_⟩
  intro x y hx hxy hy
  have hp := (okT_pairs T none (rightB_okT h)).1
  have hm := rightB_meta h
  obtain ⟨i, rfl⟩ := Int.eq_ofNat_of_zero_le hx
  obtain ⟨j, rfl⟩ := Int.eq_ofNat_of_zero_le (show (0 : Int) ≤ y by omega)
  have hj : j < T.length := by omega
  have hi : i < T.length := by omega
  rw [rd48_nat, rd48_nat, List.getD_eq_getElem?_getD, List.getD_eq_getElem?_getD, List.getElem?_eq_getElem hj, List.getElem?_eq_getElem hi]
  simp only [Option.getD_some]
  exact pair_back (hm _ (List.getElem_mem hi)) (List.pairwise_iff_getElem.1 hp i j hi hj (by omega))
/-- The middle. -/
theorem half {x y : Int} (h0 : 0 ≤ x + y) (h1 : x + y ≤ 100000000) : wrap64 ((IntKind.u64.wrap (wrap64 (x + y))) / 2) = (x + y) / 2 := by
  have e1 : wrap64 (x + y) = x + y := w64 _ (by omega) (by omega)
  have e2 : IntKind.u64.wrap (x + y) = x + y := Go.IntWalk.u64_in _ ⟨by omega, by omega⟩
  rw [e1, e2, w64 _ (by omega) (by omega)]
theorem ins_stay (T : List S35) (hT : InOrder T) (a b : Int) (ha : 0 ≤ a) (hb : b ≤ (T.length : Int)) (m : Nat) : ∀ x : Int, a < x → x ≤ 10000001 → (b - x).toNat = m → Ev (fun k => api_Meta_76.l0 k T a b x) T := by
  obtain ⟨hl, hT⟩ := hT
  induction m with
  | zero =>
    intro x hx hxl hm
    refine Ev.step (f := fun k => some T) (fun k => ?_) (Ev.now _)
    simp only [api_Meta_76.l0]
    rw [if_neg (by omega)]
  | succ m ih =>
    intro x hx hxl hm
    have hxb : x < b := by omega
    have h1 : Ev (fun k => api_Meta_76.l1 k T a b x x) T := by
      refine Ev.step (f := fun k => (version_compare.f k ((rd_T35 T x).f0) ((rd_T35 T x).f1) ((rd_T35 T x).f2) ((rd_T35 T x).f3) ((rd_T35 T x).f4) ((rd_T35 T (x - 1)).f0) ((rd_T35 T (x - 1)).f1) ((rd_T35 T (x - 1)).f2) ((rd_T35 T (x - 1)).f3) ((rd_T35 T (x - 1)).f4)).bind fun t => if t < 0 then api_Meta_76.l1 k ((T.set x.toNat (⟨(rd_T35 T (x - 1)).f0, (rd_T35 T (x - 1)).f1, (rd_T35 T (x - 1)).f2, (rd_T35 T (x - 1)).f3, (rd_T35 T (x - 1)).f4⟩ : S35)).set (x - 1).toNat (⟨(rd_T35 T x).f0, (rd_T35 T x).f1, (rd_T35 T x).f2, (rd_T35 T x).f3, (rd_T35 T x).f4⟩ : S35)) a b x (x - 1) else api_Meta_76.l0 k T a b (x + 1)) (fun k => ?_) (Ev.bind (compare_I _ _) ?_)
      · simp only [api_Meta_76.l1]
        rw [w64 (x - 1) (by omega) (by omega), w64 (x + 1) (by omega) (by omega), if_pos hx, if_pos (by omega), if_pos (by omega), if_pos (by omega), if_pos (by omega)]
      · simp only [if_neg (hT (x - 1) x (by omega) (by omega) (by omega))]
        exact ih (x + 1) (by omega) (by omega) (by omega)
    refine Ev.step (fun k => ?_) h1
    simp only [api_Meta_76.l0]
    rw [if_pos hxb]
theorem insert_stay (T : List S35) (hT : InOrder T) (a b : Int) (ha : 0 ≤ a) (hal : a ≤ (T.length : Int)) (hb : b ≤ (T.length : Int)) : Ev (fun k => api_Meta_76.f k T a b) T := by
  have hl := hT.1
  have h := ins_stay T hT a b ha hb (b - (a + 1)).toNat (a + 1) (by omega) (by omega) rfl
  unfold api_Meta_76.f
  rw [w64 (a + 1) (by omega) (by omega)]
  exact h
/-! ### symMerge -/
theorem sym_l0 (T : List S35) (hT : InOrder T) (a b : Int) (ha : 0 ≤ a) (hb : b ≤ (T.length : Int)) (hab : a + 1 ≤ b) (n : Nat) : ∀ j : Int, a + 1 ≤ j → j ≤ b → (j - (a + 1)).toNat ≤ n → Ev (fun k => api_Meta_77.l0 k T a (a + 1) j) T := by
  obtain ⟨hl, hT⟩ := hT
  have hend : Ev (fun k => api_Meta_77.l1 k T (a + 1) a) T := by
    refine Ev.step (f := fun k => some T) (fun k => ?_) (Ev.now _)
    simp only [api_Meta_77.l1]
    rw [w64 (a + 1 - 1) (by omega) (by omega), if_neg (by omega)]
  induction n with
  | zero =>
    intro j h1 h2 h3
    refine Ev.step (fun k => ?_) hend
    simp only [api_Meta_77.l0]
    rw [if_neg (by omega)]
  | succ n ih =>
    intro j h1 h2 h3
    by_cases h : a + 1 < j
    · have hh := half (x := a + 1) (y := j) (by omega) (by omega)
      have hn := hT a ((a + 1 + j) / 2) ha (by omega) (by omega)
      have e : ∀ k, api_Meta_77.l0 (k + 1) T a (a + 1) j = (version_compare.f k ((rd_T35 T ((a + 1 + j) / 2)).f0) ((rd_T35 T ((a + 1 + j) / 2)).f1) ((rd_T35 T ((a + 1 + j) / 2)).f2) ((rd_T35 T ((a + 1 + j) / 2)).f3) ((rd_T35 T ((a + 1 + j) / 2)).f4) ((rd_T35 T a).f0) ((rd_T35 T a).f1) ((rd_T35 T a).f2) ((rd_T35 T a).f3) ((rd_T35 T a).f4)).bind fun t => if t < 0 then api_Meta_77.l0 k T a (wrap64 ((a + 1 + j) / 2 + 1)) j else api_Meta_77.l0 k T a (a + 1) ((a + 1 + j) / 2) := fun k => by
        simp only [api_Meta_77.l0, hh]
        rw [if_pos h, if_pos (by omega), if_pos (by omega), if_pos ha, if_pos (by omega)]
      refine Ev.step e (Ev.bind (compare_I _ _) ?_)
      simp only [if_neg hn]
      exact ih ((a + 1 + j) / 2) (by omega) (by omega) (by omega)
    · refine Ev.step (fun k => ?_) hend
      simp only [api_Meta_77.l0]
      rw [if_neg h]
theorem sym_l2 (T : List S35) (hT : InOrder T) (m : Int) (hm : m < (T.length : Int)) (n : Nat) : ∀ i : Int, 0 ≤ i → i ≤ m → (m - i).toNat ≤ n → Ev (fun k => api_Meta_77.l2 k T m i m) T := by
  obtain ⟨hl, hT⟩ := hT
  have hend : Ev (fun k => api_Meta_77.l3 k T m m) T := by
    refine Ev.step (f := fun k => some T) (fun k => ?_) (Ev.now _)
    simp only [api_Meta_77.l3]
    rw [if_neg (by omega)]
  induction n with
  | zero =>
    intro i h1 h2 h3
    obtain rfl : i = m := by omega
    refine Ev.step (fun k => ?_) hend
    simp only [api_Meta_77.l2]
    rw [if_neg (by omega)]
  | succ n ih =>
    intro i h1 h2 h3
    by_cases h : i < m
    · have hh := half (x := i) (y := m) (by omega) (by omega)
      have hn := hT ((i + m) / 2) m (by omega) (by omega) hm
      have e : ∀ k, api_Meta_77.l2 (k + 1) T m i m = (version_compare.f k ((rd_T35 T m).f0) ((rd_T35 T m).f1) ((rd_T35 T m).f2) ((rd_T35 T m).f3) ((rd_T35 T m).f4) ((rd_T35 T ((i + m) / 2)).f0) ((rd_T35 T ((i + m) / 2)).f1) ((rd_T35 T ((i + m) / 2)).f2) ((rd_T35 T ((i + m) / 2)).f3) ((rd_T35 T ((i + m) / 2)).f4)).bind fun t => if t < 0 then api_Meta_77.l2 k T m i ((i + m) / 2) else api_Meta_77.l2 k T m ((i + m) / 2 + 1) m := fun k => by
        simp only [api_Meta_77.l2, hh]
        rw [if_pos h, if_pos (by omega), if_pos hm, if_pos (by omega), if_pos (by omega), w64 ((i + m) / 2 + 1) (by omega) (by omega)]
      refine Ev.step e (Ev.bind (compare_I _ _) ?_)
      simp only [if_neg hn]
      exact ih ((i + m) / 2 + 1) (by omega) (by omega) (by omega)
    · obtain rfl : i = m := by omega
      refine Ev.step (fun k => ?_) hend
      simp only [api_Meta_77.l2]
      rw [if_neg (by omega)]
/-- The search of a row in order ends at its upper end. -/
theorem sym_l4 (T : List S35) (hT : InOrder T) (a m b mid p r : Int) (hend : Ev (fun k => api_Meta_77.l4 k T a m b mid (mid + m) r r p) T) (hr : 2 * r ≤ p + 1) (hp0 : 0 ≤ p) (hp : p ≤ 30000000) (n : Nat) :
    ∀ i : Int, 0 ≤ i → i ≤ r → p - i < (T.length : Int) → (r - i).toNat ≤ n → Ev (fun k => api_Meta_77.l4 k T a m b mid (mid + m) i r p) T := by
  obtain ⟨hl, hT⟩ := hT
  induction n with
  | zero =>
    intro i h1 h2 h3 h4
    obtain rfl : i = r := by omega
    exact hend
  | succ n ih =>
    intro i h1 h2 h3 h4
    by_cases h : i < r
    · have hh := half (x := i) (y := r) (by omega) (by omega)
      have hn := hT ((i + r) / 2) (p - (i + r) / 2) (by omega) (by omega) (by omega)
      have hw := w64 (p - (i + r) / 2) (by omega) (by omega)
      have e : ∀ k, api_Meta_77.l4 (k + 1) T a m b mid (mid + m) i r p = (version_compare.f k ((rd_T35 T (p - (i + r) / 2)).f0) ((rd_T35 T (p - (i + r) / 2)).f1) ((rd_T35 T (p - (i + r) / 2)).f2) ((rd_T35 T (p - (i + r) / 2)).f3) ((rd_T35 T (p - (i + r) / 2)).f4) ((rd_T35 T ((i + r) / 2)).f0) ((rd_T35 T ((i + r) / 2)).f1) ((rd_T35 T ((i + r) / 2)).f2) ((rd_T35 T ((i + r) / 2)).f3) ((rd_T35 T ((i + r) / 2)).f4)).bind fun t => if t < 0 then api_Meta_77.l4 k T a m b mid (mid + m) i ((i + r) / 2) p else api_Meta_77.l4 k T a m b mid (mid + m) ((i + r) / 2 + 1) r p := fun k => by
        simp only [api_Meta_77.l4, hh, hw]
        rw [if_pos h, if_pos (by omega), if_pos (by omega), if_pos (by omega), if_pos (by omega), w64 ((i + r) / 2 + 1) (by omega) (by omega)]
      refine Ev.step e (Ev.bind (compare_I _ _) ?_)
      simp only [if_neg hn]
      exact ih ((i + r) / 2 + 1) (by omega) (by omega) (by omega) (by omega)
    · obtain rfl : i = r := by omega
      exact hend
theorem sym_stay (T : List S35) (hT : InOrder T) (n : Nat) : ∀ a m b : Int, (b - a).toNat ≤ n → 0 ≤ a → a < m → m < b → b ≤ (T.length : Int) → Ev (fun k => api_Meta_77.f k T a m b) T := by
  have hl := hT.1
  induction n with
  | zero => intro a m b h0 _ _ _ _; omega
  | succ n ih =>
    intro a m b h0 h1 h2 h3 h4
    have hw1 := w64 (m - a) (by omega) (by omega)
    have hw2 := w64 (b - m) (by omega) (by omega)
    by_cases c1 : m - a = 1
    · obtain rfl : m = a + 1 := by omega
      refine Ev.step (fun k => ?_) (sym_l0 T hT a b h1 h4 (by omega) _ b (by omega) (by omega) (Nat.le_refl _))
      simp only [api_Meta_77.f]
      rw [hw1, if_pos c1]
    by_cases c2 : b - m = 1
    · refine Ev.step (fun k => ?_) (sym_l2 T hT m (by omega) _ a h1 (by omega) (Nat.le_refl _))
      simp only [api_Meta_77.f]
      rw [hw1, hw2, if_neg c1, if_pos c2]
    have hh := half (x := a) (y := b) (by omega) (by omega)
    have hm1 : a < (a + b) / 2 := by omega
    have hm2 : (a + b) / 2 < b := by omega
    have hab1 : a + b ≤ 2 * ((a + b) / 2) + 1 := by omega
    have hab2 : 2 * ((a + b) / 2) ≤ a + b := by omega
    generalize (a + b) / 2 = mid at hh hm1 hm2 hab1 hab2
    have hn := w64 (mid + m) (by omega) (by omega)
    have hp := w64 (mid + m - 1) (by omega) (by omega)
    have hj8 : ∀ i e : Int, ¬ (i < mid ∧ a < i) → Ev (fun k => if mid < e then (if e < b then (api_Meta_77.f k T mid e b).bind fun t => some t else some T) else some T) T → Ev (fun k => api_Meta_77.j7 k T a b mid i e) T := by
      intro i e h5 h6
      have h7 : Ev (fun k => api_Meta_77.j8 k T a b mid i e false) T := by
        refine Ev.step (fun k => ?_) h6
        simp only [api_Meta_77.j8]
        rw [if_neg (by simp)]
      refine Ev.step (fun k => ?_) h7
      simp only [api_Meta_77.j7]
      by_cases h8 : a < i
      · rw [if_pos h8, decide_eq_false (fun h9 => h5 ⟨h9, h8⟩)]
      · rw [if_neg h8]
    by_cases c3 : m > mid
    · have hr2 : Ev (fun k => if mid < m then (if m < b then (api_Meta_77.f k T mid m b).bind fun t => some t else some T) else some T) T := by
        simp only [if_pos (show mid < m from c3), if_pos h3]
        exact Ev.bind (ih mid m b (by omega) (by omega) c3 h3 h4) (Ev.now _)
      have hj6 : Ev (fun k => api_Meta_77.j6 k T a m b mid mid m false) T := by
        refine Ev.step (fun k => ?_) (hj8 mid m (by omega) hr2)
        simp only [api_Meta_77.j6]
        rw [if_neg (by simp)]
      have hend : Ev (fun k => api_Meta_77.l4 k T a m b mid (mid + m) mid mid (mid + m - 1)) T := by
        refine Ev.step (fun k => ?_) hj6
        simp only [api_Meta_77.l4]
        rw [if_neg (by omega), w64 (mid + m - mid) (by omega) (by omega), show mid + m - mid = m by omega, if_pos (by omega), decide_eq_false (by omega)]
      have hl4 := sym_l4 T hT a m b mid (mid + m - 1) mid hend (by omega) (by omega) (by omega) (mid - (mid + m - b)).toNat (mid + m - b) (by omega) (by omega) (by omega) (Nat.le_refl _)
      have hj4 : Ev (fun k => api_Meta_77.j4 k T a m b mid (mid + m) (mid + m - b) mid) T := by
        refine Ev.step (fun k => ?_) hl4
        simp only [api_Meta_77.j4, hp]
      refine Ev.step (fun k => ?_) hj4
      simp only [api_Meta_77.f, hh, hn]
      rw [hw1, hw2, if_neg c1, if_neg c2, if_pos c3, w64 (mid + m - b) (by omega) (by omega)]
    · have hj6 : Ev (fun k => api_Meta_77.j6 k T a m b mid m mid false) T := by
        have h8 : Ev (fun k => if mid < mid then (if mid < b then (api_Meta_77.f k T mid mid b).bind fun t => some t else some T) else some T) T := by
          simp only [if_neg (show ¬ mid < mid by omega)]
          exact Ev.now _
        have h7 : Ev (fun k => api_Meta_77.j7 k T a b mid m mid) T := by
          by_cases c4 : m < mid
          · have h9 : Ev (fun k => api_Meta_77.j8 k T a b mid m mid true) T := by
              refine Ev.step (f := fun k => (api_Meta_77.f k T a m mid).bind fun t => some t) (fun k => ?_) (Ev.bind (ih a m mid (by omega) h1 h2 c4 (by omega)) (Ev.now _))
              simp only [api_Meta_77.j8]
              rw [if_pos trivial]
              simp only [if_neg (show ¬ mid < mid by omega)]
            refine Ev.step (fun k => ?_) h9
            simp only [api_Meta_77.j7]
            rw [if_pos h2, decide_eq_true c4]
          · exact hj8 m mid (by omega) h8
        refine Ev.step (fun k => ?_) h7
        simp only [api_Meta_77.j6]
        rw [if_neg (by simp)]
      have hend : Ev (fun k => api_Meta_77.l4 k T a m b mid (mid + m) m m (mid + m - 1)) T := by
        refine Ev.step (fun k => ?_) hj6
        simp only [api_Meta_77.l4]
        rw [if_neg (by omega), w64 (mid + m - m) (by omega) (by omega), show mid + m - m = mid by omega, if_neg (by omega)]
      have hl4 := sym_l4 T hT a m b mid (mid + m - 1) m hend (by omega) (by omega) (by omega) (m - a).toNat a (by omega) (by omega) (by omega) (Nat.le_refl _)
      have hj4 : Ev (fun k => api_Meta_77.j4 k T a m b mid (mid + m) a m) T := by
        refine Ev.step (fun k => ?_) hl4
        simp only [api_Meta_77.j4, hp]
      refine Ev.step (fun k => ?_) hj4
      simp only [api_Meta_77.f, hh, hn]
      rw [hw1, hw2, if_neg c1, if_neg c2, if_neg c3]
end Go.Proofs.Ytoonheembcejfaa.PA
