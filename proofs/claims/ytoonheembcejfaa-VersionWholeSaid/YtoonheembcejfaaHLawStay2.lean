/- Plain law of chapter 14, part 5: the stable sort leaves a row in order as it is. Condition: no more than 10^7 tables. -/
import Derived.Test.YtoonheembcejfaaHLawStay
import Derived.Test.YtoonheembcejfaaPAx10
namespace Go.Proofs.Ytoonheembcejfaa.PA
open Go.RowKit Go.Proofs.YtoonheembcejfaaW.PrintWords Go.Proofs.YtoonheembcejfaaW.PrintLast Go.Proofs.YtoonheembcejfaaW.PrintMore
set_option linter.unusedVariables false
set_option linter.unusedSimpArgs false
theorem st_l2 (T : List S35) (hT : InOrder T) (s : Int) (hs : 0 < s) (hsn : s < (T.length : Int)) (hK : Ev (fun k => api_Meta_63.l1 k T (T.length : Int) (2 * s)) T) (n : Nat) :
    ∀ a : Int, 0 ≤ a → a ≤ (T.length : Int) → ((T.length : Int) - a).toNat ≤ n → Ev (fun k => api_Meta_63.l2 k T (T.length : Int) s a (a + 2 * s)) T := by
  have hl := hT.1
  have hrest : ∀ a : Int, 0 ≤ a → a ≤ (T.length : Int) → ¬ a + 2 * s ≤ (T.length : Int) → Ev (fun k => api_Meta_63.l2 k T (T.length : Int) s a (a + 2 * s)) T := by
    intro a h1 h2 h4
    by_cases h5 : a + s < (T.length : Int)
    · refine Ev.step (f := fun k => (api_Meta_77.f k T a (a + s) (T.length : Int)).bind fun t => api_Meta_63.l1 k t (T.length : Int) (2 * s)) (fun k => ?_) (Ev.bind (sym_stay T hT _ a (a + s) (T.length : Int) (Nat.le_refl _) h1 (by omega) h5 (Int.le_refl _)) hK)
      simp only [api_Meta_63.l2]
      rw [if_neg h4, w64 (a + s) (by omega) (by omega), if_pos h5, w64 (s * 2) (by omega) (by omega), show s * 2 = 2 * s by omega]
    · refine Ev.step (fun k => ?_) hK
      simp only [api_Meta_63.l2]
      rw [if_neg h4, w64 (a + s) (by omega) (by omega), if_neg h5, w64 (s * 2) (by omega) (by omega), show s * 2 = 2 * s by omega]
  induction n with
  | zero =>
    intro a h1 h2 h3
    exact hrest a h1 h2 (by omega)
  | succ n ih =>
    intro a h1 h2 h3
    by_cases h4 : a + 2 * s ≤ (T.length : Int)
    · refine Ev.step (f := fun k => (api_Meta_77.f k T a (a + s) (a + 2 * s)).bind fun t => api_Meta_63.l2 k t (T.length : Int) s (a + 2 * s) (a + 2 * s + 2 * s)) (fun k => ?_) (Ev.bind (sym_stay T hT _ a (a + s) (a + 2 * s) (Nat.le_refl _) h1 (by omega) (by omega) h4) (ih (a + 2 * s) (by omega) h4 (by omega)))
      simp only [api_Meta_63.l2]
      rw [if_pos h4, w64 (a + s) (by omega) (by omega), w64 (2 * s) (by omega) (by omega), w64 (a + 2 * s + 2 * s) (by omega) (by omega)]
    · exact hrest a h1 h2 h4
theorem st_l1 (T : List S35) (hT : InOrder T) (n : Nat) : ∀ s : Int, 0 < s → ((T.length : Int) - s).toNat ≤ n → Ev (fun k => api_Meta_63.l1 k T (T.length : Int) s) T := by
  have hl := hT.1
  have hend : ∀ s : Int, ¬ s < (T.length : Int) → Ev (fun k => api_Meta_63.l1 k T (T.length : Int) s) T := by
    intro s h
    refine Ev.step (f := fun k => some T) (fun k => ?_) (Ev.now _)
    simp only [api_Meta_63.l1]
    rw [if_neg h]
  induction n with
  | zero => intro s h1 h2; exact hend s (by omega)
  | succ n ih =>
    intro s h1 h2
    by_cases h : s < (T.length : Int)
    · have h3 := st_l2 T hT s h1 h (ih (2 * s) (by omega) (by omega)) _ 0 (by omega) (by omega) (Nat.le_refl _)
      rw [Int.zero_add] at h3
      refine Ev.step (fun k => ?_) h3
      simp only [api_Meta_63.l1]
      rw [if_pos h, w64 (2 * s) (by omega) (by omega)]
    · exact hend s h
theorem st_l0 (T : List S35) (hT : InOrder T) (n : Nat) : ∀ a : Int, 0 ≤ a → a ≤ (T.length : Int) → ((T.length : Int) - a).toNat ≤ n → Ev (fun k => api_Meta_63.l0 k T (T.length : Int) 20 a (a + 20)) T := by
  have hl := hT.1
  have hrest : ∀ a : Int, 0 ≤ a → a ≤ (T.length : Int) → ¬ a + 20 ≤ (T.length : Int) → Ev (fun k => api_Meta_63.l0 k T (T.length : Int) 20 a (a + 20)) T := by
    intro a h1 h2 h4
    refine Ev.step (f := fun k => (api_Meta_76.f k T a (T.length : Int)).bind fun t => api_Meta_63.l1 k t (T.length : Int) 20) (fun k => ?_) (Ev.bind (insert_stay T hT a (T.length : Int) h1 h2 (Int.le_refl _)) (st_l1 T hT _ 20 (by omega) (Nat.le_refl _)))
    simp only [api_Meta_63.l0]
    rw [if_neg h4]
  induction n with
  | zero => intro a h1 h2 h3; exact hrest a h1 h2 (by omega)
  | succ n ih =>
    intro a h1 h2 h3
    by_cases h4 : a + 20 ≤ (T.length : Int)
    · refine Ev.step (f := fun k => (api_Meta_76.f k T a (a + 20)).bind fun t => api_Meta_63.l0 k t (T.length : Int) 20 (a + 20) (a + 20 + 20)) (fun k => ?_) (Ev.bind (insert_stay T hT a (a + 20) h1 h2 h4) (ih (a + 20) (by omega) h4 (by omega)))
      simp only [api_Meta_63.l0]
      rw [if_pos h4, w64 (a + 20 + 20) (by omega) (by omega)]
    · exact hrest a h1 h2 h4
/-- slices.SortStableFunc of a row in order. -/
theorem stable_stay (T : List S35) (hT : InOrder T) : Ev (fun k => api_Meta_26.f k T) T := by
  have h := st_l0 T hT _ 0 (by omega) (by omega) (Nat.le_refl _)
  rw [Int.zero_add] at h
  unfold api_Meta_26.f api_Meta_63.f
  exact Ev.bind h (Ev.now _)
end Go.Proofs.Ytoonheembcejfaa.PA
