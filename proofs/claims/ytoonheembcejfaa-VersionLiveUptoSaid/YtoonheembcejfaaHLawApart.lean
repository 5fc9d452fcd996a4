/- Plain law of chapter 14, part 2: VersionApart. No condition. -/
import Derived.Test.YtoonheembcejfaaHLawA
import Derived.Test.YtoonheembcejfaaPAx22
namespace Go.Proofs.Ytoonheembcejfaa.PA
open Go.RowKit Go.Proofs.YtoonheembcejfaaW.PrintWords Go.Proofs.YtoonheembcejfaaW.PrintLast Go.Proofs.YtoonheembcejfaaW.PrintMore
set_option linter.unusedVariables false
set_option linter.unusedSimpArgs false
/-! ### Level -/
def lev (T : List S35) (n : Int) : List S35 := T.filter (fun a => a.f1 == n)
theorem lev_cons (a : S35) (T : List S35) (n : Int) : lev (a :: T) n = if a.f1 = n then a :: lev T n else lev T n := by
  unfold lev
  rw [List.filter_cons]
  by_cases h : a.f1 = n <;> simp [h]
theorem level_i (n : Int) (t : List S35) : ∀ (p acc : List S35), (p ++ t).length ≤ 10000000 → acc.length ≤ p.length →
    Ev (fun k => version_Level.l0 k n acc (p ++ t) ((p ++ t).length : Int) (p.length : Int)) (acc ++ lev t n) := by
  induction t with
  | nil =>
    intro p acc hl ha
    refine Ev.step (f := fun k => some acc) (fun k => ?_) (by rw [show lev [] n = [] from rfl, List.append_nil]; exact Ev.now _)
    simp only [version_Level.l0, List.append_nil]
    rw [if_neg (by omega)]
  | cons a t ih =>
    intro p acc hl ha
    have hp : p.length < 10000000 := by simp only [List.length_append, List.length_cons] at hl; omega
    have hk : (p.length : Int) < ((p ++ a :: t).length : Int) := by simp only [List.length_append, List.length_cons]; omega
    rw [lev_cons]
    by_cases h : a.f1 = n
    · rw [if_pos h]
      have := ih (p ++ [a]) (acc ++ [a]) (by rw [← app1]; exact hl) (by simp; omega)
      rw [← app1, len1, List.append_assoc] at this
      refine Ev.step (fun k => ?_) this
      simp only [version_Level.l0]
      rw [if_pos hk, if_pos (by omega), if_pos hk, rd48_mid, if_pos h, if_pos (by omega), w64 _ (by omega) (by omega)]
    · rw [if_neg h]
      have := ih (p ++ [a]) acc (by rw [← app1]; exact hl) (by simp; omega)
      rw [← app1, len1] at this
      refine Ev.step (fun k => ?_) this
      simp only [version_Level.l0]
      rw [if_pos hk, if_pos (by omega), if_pos hk, rd48_mid, if_neg h, w64 _ (by omega) (by omega)]
theorem level_I (T : List S35) (L : List Int) (s n : Int) (h : T.length ≤ 10000000) : Ev (fun k => version_Level.f k T L s n) (lev T n) :=
  level_i n T [] [] h (Nat.le_refl _)
/-! ### A version that is right -/
end Go.Proofs.Ytoonheembcejfaa.PA
