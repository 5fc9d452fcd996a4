/- slices.symMergeCmpFunc: nothing is told of it yet (a sort of 20 tables at most never calls it). -/
import Derived.Test.YtoonheembcejfaaPAx0
import Derived.Test.YtoonheembcejfaaPAx2
namespace Go.Proofs.Ytoonheembcejfaa.PA
open Go.RowKit Go.Proofs.YtoonheembcejfaaW.PrintWords Go.Proofs.YtoonheembcejfaaW.PrintLast Go.Proofs.YtoonheembcejfaaW.PrintMore
set_option linter.unusedVariables false
def api_Meta_77.f (k : Nat) (l0 : List (S35)) (a1 : Int) (a2 : Int) (a3 : Int) : Option ((List (S35))) := none
theorem api_Meta_77.mono : ∀ a0 a1 a2 a3 k, LeO (api_Meta_77.f k a0 a1 a2 a3) (api_Meta_77.f (k + 1) a0 a1 a2 a3) := fun _ _ _ _ _ => LeO.refl _
theorem api_Meta_77.calls (k : Nat) : ∀ (P0_ : Nat → Prop) (u9000_ : Value) (l0 : List (S35)) (a1 : Int) (a2 : Int) (a3 : Int) (r : List (S35)) (w0 w : World) (hB : Below w0.heap.size w0 w) (ho0 : Kd.R k35 35 w w0.heap.size P0_ u9000_ l0) (h : api_Meta_77.f k l0 a1 a2 a3 = some r),
  Calls Try.prog 77 #[u9000_, .int .i64 a1, .int .i64 a2, .int .i64 a3, .func (.func 27) #[] #[]] w fun e w' => e = .returned (.tuple #[]) ∧ Kd.R k35 35 w' w0.heap.size (fun k_ => (P0_ k_ ∨ w.heap.size ≤ k_)) u9000_ r ∧ Below w0.heap.size w0 w' ∧ Kept w w' (fun k_ => P0_ k_) := by
 intro P0_ u9000_ l0 a1 a2 a3 r w0 w hB ho0 h
 exact absurd h (by simp [api_Meta_77.f])
end Go.Proofs.Ytoonheembcejfaa.PA
