/- The examples of chapter 14 hold. No condition. -/
import Derived.Test.YtoonheembcejfaaPAx21
namespace Go.Proofs.Ytoonheembcejfaa.PA
open Go.RowKit Go.Proofs.YtoonheembcejfaaW.PrintWords Go.Proofs.YtoonheembcejfaaW.PrintLast Go.Proofs.YtoonheembcejfaaW.PrintMore
def palinodelaw14_examples.f : Option Bool := some true
theorem palinodelaw14_examples.run : palinodelaw14_examples0.f 12 = some true := by kernel_rfl
theorem palinodelaw14_examples.calls (r : Bool) (w : World) (h : palinodelaw14_examples.f = some r) :
    Calls Try.prog 9 #[] w fun e w' => e = .returned (.bool r) ∧ Below w.heap.size w w' := by
  obtain rfl := Option.some.inj h
  exact palinodelaw14_examples0.calls 12 true w rfl palinodelaw14_examples.run
end Go.Proofs.Ytoonheembcejfaa.PA
