/- The examples of chapter 16 hold. No condition. -/
import Derived.Test.YtonhjkghpkhioaaPAx8
namespace Go.Proofs.Ytonhjkghpkhioaa.PA
open Go.RowKit Go.Proofs.YtonhjkghpkhioaaW.PrintWords Go.Proofs.YtonhjkghpkhioaaW.PrintLast Go.Proofs.YtonhjkghpkhioaaW.PrintMore
def palinodelaw16_examples.f : Option Bool := some true
theorem palinodelaw16_examples.run : palinodelaw16_examples0.f 12 = some true := by kernel_rfl
theorem palinodelaw16_examples.calls (r : Bool) (w : World) (h : palinodelaw16_examples.f = some r) :
    Calls Try.prog 5 #[] w fun e w' => e = .returned (.bool r) ∧ Below w.heap.size w w' := by
  obtain rfl := Option.some.inj h
  exact palinodelaw16_examples0.calls 12 true w rfl palinodelaw16_examples.run
end Go.Proofs.Ytonhjkghpkhioaa.PA
