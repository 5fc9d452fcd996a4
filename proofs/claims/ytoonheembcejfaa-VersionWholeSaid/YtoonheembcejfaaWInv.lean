import Derived.Test.YtoonheembcejfaaWTab
namespace Go.Proofs.YtoonheembcejfaaW.PrintLast
/-- Number i is listed too. -/
def up (b : Nat → Bool) (i : Nat) : Nat → Bool := fun j => if j = i then true else b j
end Go.Proofs.YtoonheembcejfaaW.PrintLast
