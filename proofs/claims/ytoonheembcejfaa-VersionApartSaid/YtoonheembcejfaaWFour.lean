import Derived.Test.YtoonheembcejfaaWTab
namespace Go.Proofs.YtoonheembcejfaaW.PrintLast
end Go.Proofs.YtoonheembcejfaaW.PrintLast
