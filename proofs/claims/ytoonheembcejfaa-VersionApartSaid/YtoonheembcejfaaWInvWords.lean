import Derived.Test.YtoonheembcejfaaWInv
import Derived.Test.YtoonheembcejfaaWFootNe
namespace Go.Proofs.YtoonheembcejfaaW.PrintWords
open Go.RowKit
end Go.Proofs.YtoonheembcejfaaW.PrintWords
namespace Go.Proofs.YtoonheembcejfaaW.PrintLast
end Go.Proofs.YtoonheembcejfaaW.PrintLast
