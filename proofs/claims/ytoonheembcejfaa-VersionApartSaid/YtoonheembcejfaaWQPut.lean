import Derived.Test.YtoonheembcejfaaWWords
import Derived.Test.YtoonheembcejfaaWLast
namespace Go.Proofs.YtoonheembcejfaaW.PrintWords
open Go.RowKit
end Go.Proofs.YtoonheembcejfaaW.PrintWords
