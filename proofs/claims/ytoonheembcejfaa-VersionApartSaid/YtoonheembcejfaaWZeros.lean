import Derived.Test.YtoonheembcejfaaWApart
import Derived.Test.YtoonheembcejfaaWArr
namespace Go.Proofs.YtoonheembcejfaaW.PrintWords
open Go.RowKit
end Go.Proofs.YtoonheembcejfaaW.PrintWords
