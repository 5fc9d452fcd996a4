import Derived.Test.YtoonheembcejfaaWWords
import Derived.Laws.StructEq
namespace Go.Proofs.YtoonheembcejfaaW.PrintWords
open Go.RowKit
end Go.Proofs.YtoonheembcejfaaW.PrintWords
