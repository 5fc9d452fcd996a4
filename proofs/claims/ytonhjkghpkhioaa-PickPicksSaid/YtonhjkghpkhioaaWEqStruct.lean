import Derived.Test.YtonhjkghpkhioaaWWords
import Derived.Laws.StructEq
namespace Go.Proofs.YtonhjkghpkhioaaW.PrintWords
open Go.RowKit
end Go.Proofs.YtonhjkghpkhioaaW.PrintWords
