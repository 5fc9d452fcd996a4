import Derived.Test.YtonhjkghpkhioaaWWords
import Derived.Test.YtonhjkghpkhioaaWLast
namespace Go.Proofs.YtonhjkghpkhioaaW.PrintWords
open Go.RowKit
end Go.Proofs.YtonhjkghpkhioaaW.PrintWords
