import Derived.Test.YtonhjkghpkhioaaWInv
import Derived.Test.YtonhjkghpkhioaaWFootNe
namespace Go.Proofs.YtonhjkghpkhioaaW.PrintWords
open Go.RowKit
end Go.Proofs.YtonhjkghpkhioaaW.PrintWords
namespace Go.Proofs.YtonhjkghpkhioaaW.PrintLast
end Go.Proofs.YtonhjkghpkhioaaW.PrintLast
