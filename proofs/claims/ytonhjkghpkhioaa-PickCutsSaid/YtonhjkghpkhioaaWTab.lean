import Derived.Test.YtonhjkghpkhioaaWLast
import Derived.Test.YtonhjkghpkhioaaWWords
namespace Go.Proofs.YtonhjkghpkhioaaW.PrintLast
open Go.Proofs.YtonhjkghpkhioaaW.PrintWords (Aside0)
end Go.Proofs.YtonhjkghpkhioaaW.PrintLast
