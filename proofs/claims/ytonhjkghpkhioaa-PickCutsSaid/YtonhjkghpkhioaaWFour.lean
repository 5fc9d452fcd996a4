import Derived.Test.YtonhjkghpkhioaaWTab
namespace Go.Proofs.YtonhjkghpkhioaaW.PrintLast
end Go.Proofs.YtonhjkghpkhioaaW.PrintLast
