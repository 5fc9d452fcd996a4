import Derived.Test.YtonhjkghpkhioaaWFootNe
namespace Go.Proofs.YtonhjkghpkhioaaW.PrintWords
open Go.RowKit
end Go.Proofs.YtonhjkghpkhioaaW.PrintWords
