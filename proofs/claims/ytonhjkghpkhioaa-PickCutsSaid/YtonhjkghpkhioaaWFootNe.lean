import Derived.Test.YtonhjkghpkhioaaWN
namespace Go.Proofs.YtonhjkghpkhioaaW.PrintWords
open Go.RowKit
end Go.Proofs.YtonhjkghpkhioaaW.PrintWords
