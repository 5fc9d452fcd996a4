import Derived.Test.YtoonheembcejfaaWN
namespace Go.Proofs.YtoonheembcejfaaW.PrintWords
open Go.RowKit
end Go.Proofs.YtoonheembcejfaaW.PrintWords
