import Derived.Test.YtoonheembcejfaaWWords
namespace Go.Proofs.YtoonheembcejfaaW.PrintWords
open Go.RowKit
end Go.Proofs.YtoonheembcejfaaW.PrintWords
