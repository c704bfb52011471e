/- Words of the printed texts: those declarations alone that one law comes to, taken out of the print's own words by a program of this session (wip/xp/slice.py).
Conditions: none of our own. -/
import Derived.Test.YthodhbgocnbddaaVN
namespace Go.Proofs.YthodhbgocnbddaaW.PrintWords
open Go.RowKit
namespace Kd
end Kd
end Go.Proofs.YthodhbgocnbddaaW.PrintWords
