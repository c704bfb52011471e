/- Words of the printed texts: those declarations alone that one law comes to, taken out of the print's own words by a program of this session (wip/xp/slice.py).
Conditions: none of our own. -/
import Derived.Test.YtckjobcagniieaaVInv
import Derived.Test.YtckjobcagniieaaVFootNe
namespace Go.Proofs.YtckjobcagniieaaW.PrintWords
open Go.RowKit
end Go.Proofs.YtckjobcagniieaaW.PrintWords
namespace Go.Proofs.YtckjobcagniieaaW.PrintLast
end Go.Proofs.YtckjobcagniieaaW.PrintLast
