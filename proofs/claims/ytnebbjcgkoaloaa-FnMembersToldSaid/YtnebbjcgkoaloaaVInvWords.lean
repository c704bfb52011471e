/- Words of the printed texts: those declarations alone that one law comes to, taken out of the print's own words by a program of this session (wip/xp/slice.py).
Conditions: none of our own. -/
import Derived.Test.YtnebbjcgkoaloaaVInv
import Derived.Test.YtnebbjcgkoaloaaVFootNe
namespace Go.Proofs.YtnebbjcgkoaloaaW.PrintWords
open Go.RowKit
end Go.Proofs.YtnebbjcgkoaloaaW.PrintWords
namespace Go.Proofs.YtnebbjcgkoaloaaW.PrintLast
end Go.Proofs.YtnebbjcgkoaloaaW.PrintLast
