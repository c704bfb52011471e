/- Words of the printed texts: those declarations alone that one law comes to, taken out of the print's own words by a program of this session (wip/xp/slice.py).
Conditions: none of our own. -/
import Derived.SizedLaws
import Derived.ChangeSlices
namespace Go.Proofs.YtnebbjcgkoaloaaW.PrintWords
open Go.ChangeShapes Go.WideShapes
end Go.Proofs.YtnebbjcgkoaloaaW.PrintWords
