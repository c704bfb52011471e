/- Words of the printed texts: those declarations alone that one law comes to, taken out of the print's own words by a program of this session (wip/xp/slice.py).
Conditions: none of our own. -/
import Derived.Test.YtnebbjcgkoaloaaVFootNe
namespace Go.Proofs.YtnebbjcgkoaloaaW.PrintWords
open Go.RowKit
section
variable {w w' u : World} {m B g : Nat} {o : Obj} {row : Option Nat} {S : Nat → Prop} {a : Addr} {v : Value}
theorem cell_at (hq : w.drewN m = w') (h : w.cell? a = some v) : w'.cell? a = some v := by subst hq; exact h
end
namespace Kd
end Kd
end Go.Proofs.YtnebbjcgkoaloaaW.PrintWords
