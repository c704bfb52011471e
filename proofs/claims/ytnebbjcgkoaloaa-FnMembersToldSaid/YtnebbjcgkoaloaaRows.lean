/-
  No cell of these rows narrows 'for every input' (looked for: loops, veiled, ifaces, maps, wideKeys, modest, calm, conditions, laid).
  DERIVED. THE GIVEN ROWS OF THIS SEAT. 6 by the template 'for every input the law returns true; each argument reads behind the call as it read before'; 0 by the template 'total and deterministic' (their statements: YtnebbjcgkoaloaaTotals.lean).
  GIVEN WITH THE SEED: the statements are not yours to turn. If you find one false, say at which input.
  Laid BY PROGRAM, IN A SANDBOX (cutbox-rows.mjs): the forced cells as the released guide's own fill.sh prints them over the translation 197371b492c5d7d6… (all of the seat's roots in one cut). By AI agents, Wed Nov 11 2026. No macro, syntax, notation, axiom, sorry.
-/
import Derived.Test.YtnebbjcgkoaloaaChecked
import GoSem.Claim
import GoSem.ClaimJoined
import GoSem.ClaimMapViews
import Derived.JoinedTies
import Derived.KernelRfl
namespace Go.Proofs.Ytnebbjcgkoaloaa
/- THE CELL 'sum', in the pinned program and in every row, IS THE sha256 OF THE DUMP (.gsa) THAT YtnebbjcgkoaloaaProg.lean LOADS. Nothing in Lean hashes anything: it is a label: what it is worth is what the hold of that sum in a sandbox is worth. -/
noncomputable def Try.pinned : Pinned := { name := "ytnebbjcgkoaloaa", sum := "197371b492c5d7d61b54b7976e95c13c6b6b3b89e5842004b3cca42193f18569", checked := Try.checked }
namespace Rows
def none {H : Type} : Left H := { results := [], args := [] }

/-- 'laws.FnMembers': WHATEVER THE INPUT: true; the input reads as it did. -/
def fnMembersSpec : ChangeSpec := { name := "fnMembers", fn := fun _ => fun
  | [d] => { results := [.lit (.bool true)], args := [d] }
  | _ => none }
def fnMembersRow : OpenClaim := { program := "ytnebbjcgkoaloaa", sum := "197371b492c5d7d61b54b7976e95c13c6b6b3b89e5842004b3cca42193f18569", func := "loop.example/g00474/laws.FnMembers", spec := "fnMembers", unfollowed := true, recurses := true, apart := false }
def FnMembersSaid : Prop := fnMembersRow.holds Try.pinned (OpenSpec.ofChange fnMembersSpec)

/-- ITS FALSE NEIGHBOUR: 'it returns false'. Refute it at one input. -/
def fnMembersWrong : ChangeSpec := { name := "fnMembers", fn := fun _ => fun
  | [d] => { results := [.lit (.bool false)], args := [d] }
  | _ => none }
def FnMembersWrongFalsely : Prop := fnMembersRow.holds Try.pinned (OpenSpec.ofChange fnMembersWrong)

/-- 'laws.FnExactIsMember': WHATEVER THE INPUT: true; the input reads as it did. -/
def fnExactIsMemberSpec : ChangeSpec := { name := "fnExactIsMember", fn := fun _ => fun
  | [d1, d2, d3] => { results := [.lit (.bool true)], args := [d1, d2, d3] }
  | _ => none }
def fnExactIsMemberRow : OpenClaim := { program := "ytnebbjcgkoaloaa", sum := "197371b492c5d7d61b54b7976e95c13c6b6b3b89e5842004b3cca42193f18569", func := "loop.example/g00474/laws.FnExactIsMember", spec := "fnExactIsMember", unfollowed := true, recurses := true, apart := false }
def FnExactIsMemberSaid : Prop := fnExactIsMemberRow.holds Try.pinned (OpenSpec.ofChange fnExactIsMemberSpec)

/-- ITS FALSE NEIGHBOUR: 'it returns false'. Refute it at one input. -/
def fnExactIsMemberWrong : ChangeSpec := { name := "fnExactIsMember", fn := fun _ => fun
  | [d1, d2, d3] => { results := [.lit (.bool false)], args := [d1, d2, d3] }
  | _ => none }
def FnExactIsMemberWrongFalsely : Prop := fnExactIsMemberRow.holds Try.pinned (OpenSpec.ofChange fnExactIsMemberWrong)

/-- 'laws.FnExactFactsOf': WHATEVER THE INPUT: true; the input reads as it did. -/
def fnExactFactsOfSpec : ChangeSpec := { name := "fnExactFactsOf", fn := fun _ => fun
  | [d] => { results := [.lit (.bool true)], args := [d] }
  | _ => none }
def fnExactFactsOfRow : OpenClaim := { program := "ytnebbjcgkoaloaa", sum := "197371b492c5d7d61b54b7976e95c13c6b6b3b89e5842004b3cca42193f18569", func := "loop.example/g00474/laws.FnExactFactsOf", spec := "fnExactFactsOf", unfollowed := true, recurses := true, apart := false }
def FnExactFactsOfSaid : Prop := fnExactFactsOfRow.holds Try.pinned (OpenSpec.ofChange fnExactFactsOfSpec)

/-- ITS FALSE NEIGHBOUR: 'it returns false'. Refute it at one input. -/
def fnExactFactsOfWrong : ChangeSpec := { name := "fnExactFactsOf", fn := fun _ => fun
  | [d] => { results := [.lit (.bool false)], args := [d] }
  | _ => none }
def FnExactFactsOfWrongFalsely : Prop := fnExactFactsOfRow.holds Try.pinned (OpenSpec.ofChange fnExactFactsOfWrong)

/-- 'laws.FnExactMembersOf': WHATEVER THE INPUT: true; the input reads as it did. -/
def fnExactMembersOfSpec : ChangeSpec := { name := "fnExactMembersOf", fn := fun _ => fun
  | [d1, d2] => { results := [.lit (.bool true)], args := [d1, d2] }
  | _ => none }
def fnExactMembersOfRow : OpenClaim := { program := "ytnebbjcgkoaloaa", sum := "197371b492c5d7d61b54b7976e95c13c6b6b3b89e5842004b3cca42193f18569", func := "loop.example/g00474/laws.FnExactMembersOf", spec := "fnExactMembersOf", unfollowed := true, recurses := true, apart := false }
def FnExactMembersOfSaid : Prop := fnExactMembersOfRow.holds Try.pinned (OpenSpec.ofChange fnExactMembersOfSpec)

/-- ITS FALSE NEIGHBOUR: 'it returns false'. Refute it at one input. -/
def fnExactMembersOfWrong : ChangeSpec := { name := "fnExactMembersOf", fn := fun _ => fun
  | [d1, d2] => { results := [.lit (.bool false)], args := [d1, d2] }
  | _ => none }
def FnExactMembersOfWrongFalsely : Prop := fnExactMembersOfRow.holds Try.pinned (OpenSpec.ofChange fnExactMembersOfWrong)

/-- 'laws.FnExactRolesOf': WHATEVER THE INPUT: true; the input reads as it did. -/
def fnExactRolesOfSpec : ChangeSpec := { name := "fnExactRolesOf", fn := fun _ => fun
  | [d1, d2] => { results := [.lit (.bool true)], args := [d1, d2] }
  | _ => none }
def fnExactRolesOfRow : OpenClaim := { program := "ytnebbjcgkoaloaa", sum := "197371b492c5d7d61b54b7976e95c13c6b6b3b89e5842004b3cca42193f18569", func := "loop.example/g00474/laws.FnExactRolesOf", spec := "fnExactRolesOf", unfollowed := true, recurses := true, apart := false }
def FnExactRolesOfSaid : Prop := fnExactRolesOfRow.holds Try.pinned (OpenSpec.ofChange fnExactRolesOfSpec)

/-- ITS FALSE NEIGHBOUR: 'it returns false'. Refute it at one input. -/
def fnExactRolesOfWrong : ChangeSpec := { name := "fnExactRolesOf", fn := fun _ => fun
  | [d1, d2] => { results := [.lit (.bool false)], args := [d1, d2] }
  | _ => none }
def FnExactRolesOfWrongFalsely : Prop := fnExactRolesOfRow.holds Try.pinned (OpenSpec.ofChange fnExactRolesOfWrong)

/-- 'laws.FnMembersTold': WHATEVER THE INPUT: true; the input reads as it did. -/
def fnMembersToldSpec : ChangeSpec := { name := "fnMembersTold", fn := fun _ => fun
  | [d] => { results := [.lit (.bool true)], args := [d] }
  | _ => none }
def fnMembersToldRow : OpenClaim := { program := "ytnebbjcgkoaloaa", sum := "197371b492c5d7d61b54b7976e95c13c6b6b3b89e5842004b3cca42193f18569", func := "loop.example/g00474/laws.FnMembersTold", spec := "fnMembersTold", unfollowed := true, recurses := true, apart := false }
def FnMembersToldSaid : Prop := fnMembersToldRow.holds Try.pinned (OpenSpec.ofChange fnMembersToldSpec)

/-- ITS FALSE NEIGHBOUR: 'it returns false'. Refute it at one input. -/
def fnMembersToldWrong : ChangeSpec := { name := "fnMembersTold", fn := fun _ => fun
  | [d] => { results := [.lit (.bool false)], args := [d] }
  | _ => none }
def FnMembersToldWrongFalsely : Prop := fnMembersToldRow.holds Try.pinned (OpenSpec.ofChange fnMembersToldWrong)

/- THE SECOND FORM. 'bulk': how many values and letters a reading holds, each counted each time it is reached (what is shared counts as often as it is met; a slice's spare places count too). A statement '..UptoSaid' is the law's where the arguments, and the package variables that the reading takes, are together of bulk at most 1048576: NARROWER than '..Said'. Prove '..Said' where nothing that the law and all that it calls make is longer than what came in: it says more and counts as full. Else prove '..UptoSaid'. A law counts once. -/
mutual
def uptoBulk {H : Type} : DataW H → Nat
  | .lit (.string bytes) => bytes.length + 1
  | .lit _ => 1
  | .nil => 1
  | .ptr d => uptoBulk d + 1
  | .slice elems spare => uptoBulkAll elems + uptoBulkAll spare + 1
  | .agg parts => uptoBulkAll parts + 1
  | .iface _ d => uptoBulk d + 1
  | .map entries => uptoBulkEntries entries + 1
  | .held _ => 1
def uptoBulkAll {H : Type} : List (DataW H) → Nat
  | [] => 0
  | d :: r => uptoBulk d + uptoBulkAll r
def uptoBulkEntries {H : Type} : List (Lit × DataW H) → Nat
  | [] => 0
  | x :: r => uptoBulkEntry x + uptoBulkEntries r
def uptoBulkEntry {H : Type} : Lit × DataW H → Nat
  | (.string bytes, d) => bytes.length + uptoBulk d + 1
  | (_, d) => uptoBulk d + 1
 end
def uptoSmall : (H : Type) → List (DataW H) → Bool := fun _ ds => decide (uptoBulkAll ds ≤ 1048576)
def OpenSpec.upto (s : _root_.Go.ChangeSpec) : _root_.Go.OpenSpec := { _root_.Go.OpenSpec.ofChange s with cond := some uptoSmall }

/-- 'laws.FnMembers', WHERE WHAT IT READS IS OF BULK AT MOST 1048576: true; the input reads as it did. -/
def fnMembersUptoRow : OpenClaim := { program := "ytnebbjcgkoaloaa", sum := "197371b492c5d7d61b54b7976e95c13c6b6b3b89e5842004b3cca42193f18569", func := "loop.example/g00474/laws.FnMembers", spec := "fnMembers", unfollowed := true, recurses := true, apart := false, narrowed := true }
def FnMembersUptoSaid : Prop := fnMembersUptoRow.holds Try.pinned (OpenSpec.upto fnMembersSpec)

/-- 'laws.FnExactIsMember', WHERE WHAT IT READS IS OF BULK AT MOST 1048576: true; the input reads as it did. -/
def fnExactIsMemberUptoRow : OpenClaim := { program := "ytnebbjcgkoaloaa", sum := "197371b492c5d7d61b54b7976e95c13c6b6b3b89e5842004b3cca42193f18569", func := "loop.example/g00474/laws.FnExactIsMember", spec := "fnExactIsMember", unfollowed := true, recurses := true, apart := false, narrowed := true }
def FnExactIsMemberUptoSaid : Prop := fnExactIsMemberUptoRow.holds Try.pinned (OpenSpec.upto fnExactIsMemberSpec)

/-- 'laws.FnExactFactsOf', WHERE WHAT IT READS IS OF BULK AT MOST 1048576: true; the input reads as it did. -/
def fnExactFactsOfUptoRow : OpenClaim := { program := "ytnebbjcgkoaloaa", sum := "197371b492c5d7d61b54b7976e95c13c6b6b3b89e5842004b3cca42193f18569", func := "loop.example/g00474/laws.FnExactFactsOf", spec := "fnExactFactsOf", unfollowed := true, recurses := true, apart := false, narrowed := true }
def FnExactFactsOfUptoSaid : Prop := fnExactFactsOfUptoRow.holds Try.pinned (OpenSpec.upto fnExactFactsOfSpec)

/-- 'laws.FnExactMembersOf', WHERE WHAT IT READS IS OF BULK AT MOST 1048576: true; the input reads as it did. -/
def fnExactMembersOfUptoRow : OpenClaim := { program := "ytnebbjcgkoaloaa", sum := "197371b492c5d7d61b54b7976e95c13c6b6b3b89e5842004b3cca42193f18569", func := "loop.example/g00474/laws.FnExactMembersOf", spec := "fnExactMembersOf", unfollowed := true, recurses := true, apart := false, narrowed := true }
def FnExactMembersOfUptoSaid : Prop := fnExactMembersOfUptoRow.holds Try.pinned (OpenSpec.upto fnExactMembersOfSpec)

/-- 'laws.FnExactRolesOf', WHERE WHAT IT READS IS OF BULK AT MOST 1048576: true; the input reads as it did. -/
def fnExactRolesOfUptoRow : OpenClaim := { program := "ytnebbjcgkoaloaa", sum := "197371b492c5d7d61b54b7976e95c13c6b6b3b89e5842004b3cca42193f18569", func := "loop.example/g00474/laws.FnExactRolesOf", spec := "fnExactRolesOf", unfollowed := true, recurses := true, apart := false, narrowed := true }
def FnExactRolesOfUptoSaid : Prop := fnExactRolesOfUptoRow.holds Try.pinned (OpenSpec.upto fnExactRolesOfSpec)

/-- 'laws.FnMembersTold', WHERE WHAT IT READS IS OF BULK AT MOST 1048576: true; the input reads as it did. -/
def fnMembersToldUptoRow : OpenClaim := { program := "ytnebbjcgkoaloaa", sum := "197371b492c5d7d61b54b7976e95c13c6b6b3b89e5842004b3cca42193f18569", func := "loop.example/g00474/laws.FnMembersTold", spec := "fnMembersTold", unfollowed := true, recurses := true, apart := false, narrowed := true }
def FnMembersToldUptoSaid : Prop := fnMembersToldUptoRow.holds Try.pinned (OpenSpec.upto fnMembersToldSpec)

end Rows
end Go.Proofs.Ytnebbjcgkoaloaa
