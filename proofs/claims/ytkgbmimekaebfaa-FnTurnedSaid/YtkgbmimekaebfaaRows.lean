/-
  No cell of these rows narrows 'for every input' (looked for: loops, veiled, ifaces, maps, wideKeys, modest, calm, conditions, laid).
  DERIVED. THE GIVEN ROWS OF THIS SEAT. 5 by the template 'for every input the law returns true; each argument reads behind the call as it read before'; 0 by the template 'total and deterministic' (their statements: YtkgbmimekaebfaaTotals.lean).
  GIVEN WITH THE SEED: the statements are not yours to turn. If you find one false, say at which input.
  Laid BY PROGRAM, IN A SANDBOX (cutbox-rows.mjs): the forced cells as the released guide's own fill.sh prints them over the translation 05d358729f8678ca… (all of the seat's roots in one cut). By AI agents, Wed Nov 11 2026. No macro, syntax, notation, axiom, sorry.
-/
import Derived.Test.YtkgbmimekaebfaaChecked
import GoSem.Claim
import GoSem.ClaimJoined
import GoSem.ClaimMapViews
import Derived.JoinedTies
import Derived.KernelRfl
namespace Go.Proofs.Ytkgbmimekaebfaa
/- THE CELL 'sum', in the pinned program and in every row, IS THE sha256 OF THE DUMP (.gsa) THAT YtkgbmimekaebfaaProg.lean LOADS. Nothing in Lean hashes anything: it is a label: what it is worth is what the hold of that sum in a sandbox is worth. -/
noncomputable def Try.pinned : Pinned := { name := "ytkgbmimekaebfaa", sum := "05d358729f8678ca955836962437cc82e71f3e893adc6fc51b64190f519f1fee", checked := Try.checked }
namespace Rows
def none {H : Type} : Left H := { results := [], args := [] }

/-- 'laws.FnExactRoleOk': WHATEVER THE INPUT: true; the input reads as it did. -/
def fnExactRoleOkSpec : ChangeSpec := { name := "fnExactRoleOk", fn := fun _ => fun
  | [d] => { results := [.lit (.bool true)], args := [d] }
  | _ => none }
def fnExactRoleOkRow : OpenClaim := { program := "ytkgbmimekaebfaa", sum := "05d358729f8678ca955836962437cc82e71f3e893adc6fc51b64190f519f1fee", func := "loop.example/g00474/laws.FnExactRoleOk", spec := "fnExactRoleOk", apart := false }
def FnExactRoleOkSaid : Prop := fnExactRoleOkRow.holds Try.pinned (OpenSpec.ofChange fnExactRoleOkSpec)

/-- ITS FALSE NEIGHBOUR: 'it returns false'. Refute it at one input. -/
def fnExactRoleOkWrong : ChangeSpec := { name := "fnExactRoleOk", fn := fun _ => fun
  | [d] => { results := [.lit (.bool false)], args := [d] }
  | _ => none }
def FnExactRoleOkWrongFalsely : Prop := fnExactRoleOkRow.holds Try.pinned (OpenSpec.ofChange fnExactRoleOkWrong)

/-- 'laws.FnTurned': WHATEVER THE INPUT: true; the input reads as it did. -/
def fnTurnedSpec : ChangeSpec := { name := "fnTurned", fn := fun _ => fun
  | [d] => { results := [.lit (.bool true)], args := [d] }
  | _ => none }
def fnTurnedRow : OpenClaim := { program := "ytkgbmimekaebfaa", sum := "05d358729f8678ca955836962437cc82e71f3e893adc6fc51b64190f519f1fee", func := "loop.example/g00474/laws.FnTurned", spec := "fnTurned", apart := false }
def FnTurnedSaid : Prop := fnTurnedRow.holds Try.pinned (OpenSpec.ofChange fnTurnedSpec)

/-- ITS FALSE NEIGHBOUR: 'it returns false'. Refute it at one input. -/
def fnTurnedWrong : ChangeSpec := { name := "fnTurned", fn := fun _ => fun
  | [d] => { results := [.lit (.bool false)], args := [d] }
  | _ => none }
def FnTurnedWrongFalsely : Prop := fnTurnedRow.holds Try.pinned (OpenSpec.ofChange fnTurnedWrong)

/-- 'laws.FnExactCredOk': WHATEVER THE INPUT: true; the input reads as it did. -/
def fnExactCredOkSpec : ChangeSpec := { name := "fnExactCredOk", fn := fun _ => fun
  | [d] => { results := [.lit (.bool true)], args := [d] }
  | _ => none }
def fnExactCredOkRow : OpenClaim := { program := "ytkgbmimekaebfaa", sum := "05d358729f8678ca955836962437cc82e71f3e893adc6fc51b64190f519f1fee", func := "loop.example/g00474/laws.FnExactCredOk", spec := "fnExactCredOk", apart := false }
def FnExactCredOkSaid : Prop := fnExactCredOkRow.holds Try.pinned (OpenSpec.ofChange fnExactCredOkSpec)

/-- ITS FALSE NEIGHBOUR: 'it returns false'. Refute it at one input. -/
def fnExactCredOkWrong : ChangeSpec := { name := "fnExactCredOk", fn := fun _ => fun
  | [d] => { results := [.lit (.bool false)], args := [d] }
  | _ => none }
def FnExactCredOkWrongFalsely : Prop := fnExactCredOkRow.holds Try.pinned (OpenSpec.ofChange fnExactCredOkWrong)

/-- 'laws.FnExactCredText': WHATEVER THE INPUT: true; the input reads as it did. -/
def fnExactCredTextSpec : ChangeSpec := { name := "fnExactCredText", fn := fun _ => fun
  | [d] => { results := [.lit (.bool true)], args := [d] }
  | _ => none }
def fnExactCredTextRow : OpenClaim := { program := "ytkgbmimekaebfaa", sum := "05d358729f8678ca955836962437cc82e71f3e893adc6fc51b64190f519f1fee", func := "loop.example/g00474/laws.FnExactCredText", spec := "fnExactCredText", apart := false }
def FnExactCredTextSaid : Prop := fnExactCredTextRow.holds Try.pinned (OpenSpec.ofChange fnExactCredTextSpec)

/-- ITS FALSE NEIGHBOUR: 'it returns false'. Refute it at one input. -/
def fnExactCredTextWrong : ChangeSpec := { name := "fnExactCredText", fn := fun _ => fun
  | [d] => { results := [.lit (.bool false)], args := [d] }
  | _ => none }
def FnExactCredTextWrongFalsely : Prop := fnExactCredTextRow.holds Try.pinned (OpenSpec.ofChange fnExactCredTextWrong)

/-- 'laws.FnExactCredLess': WHATEVER THE INPUT: true; the input reads as it did. -/
def fnExactCredLessSpec : ChangeSpec := { name := "fnExactCredLess", fn := fun _ => fun
  | [d1, d2] => { results := [.lit (.bool true)], args := [d1, d2] }
  | _ => none }
def fnExactCredLessRow : OpenClaim := { program := "ytkgbmimekaebfaa", sum := "05d358729f8678ca955836962437cc82e71f3e893adc6fc51b64190f519f1fee", func := "loop.example/g00474/laws.FnExactCredLess", spec := "fnExactCredLess", apart := false }
def FnExactCredLessSaid : Prop := fnExactCredLessRow.holds Try.pinned (OpenSpec.ofChange fnExactCredLessSpec)

/-- ITS FALSE NEIGHBOUR: 'it returns false'. Refute it at one input. -/
def fnExactCredLessWrong : ChangeSpec := { name := "fnExactCredLess", fn := fun _ => fun
  | [d1, d2] => { results := [.lit (.bool false)], args := [d1, d2] }
  | _ => none }
def FnExactCredLessWrongFalsely : Prop := fnExactCredLessRow.holds Try.pinned (OpenSpec.ofChange fnExactCredLessWrong)

/- THE SECOND FORM. 'bulk': how many values and letters a reading holds, each counted each time it is reached (what is shared counts as often as it is met; a slice's spare places count too). A statement '..UptoSaid' is the law's where the arguments, and the package variables that the reading takes, are together of bulk at most 1048576: NARROWER than '..Said'. Prove '..Said' where nothing that the law and all that it calls make is longer than what came in: it says more and counts as full. Else prove '..UptoSaid'. A law counts once. -/
mutual
def uptoBulk {H : Type} : DataW H → Nat
  | .lit (.string bytes) => bytes.length + 1
  | .lit _ => 1
  | .nil => 1
  | .ptr d => uptoBulk d + 1
  | .slice elems spare => uptoBulkAll elems + uptoBulkAll spare + 1
  | .agg parts => uptoBulkAll parts + 1
  | .iface _ d => uptoBulk d + 1
  | .map entries => uptoBulkEntries entries + 1
  | .held _ => 1
def uptoBulkAll {H : Type} : List (DataW H) → Nat
  | [] => 0
  | d :: r => uptoBulk d + uptoBulkAll r
def uptoBulkEntries {H : Type} : List (Lit × DataW H) → Nat
  | [] => 0
  | x :: r => uptoBulkEntry x + uptoBulkEntries r
def uptoBulkEntry {H : Type} : Lit × DataW H → Nat
  | (.string bytes, d) => bytes.length + uptoBulk d + 1
  | (_, d) => uptoBulk d + 1
 end
def uptoSmall : (H : Type) → List (DataW H) → Bool := fun _ ds => decide (uptoBulkAll ds ≤ 1048576)
def OpenSpec.upto (s : _root_.Go.ChangeSpec) : _root_.Go.OpenSpec := { _root_.Go.OpenSpec.ofChange s with cond := some uptoSmall }

/-- 'laws.FnExactRoleOk', WHERE WHAT IT READS IS OF BULK AT MOST 1048576: true; the input reads as it did. -/
def fnExactRoleOkUptoRow : OpenClaim := { program := "ytkgbmimekaebfaa", sum := "05d358729f8678ca955836962437cc82e71f3e893adc6fc51b64190f519f1fee", func := "loop.example/g00474/laws.FnExactRoleOk", spec := "fnExactRoleOk", apart := false, narrowed := true }
def FnExactRoleOkUptoSaid : Prop := fnExactRoleOkUptoRow.holds Try.pinned (OpenSpec.upto fnExactRoleOkSpec)

/-- 'laws.FnTurned', WHERE WHAT IT READS IS OF BULK AT MOST 1048576: true; the input reads as it did. -/
def fnTurnedUptoRow : OpenClaim := { program := "ytkgbmimekaebfaa", sum := "05d358729f8678ca955836962437cc82e71f3e893adc6fc51b64190f519f1fee", func := "loop.example/g00474/laws.FnTurned", spec := "fnTurned", apart := false, narrowed := true }
def FnTurnedUptoSaid : Prop := fnTurnedUptoRow.holds Try.pinned (OpenSpec.upto fnTurnedSpec)

/-- 'laws.FnExactCredOk', WHERE WHAT IT READS IS OF BULK AT MOST 1048576: true; the input reads as it did. -/
def fnExactCredOkUptoRow : OpenClaim := { program := "ytkgbmimekaebfaa", sum := "05d358729f8678ca955836962437cc82e71f3e893adc6fc51b64190f519f1fee", func := "loop.example/g00474/laws.FnExactCredOk", spec := "fnExactCredOk", apart := false, narrowed := true }
def FnExactCredOkUptoSaid : Prop := fnExactCredOkUptoRow.holds Try.pinned (OpenSpec.upto fnExactCredOkSpec)

/-- 'laws.FnExactCredText', WHERE WHAT IT READS IS OF BULK AT MOST 1048576: true; the input reads as it did. -/
def fnExactCredTextUptoRow : OpenClaim := { program := "ytkgbmimekaebfaa", sum := "05d358729f8678ca955836962437cc82e71f3e893adc6fc51b64190f519f1fee", func := "loop.example/g00474/laws.FnExactCredText", spec := "fnExactCredText", apart := false, narrowed := true }
def FnExactCredTextUptoSaid : Prop := fnExactCredTextUptoRow.holds Try.pinned (OpenSpec.upto fnExactCredTextSpec)

/-- 'laws.FnExactCredLess', WHERE WHAT IT READS IS OF BULK AT MOST 1048576: true; the input reads as it did. -/
def fnExactCredLessUptoRow : OpenClaim := { program := "ytkgbmimekaebfaa", sum := "05d358729f8678ca955836962437cc82e71f3e893adc6fc51b64190f519f1fee", func := "loop.example/g00474/laws.FnExactCredLess", spec := "fnExactCredLess", apart := false, narrowed := true }
def FnExactCredLessUptoSaid : Prop := fnExactCredLessUptoRow.holds Try.pinned (OpenSpec.upto fnExactCredLessSpec)

end Rows
end Go.Proofs.Ytkgbmimekaebfaa
