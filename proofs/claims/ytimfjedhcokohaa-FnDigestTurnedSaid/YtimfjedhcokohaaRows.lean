/-
  No cell of these rows narrows 'for every input' (looked for: loops, veiled, ifaces, maps, wideKeys, modest, calm, conditions, laid).
  DERIVED. THE GIVEN ROWS OF THIS SEAT. 19 by the template 'for every input the law returns true; each argument reads behind the call as it read before'; 0 by the template 'total and deterministic' (their statements: YtimfjedhcokohaaTotals.lean).
  GIVEN WITH THE SEED: the statements are not yours to turn. If you find one false, say at which input.
  Laid BY PROGRAM, IN A SANDBOX (cutbox-rows.mjs): the forced cells as the released guide's own fill.sh prints them over the translation bce97db2ab2953eb… (all of the seat's roots in one cut). By AI agents, Wed Nov 11 2026. No macro, syntax, notation, axiom, sorry.
-/
import Derived.Test.YtimfjedhcokohaaChecked
import GoSem.Claim
import GoSem.ClaimJoined
import GoSem.ClaimMapViews
import Derived.JoinedTies
import Derived.KernelRfl
namespace Go.Proofs.Ytimfjedhcokohaa
/- THE CELL 'sum', in the pinned program and in every row, IS THE sha256 OF THE DUMP (.gsa) THAT YtimfjedhcokohaaProg.lean LOADS. Nothing in Lean hashes anything: it is a label: what it is worth is what the hold of that sum in a sandbox is worth. -/
noncomputable def Try.pinned : Pinned := { name := "ytimfjedhcokohaa", sum := "bce97db2ab2953eb0bbacbc26b1d1afa27c23a93952f19b74c09402272fb0af6", checked := Try.checked }
namespace Rows
def none {H : Type} : Left H := { results := [], args := [] }

/-- 'laws.FnExactShaStart': WHATEVER THE INPUT: true; the input reads as it did. -/
def fnExactShaStartSpec : ChangeSpec := { name := "fnExactShaStart", fn := fun _ => fun
  | [] => { results := [.lit (.bool true)], args := [] }
  | _ => none }
def fnExactShaStartRow : OpenClaim := { program := "ytimfjedhcokohaa", sum := "bce97db2ab2953eb0bbacbc26b1d1afa27c23a93952f19b74c09402272fb0af6", func := "loop.example/g00474/laws.FnExactShaStart", spec := "fnExactShaStart", apart := false }
def FnExactShaStartSaid : Prop := fnExactShaStartRow.holds Try.pinned (OpenSpec.ofChange fnExactShaStartSpec)

/-- ITS FALSE NEIGHBOUR: 'it returns false'. Refute it at one input. -/
def fnExactShaStartWrong : ChangeSpec := { name := "fnExactShaStart", fn := fun _ => fun
  | [] => { results := [.lit (.bool false)], args := [] }
  | _ => none }
def FnExactShaStartWrongFalsely : Prop := fnExactShaStartRow.holds Try.pinned (OpenSpec.ofChange fnExactShaStartWrong)

/-- 'laws.FnExactShaBlock': WHATEVER THE INPUT: true; the input reads as it did. -/
def fnExactShaBlockSpec : ChangeSpec := { name := "fnExactShaBlock", fn := fun _ => fun
  | [d1, d2] => { results := [.lit (.bool true)], args := [d1, d2] }
  | _ => none }
def fnExactShaBlockRow : OpenClaim := { program := "ytimfjedhcokohaa", sum := "bce97db2ab2953eb0bbacbc26b1d1afa27c23a93952f19b74c09402272fb0af6", func := "loop.example/g00474/laws.FnExactShaBlock", spec := "fnExactShaBlock", apart := false }
def FnExactShaBlockSaid : Prop := fnExactShaBlockRow.holds Try.pinned (OpenSpec.ofChange fnExactShaBlockSpec)

/-- ITS FALSE NEIGHBOUR: 'it returns false'. Refute it at one input. -/
def fnExactShaBlockWrong : ChangeSpec := { name := "fnExactShaBlock", fn := fun _ => fun
  | [d1, d2] => { results := [.lit (.bool false)], args := [d1, d2] }
  | _ => none }
def FnExactShaBlockWrongFalsely : Prop := fnExactShaBlockRow.holds Try.pinned (OpenSpec.ofChange fnExactShaBlockWrong)

/-- 'laws.FnExactPadText': WHATEVER THE INPUT: true; the input reads as it did. -/
def fnExactPadTextSpec : ChangeSpec := { name := "fnExactPadText", fn := fun _ => fun
  | [d] => { results := [.lit (.bool true)], args := [d] }
  | _ => none }
def fnExactPadTextRow : OpenClaim := { program := "ytimfjedhcokohaa", sum := "bce97db2ab2953eb0bbacbc26b1d1afa27c23a93952f19b74c09402272fb0af6", func := "loop.example/g00474/laws.FnExactPadText", spec := "fnExactPadText", inPlace := ["internal/abi.NoEscape", "internal/bytealg.MakeNoZero"], apart := false }
def FnExactPadTextSaid : Prop := fnExactPadTextRow.holds Try.pinned (OpenSpec.ofChange fnExactPadTextSpec)

/-- ITS FALSE NEIGHBOUR: 'it returns false'. Refute it at one input. -/
def fnExactPadTextWrong : ChangeSpec := { name := "fnExactPadText", fn := fun _ => fun
  | [d] => { results := [.lit (.bool false)], args := [d] }
  | _ => none }
def FnExactPadTextWrongFalsely : Prop := fnExactPadTextRow.holds Try.pinned (OpenSpec.ofChange fnExactPadTextWrong)

/-- 'laws.FnKnown': WHATEVER THE INPUT: true; the input reads as it did. -/
def fnKnownSpec : ChangeSpec := { name := "fnKnown", fn := fun _ => fun
  | [d] => { results := [.lit (.bool true)], args := [d] }
  | _ => none }
def fnKnownRow : OpenClaim := { program := "ytimfjedhcokohaa", sum := "bce97db2ab2953eb0bbacbc26b1d1afa27c23a93952f19b74c09402272fb0af6", func := "loop.example/g00474/laws.FnKnown", spec := "fnKnown", inPlace := ["internal/abi.NoEscape", "internal/bytealg.MakeNoZero"], apart := false }
def FnKnownSaid : Prop := fnKnownRow.holds Try.pinned (OpenSpec.ofChange fnKnownSpec)

/-- ITS FALSE NEIGHBOUR: 'it returns false'. Refute it at one input. -/
def fnKnownWrong : ChangeSpec := { name := "fnKnown", fn := fun _ => fun
  | [d] => { results := [.lit (.bool false)], args := [d] }
  | _ => none }
def FnKnownWrongFalsely : Prop := fnKnownRow.holds Try.pinned (OpenSpec.ofChange fnKnownWrong)

/-- 'laws.FnExactDigest': WHATEVER THE INPUT: true; the input reads as it did. -/
def fnExactDigestSpec : ChangeSpec := { name := "fnExactDigest", fn := fun _ => fun
  | [d] => { results := [.lit (.bool true)], args := [d] }
  | _ => none }
def fnExactDigestRow : OpenClaim := { program := "ytimfjedhcokohaa", sum := "bce97db2ab2953eb0bbacbc26b1d1afa27c23a93952f19b74c09402272fb0af6", func := "loop.example/g00474/laws.FnExactDigest", spec := "fnExactDigest", inPlace := ["internal/abi.NoEscape", "internal/bytealg.MakeNoZero"], apart := false }
def FnExactDigestSaid : Prop := fnExactDigestRow.holds Try.pinned (OpenSpec.ofChange fnExactDigestSpec)

/-- ITS FALSE NEIGHBOUR: 'it returns false'. Refute it at one input. -/
def fnExactDigestWrong : ChangeSpec := { name := "fnExactDigest", fn := fun _ => fun
  | [d] => { results := [.lit (.bool false)], args := [d] }
  | _ => none }
def FnExactDigestWrongFalsely : Prop := fnExactDigestRow.holds Try.pinned (OpenSpec.ofChange fnExactDigestWrong)

/-- 'laws.FnExactCutDigest': WHATEVER THE INPUT: true; the input reads as it did. -/
def fnExactCutDigestSpec : ChangeSpec := { name := "fnExactCutDigest", fn := fun _ => fun
  | [d1, d2] => { results := [.lit (.bool true)], args := [d1, d2] }
  | _ => none }
def fnExactCutDigestRow : OpenClaim := { program := "ytimfjedhcokohaa", sum := "bce97db2ab2953eb0bbacbc26b1d1afa27c23a93952f19b74c09402272fb0af6", func := "loop.example/g00474/laws.FnExactCutDigest", spec := "fnExactCutDigest", inPlace := ["internal/abi.NoEscape", "internal/bytealg.MakeNoZero"], apart := false }
def FnExactCutDigestSaid : Prop := fnExactCutDigestRow.holds Try.pinned (OpenSpec.ofChange fnExactCutDigestSpec)

/-- ITS FALSE NEIGHBOUR: 'it returns false'. Refute it at one input. -/
def fnExactCutDigestWrong : ChangeSpec := { name := "fnExactCutDigest", fn := fun _ => fun
  | [d1, d2] => { results := [.lit (.bool false)], args := [d1, d2] }
  | _ => none }
def FnExactCutDigestWrongFalsely : Prop := fnExactCutDigestRow.holds Try.pinned (OpenSpec.ofChange fnExactCutDigestWrong)

/-- 'laws.FnExactChainOf': WHATEVER THE INPUT: true; the input reads as it did. -/
def fnExactChainOfSpec : ChangeSpec := { name := "fnExactChainOf", fn := fun _ => fun
  | [d1, d2] => { results := [.lit (.bool true)], args := [d1, d2] }
  | _ => none }
def fnExactChainOfRow : OpenClaim := { program := "ytimfjedhcokohaa", sum := "bce97db2ab2953eb0bbacbc26b1d1afa27c23a93952f19b74c09402272fb0af6", func := "loop.example/g00474/laws.FnExactChainOf", spec := "fnExactChainOf", inPlace := ["internal/abi.NoEscape", "internal/bytealg.MakeNoZero"], apart := false }
def FnExactChainOfSaid : Prop := fnExactChainOfRow.holds Try.pinned (OpenSpec.ofChange fnExactChainOfSpec)

/-- ITS FALSE NEIGHBOUR: 'it returns false'. Refute it at one input. -/
def fnExactChainOfWrong : ChangeSpec := { name := "fnExactChainOf", fn := fun _ => fun
  | [d1, d2] => { results := [.lit (.bool false)], args := [d1, d2] }
  | _ => none }
def FnExactChainOfWrongFalsely : Prop := fnExactChainOfRow.holds Try.pinned (OpenSpec.ofChange fnExactChainOfWrong)

/-- 'laws.FnExactDigestHex': WHATEVER THE INPUT: true; the input reads as it did. -/
def fnExactDigestHexSpec : ChangeSpec := { name := "fnExactDigestHex", fn := fun _ => fun
  | [d] => { results := [.lit (.bool true)], args := [d] }
  | _ => none }
def fnExactDigestHexRow : OpenClaim := { program := "ytimfjedhcokohaa", sum := "bce97db2ab2953eb0bbacbc26b1d1afa27c23a93952f19b74c09402272fb0af6", func := "loop.example/g00474/laws.FnExactDigestHex", spec := "fnExactDigestHex", inPlace := ["internal/abi.NoEscape", "internal/bytealg.MakeNoZero"], apart := false }
def FnExactDigestHexSaid : Prop := fnExactDigestHexRow.holds Try.pinned (OpenSpec.ofChange fnExactDigestHexSpec)

/-- ITS FALSE NEIGHBOUR: 'it returns false'. Refute it at one input. -/
def fnExactDigestHexWrong : ChangeSpec := { name := "fnExactDigestHex", fn := fun _ => fun
  | [d] => { results := [.lit (.bool false)], args := [d] }
  | _ => none }
def FnExactDigestHexWrongFalsely : Prop := fnExactDigestHexRow.holds Try.pinned (OpenSpec.ofChange fnExactDigestHexWrong)

/-- 'laws.FnExactPlaceOf': WHATEVER THE INPUT: true; the input reads as it did. -/
def fnExactPlaceOfSpec : ChangeSpec := { name := "fnExactPlaceOf", fn := fun _ => fun
  | [d] => { results := [.lit (.bool true)], args := [d] }
  | _ => none }
def fnExactPlaceOfRow : OpenClaim := { program := "ytimfjedhcokohaa", sum := "bce97db2ab2953eb0bbacbc26b1d1afa27c23a93952f19b74c09402272fb0af6", func := "loop.example/g00474/laws.FnExactPlaceOf", spec := "fnExactPlaceOf", inPlace := ["internal/abi.NoEscape", "internal/bytealg.MakeNoZero"], apart := false }
def FnExactPlaceOfSaid : Prop := fnExactPlaceOfRow.holds Try.pinned (OpenSpec.ofChange fnExactPlaceOfSpec)

/-- ITS FALSE NEIGHBOUR: 'it returns false'. Refute it at one input. -/
def fnExactPlaceOfWrong : ChangeSpec := { name := "fnExactPlaceOf", fn := fun _ => fun
  | [d] => { results := [.lit (.bool false)], args := [d] }
  | _ => none }
def FnExactPlaceOfWrongFalsely : Prop := fnExactPlaceOfRow.holds Try.pinned (OpenSpec.ofChange fnExactPlaceOfWrong)

/-- 'laws.FnExactSecretOf': WHATEVER THE INPUT: true; the input reads as it did. -/
def fnExactSecretOfSpec : ChangeSpec := { name := "fnExactSecretOf", fn := fun _ => fun
  | [d1, d2, d3] => { results := [.lit (.bool true)], args := [d1, d2, d3] }
  | _ => none }
def fnExactSecretOfRow : OpenClaim := { program := "ytimfjedhcokohaa", sum := "bce97db2ab2953eb0bbacbc26b1d1afa27c23a93952f19b74c09402272fb0af6", func := "loop.example/g00474/laws.FnExactSecretOf", spec := "fnExactSecretOf", inPlace := ["internal/abi.NoEscape", "internal/bytealg.MakeNoZero"], apart := false }
def FnExactSecretOfSaid : Prop := fnExactSecretOfRow.holds Try.pinned (OpenSpec.ofChange fnExactSecretOfSpec)

/-- ITS FALSE NEIGHBOUR: 'it returns false'. Refute it at one input. -/
def fnExactSecretOfWrong : ChangeSpec := { name := "fnExactSecretOf", fn := fun _ => fun
  | [d1, d2, d3] => { results := [.lit (.bool false)], args := [d1, d2, d3] }
  | _ => none }
def FnExactSecretOfWrongFalsely : Prop := fnExactSecretOfRow.holds Try.pinned (OpenSpec.ofChange fnExactSecretOfWrong)

/-- 'laws.FnExactQuadsOf': WHATEVER THE INPUT: true; the input reads as it did. -/
def fnExactQuadsOfSpec : ChangeSpec := { name := "fnExactQuadsOf", fn := fun _ => fun
  | [d] => { results := [.lit (.bool true)], args := [d] }
  | _ => none }
def fnExactQuadsOfRow : OpenClaim := { program := "ytimfjedhcokohaa", sum := "bce97db2ab2953eb0bbacbc26b1d1afa27c23a93952f19b74c09402272fb0af6", func := "loop.example/g00474/laws.FnExactQuadsOf", spec := "fnExactQuadsOf", inPlace := ["internal/abi.NoEscape", "internal/bytealg.MakeNoZero"], apart := false }
def FnExactQuadsOfSaid : Prop := fnExactQuadsOfRow.holds Try.pinned (OpenSpec.ofChange fnExactQuadsOfSpec)

/-- ITS FALSE NEIGHBOUR: 'it returns false'. Refute it at one input. -/
def fnExactQuadsOfWrong : ChangeSpec := { name := "fnExactQuadsOf", fn := fun _ => fun
  | [d] => { results := [.lit (.bool false)], args := [d] }
  | _ => none }
def FnExactQuadsOfWrongFalsely : Prop := fnExactQuadsOfRow.holds Try.pinned (OpenSpec.ofChange fnExactQuadsOfWrong)

/-- 'laws.FnExactLeafKey': WHATEVER THE INPUT: true; the input reads as it did. -/
def fnExactLeafKeySpec : ChangeSpec := { name := "fnExactLeafKey", fn := fun _ => fun
  | [d1, d2] => { results := [.lit (.bool true)], args := [d1, d2] }
  | _ => none }
def fnExactLeafKeyRow : OpenClaim := { program := "ytimfjedhcokohaa", sum := "bce97db2ab2953eb0bbacbc26b1d1afa27c23a93952f19b74c09402272fb0af6", func := "loop.example/g00474/laws.FnExactLeafKey", spec := "fnExactLeafKey", inPlace := ["internal/abi.NoEscape", "internal/bytealg.MakeNoZero"], apart := false }
def FnExactLeafKeySaid : Prop := fnExactLeafKeyRow.holds Try.pinned (OpenSpec.ofChange fnExactLeafKeySpec)

/-- ITS FALSE NEIGHBOUR: 'it returns false'. Refute it at one input. -/
def fnExactLeafKeyWrong : ChangeSpec := { name := "fnExactLeafKey", fn := fun _ => fun
  | [d1, d2] => { results := [.lit (.bool false)], args := [d1, d2] }
  | _ => none }
def FnExactLeafKeyWrongFalsely : Prop := fnExactLeafKeyRow.holds Try.pinned (OpenSpec.ofChange fnExactLeafKeyWrong)

/-- 'laws.FnDigestTurned': WHATEVER THE INPUT: true; the input reads as it did. -/
def fnDigestTurnedSpec : ChangeSpec := { name := "fnDigestTurned", fn := fun _ => fun
  | [d] => { results := [.lit (.bool true)], args := [d] }
  | _ => none }
def fnDigestTurnedRow : OpenClaim := { program := "ytimfjedhcokohaa", sum := "bce97db2ab2953eb0bbacbc26b1d1afa27c23a93952f19b74c09402272fb0af6", func := "loop.example/g00474/laws.FnDigestTurned", spec := "fnDigestTurned", inPlace := ["internal/abi.NoEscape", "internal/bytealg.MakeNoZero"], apart := false }
def FnDigestTurnedSaid : Prop := fnDigestTurnedRow.holds Try.pinned (OpenSpec.ofChange fnDigestTurnedSpec)

/-- ITS FALSE NEIGHBOUR: 'it returns false'. Refute it at one input. -/
def fnDigestTurnedWrong : ChangeSpec := { name := "fnDigestTurned", fn := fun _ => fun
  | [d] => { results := [.lit (.bool false)], args := [d] }
  | _ => none }
def FnDigestTurnedWrongFalsely : Prop := fnDigestTurnedRow.holds Try.pinned (OpenSpec.ofChange fnDigestTurnedWrong)

/-- 'laws.FnExactKeyOf': WHATEVER THE INPUT: true; the input reads as it did. -/
def fnExactKeyOfSpec : ChangeSpec := { name := "fnExactKeyOf", fn := fun _ => fun
  | [d] => { results := [.lit (.bool true)], args := [d] }
  | _ => none }
def fnExactKeyOfRow : OpenClaim := { program := "ytimfjedhcokohaa", sum := "bce97db2ab2953eb0bbacbc26b1d1afa27c23a93952f19b74c09402272fb0af6", func := "loop.example/g00474/laws.FnExactKeyOf", spec := "fnExactKeyOf", inPlace := ["internal/abi.NoEscape", "internal/bytealg.MakeNoZero"], apart := false }
def FnExactKeyOfSaid : Prop := fnExactKeyOfRow.holds Try.pinned (OpenSpec.ofChange fnExactKeyOfSpec)

/-- ITS FALSE NEIGHBOUR: 'it returns false'. Refute it at one input. -/
def fnExactKeyOfWrong : ChangeSpec := { name := "fnExactKeyOf", fn := fun _ => fun
  | [d] => { results := [.lit (.bool false)], args := [d] }
  | _ => none }
def FnExactKeyOfWrongFalsely : Prop := fnExactKeyOfRow.holds Try.pinned (OpenSpec.ofChange fnExactKeyOfWrong)

/-- 'laws.FnBlocks': WHATEVER THE INPUT: true; the input reads as it did. -/
def fnBlocksSpec : ChangeSpec := { name := "fnBlocks", fn := fun _ => fun
  | [d] => { results := [.lit (.bool true)], args := [d] }
  | _ => none }
def fnBlocksRow : OpenClaim := { program := "ytimfjedhcokohaa", sum := "bce97db2ab2953eb0bbacbc26b1d1afa27c23a93952f19b74c09402272fb0af6", func := "loop.example/g00474/laws.FnBlocks", spec := "fnBlocks", inPlace := ["internal/abi.NoEscape", "internal/bytealg.MakeNoZero"], apart := false }
def FnBlocksSaid : Prop := fnBlocksRow.holds Try.pinned (OpenSpec.ofChange fnBlocksSpec)

/-- ITS FALSE NEIGHBOUR: 'it returns false'. Refute it at one input. -/
def fnBlocksWrong : ChangeSpec := { name := "fnBlocks", fn := fun _ => fun
  | [d] => { results := [.lit (.bool false)], args := [d] }
  | _ => none }
def FnBlocksWrongFalsely : Prop := fnBlocksRow.holds Try.pinned (OpenSpec.ofChange fnBlocksWrong)

/-- 'laws.FnExactSignedBy': WHATEVER THE INPUT: true; the input reads as it did. -/
def fnExactSignedBySpec : ChangeSpec := { name := "fnExactSignedBy", fn := fun _ => fun
  | [d1, d2, d3] => { results := [.lit (.bool true)], args := [d1, d2, d3] }
  | _ => none }
def fnExactSignedByRow : OpenClaim := { program := "ytimfjedhcokohaa", sum := "bce97db2ab2953eb0bbacbc26b1d1afa27c23a93952f19b74c09402272fb0af6", func := "loop.example/g00474/laws.FnExactSignedBy", spec := "fnExactSignedBy", inPlace := ["internal/abi.NoEscape", "internal/bytealg.MakeNoZero"], unfollowed := true, recurses := true, apart := false }
def FnExactSignedBySaid : Prop := fnExactSignedByRow.holds Try.pinned (OpenSpec.ofChange fnExactSignedBySpec)

/-- ITS FALSE NEIGHBOUR: 'it returns false'. Refute it at one input. -/
def fnExactSignedByWrong : ChangeSpec := { name := "fnExactSignedBy", fn := fun _ => fun
  | [d1, d2, d3] => { results := [.lit (.bool false)], args := [d1, d2, d3] }
  | _ => none }
def FnExactSignedByWrongFalsely : Prop := fnExactSignedByRow.holds Try.pinned (OpenSpec.ofChange fnExactSignedByWrong)

/-- 'laws.FnExactSignText': WHATEVER THE INPUT: true; the input reads as it did. -/
def fnExactSignTextSpec : ChangeSpec := { name := "fnExactSignText", fn := fun _ => fun
  | [d1, d2, d3] => { results := [.lit (.bool true)], args := [d1, d2, d3] }
  | _ => none }
def fnExactSignTextRow : OpenClaim := { program := "ytimfjedhcokohaa", sum := "bce97db2ab2953eb0bbacbc26b1d1afa27c23a93952f19b74c09402272fb0af6", func := "loop.example/g00474/laws.FnExactSignText", spec := "fnExactSignText", inPlace := ["internal/abi.NoEscape", "internal/bytealg.MakeNoZero"], apart := false }
def FnExactSignTextSaid : Prop := fnExactSignTextRow.holds Try.pinned (OpenSpec.ofChange fnExactSignTextSpec)

/-- ITS FALSE NEIGHBOUR: 'it returns false'. Refute it at one input. -/
def fnExactSignTextWrong : ChangeSpec := { name := "fnExactSignText", fn := fun _ => fun
  | [d1, d2, d3] => { results := [.lit (.bool false)], args := [d1, d2, d3] }
  | _ => none }
def FnExactSignTextWrongFalsely : Prop := fnExactSignTextRow.holds Try.pinned (OpenSpec.ofChange fnExactSignTextWrong)

/-- 'laws.FnSigns': WHATEVER THE INPUT: true; the input reads as it did. -/
def fnSignsSpec : ChangeSpec := { name := "fnSigns", fn := fun _ => fun
  | [d] => { results := [.lit (.bool true)], args := [d] }
  | _ => none }
def fnSignsRow : OpenClaim := { program := "ytimfjedhcokohaa", sum := "bce97db2ab2953eb0bbacbc26b1d1afa27c23a93952f19b74c09402272fb0af6", func := "loop.example/g00474/laws.FnSigns", spec := "fnSigns", inPlace := ["internal/abi.NoEscape", "internal/bytealg.MakeNoZero"], unfollowed := true, recurses := true, apart := false }
def FnSignsSaid : Prop := fnSignsRow.holds Try.pinned (OpenSpec.ofChange fnSignsSpec)

/-- ITS FALSE NEIGHBOUR: 'it returns false'. Refute it at one input. -/
def fnSignsWrong : ChangeSpec := { name := "fnSigns", fn := fun _ => fun
  | [d] => { results := [.lit (.bool false)], args := [d] }
  | _ => none }
def FnSignsWrongFalsely : Prop := fnSignsRow.holds Try.pinned (OpenSpec.ofChange fnSignsWrong)

/-- 'laws.FnSignsTold': WHATEVER THE INPUT: true; the input reads as it did. -/
def fnSignsToldSpec : ChangeSpec := { name := "fnSignsTold", fn := fun _ => fun
  | [d] => { results := [.lit (.bool true)], args := [d] }
  | _ => none }
def fnSignsToldRow : OpenClaim := { program := "ytimfjedhcokohaa", sum := "bce97db2ab2953eb0bbacbc26b1d1afa27c23a93952f19b74c09402272fb0af6", func := "loop.example/g00474/laws.FnSignsTold", spec := "fnSignsTold", inPlace := ["internal/abi.NoEscape", "internal/bytealg.MakeNoZero"], unfollowed := true, recurses := true, apart := false }
def FnSignsToldSaid : Prop := fnSignsToldRow.holds Try.pinned (OpenSpec.ofChange fnSignsToldSpec)

/-- ITS FALSE NEIGHBOUR: 'it returns false'. Refute it at one input. -/
def fnSignsToldWrong : ChangeSpec := { name := "fnSignsTold", fn := fun _ => fun
  | [d] => { results := [.lit (.bool false)], args := [d] }
  | _ => none }
def FnSignsToldWrongFalsely : Prop := fnSignsToldRow.holds Try.pinned (OpenSpec.ofChange fnSignsToldWrong)

/- THE SECOND FORM. 'bulk': how many values and letters a reading holds, each counted each time it is reached (what is shared counts as often as it is met; a slice's spare places count too). A statement '..UptoSaid' is the law's where the arguments, and the package variables that the reading takes, are together of bulk at most 1048576: NARROWER than '..Said'. Prove '..Said' where nothing that the law and all that it calls make is longer than what came in: it says more and counts as full. Else prove '..UptoSaid'. A law counts once. -/
mutual
def uptoBulk {H : Type} : DataW H → Nat
  | .lit (.string bytes) => bytes.length + 1
  | .lit _ => 1
  | .nil => 1
  | .ptr d => uptoBulk d + 1
  | .slice elems spare => uptoBulkAll elems + uptoBulkAll spare + 1
  | .agg parts => uptoBulkAll parts + 1
  | .iface _ d => uptoBulk d + 1
  | .map entries => uptoBulkEntries entries + 1
  | .held _ => 1
def uptoBulkAll {H : Type} : List (DataW H) → Nat
  | [] => 0
  | d :: r => uptoBulk d + uptoBulkAll r
def uptoBulkEntries {H : Type} : List (Lit × DataW H) → Nat
  | [] => 0
  | x :: r => uptoBulkEntry x + uptoBulkEntries r
def uptoBulkEntry {H : Type} : Lit × DataW H → Nat
  | (.string bytes, d) => bytes.length + uptoBulk d + 1
  | (_, d) => uptoBulk d + 1
 end
def uptoSmall : (H : Type) → List (DataW H) → Bool := fun _ ds => decide (uptoBulkAll ds ≤ 1048576)
def OpenSpec.upto (s : _root_.Go.ChangeSpec) : _root_.Go.OpenSpec := { _root_.Go.OpenSpec.ofChange s with cond := some uptoSmall }

/-- 'laws.FnExactShaStart', WHERE WHAT IT READS IS OF BULK AT MOST 1048576: true; the input reads as it did. -/
def fnExactShaStartUptoRow : OpenClaim := { program := "ytimfjedhcokohaa", sum := "bce97db2ab2953eb0bbacbc26b1d1afa27c23a93952f19b74c09402272fb0af6", func := "loop.example/g00474/laws.FnExactShaStart", spec := "fnExactShaStart", apart := false, narrowed := true }
def FnExactShaStartUptoSaid : Prop := fnExactShaStartUptoRow.holds Try.pinned (OpenSpec.upto fnExactShaStartSpec)

/-- 'laws.FnExactShaBlock', WHERE WHAT IT READS IS OF BULK AT MOST 1048576: true; the input reads as it did. -/
def fnExactShaBlockUptoRow : OpenClaim := { program := "ytimfjedhcokohaa", sum := "bce97db2ab2953eb0bbacbc26b1d1afa27c23a93952f19b74c09402272fb0af6", func := "loop.example/g00474/laws.FnExactShaBlock", spec := "fnExactShaBlock", apart := false, narrowed := true }
def FnExactShaBlockUptoSaid : Prop := fnExactShaBlockUptoRow.holds Try.pinned (OpenSpec.upto fnExactShaBlockSpec)

/-- 'laws.FnExactPadText', WHERE WHAT IT READS IS OF BULK AT MOST 1048576: true; the input reads as it did. -/
def fnExactPadTextUptoRow : OpenClaim := { program := "ytimfjedhcokohaa", sum := "bce97db2ab2953eb0bbacbc26b1d1afa27c23a93952f19b74c09402272fb0af6", func := "loop.example/g00474/laws.FnExactPadText", spec := "fnExactPadText", inPlace := ["internal/abi.NoEscape", "internal/bytealg.MakeNoZero"], apart := false, narrowed := true }
def FnExactPadTextUptoSaid : Prop := fnExactPadTextUptoRow.holds Try.pinned (OpenSpec.upto fnExactPadTextSpec)

/-- 'laws.FnKnown', WHERE WHAT IT READS IS OF BULK AT MOST 1048576: true; the input reads as it did. -/
def fnKnownUptoRow : OpenClaim := { program := "ytimfjedhcokohaa", sum := "bce97db2ab2953eb0bbacbc26b1d1afa27c23a93952f19b74c09402272fb0af6", func := "loop.example/g00474/laws.FnKnown", spec := "fnKnown", inPlace := ["internal/abi.NoEscape", "internal/bytealg.MakeNoZero"], apart := false, narrowed := true }
def FnKnownUptoSaid : Prop := fnKnownUptoRow.holds Try.pinned (OpenSpec.upto fnKnownSpec)

/-- 'laws.FnExactDigest', WHERE WHAT IT READS IS OF BULK AT MOST 1048576: true; the input reads as it did. -/
def fnExactDigestUptoRow : OpenClaim := { program := "ytimfjedhcokohaa", sum := "bce97db2ab2953eb0bbacbc26b1d1afa27c23a93952f19b74c09402272fb0af6", func := "loop.example/g00474/laws.FnExactDigest", spec := "fnExactDigest", inPlace := ["internal/abi.NoEscape", "internal/bytealg.MakeNoZero"], apart := false, narrowed := true }
def FnExactDigestUptoSaid : Prop := fnExactDigestUptoRow.holds Try.pinned (OpenSpec.upto fnExactDigestSpec)

/-- 'laws.FnExactCutDigest', WHERE WHAT IT READS IS OF BULK AT MOST 1048576: true; the input reads as it did. -/
def fnExactCutDigestUptoRow : OpenClaim := { program := "ytimfjedhcokohaa", sum := "bce97db2ab2953eb0bbacbc26b1d1afa27c23a93952f19b74c09402272fb0af6", func := "loop.example/g00474/laws.FnExactCutDigest", spec := "fnExactCutDigest", inPlace := ["internal/abi.NoEscape", "internal/bytealg.MakeNoZero"], apart := false, narrowed := true }
def FnExactCutDigestUptoSaid : Prop := fnExactCutDigestUptoRow.holds Try.pinned (OpenSpec.upto fnExactCutDigestSpec)

/-- 'laws.FnExactChainOf', WHERE WHAT IT READS IS OF BULK AT MOST 1048576: true; the input reads as it did. -/
def fnExactChainOfUptoRow : OpenClaim := { program := "ytimfjedhcokohaa", sum := "bce97db2ab2953eb0bbacbc26b1d1afa27c23a93952f19b74c09402272fb0af6", func := "loop.example/g00474/laws.FnExactChainOf", spec := "fnExactChainOf", inPlace := ["internal/abi.NoEscape", "internal/bytealg.MakeNoZero"], apart := false, narrowed := true }
def FnExactChainOfUptoSaid : Prop := fnExactChainOfUptoRow.holds Try.pinned (OpenSpec.upto fnExactChainOfSpec)

/-- 'laws.FnExactDigestHex', WHERE WHAT IT READS IS OF BULK AT MOST 1048576: true; the input reads as it did. -/
def fnExactDigestHexUptoRow : OpenClaim := { program := "ytimfjedhcokohaa", sum := "bce97db2ab2953eb0bbacbc26b1d1afa27c23a93952f19b74c09402272fb0af6", func := "loop.example/g00474/laws.FnExactDigestHex", spec := "fnExactDigestHex", inPlace := ["internal/abi.NoEscape", "internal/bytealg.MakeNoZero"], apart := false, narrowed := true }
def FnExactDigestHexUptoSaid : Prop := fnExactDigestHexUptoRow.holds Try.pinned (OpenSpec.upto fnExactDigestHexSpec)

/-- 'laws.FnExactPlaceOf', WHERE WHAT IT READS IS OF BULK AT MOST 1048576: true; the input reads as it did. -/
def fnExactPlaceOfUptoRow : OpenClaim := { program := "ytimfjedhcokohaa", sum := "bce97db2ab2953eb0bbacbc26b1d1afa27c23a93952f19b74c09402272fb0af6", func := "loop.example/g00474/laws.FnExactPlaceOf", spec := "fnExactPlaceOf", inPlace := ["internal/abi.NoEscape", "internal/bytealg.MakeNoZero"], apart := false, narrowed := true }
def FnExactPlaceOfUptoSaid : Prop := fnExactPlaceOfUptoRow.holds Try.pinned (OpenSpec.upto fnExactPlaceOfSpec)

/-- 'laws.FnExactSecretOf', WHERE WHAT IT READS IS OF BULK AT MOST 1048576: true; the input reads as it did. -/
def fnExactSecretOfUptoRow : OpenClaim := { program := "ytimfjedhcokohaa", sum := "bce97db2ab2953eb0bbacbc26b1d1afa27c23a93952f19b74c09402272fb0af6", func := "loop.example/g00474/laws.FnExactSecretOf", spec := "fnExactSecretOf", inPlace := ["internal/abi.NoEscape", "internal/bytealg.MakeNoZero"], apart := false, narrowed := true }
def FnExactSecretOfUptoSaid : Prop := fnExactSecretOfUptoRow.holds Try.pinned (OpenSpec.upto fnExactSecretOfSpec)

/-- 'laws.FnExactQuadsOf', WHERE WHAT IT READS IS OF BULK AT MOST 1048576: true; the input reads as it did. -/
def fnExactQuadsOfUptoRow : OpenClaim := { program := "ytimfjedhcokohaa", sum := "bce97db2ab2953eb0bbacbc26b1d1afa27c23a93952f19b74c09402272fb0af6", func := "loop.example/g00474/laws.FnExactQuadsOf", spec := "fnExactQuadsOf", inPlace := ["internal/abi.NoEscape", "internal/bytealg.MakeNoZero"], apart := false, narrowed := true }
def FnExactQuadsOfUptoSaid : Prop := fnExactQuadsOfUptoRow.holds Try.pinned (OpenSpec.upto fnExactQuadsOfSpec)

/-- 'laws.FnExactLeafKey', WHERE WHAT IT READS IS OF BULK AT MOST 1048576: true; the input reads as it did. -/
def fnExactLeafKeyUptoRow : OpenClaim := { program := "ytimfjedhcokohaa", sum := "bce97db2ab2953eb0bbacbc26b1d1afa27c23a93952f19b74c09402272fb0af6", func := "loop.example/g00474/laws.FnExactLeafKey", spec := "fnExactLeafKey", inPlace := ["internal/abi.NoEscape", "internal/bytealg.MakeNoZero"], apart := false, narrowed := true }
def FnExactLeafKeyUptoSaid : Prop := fnExactLeafKeyUptoRow.holds Try.pinned (OpenSpec.upto fnExactLeafKeySpec)

/-- 'laws.FnDigestTurned', WHERE WHAT IT READS IS OF BULK AT MOST 1048576: true; the input reads as it did. -/
def fnDigestTurnedUptoRow : OpenClaim := { program := "ytimfjedhcokohaa", sum := "bce97db2ab2953eb0bbacbc26b1d1afa27c23a93952f19b74c09402272fb0af6", func := "loop.example/g00474/laws.FnDigestTurned", spec := "fnDigestTurned", inPlace := ["internal/abi.NoEscape", "internal/bytealg.MakeNoZero"], apart := false, narrowed := true }
def FnDigestTurnedUptoSaid : Prop := fnDigestTurnedUptoRow.holds Try.pinned (OpenSpec.upto fnDigestTurnedSpec)

/-- 'laws.FnExactKeyOf', WHERE WHAT IT READS IS OF BULK AT MOST 1048576: true; the input reads as it did. -/
def fnExactKeyOfUptoRow : OpenClaim := { program := "ytimfjedhcokohaa", sum := "bce97db2ab2953eb0bbacbc26b1d1afa27c23a93952f19b74c09402272fb0af6", func := "loop.example/g00474/laws.FnExactKeyOf", spec := "fnExactKeyOf", inPlace := ["internal/abi.NoEscape", "internal/bytealg.MakeNoZero"], apart := false, narrowed := true }
def FnExactKeyOfUptoSaid : Prop := fnExactKeyOfUptoRow.holds Try.pinned (OpenSpec.upto fnExactKeyOfSpec)

/-- 'laws.FnBlocks', WHERE WHAT IT READS IS OF BULK AT MOST 1048576: true; the input reads as it did. -/
def fnBlocksUptoRow : OpenClaim := { program := "ytimfjedhcokohaa", sum := "bce97db2ab2953eb0bbacbc26b1d1afa27c23a93952f19b74c09402272fb0af6", func := "loop.example/g00474/laws.FnBlocks", spec := "fnBlocks", inPlace := ["internal/abi.NoEscape", "internal/bytealg.MakeNoZero"], apart := false, narrowed := true }
def FnBlocksUptoSaid : Prop := fnBlocksUptoRow.holds Try.pinned (OpenSpec.upto fnBlocksSpec)

/-- 'laws.FnExactSignedBy', WHERE WHAT IT READS IS OF BULK AT MOST 1048576: true; the input reads as it did. -/
def fnExactSignedByUptoRow : OpenClaim := { program := "ytimfjedhcokohaa", sum := "bce97db2ab2953eb0bbacbc26b1d1afa27c23a93952f19b74c09402272fb0af6", func := "loop.example/g00474/laws.FnExactSignedBy", spec := "fnExactSignedBy", inPlace := ["internal/abi.NoEscape", "internal/bytealg.MakeNoZero"], unfollowed := true, recurses := true, apart := false, narrowed := true }
def FnExactSignedByUptoSaid : Prop := fnExactSignedByUptoRow.holds Try.pinned (OpenSpec.upto fnExactSignedBySpec)

/-- 'laws.FnExactSignText', WHERE WHAT IT READS IS OF BULK AT MOST 1048576: true; the input reads as it did. -/
def fnExactSignTextUptoRow : OpenClaim := { program := "ytimfjedhcokohaa", sum := "bce97db2ab2953eb0bbacbc26b1d1afa27c23a93952f19b74c09402272fb0af6", func := "loop.example/g00474/laws.FnExactSignText", spec := "fnExactSignText", inPlace := ["internal/abi.NoEscape", "internal/bytealg.MakeNoZero"], apart := false, narrowed := true }
def FnExactSignTextUptoSaid : Prop := fnExactSignTextUptoRow.holds Try.pinned (OpenSpec.upto fnExactSignTextSpec)

/-- 'laws.FnSigns', WHERE WHAT IT READS IS OF BULK AT MOST 1048576: true; the input reads as it did. -/
def fnSignsUptoRow : OpenClaim := { program := "ytimfjedhcokohaa", sum := "bce97db2ab2953eb0bbacbc26b1d1afa27c23a93952f19b74c09402272fb0af6", func := "loop.example/g00474/laws.FnSigns", spec := "fnSigns", inPlace := ["internal/abi.NoEscape", "internal/bytealg.MakeNoZero"], unfollowed := true, recurses := true, apart := false, narrowed := true }
def FnSignsUptoSaid : Prop := fnSignsUptoRow.holds Try.pinned (OpenSpec.upto fnSignsSpec)

/-- 'laws.FnSignsTold', WHERE WHAT IT READS IS OF BULK AT MOST 1048576: true; the input reads as it did. -/
def fnSignsToldUptoRow : OpenClaim := { program := "ytimfjedhcokohaa", sum := "bce97db2ab2953eb0bbacbc26b1d1afa27c23a93952f19b74c09402272fb0af6", func := "loop.example/g00474/laws.FnSignsTold", spec := "fnSignsTold", inPlace := ["internal/abi.NoEscape", "internal/bytealg.MakeNoZero"], unfollowed := true, recurses := true, apart := false, narrowed := true }
def FnSignsToldUptoSaid : Prop := fnSignsToldUptoRow.holds Try.pinned (OpenSpec.upto fnSignsToldSpec)

end Rows
end Go.Proofs.Ytimfjedhcokohaa
