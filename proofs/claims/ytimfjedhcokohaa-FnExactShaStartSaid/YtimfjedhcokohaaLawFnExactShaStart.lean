/- What the code that one law of the given program reaches computes, function by function, each with its proof over the given translation.
Conditions: none of our own. (Laid by a program of this session, wip/xp/xp.py; some contracts are typed by hand.) -/
import Derived.Test.YtimfjedhcokohaaRows
import Derived.Test.YtimfjedhcokohaaPFnExactShaStartx1
import Derived.Test.YtimfjedhcokohaaPureFnExactShaStart
import Derived.Test.YtimfjedhcokohaaJoining
import Derived.WalkKit
import Derived.ProofKit
import Derived.OpenShut
import Derived.ShutString
import Derived.ChangeOld
import Derived.Below
import Derived.SizedLaws
namespace Go.Proofs.Ytimfjedhcokohaa.fnExactShaStart
open Go.ChangeShapes Go.WideShapes Go.ChangeAt Go.RowKit
open Go.ChangeMaps (open_string shut_string)
set_option linter.unusedVariables false
theorem own : ownKnob Try.prog.godebug = none := by kernel_rfl
set_option maxRecDepth 100000 in
theorem lifted (os : Os) (started : os.Started) (H : Type) (enc : TypeId × Value → H) :
    ReturnsInHanded {} Try.checked os 3 .any (Rows.fnExactShaStartSpec.pre6 enc Try.prog Try.f3 Rows.fnExactShaStartRow.domain false) (Rows.fnExactShaStartSpec.post enc Try.prog Try.f3 false true false false) := by
  refine returnsInHanded_of_change_sized (C := Try.checked) own started (by kernel_rfl) Try.func3
    (ChangeSpec.witness6 (enc := enc) (C := Try.checked) false ⟨#[], #[], []⟩ 8 (by kernel_rfl) (by kernel_rfl) (by kernel_rfl) (by kernel_rfl)) ?_
  intro W base args ds gs before hval0 hW hcnd hsz0 _
  have hsz : (DataW.weightsEach Try.prog (Try.f3.params.toList ++ Rows.fnExactShaStartSpec.plain.varTypes Try.prog) (ds ++ gs)).all (· ≤ reachBytes) = true := hsz0
  have hval : ∀ (j : Nat) t v, Try.f3.params[j]? = some t → args[j]? = some v → Value.okWide Try.prog W .any base t v := hval0
  have hW' := hW
  obtain ⟨p, q, hA0, hV, rfl, hfz, hnd⟩ := hW
  have hA : DataW.TrodAll enc Try.prog W 0 (fun _ => true) true Try.f3.params.toList args.toList ds p := hA0
  rw [Try.params3] at hA hval hsz
  obtain ⟨rfl, rfl, rfl⟩ := trodAll_none hA
  obtain ⟨rfl, rfl⟩ := trodVars_none hV
  clear hA0 hval0 hsz0 hsz
  refine (PFnExactShaStart.laws_FnExactShaStart.walk Pure.FnExactShaStart  W ).mono fun e W' ⟨he, bel⟩ => ?_
  subst he
  exact ⟨_, rfl, _, _, _, [], _, [], hW', trodAll_mk1 (shut_bool Try.underlying4 _), trodAll_mk0, rfl, bel.frame _, fun h => by cases h⟩
theorem over0 : Try.checked.prog.funcNamed Rows.fnExactShaStartRow.func = some 3 := by kernel_rfl
set_option maxRecDepth 1000000 in
theorem io : ∃ l : List Char, Try.checked.prog.initOrder = String.ofList l ∧ (behindMainWord (wordsSigns l)).take 2 = ["cut".toList, "at".toList] := ⟨_, rfl, by kernel_rfl⟩
theorem hmay : Try.checked.prog.mayEnter = true := Joining.may (Joining.words io) (by kernel_rfl) (by kernel_rfl) (by kernel_rfl)
theorem hlift : (Rows.fnExactShaStartRow.lifted == Try.checked.prog.liftsFinal) = true := Joining.lift (Joining.words io)
theorem hmake : (Try.checked.prog.make == some Rows.fnExactShaStartRow.make) = true := Joining.make (Joining.words io)
theorem over1 : joinedFacts Try.checked.prog 3 Try.f3 Rows.fnExactShaStartSpec Rows.fnExactShaStartRow = true := by
  unfold joinedFacts
  simp only [Bool.and_eq_true]
  repeat' apply And.intro
  all_goals first | (with_reducible exact hmay) | (with_reducible exact hlift) | (with_reducible exact hmake) | kernel_rfl
theorem over2 : Try.f3.isInstance Try.checked.prog Rows.fnExactShaStartRow.origin Rows.fnExactShaStartRow.targs := of_decide_eq_true (by kernel_rfl)
theorem over3 : Try.f3.isWrapper Try.checked.prog Rows.fnExactShaStartRow.wrapper Rows.fnExactShaStartRow.mainSum := by unfold Func.isWrapper; first | (rw [if_pos (by decide +kernel)]; kernel_rfl) | (rw [if_neg (by decide +kernel)]; exact ⟨rfl, rfl⟩)
theorem over : Rows.fnExactShaStartRow.holds Try.pinned (OpenSpec.ofChange Rows.fnExactShaStartSpec) :=
  OpenClaim.holds_of_wide 3 Try.f3 rfl rfl rfl rfl rfl rfl rfl ⟨rfl, rfl, rfl, rfl, rfl⟩ rfl rfl rfl rfl rfl over0 Try.func3 over1 over2 over3
    (fun os started H enc _ => lifted os started H enc)
theorem proved : Rows.FnExactShaStartSaid := over
#print axioms proved
end Go.Proofs.Ytimfjedhcokohaa.fnExactShaStart
namespace Go.Proofs.Ytimfjedhcokohaa
/-- The row, under a short name, for the claim. -/
theorem fnExactShaStart_holds : Rows.FnExactShaStartSaid := fnExactShaStart.proved
end Go.Proofs.Ytimfjedhcokohaa
