/- What the code that one law of the given program reaches computes, function by function, each with its proof over the given translation.
Conditions: none of our own. (Laid by a program of this session, wip/xp/xp.py; some contracts are typed by hand.) -/
import Derived.Test.YtimfjedhcokohaaFlat
import Derived.Test.YtimfjedhcokohaaRows
import Derived.Test.YtimfjedhcokohaaPFnExactPlaceOfx5
import Derived.Test.YtimfjedhcokohaaPureFnExactPlaceOf
import Derived.Test.YtimfjedhcokohaaJoining
import Derived.WalkKit
import Derived.ProofKit
import Derived.OpenShut
import Derived.ShutString
import Derived.ChangeOld
import Derived.Below
import Derived.SizedLaws
import Derived.Test.YtimfjedhcokohaaWSized
namespace Go.Proofs.Ytimfjedhcokohaa.fnExactPlaceOf
open Go.ChangeShapes Go.WideShapes Go.ChangeAt Go.RowKit
open Go.ChangeMaps (open_string shut_string)
set_option linter.unusedVariables false
theorem own : ownKnob Try.prog.godebug = none := by kernel_rfl
theorem laidOut : laidOutB Try.prog = true := by kernel_rfl
def IsRow (k : IntKind) (w : World) (a : Option Addr) (len cap : Nat) (zs : List Int) : Prop :=
  (a = none ∧ len = 0 ∧ cap = 0 ∧ zs = []) ∨
  ∃ x, a = some x ∧ len ≤ cap ∧ cap ≤ maxLen ∧ zs.length = cap ∧ (∀ i, i < zs.length → w.cell? (x.add i) = some (.int k (zs.getD i 0))) ∧ ∀ n ∈ zs, (Lit.int k n).wf = true
theorem open_0 {H : Type} {enc : TypeId × Value → H} {W : World} {base : Nat} {spare : Nat → Bool} {held : Bool} {cs : Array Value} {fuel : Nat} {x : DataW H × List MemPlace} (hf : DataW.trod enc Try.prog W base spare held fuel 38 cs.toList = some x) : ∃ a0_0 a0_1 : Int, cs = #[.int .i64 a0_0, .int .i64 a0_1] ∧ (Lit.int .i64 a0_0).wf = true ∧ (Lit.int .i64 a0_1).wf = true := by
  obtain ⟨zs, e1, e2, e3⟩ := Flat.flat_open 6 38 [.i64, .i64] fuel cs.toList _ (by kernel_rfl) hf (by kernel_rfl)
  match zs, e1 with
  | [a0_0, a0_1], _ => exact ⟨a0_0, a0_1, by rw [← Array.toArray_toList (xs := cs), e2]; rfl, e3 (.i64, a0_0) (by simp), e3 (.i64, a0_1) (by simp)⟩
set_option maxRecDepth 100000 in
theorem lifted (os : Os) (started : os.Started) (H : Type) (enc : TypeId × Value → H) :
    ReturnsInHanded {} Try.checked os 11 .any (Rows.fnExactPlaceOfSpec.pre6 enc Try.prog Try.f11 Rows.fnExactPlaceOfRow.domain false) (Rows.fnExactPlaceOfSpec.post enc Try.prog Try.f11 false true false false) := by
  refine returnsInHanded_of_change_sized (C := Try.checked) own started (by kernel_rfl) Try.func11
    (ChangeSpec.witness6 (enc := enc) (C := Try.checked) false ⟨#[], #[.agg #[.int .i64 0, .int .i64 0]], []⟩ 8 (by kernel_rfl) (by kernel_rfl) (by kernel_rfl) (by kernel_rfl)) ?_
  intro W base args ds gs before hval0 hW hcnd hsz0 _
  have hsz : (DataW.weightsEach Try.prog (Try.f11.params.toList ++ Rows.fnExactPlaceOfSpec.plain.varTypes Try.prog) (ds ++ gs)).all (· ≤ reachBytes) = true := hsz0
  have hval : ∀ (j : Nat) t v, Try.f11.params[j]? = some t → args[j]? = some v → Value.okWide Try.prog W .any base t v := hval0
  have hW' := hW
  obtain ⟨p, q, hA0, hV, rfl, hfz, hnd⟩ := hW
  have hA : DataW.TrodAll enc Try.prog W 0 (fun _ => true) true Try.f11.params.toList args.toList ds p := hA0
  rw [Try.params11] at hA hval hsz
  obtain ⟨v0, vs0, d0, ds0, p0, q0, hargs, rfl, rfl, h0, r0⟩ := trodAll_cons hA
  obtain ⟨rfl, rfl, rfl⟩ := trodAll_nil r0
  obtain rfl : args = #[v0] := by cases args; simp_all
  obtain ⟨rfl, rfl⟩ := trodVars_none hV
  obtain ⟨cs0, rfl, hcs0⟩ := okWide_struct Try.underlying38 (hval 0 38 v0 rfl rfl)
  have k0 := h0
  have lt0 : ∀ x ∈ p0, x.block < W.heap.size := by obtain ⟨m, hm⟩ := k0; exact DataW.trod_lt m _ _ _ hm
  obtain ⟨a0_0, a0_1, hcs0_, w0_0, w0_1⟩ := (show ∃ a0_0 a0_1 : Int, cs0 = #[.int .i64 a0_0, .int .i64 a0_1] ∧ (Lit.int .i64 a0_0).wf = true ∧ (Lit.int .i64 a0_1).wf = true by obtain ⟨fuel, hf⟩ := h0; exact open_0 (by simpa [Value.cells] using hf))
  subst hcs0_
  clear hA0 hval0 hsz0 hsz
  refine (PFnExactPlaceOf.laws_FnExactPlaceOf.walk Pure.FnExactPlaceOf a0_0 a0_1 W w0_0 w0_1).mono fun e W' ⟨he, bel⟩ => ?_
  subst he
  exact ⟨_, rfl, _, _, _, [], _, [], hW', trodAll_mk1 (shut_bool Try.underlying4 _), (trodAll_cons_mk (Below.trod laidOut (by kernel_rfl) (of_decide_eq_true (by kernel_rfl)) k0 bel lt0) trodAll_mk0), rfl, bel.frame _, fun h => by cases h⟩
theorem over0 : Try.checked.prog.funcNamed Rows.fnExactPlaceOfRow.func = some 11 := by kernel_rfl
set_option maxRecDepth 1000000 in
theorem io : ∃ l : List Char, Try.checked.prog.initOrder = String.ofList l ∧ (behindMainWord (wordsSigns l)).take 2 = ["cut".toList, "at".toList] := ⟨_, rfl, by kernel_rfl⟩
theorem hmay : Try.checked.prog.mayEnter = true := Joining.may (Joining.words io) (by kernel_rfl) (by kernel_rfl) (by kernel_rfl)
theorem hlift : (Rows.fnExactPlaceOfRow.lifted == Try.checked.prog.liftsFinal) = true := Joining.lift (Joining.words io)
theorem hmake : (Try.checked.prog.make == some Rows.fnExactPlaceOfRow.make) = true := Joining.make (Joining.words io)
theorem over1 : joinedFacts Try.checked.prog 11 Try.f11 Rows.fnExactPlaceOfSpec Rows.fnExactPlaceOfRow = true := by
  unfold joinedFacts
  simp only [Bool.and_eq_true]
  repeat' apply And.intro
  all_goals first | (with_reducible exact hmay) | (with_reducible exact hlift) | (with_reducible exact hmake) | kernel_rfl
theorem over2 : Try.f11.isInstance Try.checked.prog Rows.fnExactPlaceOfRow.origin Rows.fnExactPlaceOfRow.targs := of_decide_eq_true (by kernel_rfl)
theorem over3 : Try.f11.isWrapper Try.checked.prog Rows.fnExactPlaceOfRow.wrapper Rows.fnExactPlaceOfRow.mainSum := by unfold Func.isWrapper; first | (rw [if_pos (by decide +kernel)]; kernel_rfl) | (rw [if_neg (by decide +kernel)]; exact ⟨rfl, rfl⟩)
theorem over : Rows.fnExactPlaceOfRow.holds Try.pinned (OpenSpec.ofChange Rows.fnExactPlaceOfSpec) :=
  OpenClaim.holds_of_wide 11 Try.f11 rfl rfl rfl rfl rfl rfl rfl ⟨rfl, rfl, rfl, rfl, rfl⟩ rfl rfl rfl rfl rfl over0 Try.func11 over1 over2 over3
    (fun os started H enc _ => lifted os started H enc)
theorem proved : Rows.FnExactPlaceOfSaid := over
#print axioms proved
end Go.Proofs.Ytimfjedhcokohaa.fnExactPlaceOf
namespace Go.Proofs.Ytimfjedhcokohaa
/-- The row, under a short name, for the claim. -/
theorem fnExactPlaceOf_holds : Rows.FnExactPlaceOfSaid := fnExactPlaceOf.proved
end Go.Proofs.Ytimfjedhcokohaa
