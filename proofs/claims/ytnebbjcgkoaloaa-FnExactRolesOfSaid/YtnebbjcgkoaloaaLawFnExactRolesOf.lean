/- What the code that one law of the given program reaches computes, function by function, each with its proof over the given translation.
Conditions: none of our own. (Laid by a program of this session, wip/xp/xp.py; some contracts are typed by hand.) -/
import Derived.Test.YtnebbjcgkoaloaaRowst
import Derived.Test.YtnebbjcgkoaloaaRows
import Derived.Test.YtnebbjcgkoaloaaPFnExactRolesOfx10
import Derived.Test.YtnebbjcgkoaloaaPureFnExactRolesOf
import Derived.Test.YtnebbjcgkoaloaaJoining
import Derived.WalkKit
import Derived.ProofKit
import Derived.OpenShut
import Derived.ShutString
import Derived.ChangeOld
import Derived.Below
import Derived.SizedLaws
import Derived.Test.YtnebbjcgkoaloaaVSized
namespace Go.Proofs.Ytnebbjcgkoaloaa.fnExactRolesOf
open Go.ChangeShapes Go.WideShapes Go.ChangeAt Go.RowKit
open Go.ChangeMaps (open_string shut_string)
set_option linter.unusedVariables false
theorem own : ownKnob Try.prog.godebug = none := by kernel_rfl
theorem laidOut : laidOutB Try.prog = true := by kernel_rfl
def IsRow (k : IntKind) (w : World) (a : Option Addr) (len cap : Nat) (zs : List Int) : Prop :=
  (a = none ∧ len = 0 ∧ cap = 0 ∧ zs = []) ∨
  ∃ x, a = some x ∧ len ≤ cap ∧ cap ≤ maxLen ∧ zs.length = cap ∧ (∀ i, i < zs.length → w.cell? (x.add i) = some (.int k (zs.getD i 0))) ∧ ∀ n ∈ zs, (Lit.int k n).wf = true
open Go.Proofs.Ytnebbjcgkoaloaa.PFnExactRolesOf in
theorem open_0 {H : Type} {enc : TypeId × Value → H} {W : World} {base : Nat} {spare : Nat → Bool} {held : Bool} {a0 : Option Addr} {len0 cap0 fuel : Nat} {x : DataW H × List MemPlace} (hf : DataW.trod enc Try.prog W base spare held fuel 42 [.slice a0 len0 cap0] = some x) :
    ∃ l : List (S85), l.length = len0 ∧ Go.Proofs.YtnebbjcgkoaloaaW.PrintWords.Kd.C k85 W a0 len0 l ∧ len0 ≤ cap0 ∧ len0 ≤ maxLen :=
  Rowst.slice_of (k85.K W) (ks := [.i64, .i64, .i64, .i64, .i64, .i64, .i64, .i64, .i64, .i64]) Try.underlying42 (by kernel_rfl) (by kernel_rfl) (fun zs hz => by
    match zs, hz with
    | [z0, z1, z2, z3, z4, z5, z6, z7, z8, z9], _ => exact ⟨(⟨z0, (⟨z1, z2⟩ : S43), z3, (⟨z4, z5⟩ : S43), (⟨z6, z7⟩ : S43), z8, z9⟩ : S85), k85_mk W (⟨z0, (⟨z1, z2⟩ : S43), z3, (⟨z4, z5⟩ : S43), (⟨z6, z7⟩ : S43), z8, z9⟩ : S85)⟩) hf
set_option maxRecDepth 100000 in
theorem lifted (os : Os) (started : os.Started) (H : Type) (enc : TypeId × Value → H) :
    ReturnsInHanded {} Try.checked os 7 .any (Rows.fnExactRolesOfSpec.pre6 enc Try.prog Try.f7 Rows.fnExactRolesOfRow.domain false) (Rows.fnExactRolesOfSpec.post enc Try.prog Try.f7 false true false false) := by
  refine returnsInHanded_of_change_sized (C := Try.checked) own started (by kernel_rfl) Try.func7
    (ChangeSpec.witness6 (enc := enc) (C := Try.checked) false ⟨#[], #[.slice none 0 0, .int .i64 0], []⟩ 8 (by kernel_rfl) (by kernel_rfl) (by kernel_rfl) (by kernel_rfl)) ?_
  intro W base args ds gs before hval0 hW hcnd hsz0 _
  have hsz : (DataW.weightsEach Try.prog (Try.f7.params.toList ++ Rows.fnExactRolesOfSpec.plain.varTypes Try.prog) (ds ++ gs)).all (· ≤ reachBytes) = true := hsz0
  have hval : ∀ (j : Nat) t v, Try.f7.params[j]? = some t → args[j]? = some v → Value.okWide Try.prog W .any base t v := hval0
  have hW' := hW
  obtain ⟨p, q, hA0, hV, rfl, hfz, hnd⟩ := hW
  have hA : DataW.TrodAll enc Try.prog W 0 (fun _ => true) true Try.f7.params.toList args.toList ds p := hA0
  rw [Try.params7] at hA hval hsz
  obtain ⟨v0, vs0, d0, ds0, p0, q0, hargs, rfl, rfl, h0, r0⟩ := trodAll_cons hA
  obtain ⟨v1, vs1, d1, ds1, p1, q1, rfl, rfl, rfl, h1, r1⟩ := trodAll_cons r0
  obtain ⟨rfl, rfl, rfl⟩ := trodAll_nil r1
  obtain rfl : args = #[v0, v1] := by cases args; simp_all
  obtain ⟨rfl, rfl⟩ := trodVars_none hV
  obtain ⟨a0, len0, cap0, rfl⟩ := okWide_slice Try.underlying42 (hval 0 42 v0 rfl rfl)
  have k0 := h0
  have lt0 : ∀ x ∈ p0, x.block < W.heap.size := by obtain ⟨m, hm⟩ := k0; exact DataW.trod_lt m _ _ _ hm
  obtain ⟨l0, hl0, hr0, hc0, hm0⟩ := (show ∃ l : List Go.Proofs.Ytnebbjcgkoaloaa.PFnExactRolesOf.S85, l.length = len0 ∧ Go.Proofs.YtnebbjcgkoaloaaW.PrintWords.Kd.C Go.Proofs.Ytnebbjcgkoaloaa.PFnExactRolesOf.k85 W a0 len0 l ∧ len0 ≤ cap0 ∧ len0 ≤ maxLen by obtain ⟨fuel, hf⟩ := h0; exact open_0 (by simpa [Value.cells] using hf))
  subst hl0
  obtain ⟨a1, rfl, rfl, rfl, w1⟩ := open_int Try.underlying3 (hval 1 3 v1 rfl rfl) h1
  clear hA0 hval0 hsz0 hsz
  refine (PFnExactRolesOf.laws_FnExactRolesOf.walk Pure.FnExactRolesOf a0 cap0 l0 a1 W hr0 hc0 hm0 w1).mono fun e W' ⟨he, bel⟩ => ?_
  subst he
  exact ⟨_, rfl, _, _, _, [], _, [], hW', trodAll_mk1 (shut_bool Try.underlying4 _), (trodAll_cons_mk (Below.trod laidOut (by kernel_rfl) (of_decide_eq_true (by kernel_rfl)) k0 bel lt0) (trodAll_cons_mk (shut_int Try.underlying3 w1) trodAll_mk0)), rfl, bel.frame _, fun h => by cases h⟩
theorem over0 : Try.checked.prog.funcNamed Rows.fnExactRolesOfRow.func = some 7 := by kernel_rfl
set_option maxRecDepth 1000000 in
theorem io : ∃ l : List Char, Try.checked.prog.initOrder = String.ofList l ∧ (behindMainWord (wordsSigns l)).take 2 = ["cut".toList, "at".toList] := ⟨_, rfl, by kernel_rfl⟩
theorem hmay : Try.checked.prog.mayEnter = true := Joining.may (Joining.words io) (by kernel_rfl) (by kernel_rfl) (by kernel_rfl)
theorem hlift : (Rows.fnExactRolesOfRow.lifted == Try.checked.prog.liftsFinal) = true := Joining.lift (Joining.words io)
theorem hmake : (Try.checked.prog.make == some Rows.fnExactRolesOfRow.make) = true := Joining.make (Joining.words io)
theorem over1 : joinedFacts Try.checked.prog 7 Try.f7 Rows.fnExactRolesOfSpec Rows.fnExactRolesOfRow = true := by
  unfold joinedFacts
  simp only [Bool.and_eq_true]
  repeat' apply And.intro
  all_goals first | (with_reducible exact hmay) | (with_reducible exact hlift) | (with_reducible exact hmake) | kernel_rfl
theorem over2 : Try.f7.isInstance Try.checked.prog Rows.fnExactRolesOfRow.origin Rows.fnExactRolesOfRow.targs := of_decide_eq_true (by kernel_rfl)
theorem over3 : Try.f7.isWrapper Try.checked.prog Rows.fnExactRolesOfRow.wrapper Rows.fnExactRolesOfRow.mainSum := by unfold Func.isWrapper; first | (rw [if_pos (by decide +kernel)]; kernel_rfl) | (rw [if_neg (by decide +kernel)]; exact ⟨rfl, rfl⟩)
theorem over : Rows.fnExactRolesOfRow.holds Try.pinned (OpenSpec.ofChange Rows.fnExactRolesOfSpec) :=
  OpenClaim.holds_of_wide 7 Try.f7 rfl rfl rfl rfl rfl rfl rfl ⟨rfl, rfl, rfl, rfl, rfl⟩ rfl rfl rfl rfl rfl over0 Try.func7 over1 over2 over3
    (fun os started H enc _ => lifted os started H enc)
theorem proved : Rows.FnExactRolesOfSaid := over
#print axioms proved
end Go.Proofs.Ytnebbjcgkoaloaa.fnExactRolesOf
namespace Go.Proofs.Ytnebbjcgkoaloaa
/-- The row, under a short name, for the claim. -/
theorem fnExactRolesOf_holds : Rows.FnExactRolesOfSaid := fnExactRolesOf.proved
end Go.Proofs.Ytnebbjcgkoaloaa
