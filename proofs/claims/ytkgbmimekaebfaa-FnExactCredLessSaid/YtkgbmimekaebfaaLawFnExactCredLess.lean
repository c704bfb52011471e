/- What the code that one law of the given program reaches computes, function by function, each with its proof over the given translation.
Conditions: none of our own. (Laid by a program of this session, wip/xp/xp.py; some contracts are typed by hand.) -/
import Derived.Test.YtkgbmimekaebfaaFlat
import Derived.Test.YtkgbmimekaebfaaRows
import Derived.Test.YtkgbmimekaebfaaPFnExactCredLessx5
import Derived.Test.YtkgbmimekaebfaaPureFnExactCredLess
import Derived.Test.YtkgbmimekaebfaaJoining
import Derived.WalkKit
import Derived.ProofKit
import Derived.OpenShut
import Derived.ShutString
import Derived.ChangeOld
import Derived.Below
import Derived.SizedLaws
import Derived.Test.YtkgbmimekaebfaaWSized
namespace Go.Proofs.Ytkgbmimekaebfaa.fnExactCredLess
open Go.ChangeShapes Go.WideShapes Go.ChangeAt Go.RowKit
open Go.ChangeMaps (open_string shut_string)
set_option linter.unusedVariables false
theorem own : ownKnob Try.prog.godebug = none := by kernel_rfl
theorem laidOut : laidOutB Try.prog = true := by kernel_rfl
def IsRow (k : IntKind) (w : World) (a : Option Addr) (len cap : Nat) (zs : List Int) : Prop :=
  (a = none ∧ len = 0 ∧ cap = 0 ∧ zs = []) ∨
  ∃ x, a = some x ∧ len ≤ cap ∧ cap ≤ maxLen ∧ zs.length = cap ∧ (∀ i, i < zs.length → w.cell? (x.add i) = some (.int k (zs.getD i 0))) ∧ ∀ n ∈ zs, (Lit.int k n).wf = true
theorem open_0 {H : Type} {enc : TypeId × Value → H} {W : World} {base : Nat} {spare : Nat → Bool} {held : Bool} {cs : Array Value} {fuel : Nat} {x : DataW H × List MemPlace} (hf : DataW.trod enc Try.prog W base spare held fuel 39 cs.toList = some x) : ∃ a0_0 a0_1 a0_2 a0_3 a0_4 a0_5 a0_6 a0_7 a0_8 a0_9 : Int, cs = #[.int .i64 a0_0, .int .i64 a0_1, .int .i64 a0_2, .int .i64 a0_3, .int .i64 a0_4, .int .i64 a0_5, .int .i64 a0_6, .int .i64 a0_7, .int .i64 a0_8, .int .i64 a0_9] ∧ (Lit.int .i64 a0_0).wf = true ∧ (Lit.int .i64 a0_1).wf = true ∧ (Lit.int .i64 a0_2).wf = true ∧ (Lit.int .i64 a0_3).wf = true ∧ (Lit.int .i64 a0_4).wf = true ∧ (Lit.int .i64 a0_5).wf = true ∧ (Lit.int .i64 a0_6).wf = true ∧ (Lit.int .i64 a0_7).wf = true ∧ (Lit.int .i64 a0_8).wf = true ∧ (Lit.int .i64 a0_9).wf = true := by
  obtain ⟨zs, e1, e2, e3⟩ := Flat.flat_open 6 39 [.i64, .i64, .i64, .i64, .i64, .i64, .i64, .i64, .i64, .i64] fuel cs.toList _ (by kernel_rfl) hf (by kernel_rfl)
  match zs, e1 with
  | [a0_0, a0_1, a0_2, a0_3, a0_4, a0_5, a0_6, a0_7, a0_8, a0_9], _ => exact ⟨a0_0, a0_1, a0_2, a0_3, a0_4, a0_5, a0_6, a0_7, a0_8, a0_9, by rw [← Array.toArray_toList (xs := cs), e2]; rfl, e3 (.i64, a0_0) (by simp), e3 (.i64, a0_1) (by simp), e3 (.i64, a0_2) (by simp), e3 (.i64, a0_3) (by simp), e3 (.i64, a0_4) (by simp), e3 (.i64, a0_5) (by simp), e3 (.i64, a0_6) (by simp), e3 (.i64, a0_7) (by simp), e3 (.i64, a0_8) (by simp), e3 (.i64, a0_9) (by simp)⟩
theorem open_1 {H : Type} {enc : TypeId × Value → H} {W : World} {base : Nat} {spare : Nat → Bool} {held : Bool} {cs : Array Value} {fuel : Nat} {x : DataW H × List MemPlace} (hf : DataW.trod enc Try.prog W base spare held fuel 39 cs.toList = some x) : ∃ a1_0 a1_1 a1_2 a1_3 a1_4 a1_5 a1_6 a1_7 a1_8 a1_9 : Int, cs = #[.int .i64 a1_0, .int .i64 a1_1, .int .i64 a1_2, .int .i64 a1_3, .int .i64 a1_4, .int .i64 a1_5, .int .i64 a1_6, .int .i64 a1_7, .int .i64 a1_8, .int .i64 a1_9] ∧ (Lit.int .i64 a1_0).wf = true ∧ (Lit.int .i64 a1_1).wf = true ∧ (Lit.int .i64 a1_2).wf = true ∧ (Lit.int .i64 a1_3).wf = true ∧ (Lit.int .i64 a1_4).wf = true ∧ (Lit.int .i64 a1_5).wf = true ∧ (Lit.int .i64 a1_6).wf = true ∧ (Lit.int .i64 a1_7).wf = true ∧ (Lit.int .i64 a1_8).wf = true ∧ (Lit.int .i64 a1_9).wf = true := by
  obtain ⟨zs, e1, e2, e3⟩ := Flat.flat_open 6 39 [.i64, .i64, .i64, .i64, .i64, .i64, .i64, .i64, .i64, .i64] fuel cs.toList _ (by kernel_rfl) hf (by kernel_rfl)
  match zs, e1 with
  | [a1_0, a1_1, a1_2, a1_3, a1_4, a1_5, a1_6, a1_7, a1_8, a1_9], _ => exact ⟨a1_0, a1_1, a1_2, a1_3, a1_4, a1_5, a1_6, a1_7, a1_8, a1_9, by rw [← Array.toArray_toList (xs := cs), e2]; rfl, e3 (.i64, a1_0) (by simp), e3 (.i64, a1_1) (by simp), e3 (.i64, a1_2) (by simp), e3 (.i64, a1_3) (by simp), e3 (.i64, a1_4) (by simp), e3 (.i64, a1_5) (by simp), e3 (.i64, a1_6) (by simp), e3 (.i64, a1_7) (by simp), e3 (.i64, a1_8) (by simp), e3 (.i64, a1_9) (by simp)⟩
set_option maxRecDepth 100000 in
theorem lifted (os : Os) (started : os.Started) (H : Type) (enc : TypeId × Value → H) :
    ReturnsInHanded {} Try.checked os 7 .any (Rows.fnExactCredLessSpec.pre6 enc Try.prog Try.f7 Rows.fnExactCredLessRow.domain false) (Rows.fnExactCredLessSpec.post enc Try.prog Try.f7 false true false false) := by
  refine returnsInHanded_of_change_sized (C := Try.checked) own started (by kernel_rfl) Try.func7
    (ChangeSpec.witness6 (enc := enc) (C := Try.checked) false ⟨#[], #[.agg #[.int .i64 0, .int .i64 0, .int .i64 0, .int .i64 0, .int .i64 0, .int .i64 0, .int .i64 0, .int .i64 0, .int .i64 0, .int .i64 0], .agg #[.int .i64 0, .int .i64 0, .int .i64 0, .int .i64 0, .int .i64 0, .int .i64 0, .int .i64 0, .int .i64 0, .int .i64 0, .int .i64 0]], []⟩ 8 (by kernel_rfl) (by kernel_rfl) (by kernel_rfl) (by kernel_rfl)) ?_
  intro W base args ds gs before hval0 hW hcnd hsz0 _
  have hsz : (DataW.weightsEach Try.prog (Try.f7.params.toList ++ Rows.fnExactCredLessSpec.plain.varTypes Try.prog) (ds ++ gs)).all (· ≤ reachBytes) = true := hsz0
  have hval : ∀ (j : Nat) t v, Try.f7.params[j]? = some t → args[j]? = some v → Value.okWide Try.prog W .any base t v := hval0
  have hW' := hW
  obtain ⟨p, q, hA0, hV, rfl, hfz, hnd⟩ := hW
  have hA : DataW.TrodAll enc Try.prog W 0 (fun _ => true) true Try.f7.params.toList args.toList ds p := hA0
  rw [Try.params7] at hA hval hsz
  obtain ⟨v0, vs0, d0, ds0, p0, q0, hargs, rfl, rfl, h0, r0⟩ := trodAll_cons hA
  obtain ⟨v1, vs1, d1, ds1, p1, q1, rfl, rfl, rfl, h1, r1⟩ := trodAll_cons r0
  obtain ⟨rfl, rfl, rfl⟩ := trodAll_nil r1
  obtain rfl : args = #[v0, v1] := by cases args; simp_all
  obtain ⟨rfl, rfl⟩ := trodVars_none hV
  obtain ⟨cs0, rfl, hcs0⟩ := okWide_struct Try.underlying39 (hval 0 39 v0 rfl rfl)
  have k0 := h0
  have lt0 : ∀ x ∈ p0, x.block < W.heap.size := by obtain ⟨m, hm⟩ := k0; exact DataW.trod_lt m _ _ _ hm
  obtain ⟨a0_0, a0_1, a0_2, a0_3, a0_4, a0_5, a0_6, a0_7, a0_8, a0_9, hcs0_, w0_0, w0_1, w0_2, w0_3, w0_4, w0_5, w0_6, w0_7, w0_8, w0_9⟩ := (show ∃ a0_0 a0_1 a0_2 a0_3 a0_4 a0_5 a0_6 a0_7 a0_8 a0_9 : Int, cs0 = #[.int .i64 a0_0, .int .i64 a0_1, .int .i64 a0_2, .int .i64 a0_3, .int .i64 a0_4, .int .i64 a0_5, .int .i64 a0_6, .int .i64 a0_7, .int .i64 a0_8, .int .i64 a0_9] ∧ (Lit.int .i64 a0_0).wf = true ∧ (Lit.int .i64 a0_1).wf = true ∧ (Lit.int .i64 a0_2).wf = true ∧ (Lit.int .i64 a0_3).wf = true ∧ (Lit.int .i64 a0_4).wf = true ∧ (Lit.int .i64 a0_5).wf = true ∧ (Lit.int .i64 a0_6).wf = true ∧ (Lit.int .i64 a0_7).wf = true ∧ (Lit.int .i64 a0_8).wf = true ∧ (Lit.int .i64 a0_9).wf = true by obtain ⟨fuel, hf⟩ := h0; exact open_0 (by simpa [Value.cells] using hf))
  subst hcs0_
  obtain ⟨cs1, rfl, hcs1⟩ := okWide_struct Try.underlying39 (hval 1 39 v1 rfl rfl)
  have k1 := h1
  have lt1 : ∀ x ∈ p1, x.block < W.heap.size := by obtain ⟨m, hm⟩ := k1; exact DataW.trod_lt m _ _ _ hm
  obtain ⟨a1_0, a1_1, a1_2, a1_3, a1_4, a1_5, a1_6, a1_7, a1_8, a1_9, hcs1_, w1_0, w1_1, w1_2, w1_3, w1_4, w1_5, w1_6, w1_7, w1_8, w1_9⟩ := (show ∃ a1_0 a1_1 a1_2 a1_3 a1_4 a1_5 a1_6 a1_7 a1_8 a1_9 : Int, cs1 = #[.int .i64 a1_0, .int .i64 a1_1, .int .i64 a1_2, .int .i64 a1_3, .int .i64 a1_4, .int .i64 a1_5, .int .i64 a1_6, .int .i64 a1_7, .int .i64 a1_8, .int .i64 a1_9] ∧ (Lit.int .i64 a1_0).wf = true ∧ (Lit.int .i64 a1_1).wf = true ∧ (Lit.int .i64 a1_2).wf = true ∧ (Lit.int .i64 a1_3).wf = true ∧ (Lit.int .i64 a1_4).wf = true ∧ (Lit.int .i64 a1_5).wf = true ∧ (Lit.int .i64 a1_6).wf = true ∧ (Lit.int .i64 a1_7).wf = true ∧ (Lit.int .i64 a1_8).wf = true ∧ (Lit.int .i64 a1_9).wf = true by obtain ⟨fuel, hf⟩ := h1; exact open_1 (by simpa [Value.cells] using hf))
  subst hcs1_
  clear hA0 hval0 hsz0 hsz
  refine (PFnExactCredLess.laws_FnExactCredLess.walk Pure.FnExactCredLess a0_0 a0_1 a0_2 a0_3 a0_4 a0_5 a0_6 a0_7 a0_8 a0_9 a1_0 a1_1 a1_2 a1_3 a1_4 a1_5 a1_6 a1_7 a1_8 a1_9 W w0_0 w0_1 w0_2 w0_3 w0_4 w0_5 w0_6 w0_7 w0_8 w0_9 w1_0 w1_1 w1_2 w1_3 w1_4 w1_5 w1_6 w1_7 w1_8 w1_9).mono fun e W' ⟨he, bel⟩ => ?_
  subst he
  exact ⟨_, rfl, _, _, _, [], _, [], hW', trodAll_mk1 (shut_bool Try.underlying4 _), (trodAll_cons_mk (Below.trod laidOut (by kernel_rfl) (of_decide_eq_true (by kernel_rfl)) k0 bel lt0) (trodAll_cons_mk (Below.trod laidOut (by kernel_rfl) (of_decide_eq_true (by kernel_rfl)) k1 bel lt1) trodAll_mk0)), rfl, bel.frame _, fun h => by cases h⟩
theorem over0 : Try.checked.prog.funcNamed Rows.fnExactCredLessRow.func = some 7 := by kernel_rfl
set_option maxRecDepth 1000000 in
theorem io : ∃ l : List Char, Try.checked.prog.initOrder = String.ofList l ∧ (behindMainWord (wordsSigns l)).take 2 = ["cut".toList, "at".toList] := ⟨_, rfl, by kernel_rfl⟩
theorem hmay : Try.checked.prog.mayEnter = true := Joining.may (Joining.words io) (by kernel_rfl) (by kernel_rfl) (by kernel_rfl)
theorem hlift : (Rows.fnExactCredLessRow.lifted == Try.checked.prog.liftsFinal) = true := Joining.lift (Joining.words io)
theorem hmake : (Try.checked.prog.make == some Rows.fnExactCredLessRow.make) = true := Joining.make (Joining.words io)
theorem over1 : joinedFacts Try.checked.prog 7 Try.f7 Rows.fnExactCredLessSpec Rows.fnExactCredLessRow = true := by
  unfold joinedFacts
  simp only [Bool.and_eq_true]
  repeat' apply And.intro
  all_goals first | (with_reducible exact hmay) | (with_reducible exact hlift) | (with_reducible exact hmake) | kernel_rfl
theorem over2 : Try.f7.isInstance Try.checked.prog Rows.fnExactCredLessRow.origin Rows.fnExactCredLessRow.targs := of_decide_eq_true (by kernel_rfl)
theorem over3 : Try.f7.isWrapper Try.checked.prog Rows.fnExactCredLessRow.wrapper Rows.fnExactCredLessRow.mainSum := by unfold Func.isWrapper; first | (rw [if_pos (by decide +kernel)]; kernel_rfl) | (rw [if_neg (by decide +kernel)]; exact ⟨rfl, rfl⟩)
theorem over : Rows.fnExactCredLessRow.holds Try.pinned (OpenSpec.ofChange Rows.fnExactCredLessSpec) :=
  OpenClaim.holds_of_wide 7 Try.f7 rfl rfl rfl rfl rfl rfl rfl ⟨rfl, rfl, rfl, rfl, rfl⟩ rfl rfl rfl rfl rfl over0 Try.func7 over1 over2 over3
    (fun os started H enc _ => lifted os started H enc)
theorem proved : Rows.FnExactCredLessSaid := over
#print axioms proved
end Go.Proofs.Ytkgbmimekaebfaa.fnExactCredLess
namespace Go.Proofs.Ytkgbmimekaebfaa
/-- The row, under a short name, for the claim. -/
theorem fnExactCredLess_holds : Rows.FnExactCredLessSaid := fnExactCredLess.proved
end Go.Proofs.Ytkgbmimekaebfaa
