/- What the code that one law of the given program reaches computes, function by function, each with its proof over the given translation.
Conditions: none of our own. (Laid by a program of this session, wip/xp/xp.py; some contracts are typed by hand.) -/
import Derived.Test.YtckjobcagniieaaRows
import Derived.Test.YtckjobcagniieaaSig
import Derived.Test.YtckjobcagniieaaPFnExactSignedByx8
import Derived.Test.YtckjobcagniieaaPureFnExactSignedBy
import Derived.Test.YtckjobcagniieaaJoining
import Derived.WalkKit
import Derived.ProofKit
import Derived.OpenShut
import Derived.ShutString
import Derived.ChangeOld
import Derived.Below
import Derived.SizedLaws
namespace Go.Proofs.Ytckjobcagniieaa.fnExactSignedBy
open Go.ChangeShapes Go.WideShapes Go.ChangeAt Go.RowKit
open Go.ChangeMaps (open_string shut_string)
set_option linter.unusedVariables false
theorem laidOut : laidOutB Try.prog = true := by kernel_rfl
theorem own : ownKnob Try.prog.godebug = none := by kernel_rfl
set_option maxRecDepth 100000 in
theorem lifted (os : Os) (started : os.Started) (H : Type) (enc : TypeId × Value → H) :
    ReturnsInHanded {} Try.checked os 5 .any (Rows.fnExactSignedBySpec.pre6 enc Try.prog Try.f5 Rows.fnExactSignedByRow.domain false) (Rows.fnExactSignedBySpec.post enc Try.prog Try.f5 false true false false) := by
  refine returnsInHanded_of_change_sized (C := Try.checked) own started (by kernel_rfl) Try.func5
    (ChangeSpec.witness6 (enc := enc) (C := Try.checked) false ⟨#[], #[.string ByteArray.empty, .string ByteArray.empty, .agg #[.int .i64 0, .slice none 0 0, .slice none 0 0]], []⟩ 8 (by kernel_rfl) (by kernel_rfl) (by kernel_rfl) (by kernel_rfl)) ?_
  intro W base args ds gs before hval0 hW hcnd hsz0 _
  have hsz : (DataW.weightsEach Try.prog (Try.f5.params.toList ++ Rows.fnExactSignedBySpec.plain.varTypes Try.prog) (ds ++ gs)).all (· ≤ reachBytes) = true := hsz0
  have hval : ∀ (j : Nat) t v, Try.f5.params[j]? = some t → args[j]? = some v → Value.okWide Try.prog W .any base t v := hval0
  have hW' := hW
  obtain ⟨p, q, hA0, hV, rfl, hfz, hnd⟩ := hW
  have hA : DataW.TrodAll enc Try.prog W 0 (fun _ => true) true Try.f5.params.toList args.toList ds p := hA0
  rw [Try.params5] at hA hval hsz
  obtain ⟨v0, vs0, d0, ds0, p0, q0, hargs, rfl, rfl, h0, r0⟩ := trodAll_cons hA
  obtain ⟨v1, vs1, d1, ds1, p1, q1, rfl, rfl, rfl, h1, r1⟩ := trodAll_cons r0
  obtain ⟨v2, vs2, d2, ds2, p2, q2, rfl, rfl, rfl, h2, r2⟩ := trodAll_cons r1
  obtain ⟨rfl, rfl, rfl⟩ := trodAll_nil r2
  obtain rfl : args = #[v0, v1, v2] := by cases args; simp_all
  obtain ⟨rfl, rfl⟩ := trodVars_none hV
  obtain ⟨a0, rfl, rfl, rfl, y0⟩ := open_string Try.underlying9 (hval 0 9 v0 rfl rfl) h0
  obtain ⟨a1, rfl, rfl, rfl, y1⟩ := open_string Try.underlying9 (hval 1 9 v1 rfl rfl) h1
  have w0 : a0.size ≤ 140737488351232 := by
    have z := sized_string hsz (j := 0) (t := 9) rfl rfl
    rw [Array.length_toList] at z
    exact z
  have w1 : a1.size ≤ 140737488351232 := by
    have z := sized_string hsz (j := 1) (t := 9) rfl rfl
    rw [Array.length_toList] at z
    exact z
  obtain ⟨cs2, rfl, hcs2⟩ := okWide_struct Try.underlying39 (hval 2 39 v2 rfl rfl)
  have k2 := h2
  have lt2 : ∀ x ∈ p2, x.block < W.heap.size := by obtain ⟨m, hm⟩ := k2; exact DataW.trod_lt m _ _ _ hm
  obtain ⟨n, A1, c1, l1, A2, c2, l2, hcs2_, hn, b1, b2, b3, b4, b5, b6, b7, b8⟩ := (show ∃ (n : Int) (A1 : Option Addr) (c1 : Nat) (l1 : List ByteArray) (A2 : Option Addr) (c2 : Nat) (l2 : List ByteArray), cs2.toList = [.int .i64 n, .slice A1 l1.length c1, .slice A2 l2.length c2] ∧ (Lit.int .i64 n).wf = true ∧
      Go.Proofs.YtckjobcagniieaaW.PrintWords.Kd.C Go.Proofs.YtckjobcagniieaaW.PrintWords.Kd.string W A1 l1.length l1 ∧ l1.length ≤ c1 ∧ l1.length ≤ maxLen ∧ (∀ s ∈ l1, s.size ≤ maxLen) ∧ Go.Proofs.YtckjobcagniieaaW.PrintWords.Kd.C Go.Proofs.YtckjobcagniieaaW.PrintWords.Kd.string W A2 l2.length l2 ∧ l2.length ≤ c2 ∧ l2.length ≤ maxLen ∧ ∀ s ∈ l2, s.size ≤ maxLen by
    obtain ⟨fuel, hf⟩ := h2
    exact Sig.sig_open Try.underlying39 ⟨rfl, rfl⟩ ⟨rfl, rfl⟩ ⟨rfl, rfl⟩ Try.underlying3 Try.underlying27 Try.underlying9 (by kernel_rfl) (by kernel_rfl) (by kernel_rfl) (by rw [Array.length_toList, hcs2]; kernel_rfl) (by simpa [Value.cells] using hf))
  obtain rfl : cs2 = #[.int .i64 n, .slice A1 l1.length c1, .slice A2 l2.length c2] := by rw [← Array.toArray_toList (xs := cs2), hcs2_]
  clear hA0 hval0 hsz0 hsz
  refine (PFnExactSignedBy.laws_FnExactSignedBy.walk Pure.FnExactSignedBy a0 a1 n A1 c1 l1 A2 c2 l2 W w0 w1 hn b1 b2 b3 b4 b5 b6 b7 b8).mono fun e W' ⟨he, bel⟩ => ?_
  subst he
  exact ⟨_, rfl, _, _, _, [], _, [], hW', trodAll_mk1 (shut_bool Try.underlying4 _), (trodAll_cons_mk (shut_string Try.underlying9 y0) (trodAll_cons_mk (shut_string Try.underlying9 y1) (trodAll_cons_mk (Below.trod laidOut (by kernel_rfl) (of_decide_eq_true (by kernel_rfl)) k2 bel lt2) trodAll_mk0))), rfl, bel.frame _, fun h => by cases h⟩
theorem over0 : Try.checked.prog.funcNamed Rows.fnExactSignedByRow.func = some 5 := by kernel_rfl
set_option maxRecDepth 1000000 in
theorem io : ∃ l : List Char, Try.checked.prog.initOrder = String.ofList l ∧ (behindMainWord (wordsSigns l)).take 2 = ["cut".toList, "at".toList] := ⟨_, rfl, by kernel_rfl⟩
theorem hmay : Try.checked.prog.mayEnter = true := Joining.may (Joining.words io) (by kernel_rfl) (by kernel_rfl) (by kernel_rfl)
theorem hlift : (Rows.fnExactSignedByRow.lifted == Try.checked.prog.liftsFinal) = true := Joining.lift (Joining.words io)
theorem hmake : (Try.checked.prog.make == some Rows.fnExactSignedByRow.make) = true := Joining.make (Joining.words io)
theorem over1 : joinedFacts Try.checked.prog 5 Try.f5 Rows.fnExactSignedBySpec Rows.fnExactSignedByRow = true := by
  unfold joinedFacts
  simp only [Bool.and_eq_true]
  repeat' apply And.intro
  all_goals first | (with_reducible exact hmay) | (with_reducible exact hlift) | (with_reducible exact hmake) | kernel_rfl
theorem over2 : Try.f5.isInstance Try.checked.prog Rows.fnExactSignedByRow.origin Rows.fnExactSignedByRow.targs := of_decide_eq_true (by kernel_rfl)
theorem over3 : Try.f5.isWrapper Try.checked.prog Rows.fnExactSignedByRow.wrapper Rows.fnExactSignedByRow.mainSum := by unfold Func.isWrapper; first | (rw [if_pos (by decide +kernel)]; kernel_rfl) | (rw [if_neg (by decide +kernel)]; exact ⟨rfl, rfl⟩)
theorem over : Rows.fnExactSignedByRow.holds Try.pinned (OpenSpec.ofChange Rows.fnExactSignedBySpec) :=
  OpenClaim.holds_of_wide 5 Try.f5 rfl rfl rfl rfl rfl rfl rfl ⟨rfl, rfl, rfl, rfl, rfl⟩ rfl rfl rfl rfl rfl over0 Try.func5 over1 over2 over3
    (fun os started H enc _ => lifted os started H enc)
theorem proved : Rows.FnExactSignedBySaid := over
#print axioms proved
end Go.Proofs.Ytckjobcagniieaa.fnExactSignedBy
namespace Go.Proofs.Ytckjobcagniieaa
/-- The row, under a short name, for the claim. -/
theorem fnExactSignedBy_holds : Rows.FnExactSignedBySaid := fnExactSignedBy.proved
end Go.Proofs.Ytckjobcagniieaa
