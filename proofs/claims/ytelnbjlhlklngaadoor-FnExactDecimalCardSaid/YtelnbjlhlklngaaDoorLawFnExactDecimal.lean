/- The program's Decimal answers as the reference's, for every int: the row, and the card that ties its tables to the program's text.
Conditions: none of our own; the row lists three tables of the library, which the card ties to the program's text. -/
import Derived.Test.YtelnbjlhlklngaaDoorRows
import Derived.Test.YtelnbjlhlklngaaDoorCards
import Derived.Test.YtelnbjlhlklngaaDoorTie
import Derived.Test.YtelnbjlhlklngaaDoorDec
import Derived.Test.YtelnbjlhlklngaaDoorDecP
import Derived.Test.YtelnbjlhlklngaaDoorJoining
import Derived.WalkKit
import Derived.ProofKit
import Derived.OpenShut
import Derived.ShutString
import Derived.ChangeOld
import Derived.Below
import Derived.SizedLaws
import Derived.LaidMore
import Derived.LaidSub
import Derived.Lay
import Derived.SevenTiedAt
import Derived.Stop.Joined
namespace Go.Proofs.YtelnbjlhlklngaaDoor.fnExactDecimal
open Go.ChangeShapes Go.WideShapes Go.ChangeAt Go.RowKit
open Go.ChangeMaps (open_string shut_string)
set_option linter.unusedVariables false
theorem own : ownKnob Tryd.prog.godebug = none := by kernel_rfl
theorem tab_of {W : World} (h : laidMetH Tryd.prog Rows.fnExactDecimalRow.laid W) : Dec.Tab W := by
  rw [MakeChecks.laidMetH_plain _ _ _ (by kernel_rfl)] at h
  have h2 := h.filter (fun x => x.1 == "internal/strconv.uint64pow10")
  have e : (Rows.fnExactDecimalRow.laid.filter fun x => x.1 == "internal/strconv.uint64pow10") = [("internal/strconv.uint64pow10", Lib.tabData .u64 Lib.pow10Tab)] := by kernel_rfl
  rw [e] at h2
  exact Lib.tabIs_of_head (n := 20) (t := 105) (e := 81) Dec.gpow5 (by kernel_rfl) (by kernel_rfl) (by kernel_rfl) (by kernel_rfl) (by kernel_rfl) h2
set_option maxRecDepth 100000 in
theorem lifted (os : Os) (started : os.Started) (H : Type) (enc : TypeId × Value → H) :
    ReturnsInHanded {} Tryd.checked os 3 .any (fun w args => (Rows.fnExactDecimalSpec.pre enc Tryd.prog Tryd.f3 Rows.fnExactDecimalRow.domain false w args ∧ laidMetH Tryd.prog Rows.fnExactDecimalRow.laid w) ∧ sizedMet enc Tryd.prog Tryd.f3 (OpenSpec.ofChange Rows.fnExactDecimalSpec) false w args)
      (Rows.fnExactDecimalSpec.post enc Tryd.prog Tryd.f3 false true false false) := by
  refine returnsInHanded_of_change_and (C := Tryd.checked) (X := fun w _ => laidMetH Tryd.prog Rows.fnExactDecimalRow.laid w) (fun _ _ _ hh h => h.of_heap hh) own started (by kernel_rfl) Tryd.func3
    (ChangeSpec.witness_shaped (enc := enc) (C := Tryd.checked) (os := os) (X := fun w _ => laidMetH Tryd.prog Rows.fnExactDecimalRow.laid w) false (World.laidAll Tryd.prog os Rows.fnExactDecimalRow.laid) #[.int .i64 0] 8 (World.laidAll_os _ _ _)
      (World.shaped_of_ZipB (by kernel_rfl) (by kernel_rfl)) (by kernel_rfl) (by kernel_rfl) (by kernel_rfl)
      (by rw [MakeChecks.laidMetH_plain _ _ _ (by kernel_rfl)]; exact laidMet_laidAll _ (by kernel_rfl) (by kernel_rfl))) ?_
  intro W base args ds gs before hval0 hW hc _ hL _
  have hval : ∀ (j : Nat) t v, Tryd.f3.params[j]? = some t → args[j]? = some v → Value.okWide Tryd.prog W .any base t v := hval0
  have hW' := hW
  obtain ⟨p, q, hA0, hV, rfl, _, _⟩ := hW
  have hA : DataW.TrodAll enc Tryd.prog W 0 (fun _ => true) true Tryd.f3.params.toList args.toList ds p := hA0
  rw [Tryd.params3] at hA hval
  obtain ⟨v0, d0, rfl, rfl, h0⟩ := trodAll_one hA
  obtain ⟨rfl, rfl⟩ := trodVars_none hV
  obtain ⟨x, rfl, rfl, rfl, wx⟩ := open_int Tryd.underlying3 (hval 0 3 v0 rfl rfl) h0
  have hx : -9223372036854775808 ≤ x ∧ x ≤ 9223372036854775807 := by
    have := wx
    simp [Lit.wf, IntKind.min, IntKind.max, IntKind.bits, IntKind.signed] at this
    omega
  obtain ⟨k, hk⟩ := DecP.main x hx.1 hx.2
  simp only [List.append_nil] at hW'
  refine (Dec.law.calls k x hx.1 hx.2 W (tab_of hL) hk).mono fun e W' ⟨he, bel⟩ => ?_
  subst he
  exact ⟨_, rfl, _, _, _, [], _, [], hW', trodAll_mk1 (shut_bool Tryd.underlying4 _), trodAll_mk1 (shut_int Tryd.underlying3 wx), rfl, bel.frame _, fun h => by cases h⟩
theorem over0 : Tryd.checked.prog.funcNamed Rows.fnExactDecimalRow.func = some 3 := by kernel_rfl
set_option maxRecDepth 1000000 in
theorem io : ∃ l : List Char, Tryd.checked.prog.initOrder = String.ofList l ∧ (behindMainWord (wordsSigns l)).take 2 = ["cut".toList, "at".toList] := ⟨_, rfl, by kernel_rfl⟩
theorem hmay : Tryd.checked.prog.mayEnter = true := Joining.may (Joining.words io) (by kernel_rfl) (by kernel_rfl) (by kernel_rfl)
theorem hlift : (Rows.fnExactDecimalRow.lifted == Tryd.checked.prog.liftsFinal) = true := Joining.lift (Joining.words io)
theorem hmake : (Tryd.checked.prog.make == some Rows.fnExactDecimalRow.make) = true := Joining.make (Joining.words io)
theorem over1 : joinedFacts Tryd.checked.prog 3 Tryd.f3 Rows.fnExactDecimalSpec Rows.fnExactDecimalRow = true := by
  unfold joinedFacts
  simp only [Bool.and_eq_true]
  repeat' apply And.intro
  all_goals first | (with_reducible exact hmay) | (with_reducible exact hlift) | (with_reducible exact hmake) | kernel_rfl
theorem over2 : Tryd.f3.isInstance Tryd.checked.prog Rows.fnExactDecimalRow.origin Rows.fnExactDecimalRow.targs := of_decide_eq_true (by kernel_rfl)
theorem over3 : Tryd.f3.isWrapper Tryd.checked.prog Rows.fnExactDecimalRow.wrapper Rows.fnExactDecimalRow.mainSum := by unfold Func.isWrapper; first | (rw [if_pos (by decide +kernel)]; kernel_rfl) | (rw [if_neg (by decide +kernel)]; exact ⟨rfl, rfl⟩)
theorem over : Rows.fnExactDecimalRow.holds Tryd.pinned (OpenSpec.ofChange Rows.fnExactDecimalSpec) :=
  OpenClaim.holds_of_wide 3 Tryd.f3 rfl rfl rfl rfl rfl rfl rfl ⟨rfl, rfl, rfl, rfl, rfl⟩ rfl rfl rfl rfl rfl over0 Tryd.func3 over1 over2 over3
    (fun os started H enc _ => lifted os started H enc)
theorem card : Rows.FnExactDecimalCardSaid :=
  Claim7.holds_tied_plain_at .later [] [.data, .data, .data] true (true, "0ed732b1e4b9afb0d86b6077505791ec9dce3c7457afd1de042f1a2cb278d115") true over (fun _ h => by cases h) (by kernel_rfl) (fun _ h => by cases h) fnExactDecimal_row_tie rfl ⟨rfl, rfl⟩ (by kernel_rfl) rfl
    (fun f fn hf hfn => by
      obtain rfl : f = 3 := Option.some.inj ((show Tryd.prog.funcNamed "loop.example/g00474/laws.FnExactDecimal" = some 3 by kernel_rfl).symm.trans hf) |>.symm
      obtain rfl : fn = Tryd.f3 := (Option.some.inj (Tryd.func3.symm.trans hfn)).symm
      exact ⟨by kernel_rfl, fun j t ht => by
        rw [Tryd.params3] at ht
        have hm : t ∈ [3] := by simpa using Array.mem_of_getElem? ht
        have hall : ([3].all fun u => !Tryd.prog.wantsStandIn u) = true := by kernel_rfl
        exact (show Tryd.prog.wantsStandIn t = false by simpa using List.all_eq_true.1 hall t hm)⟩)
    (by kernel_rfl)
#print axioms card
end Go.Proofs.YtelnbjlhlklngaaDoor.fnExactDecimal
namespace Go.Proofs.YtelnbjlhlklngaaDoor
/-- The card, under a short name, for the claim. -/
theorem fnExactDecimal_holds : Rows.FnExactDecimalCardSaid := fnExactDecimal.card
end Go.Proofs.YtelnbjlhlklngaaDoor
