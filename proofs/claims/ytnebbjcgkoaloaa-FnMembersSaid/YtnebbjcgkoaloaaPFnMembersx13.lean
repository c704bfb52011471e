/- What the code that one law of the given program reaches computes, function by function, each with its proof over the given translation.
Conditions: none of our own. (Laid by a program of this session, wip/xp/xp.py; some contracts are typed by hand.) -/
import Derived.Test.YtnebbjcgkoaloaaPFnMembersx0
import Derived.Test.YtnebbjcgkoaloaaPFnMembersx3
import Derived.Test.YtnebbjcgkoaloaaPFnMembersx4
import Derived.Test.YtnebbjcgkoaloaaPFnMembersx6
import Derived.Test.YtnebbjcgkoaloaaPFnMembersx9
import Derived.Test.YtnebbjcgkoaloaaPFnMembersx10
import Derived.Test.YtnebbjcgkoaloaaPFnMembersx12
namespace Go.Proofs.Ytnebbjcgkoaloaa.PFnMembers
open Go.RowKit Go.Proofs.YtnebbjcgkoaloaaW.PrintWords Go.Proofs.YtnebbjcgkoaloaaW.PrintLast Go.Proofs.YtnebbjcgkoaloaaW.PrintMore
attribute [local go_sem] max2_int min2_int max_two min_two max_three min_three max_four min_four   -- for this text's walks alone
set_option linter.unusedVariables false
set_option linter.unusedSimpArgs false

/-! ### laws_FnMembers: function 3 -/
mutual
def laws_FnMembers.l0 : Nat → List (S29) → List (S29) → List (S36) → Int → Option (Bool)
 | 0, _, _, _, _ => none
 | k + 1, x3, x4, x5, x6 => if x6 < (x3.length : Int) then (if 0 ≤ x6 then ((impl_Follows.f k x5 ((rd_T29 x3 x6).f0) ((rd_T29 x3 x6).f1.f0) ((rd_T29 x3 x6).f1.f1) ((rd_T29 x3 x6).f2) ((rd_T29 x3 x6).f3.f0) ((rd_T29 x3 x6).f3.f1) ((rd_T29 x3 x6).f4.f0) ((rd_T29 x3 x6).f4.f1) ((rd_T29 x3 x6).f5) ((rd_T29 x3 x6).f6)).bind fun t434 => ((laws_sameFacts.f k t434 x5).bind fun t437 => (if t437 = true then (laws_FnMembers.l0 k x3 x4 x5 (wrap64 (x6 + 1))) else (some false)))) else (none)) else (laws_FnMembers.l1 k x3 x4 x5 0)
def laws_FnMembers.l1 : Nat → List (S29) → List (S29) → List (S36) → Int → Option (Bool)
 | 0, _, _, _, _ => none
 | k + 1, x3, x4, x5, x7 => if x7 < (x5.length : Int) then (if 0 ≤ x7 then ((impl_IsMember.f k x3 ((rd_T36 x5 x7).f0.f0) ((rd_T36 x5 x7).f0.f1) ((rd_T36 x5 x7).f1)).bind fun t440 => (if t440 = true then ((impl_IsMember.f k x4 ((rd_T36 x5 x7).f0.f0) ((rd_T36 x5 x7).f0.f1) ((rd_T36 x5 x7).f1)).bind fun t441 => (if t441 = true then (laws_FnMembers.l1 k x3 x4 x5 (wrap64 (x7 + 1))) else (some false))) else (some false))) else (none)) else (laws_FnMembers.l2 k x3 x5 0 0)
def laws_FnMembers.l2 : Nat → List (S29) → List (S36) → Int → Int → Option (Bool)
 | 0, _, _, _, _ => none
 | k + 1, x3, x5, x9, x10 => if x10 < 6 then ((impl_RolesOf.f k x3 x10).bind fun t442 => (laws_FnMembers.l2 k x3 x5 (wrap64 (x9 + (t442.length : Int))) (wrap64 (x10 + 1)))) else (laws_FnMembers.l3 k x3 x5 x9 0 0)
def laws_FnMembers.l3 : Nat → List (S29) → List (S36) → Int → Int → Int → Option (Bool)
 | 0, _, _, _, _, _ => none
 | k + 1, x3, x5, x9, x11, x12 => if x12 < 24 then ((impl_MembersOf.f k x3 (wrap64 (Int.tdiv x12 4)) (Int.tmod x12 4)).bind fun t445 => (laws_FnMembers.l3 k x3 x5 x9 (wrap64 (x11 + (t445.length : Int))) (wrap64 (x12 + 1)))) else (if x9 = (x5.length : Int) then (some (x11 == x9)) else (some false))
end
def laws_FnMembers.f (k : Nat) (l0 : List Int) : Option (Bool) := (laws_big.f l0).bind fun t403 => (if t403 = true then (some true) else ((spec_DrawWords.f k l0).bind fun t404 => ((some (([] : List (S29)) : List (S29))).bind fun y407 => (if y407.length + t404.length < 1759218604441 then ((some (y407 ++ t404 : List (S29))).bind fun y410 => ((spec_DrawWord.f k l0).bind fun bt413 => (if y410.length < 1759218604441 then ((impl_FactsOf.f k t404).bind fun t426 => ((spec_FactsOf.f k t404).bind fun t429 => ((laws_sameFacts.f k t426 t429).bind fun t432 => (if t432 = true then (laws_FnMembers.l0 k t404 (y410 ++ [(⟨bt413.1, (⟨bt413.2.1, bt413.2.2.1⟩ : S27), bt413.2.2.2.1, (⟨bt413.2.2.2.2.1, bt413.2.2.2.2.2.1⟩ : S27), (⟨bt413.2.2.2.2.2.2.1, bt413.2.2.2.2.2.2.2.1⟩ : S27), bt413.2.2.2.2.2.2.2.2.1, bt413.2.2.2.2.2.2.2.2.2⟩ : S29)]) t426 0) else (some false))))) else (none)))) else (none)))))
theorem laws_FnMembers.mono_l : ∀ k, (∀ y0 y1 y2 y3, LeO (laws_FnMembers.l0 k y0 y1 y2 y3) (laws_FnMembers.l0 (k + 1) y0 y1 y2 y3)) ∧ (∀ y0 y1 y2 y3, LeO (laws_FnMembers.l1 k y0 y1 y2 y3) (laws_FnMembers.l1 (k + 1) y0 y1 y2 y3)) ∧ (∀ y0 y1 y2 y3, LeO (laws_FnMembers.l2 k y0 y1 y2 y3) (laws_FnMembers.l2 (k + 1) y0 y1 y2 y3)) ∧ (∀ y0 y1 y2 y3 y4, LeO (laws_FnMembers.l3 k y0 y1 y2 y3 y4) (laws_FnMembers.l3 (k + 1) y0 y1 y2 y3 y4))
 | 0 => ⟨fun _ _ _ _ r h => by simp [laws_FnMembers.l0] at h, fun _ _ _ _ r h => by simp [laws_FnMembers.l1] at h, fun _ _ _ _ r h => by simp [laws_FnMembers.l2] at h, fun _ _ _ _ _ r h => by simp [laws_FnMembers.l3] at h⟩
 | k + 1 => by
  obtain ⟨ih0, ih1, ih2, ih3⟩ := laws_FnMembers.mono_l k
  refine ⟨?_, ?_, ?_, ?_⟩
  ·intro y0 y1 y2 y3
   unfold laws_FnMembers.l0
   repeat' first
   | (with_reducible exact ih0 _ _ _ _)
   | (with_reducible exact ih1 _ _ _ _)
   | (with_reducible exact ih2 _ _ _ _)
   | (with_reducible exact ih3 _ _ _ _ _)
   | (with_reducible exact impl_FactsOf.mono _ _)
   | (with_reducible exact impl_Follows.mono _ _ _ _ _ _ _ _ _ _ _ _)
   | (with_reducible exact impl_IsMember.mono _ _ _ _ _)
   | (with_reducible exact impl_MembersOf.mono _ _ _ _)
   | (with_reducible exact impl_RolesOf.mono _ _ _)
   | (with_reducible exact laws_sameFacts.mono _ _ _)
   | (with_reducible exact spec_DrawWord.mono _ _)
   | (with_reducible exact spec_DrawWords.mono _ _)
   | (with_reducible exact spec_FactsOf.mono _ _)
   | (with_reducible exact LeO.refl _)
   | (with_reducible exact LeO.none _)
   | (with_reducible refine LeO.ite ?_ ?_)
   | (with_reducible refine LeO.bind ?_ (fun _ => ?_))
   | exact ih0 _ _ _ _
   | exact ih1 _ _ _ _
   | exact ih2 _ _ _ _
   | exact ih3 _ _ _ _ _
   | exact impl_FactsOf.mono _ _
   | exact impl_Follows.mono _ _ _ _ _ _ _ _ _ _ _ _
   | exact impl_IsMember.mono _ _ _ _ _
   | exact impl_MembersOf.mono _ _ _ _
   | exact impl_RolesOf.mono _ _ _
   | exact laws_sameFacts.mono _ _ _
   | exact spec_DrawWord.mono _ _
   | exact spec_DrawWords.mono _ _
   | exact spec_FactsOf.mono _ _
   | exact LeO.none _
   | refine LeO.ite ?_ ?_
   | refine LeO.bind ?_ (fun _ => ?_)
  ·intro y0 y1 y2 y3
   unfold laws_FnMembers.l1
   repeat' first
   | (with_reducible exact ih0 _ _ _ _)
   | (with_reducible exact ih1 _ _ _ _)
   | (with_reducible exact ih2 _ _ _ _)
   | (with_reducible exact ih3 _ _ _ _ _)
   | (with_reducible exact impl_FactsOf.mono _ _)
   | (with_reducible exact impl_Follows.mono _ _ _ _ _ _ _ _ _ _ _ _)
   | (with_reducible exact impl_IsMember.mono _ _ _ _ _)
   | (with_reducible exact impl_MembersOf.mono _ _ _ _)
   | (with_reducible exact impl_RolesOf.mono _ _ _)
   | (with_reducible exact laws_sameFacts.mono _ _ _)
   | (with_reducible exact spec_DrawWord.mono _ _)
   | (with_reducible exact spec_DrawWords.mono _ _)
   | (with_reducible exact spec_FactsOf.mono _ _)
   | (with_reducible exact LeO.refl _)
   | (with_reducible exact LeO.none _)
   | (with_reducible refine LeO.ite ?_ ?_)
   | (with_reducible refine LeO.bind ?_ (fun _ => ?_))
   | exact ih0 _ _ _ _
   | exact ih1 _ _ _ _
   | exact ih2 _ _ _ _
   | exact ih3 _ _ _ _ _
   | exact impl_FactsOf.mono _ _
   | exact impl_Follows.mono _ _ _ _ _ _ _ _ _ _ _ _
   | exact impl_IsMember.mono _ _ _ _ _
   | exact impl_MembersOf.mono _ _ _ _
   | exact impl_RolesOf.mono _ _ _
   | exact laws_sameFacts.mono _ _ _
   | exact spec_DrawWord.mono _ _
   | exact spec_DrawWords.mono _ _
   | exact spec_FactsOf.mono _ _
   | exact LeO.none _
   | refine LeO.ite ?_ ?_
   | refine LeO.bind ?_ (fun _ => ?_)
  ·intro y0 y1 y2 y3
   unfold laws_FnMembers.l2
   repeat' first
   | (with_reducible exact ih0 _ _ _ _)
   | (with_reducible exact ih1 _ _ _ _)
   | (with_reducible exact ih2 _ _ _ _)
   | (with_reducible exact ih3 _ _ _ _ _)
   | (with_reducible exact impl_FactsOf.mono _ _)
   | (with_reducible exact impl_Follows.mono _ _ _ _ _ _ _ _ _ _ _ _)
   | (with_reducible exact impl_IsMember.mono _ _ _ _ _)
   | (with_reducible exact impl_MembersOf.mono _ _ _ _)
   | (with_reducible exact impl_RolesOf.mono _ _ _)
   | (with_reducible exact laws_sameFacts.mono _ _ _)
   | (with_reducible exact spec_DrawWord.mono _ _)
   | (with_reducible exact spec_DrawWords.mono _ _)
   | (with_reducible exact spec_FactsOf.mono _ _)
   | (with_reducible exact LeO.refl _)
   | (with_reducible exact LeO.none _)
   | (with_reducible refine LeO.ite ?_ ?_)
   | (with_reducible refine LeO.bind ?_ (fun _ => ?_))
   | exact ih0 _ _ _ _
   | exact ih1 _ _ _ _
   | exact ih2 _ _ _ _
   | exact ih3 _ _ _ _ _
   | exact impl_FactsOf.mono _ _
   | exact impl_Follows.mono _ _ _ _ _ _ _ _ _ _ _ _
   | exact impl_IsMember.mono _ _ _ _ _
   | exact impl_MembersOf.mono _ _ _ _
   | exact impl_RolesOf.mono _ _ _
   | exact laws_sameFacts.mono _ _ _
   | exact spec_DrawWord.mono _ _
   | exact spec_DrawWords.mono _ _
   | exact spec_FactsOf.mono _ _
   | exact LeO.none _
   | refine LeO.ite ?_ ?_
   | refine LeO.bind ?_ (fun _ => ?_)
  ·intro y0 y1 y2 y3 y4
   unfold laws_FnMembers.l3
   repeat' first
   | (with_reducible exact ih0 _ _ _ _)
   | (with_reducible exact ih1 _ _ _ _)
   | (with_reducible exact ih2 _ _ _ _)
   | (with_reducible exact ih3 _ _ _ _ _)
   | (with_reducible exact impl_FactsOf.mono _ _)
   | (with_reducible exact impl_Follows.mono _ _ _ _ _ _ _ _ _ _ _ _)
   | (with_reducible exact impl_IsMember.mono _ _ _ _ _)
   | (with_reducible exact impl_MembersOf.mono _ _ _ _)
   | (with_reducible exact impl_RolesOf.mono _ _ _)
   | (with_reducible exact laws_sameFacts.mono _ _ _)
   | (with_reducible exact spec_DrawWord.mono _ _)
   | (with_reducible exact spec_DrawWords.mono _ _)
   | (with_reducible exact spec_FactsOf.mono _ _)
   | (with_reducible exact LeO.refl _)
   | (with_reducible exact LeO.none _)
   | (with_reducible refine LeO.ite ?_ ?_)
   | (with_reducible refine LeO.bind ?_ (fun _ => ?_))
   | exact ih0 _ _ _ _
   | exact ih1 _ _ _ _
   | exact ih2 _ _ _ _
   | exact ih3 _ _ _ _ _
   | exact impl_FactsOf.mono _ _
   | exact impl_Follows.mono _ _ _ _ _ _ _ _ _ _ _ _
   | exact impl_IsMember.mono _ _ _ _ _
   | exact impl_MembersOf.mono _ _ _ _
   | exact impl_RolesOf.mono _ _ _
   | exact laws_sameFacts.mono _ _ _
   | exact spec_DrawWord.mono _ _
   | exact spec_DrawWords.mono _ _
   | exact spec_FactsOf.mono _ _
   | exact LeO.none _
   | refine LeO.ite ?_ ?_
   | refine LeO.bind ?_ (fun _ => ?_)
theorem laws_FnMembers.mono : ∀ a0 k, LeO (laws_FnMembers.f k a0) (laws_FnMembers.f (k + 1) a0) := by
 intro a0 k
 obtain ⟨ih0, ih1, ih2, ih3⟩ := laws_FnMembers.mono_l k
 unfold laws_FnMembers.f
 repeat' first
   | (with_reducible exact ih0 _ _ _ _)
   | (with_reducible exact ih1 _ _ _ _)
   | (with_reducible exact ih2 _ _ _ _)
   | (with_reducible exact ih3 _ _ _ _ _)
   | (with_reducible exact impl_FactsOf.mono _ _)
   | (with_reducible exact impl_Follows.mono _ _ _ _ _ _ _ _ _ _ _ _)
   | (with_reducible exact impl_IsMember.mono _ _ _ _ _)
   | (with_reducible exact impl_MembersOf.mono _ _ _ _)
   | (with_reducible exact impl_RolesOf.mono _ _ _)
   | (with_reducible exact laws_sameFacts.mono _ _ _)
   | (with_reducible exact spec_DrawWord.mono _ _)
   | (with_reducible exact spec_DrawWords.mono _ _)
   | (with_reducible exact spec_FactsOf.mono _ _)
   | (with_reducible exact LeO.refl _)
   | (with_reducible exact LeO.none _)
   | (with_reducible refine LeO.ite ?_ ?_)
   | (with_reducible refine LeO.bind ?_ (fun _ => ?_))
   | exact ih0 _ _ _ _
   | exact ih1 _ _ _ _
   | exact ih2 _ _ _ _
   | exact ih3 _ _ _ _ _
   | exact impl_FactsOf.mono _ _
   | exact impl_Follows.mono _ _ _ _ _ _ _ _ _ _ _ _
   | exact impl_IsMember.mono _ _ _ _ _
   | exact impl_MembersOf.mono _ _ _ _
   | exact impl_RolesOf.mono _ _ _
   | exact laws_sameFacts.mono _ _ _
   | exact spec_DrawWord.mono _ _
   | exact spec_DrawWords.mono _ _
   | exact spec_FactsOf.mono _ _
   | exact LeO.none _
   | refine LeO.ite ?_ ?_
   | refine LeO.bind ?_ (fun _ => ?_)
set_option maxHeartbeats 8000000 in
set_option maxRecDepth 100000 in
theorem laws_FnMembers.calls (k : Nat) (A0 : Option Addr) (c0 : Nat) (l0 : List Int) (r : Bool) (w : World) (hr0 : Kd.C (Kd.int .u8) w A0 l0.length l0) (hc0 : l0.length ≤ c0) (h : laws_FnMembers.f k l0 = some r) (hrt : r = true) :
  Calls Try.prog 3 #[.slice A0 l0.length c0] w fun e w' => e = .returned (.bool r) ∧ Below w.heap.size w w' := by
 have HRT := Aside0.mk hrt
 clear hrt
 have hu29 := Try.underlying29
 have hu36 := Try.underlying36
 have hu27 := Try.underlying27
 have HR0 := Aside0.mk hr0
 have HC0 := Aside0.mk hc0
 clear hr0 hc0
 have HB := Aside0.mk (Below.refl w.heap.size w)
 have H : ((laws_big.f l0).bind fun t403 => (if t403 = true then (some true) else ((spec_DrawWords.f k l0).bind fun t404 => ((some (([] : List (S29)) : List (S29))).bind fun y407 => (if y407.length + t404.length < 1759218604441 then ((some (y407 ++ t404 : List (S29))).bind fun y410 => ((spec_DrawWord.f k l0).bind fun bt413 => (if y410.length < 1759218604441 then ((impl_FactsOf.f k t404).bind fun t426 => ((spec_FactsOf.f k t404).bind fun t429 => ((laws_sameFacts.f k t426 t429).bind fun t432 => (if t432 = true then (laws_FnMembers.l0 k t404 (y410 ++ [(⟨bt413.1, (⟨bt413.2.1, bt413.2.2.1⟩ : S27), bt413.2.2.2.1, (⟨bt413.2.2.2.2.1, bt413.2.2.2.2.2.1⟩ : S27), (⟨bt413.2.2.2.2.2.2.1, bt413.2.2.2.2.2.2.2.1⟩ : S27), bt413.2.2.2.2.2.2.2.2.1, bt413.2.2.2.2.2.2.2.2.2⟩ : S29)]) t426 0) else (some false))))) else (none)))) else (none)))))) = some r := h
 clear h
 replace H := Option.bind_eq_some_iff.mp H
 obtain ⟨t403, A20, H⟩ := H
 replace H : (if t403 = true then (some true) else ((spec_DrawWords.f k l0).bind fun t404 => ((some (([] : List (S29)) : List (S29))).bind fun y407 => (if y407.length + t404.length < 1759218604441 then ((some (y407 ++ t404 : List (S29))).bind fun y410 => ((spec_DrawWord.f k l0).bind fun bt413 => (if y410.length < 1759218604441 then ((impl_FactsOf.f k t404).bind fun t426 => ((spec_FactsOf.f k t404).bind fun t429 => ((laws_sameFacts.f k t426 t429).bind fun t432 => (if t432 = true then (laws_FnMembers.l0 k t404 (y410 ++ [(⟨bt413.1, (⟨bt413.2.1, bt413.2.2.1⟩ : S27), bt413.2.2.2.1, (⟨bt413.2.2.2.2.1, bt413.2.2.2.2.2.1⟩ : S27), (⟨bt413.2.2.2.2.2.2.1, bt413.2.2.2.2.2.2.2.1⟩ : S27), bt413.2.2.2.2.2.2.2.2.1, bt413.2.2.2.2.2.2.2.2.2⟩ : S29)]) t426 0) else (some false))))) else (none)))) else (none))))) = some r := H
 have A2 := Aside0.mk A20
 clear A20
 by_cases c3 : t403 = true
 ·subst c3
  have H1 : (some true) = some r := by rw [if_pos rfl] at H; exact H
  clear H
  have H := H1
  clear H1
  obtain rfl := Option.some.inj H
  go_enter Try.func3, Try.ntmps3
  go_wp2_with (first | ((with_reducible refine gate_callee (f := 9) rfl ?_); refine goesL_ (some 14) rfl rfl Try.func9 (by kernel_rfl) rfl #[.slice A0 l0.length c0] rfl sqA ?_; (with_reducible refine (laws_big.calls _ _ l0 true _ ?side1 ?side2 A2.out).mono ?_); (case side1 => repeat (first | exact HR0.out | (with_reducible refine Kd.C_alloc ?_ _) | (with_reducible refine Kd.C_drewN ?_ _) | (with_reducible refine Kd.C_drew ?_))); (case side2 => exact HC0.out); rintro e w' ⟨rfl, ⟨nd, rfl⟩⟩; refine ⟨_, rfl, ?_⟩))
  go_ret
  exact ⟨sqE, sqB⟩
 ·replace c3 := Bool.eq_false_iff.mpr c3
  subst c3
  have H1 : ((spec_DrawWords.f k l0).bind fun t404 => ((some (([] : List (S29)) : List (S29))).bind fun y407 => (if y407.length + t404.length < 1759218604441 then ((some (y407 ++ t404 : List (S29))).bind fun y410 => ((spec_DrawWord.f k l0).bind fun bt413 => (if y410.length < 1759218604441 then ((impl_FactsOf.f k t404).bind fun t426 => ((spec_FactsOf.f k t404).bind fun t429 => ((laws_sameFacts.f k t426 t429).bind fun t432 => (if t432 = true then (laws_FnMembers.l0 k t404 (y410 ++ [(⟨bt413.1, (⟨bt413.2.1, bt413.2.2.1⟩ : S27), bt413.2.2.2.1, (⟨bt413.2.2.2.2.1, bt413.2.2.2.2.2.1⟩ : S27), (⟨bt413.2.2.2.2.2.2.1, bt413.2.2.2.2.2.2.2.1⟩ : S27), bt413.2.2.2.2.2.2.2.2.1, bt413.2.2.2.2.2.2.2.2.2⟩ : S29)]) t426 0) else (some false))))) else (none)))) else (none)))) = some r := by rw [if_neg (show ¬ (false = true) by decide)] at H; exact H
  clear H
  have H := H1
  clear H1
  replace H := Option.bind_eq_some_iff.mp H
  obtain ⟨t404, A40, H⟩ := H
  replace H : ((some (([] : List (S29)) : List (S29))).bind fun y407 => (if y407.length + t404.length < 1759218604441 then ((some (y407 ++ t404 : List (S29))).bind fun y410 => ((spec_DrawWord.f k l0).bind fun bt413 => (if y410.length < 1759218604441 then ((impl_FactsOf.f k t404).bind fun t426 => ((spec_FactsOf.f k t404).bind fun t429 => ((laws_sameFacts.f k t426 t429).bind fun t432 => (if t432 = true then (laws_FnMembers.l0 k t404 (y410 ++ [(⟨bt413.1, (⟨bt413.2.1, bt413.2.2.1⟩ : S27), bt413.2.2.2.1, (⟨bt413.2.2.2.2.1, bt413.2.2.2.2.2.1⟩ : S27), (⟨bt413.2.2.2.2.2.2.1, bt413.2.2.2.2.2.2.2.1⟩ : S27), bt413.2.2.2.2.2.2.2.2.1, bt413.2.2.2.2.2.2.2.2.2⟩ : S29)]) t426 0) else (some false))))) else (none)))) else (none))) = some r := H
  have A4 := Aside0.mk A40
  clear A40
  obtain ⟨y407, hy407⟩ : ∃ y_ : List (S29), y_ = (([] : List (S29))) := ⟨_, rfl⟩
  replace H : (if y407.length + t404.length < 1759218604441 then ((some (y407 ++ t404 : List (S29))).bind fun y410 => ((spec_DrawWord.f k l0).bind fun bt413 => (if y410.length < 1759218604441 then ((impl_FactsOf.f k t404).bind fun t426 => ((spec_FactsOf.f k t404).bind fun t429 => ((laws_sameFacts.f k t426 t429).bind fun t432 => (if t432 = true then (laws_FnMembers.l0 k t404 (y410 ++ [(⟨bt413.1, (⟨bt413.2.1, bt413.2.2.1⟩ : S27), bt413.2.2.2.1, (⟨bt413.2.2.2.2.1, bt413.2.2.2.2.2.1⟩ : S27), (⟨bt413.2.2.2.2.2.2.1, bt413.2.2.2.2.2.2.2.1⟩ : S27), bt413.2.2.2.2.2.2.2.2.1, bt413.2.2.2.2.2.2.2.2.2⟩ : S29)]) t426 0) else (some false))))) else (none)))) else (none)) = some r := by first | (rw [hy407]; with_reducible exact H) | (have H2_ := (Option.bind_some _ _).symm.trans H; rw [hy407]; with_reducible exact H2_) | (have H2_ := (Option.bind_some _ _).symm.trans H; with_reducible exact H2_) | with_reducible exact H | (rw [hy407]; exact H) | exact H
  have Ny407 := Aside0.mk hy407
  clear hy407
  by_cases c5 : y407.length + t404.length < 1759218604441
  ·rw [if_pos c5] at H
   have LMc5 := Aside0.mk c5
   clear c5
   obtain ⟨y410, hy410⟩ : ∃ y_ : List (S29), y_ = (y407 ++ t404) := ⟨_, rfl⟩
   replace H : ((spec_DrawWord.f k l0).bind fun bt413 => (if y410.length < 1759218604441 then ((impl_FactsOf.f k t404).bind fun t426 => ((spec_FactsOf.f k t404).bind fun t429 => ((laws_sameFacts.f k t426 t429).bind fun t432 => (if t432 = true then (laws_FnMembers.l0 k t404 (y410 ++ [(⟨bt413.1, (⟨bt413.2.1, bt413.2.2.1⟩ : S27), bt413.2.2.2.1, (⟨bt413.2.2.2.2.1, bt413.2.2.2.2.2.1⟩ : S27), (⟨bt413.2.2.2.2.2.2.1, bt413.2.2.2.2.2.2.2.1⟩ : S27), bt413.2.2.2.2.2.2.2.2.1, bt413.2.2.2.2.2.2.2.2.2⟩ : S29)]) t426 0) else (some false))))) else (none))) = some r := by first | (rw [hy410]; with_reducible exact H) | (have H2_ := (Option.bind_some _ _).symm.trans H; rw [hy410]; with_reducible exact H2_) | (have H2_ := (Option.bind_some _ _).symm.trans H; with_reducible exact H2_) | with_reducible exact H | (rw [hy410]; exact H) | exact H
   have Ny410 := Aside0.mk hy410
   clear hy410
   replace H := Option.bind_eq_some_iff.mp H
   obtain ⟨⟨t413, t414, t415, t416, t417, t418, t419, t420, t421, t422⟩, A60, H⟩ := H
   replace H : (if y410.length < 1759218604441 then ((impl_FactsOf.f k t404).bind fun t426 => ((spec_FactsOf.f k t404).bind fun t429 => ((laws_sameFacts.f k t426 t429).bind fun t432 => (if t432 = true then (laws_FnMembers.l0 k t404 (y410 ++ [(⟨t413, (⟨t414, t415⟩ : S27), t416, (⟨t417, t418⟩ : S27), (⟨t419, t420⟩ : S27), t421, t422⟩ : S29)]) t426 0) else (some false))))) else (none)) = some r := H
   have A6 := Aside0.mk A60
   clear A60
   by_cases c7 : y410.length < 1759218604441
   ·rw [if_pos c7] at H
    have LMc7 := Aside0.mk c7
    clear c7
    obtain ⟨y423, hy423⟩ : ∃ y_ : List (S29), y_ = (y410 ++ [(⟨t413, (⟨t414, t415⟩ : S27), t416, (⟨t417, t418⟩ : S27), (⟨t419, t420⟩ : S27), t421, t422⟩ : S29)]) := ⟨_, rfl⟩
    replace H : ((impl_FactsOf.f k t404).bind fun t426 => ((spec_FactsOf.f k t404).bind fun t429 => ((laws_sameFacts.f k t426 t429).bind fun t432 => (if t432 = true then (laws_FnMembers.l0 k t404 y423 t426 0) else (some false))))) = some r := by first | (rw [hy423]; with_reducible exact H) | (have H2_ := (Option.bind_some _ _).symm.trans H; rw [hy423]; with_reducible exact H2_) | (have H2_ := (Option.bind_some _ _).symm.trans H; with_reducible exact H2_) | with_reducible exact H | (rw [hy423]; exact H) | exact H
    have Ny423 := Aside0.mk hy423
    clear hy423
    replace H := Option.bind_eq_some_iff.mp H
    obtain ⟨t426, A80, H⟩ := H
    replace H : ((spec_FactsOf.f k t404).bind fun t429 => ((laws_sameFacts.f k t426 t429).bind fun t432 => (if t432 = true then (laws_FnMembers.l0 k t404 y423 t426 0) else (some false)))) = some r := H
    have A8 := Aside0.mk A80
    clear A80
    replace H := Option.bind_eq_some_iff.mp H
    obtain ⟨t429, A90, H⟩ := H
    replace H : ((laws_sameFacts.f k t426 t429).bind fun t432 => (if t432 = true then (laws_FnMembers.l0 k t404 y423 t426 0) else (some false))) = some r := H
    have A9 := Aside0.mk A90
    clear A90
    replace H := Option.bind_eq_some_iff.mp H
    obtain ⟨t432, A100, H⟩ := H
    replace H : (if t432 = true then (laws_FnMembers.l0 k t404 y423 t426 0) else (some false)) = some r := H
    have A10 := Aside0.mk A100
    clear A100
    by_cases c11 : t432 = true
    ·subst c11
     have H1 : (laws_FnMembers.l0 k t404 y423 t426 0) = some r := by rw [if_pos rfl] at H; exact H
     clear H
     have H := H1
     clear H1
     have H' := Aside0.mk H
     clear H
     go_enter Try.func3, Try.ntmps3
     go_wp2_with (first | ((with_reducible refine gate_callee (f := 9) rfl ?_); refine goesL_ (some 14) rfl rfl Try.func9 (by kernel_rfl) rfl #[.slice A0 l0.length c0] rfl sqA ?_; (with_reducible refine (laws_big.calls _ _ l0 false _ ?side1 ?side2 A2.out).mono ?_); (case side1 => repeat (first | exact HR0.out | (with_reducible refine Kd.C_alloc ?_ _) | (with_reducible refine Kd.C_drewN ?_ _) | (with_reducible refine Kd.C_drew ?_))); (case side2 => exact HC0.out); rintro e w' ⟨rfl, ⟨nd, rfl⟩⟩; refine ⟨_, rfl, ?_⟩) | ((with_reducible refine gate_callee (f := 10) rfl ?_); refine goesL_ (some 16) rfl rfl Try.func10 (by kernel_rfl) rfl #[.slice A0 l0.length c0] rfl sqA ?_; (with_reducible refine (spec_DrawWords.calls k _ _ l0 t404 _ ?side1 ?side2 A4.out).mono ?_); (case side1 => repeat (first | exact HR0.out | (with_reducible refine Kd.C_alloc ?_ _) | (with_reducible refine Kd.C_drewN ?_ _) | (with_reducible refine Kd.C_drew ?_))); (case side2 => exact HC0.out); rintro e w12 ⟨v405, rfl, ho0, hb⟩; refine ⟨_, rfl, ?_⟩; have HO406 := Aside0.mk (Kd.R_lower ho0 (below_size (sqB))); replace HB := sqS hb; (try clear hb); (try clear hb2); (try clear hk); (try clear hi); (try clear ho0)) | ((with_reducible refine gate_dst (N := 17) rfl ?_); refine Kd.R_lit k29 _ 29 ?hg (N := 17) ?hd (xs := ([] : List (S29))) (inner := []) (ok := fun _ => True) (okp := fun _ => True) ?hr ?hp (fun _ hk => hk) trivial (Below.refl _ _) (Nat.le_refl _) (by simp) ?_; (case hd => rfl); (case hg => rfl); (case hr => first | (go_simp; done) | (go_simp; rfl)); (case hp => exact (Reps.none _ _)); intro v408 w13 ho14 hb hg_ hnew_; clear hg_ hnew_; (first | rw [← Ny407.out] at ho14 | (simp only [Int.reduceToNat] at ho14; rw [← Ny407.out] at ho14)); have n0_ := Aside0.mk (Kd.R_elder' (sqR HO406) (Kd.R_base ho14) hb); have n1_ := Aside0.mk (Kd.R_lower (Kd.R_new' ho14 (Kd.R_lt (sqR HO406))) (below_size (sqB))); have n2_ := sqS hb; clear HO406; clear HB; have HO406 := n0_; have HO409 := n1_; have HB := n2_; clear n0_ n1_ n2_; clear hb ho14; obtain ⟨Ao16, co16, eo16⟩ := Kd.R_slice HO406.out; subst eo16) | ((with_reducible refine gate_builtin (b := .append) (xs := #[.tmp 17, .tmp 18]) rfl ?_); at_builtin; refine Kd.R_append_rows k29 (w0 := w) w.heap.size rfl (.tmp 17) (.tmp 18) 24 29 (.agg #[(.int .i64 0), (.int .i64 0), (.int .i64 0), (.int .i64 0), (.int .i64 0), (.int .i64 0), (.int .i64 0), (.int .i64 0), (.int .i64 0), (.int .i64 0)]) 80 rfl Try.underlying24 info29 rfl (by decide) (by omega) v408 y407 t404 _ _ _ (fun k_ => some k_ ≠ (.slice Ao16 t404.length co16 : Value).ownBlock) (fun _ => False) rfl rfl ?aO ?aR (fun _ _ h => h) (fun _ h => h.elim) ?aF ?aB ?aS ?aL ?_; (case aR => repeat (first | exact (Kd.R_reads' HO406.out).2.2 | (with_reducible refine Kd.C_alloc ?_ _) | (with_reducible refine Kd.C_drewN ?_ _) | (with_reducible refine Kd.C_drew ?_))); (case aB => exact (sqB)); (case aF => exact (fun k_ hk => Kd.fresh' (Kd.R_lt (sqR HO406)) k_ hk)); (case aO => exact (by (with_reducible repeat (first | apply Kd.R_alloc | apply Kd.R_drewN | apply Kd.R_drew)); exact Kd.R_mono HO409.out (fun _ hk => hk.2))); (case aS => exact (below_size (sqB))); (case aL => have := LMc5.out; omega); intro v411 w15 ho hb hg hat; rw [← Ny410.out] at ho; have n0_ := Aside0.mk (Kd.R_after (ok := (fun _ => True)) (sqR HO406) hg hat); have n1_ := Aside0.mk (hb); have n2_ := Aside0.mk (ho); clear HO406; clear HB; clear HO409; have HO406 := n0_; have HB := n1_; have HO412 := n2_; clear n0_ n1_ n2_; clear ho hb hg hat) | ((with_reducible refine gate_callee (f := 11) rfl ?_); refine goesL_ (some 21) rfl rfl Try.func11 (by kernel_rfl) rfl #[.slice A0 l0.length c0] rfl sqA ?_; (with_reducible refine (spec_DrawWord.calls k _ _ l0 t413 t414 t415 t416 t417 t418 t419 t420 t421 t422 _ ?side1 ?side2 A6.out).mono ?_); (case side1 => repeat (first | exact (Kd.C_below HR0.out HB.out) | (with_reducible refine Kd.C_alloc ?_ _) | (with_reducible refine Kd.C_drewN ?_ _) | (with_reducible refine Kd.C_drew ?_))); (case side2 => exact HC0.out); rintro e w17 ⟨rfl, hb⟩; refine ⟨_, rfl, ?_⟩; replace HO406 := Aside0.mk (Kd.R_below (sqR HO406) hb); replace HO412 := Aside0.mk (Kd.R_below (sqR HO412) hb); replace HB := sqS hb; (try clear hb); (try clear hb2); (try clear hk); (try clear hi)) | ((with_reducible refine gate_builtin (b := .append) (xs := #[.tmp 19, .tmp 22]) rfl ?_); at_builtin; refine Kd.R_append k29 (w0 := w) w.heap.size rfl (.tmp 19) (.tmp 22) 24 29 (.agg #[(.int .i64 0), (.int .i64 0), (.int .i64 0), (.int .i64 0), (.int .i64 0), (.int .i64 0), (.int .i64 0), (.int .i64 0), (.int .i64 0), (.int .i64 0)]) 80 rfl Try.underlying24 info29 rfl (by decide) (by omega) v411 y410 (⟨t413, (⟨t414, t415⟩ : S27), t416, (⟨t417, t418⟩ : S27), (⟨t419, t420⟩ : S27), t421, t422⟩ : S29) [.int .i64 t413, .int .i64 t414, .int .i64 t415, .int .i64 t416, .int .i64 t417, .int .i64 t418, .int .i64 t419, .int .i64 t420, .int .i64 t421, .int .i64 t422] (fun k_ => some k_ ≠ (.slice Ao16 t404.length co16 : Value).ownBlock) (fun _ => False) rfl rfl ?aP (fun _ hk => hk.elim) ?aF ?aO ?aB ?aS ?aL ?_; (case aP => exact k29_mkM _ _ _ (⟨t413, (⟨t414, t415⟩ : S27), t416, (⟨t417, t418⟩ : S27), (⟨t419, t420⟩ : S27), t421, t422⟩ : S29)); (case aB => exact (sqB)); (case aF => exact (fun k_ hk => Kd.fresh' (Kd.R_lt (sqR HO406)) k_ hk)); (case aO => exact (sqR HO412)); (case aS => exact (below_size (sqB))); (case aL => have := LMc7.out; omega); intro v424 w18 ho hb hg hat; rw [← Ny423.out] at ho; have n0_ := Aside0.mk (Kd.R_after (ok := (fun _ => True)) (sqR HO406) hg hat); have n1_ := Aside0.mk (hb); have n2_ := Aside0.mk (ho); clear HO406; clear HB; clear HO412; have HO406 := n0_; have HB := n1_; have HO425 := n2_; clear n0_ n1_ n2_; clear ho hb hg hat) | ((with_reducible refine gate_callee (f := 12) rfl ?_); refine goesL_ (some 25) rfl rfl Try.func12 (by kernel_rfl) rfl #[.slice Ao16 t404.length co16] rfl sqA ?_; (with_reducible refine (impl_FactsOf.calls k _ _ t404 t426 _ ?side1 ?side2 A8.out).mono ?_); (case side1 => repeat (first | exact (Kd.R_reads' HO406.out).2.2 | (with_reducible refine Kd.C_alloc ?_ _) | (with_reducible refine Kd.C_drewN ?_ _) | (with_reducible refine Kd.C_drew ?_))); (case side2 => exact (Kd.R_reads' HO406.out).2.1); rintro e w19 ⟨v427, rfl, ho0, hb⟩; refine ⟨_, rfl, ?_⟩; replace HO406 := Aside0.mk (Kd.R_below (sqR HO406) hb); replace HO425 := Aside0.mk (Kd.R_below (sqR HO425) hb); have HO428 := Aside0.mk (Kd.R_lower ho0 (below_size (sqB))); replace HB := sqS hb; (try clear hb); (try clear hb2); (try clear hk); (try clear hi); (try clear ho0)) | ((with_reducible refine gate_callee (f := 14) rfl ?_); refine goesL_ (some 28) rfl rfl Try.func14 (by kernel_rfl) rfl #[.slice Ao16 t404.length co16] rfl sqA ?_; (with_reducible refine (spec_FactsOf.calls k _ _ t404 t429 _ ?side1 ?side2 A9.out).mono ?_); (case side1 => repeat (first | exact (Kd.R_reads' HO406.out).2.2 | (with_reducible refine Kd.C_alloc ?_ _) | (with_reducible refine Kd.C_drewN ?_ _) | (with_reducible refine Kd.C_drew ?_))); (case side2 => exact (Kd.R_reads' HO406.out).2.1); rintro e w20 ⟨v430, rfl, ho0, hb⟩; refine ⟨_, rfl, ?_⟩; have n0_ := Aside0.mk (Kd.R_below (sqR HO406) hb); have n1_ := Aside0.mk (Kd.R_below (sqR HO425) hb); have n2_ := Aside0.mk (Kd.R_elder' (sqR HO428) (Kd.R_base ho0) hb); have n3_ := Aside0.mk (Kd.R_lower (Kd.R_new' ho0 (Kd.R_lt (sqR HO428))) (below_size (sqB))); have n4_ := sqS hb; clear HO406; clear HO425; clear HO428; clear HB; have HO406 := n0_; have HO425 := n1_; have HO428 := n2_; have HO431 := n3_; have HB := n4_; clear n0_ n1_ n2_ n3_ n4_; (try clear hb); (try clear hb2); (try clear hk); (try clear hi); (try clear ho0); obtain ⟨Ao21, co21, eo21⟩ := Kd.R_slice HO428.out; subst eo21; obtain ⟨Ao22, co22, eo22⟩ := Kd.R_slice HO431.out; subst eo22) | ((with_reducible refine gate_callee (f := 13) rfl ?_); refine goesL_ (some 29) rfl rfl Try.func13 (by kernel_rfl) rfl #[.slice Ao21 t426.length co21, .slice Ao22 t429.length co22] rfl sqA ?_; (with_reducible refine (laws_sameFacts.calls k _ _ t426 _ _ t429 true _ ?side1 ?side2 ?side3 ?side4 A10.out).mono ?_); (case side1 => repeat (first | exact (Kd.R_reads' HO428.out).2.2 | (with_reducible refine Kd.C_alloc ?_ _) | (with_reducible refine Kd.C_drewN ?_ _) | (with_reducible refine Kd.C_drew ?_))); (case side2 => exact (Kd.R_reads' HO428.out).2.1); (case side3 => repeat (first | exact (Kd.R_reads' HO431.out).2.2 | (with_reducible refine Kd.C_alloc ?_ _) | (with_reducible refine Kd.C_drewN ?_ _) | (with_reducible refine Kd.C_drew ?_))); (case side4 => exact (Kd.R_reads' HO431.out).2.1); rintro e w' ⟨rfl, ⟨nd, rfl⟩⟩; refine ⟨_, rfl, ?_⟩))
     go_loopg [6] k (fun kq v6 w' => ∃ (x6_1 : Int), v6 = .int .i64 x6_1 ∧ Aside0 (laws_FnMembers.l0 kq t404 y423 t426 x6_1 = some r) ∧ Aside0 (kq ≤ k) ∧ Aside0 (Kd.R k29 29 w' w.heap.size (fun k_ => some k_ ≠ (v424 : Value).ownBlock) (.slice Ao16 t404.length co16) t404) ∧ Aside0 (Kd.R k29 29 w' w.heap.size (fun k_ => some k_ ≠ ((.slice Ao16 t404.length co16) : Value).ownBlock) v424 y423) ∧ Aside0 (Kd.R k36 36 w' w.heap.size (fun _ => True) (.slice Ao21 t426.length co21) t426) ∧ Aside0 (Below w.heap.size w w'))
     case atStart => exact ⟨(0), (by first | rfl | (simp; done) | (simp [*]; done)), H', ⟨Nat.le_refl _⟩, ⟨by (with_reducible repeat (first | apply Kd.R_alloc | apply Kd.R_drewN | apply Kd.R_drew)); exact Kd.R_mono HO406.out (fun _ hk => hk.2)⟩, ⟨sqR HO425⟩, ⟨by (with_reducible repeat (first | apply Kd.R_alloc | apply Kd.R_drewN | apply Kd.R_drew)); exact Kd.R_mono HO428.out (fun _ hk => trivial)⟩, ⟨sqB⟩⟩
     case round =>
      clear H'
      try clear c1
      try clear p2
      try clear c3
      try clear c5
      try clear c7
      try clear c9
      try clear c10
      try clear c11
      try clear c12
      try clear c13
      try clear c14
      obtain ⟨x6_1, rfl, HA, HK1, HO_3, HO_4, HO_5, HB⟩ := hrel
      cases gk with
      | zero => exact absurd HA.out (by simp [laws_FnMembers.l0])
      | succ k1 =>
       have H := HA.out
       clear HA
       simp only [laws_FnMembers.l0] at H
       by_cases c23 : x6_1 < (t404.length : Int)
       ·rw [if_pos c23] at H
        have c23b0 : decide (x6_1 < (t404.length : Int)) = true := decide_eq_true c23
        clear c23
        by_cases c24 : 0 ≤ x6_1
        ·rw [if_pos c24] at H
         have c24b0 : decide (0 ≤ x6_1) = true := decide_eq_true c24
         clear c24
         replace H := Option.bind_eq_some_iff.mp H
         obtain ⟨t434, A250, H⟩ := H
         replace H : ((laws_sameFacts.f k1 t434 t426).bind fun t437 => (if t437 = true then (laws_FnMembers.l0 k1 t404 y423 t426 (wrap64 (x6_1 + 1))) else (some false))) = some r := H
         have A25 := Aside0.mk A250
         clear A250
         replace H := Option.bind_eq_some_iff.mp H
         obtain ⟨t437, A260, H⟩ := H
         replace H : (if t437 = true then (laws_FnMembers.l0 k1 t404 y423 t426 (wrap64 (x6_1 + 1))) else (some false)) = some r := H
         have A26 := Aside0.mk A260
         clear A260
         by_cases c27 : t437 = true
         ·subst c27
          have H1 : (laws_FnMembers.l0 k1 t404 y423 t426 (wrap64 (x6_1 + 1))) = some r := by rw [if_pos rfl] at H; exact H
          clear H
          have H := H1
          clear H1
          have H' := Aside0.mk H
          clear H
          have p433 : 0 ≤ (x6_1 : Int) := sqD
          have q433 : x6_1 < (t404.length : Int) := sqD
          obtain ⟨ad433, e433, hx433_0, hx433_1, hx433_2, hx433_3, hx433_4, hx433_5, hx433_6, hx433_7, hx433_8, hx433_9⟩ := at_T29 (Kd.R_reads' HO_3.out).2.2 x6_1 p433 q433
          cases e433
          replace p433 := eq_true p433
          replace q433 := eq_true q433
          go_wp2_with (first | ((with_reducible refine gate_callee (f := 15) rfl ?_); refine goesL_ (some 42) rfl rfl Try.func15 (by kernel_rfl) rfl #[.slice Ao21 t426.length co21, .agg #[.int .i64 ((rd_T29 t404 x6_1).f0), .int .i64 ((rd_T29 t404 x6_1).f1.f0), .int .i64 ((rd_T29 t404 x6_1).f1.f1), .int .i64 ((rd_T29 t404 x6_1).f2), .int .i64 ((rd_T29 t404 x6_1).f3.f0), .int .i64 ((rd_T29 t404 x6_1).f3.f1), .int .i64 ((rd_T29 t404 x6_1).f4.f0), .int .i64 ((rd_T29 t404 x6_1).f4.f1), .int .i64 ((rd_T29 t404 x6_1).f5), .int .i64 ((rd_T29 t404 x6_1).f6)]] rfl sqA ?_; (with_reducible refine (impl_Follows.calls k1 _ _ t426 ((rd_T29 t404 x6_1).f0) ((rd_T29 t404 x6_1).f1.f0) ((rd_T29 t404 x6_1).f1.f1) ((rd_T29 t404 x6_1).f2) ((rd_T29 t404 x6_1).f3.f0) ((rd_T29 t404 x6_1).f3.f1) ((rd_T29 t404 x6_1).f4.f0) ((rd_T29 t404 x6_1).f4.f1) ((rd_T29 t404 x6_1).f5) ((rd_T29 t404 x6_1).f6) t434 _ ?side1 ?side2 A25.out).mono ?_); (case side1 => repeat (first | exact (Kd.R_reads' HO_5.out).2.2 | (with_reducible refine Kd.C_alloc ?_ _) | (with_reducible refine Kd.C_drewN ?_ _) | (with_reducible refine Kd.C_drew ?_))); (case side2 => exact (Kd.R_reads' HO_5.out).2.1); rintro e w28 ⟨v435, rfl, ho0, hb⟩; refine ⟨_, rfl, ?_⟩; have n0_ := Aside0.mk (Kd.R_below (sqR HO_3) hb); have n1_ := Aside0.mk (Kd.R_below (sqR HO_4) hb); have n2_ := Aside0.mk (Kd.R_elder' (sqR HO_5) (Kd.R_base ho0) hb); have n3_ := Aside0.mk (Kd.R_lower (Kd.R_new' ho0 (Kd.R_lt (sqR HO_5))) (below_size (sqB))); have n4_ := sqS hb; clear HO_3; clear HO_4; clear HO_5; clear HB; have HO_3 := n0_; have HO_4 := n1_; have HO_5 := n2_; have HO436 := n3_; have HB := n4_; clear n0_ n1_ n2_ n3_ n4_; (try clear hb); (try clear hb2); (try clear hk); (try clear hi); (try clear ho0); obtain ⟨Ao29, co29, eo29⟩ := Kd.R_slice HO436.out; subst eo29) | ((with_reducible refine gate_callee (f := 13) rfl ?_); refine goesL_ (some 44) rfl rfl Try.func13 (by kernel_rfl) rfl #[.slice Ao29 t434.length co29, .slice Ao21 t426.length co21] rfl sqA ?_; (with_reducible refine (laws_sameFacts.calls k1 _ _ t434 _ _ t426 true _ ?side1 ?side2 ?side3 ?side4 A26.out).mono ?_); (case side1 => repeat (first | exact (Kd.R_reads' HO436.out).2.2 | (with_reducible refine Kd.C_alloc ?_ _) | (with_reducible refine Kd.C_drewN ?_ _) | (with_reducible refine Kd.C_drew ?_))); (case side2 => exact (Kd.R_reads' HO436.out).2.1); (case side3 => repeat (first | exact (Kd.R_reads' HO_5.out).2.2 | (with_reducible refine Kd.C_alloc ?_ _) | (with_reducible refine Kd.C_drewN ?_ _) | (with_reducible refine Kd.C_drew ?_))); (case side4 => exact (Kd.R_reads' HO_5.out).2.1); rintro e w' ⟨rfl, ⟨nd, rfl⟩⟩; refine ⟨_, rfl, ?_⟩))
          go_roundg k1
          case measure => have := HK1.out; omega
          case rel => exact ⟨(wrap64 (x6_1 + 1)), (by first | rfl | (simp; done) | (simp [*]; done)), H', ⟨by have := HK1.out; omega⟩, ⟨sqR HO_3⟩, ⟨sqR HO_4⟩, ⟨by (with_reducible repeat (first | apply Kd.R_alloc | apply Kd.R_drewN | apply Kd.R_drew)); exact Kd.R_mono HO_5.out (fun _ hk => trivial)⟩, ⟨sqB⟩⟩
         ·replace c27 := Bool.eq_false_iff.mpr c27
          subst c27
          have H1 : (some false) = some r := by rw [if_neg (show ¬ (false = true) by decide)] at H; exact H
          exact absurd ((Option.some.inj H1).trans HRT.out) (by decide)
        ·rw [if_neg c24] at H
         exact absurd H (by simp)
       ·rw [if_neg c23] at H
        have c23b0 : decide (x6_1 < (t404.length : Int)) = false := decide_eq_false c23
        clear c23
        have H' := Aside0.mk H
        clear H
        go_wp2
        go_loopg [7] k1 (fun kq v7 w' => ∃ (x7_2 : Int), v7 = .int .i64 x7_2 ∧ Aside0 (laws_FnMembers.l1 kq t404 y423 t426 x7_2 = some r) ∧ Aside0 (kq ≤ k1) ∧ Aside0 (Kd.R k29 29 w' w.heap.size (fun k_ => some k_ ≠ (v424 : Value).ownBlock) (.slice Ao16 t404.length co16) t404) ∧ Aside0 (Kd.R k29 29 w' w.heap.size (fun k_ => some k_ ≠ ((.slice Ao16 t404.length co16) : Value).ownBlock) v424 y423) ∧ Aside0 (Kd.R k36 36 w' w.heap.size (fun _ => True) (.slice Ao21 t426.length co21) t426) ∧ Aside0 (Below w.heap.size w w'))
        case atStart => exact ⟨(0), (by first | rfl | (simp; done) | (simp [*]; done)), H', ⟨Nat.le_refl _⟩, ⟨sqR HO_3⟩, ⟨sqR HO_4⟩, ⟨sqR HO_5⟩, ⟨sqB⟩⟩
        case round =>
         clear H'
         try clear c1
         try clear c2
         try clear p2
         try clear c3
         try clear p4
         try clear q4
         try clear hx4
         try clear c5
         try clear p6
         try clear c7
         try clear c9
         try clear c10
         try clear c11
         try clear c12
         try clear c13
         try clear c14
         try clear c15
         try clear c23
         try clear c23b0
         try clear c24
         try clear c24b0
         try clear c27
         try clear hx433_0
         try clear hx433_1
         try clear hx433_2
         try clear hx433_3
         try clear hx433_4
         try clear hx433_5
         try clear hx433_6
         try clear hx433_7
         try clear hx433_8
         try clear hx433_9
         try clear p2
         try clear p433
         try clear q433
         obtain ⟨x7_2, rfl, HA, HK2, HO_3, HO_4, HO_5, HB⟩ := hrel
         cases gk with
         | zero => exact absurd HA.out (by simp [laws_FnMembers.l1])
         | succ k2 =>
          have H := HA.out
          clear HA
          simp only [laws_FnMembers.l1] at H
          by_cases c32 : x7_2 < (t426.length : Int)
          ·rw [if_pos c32] at H
           have c32b0 : decide (x7_2 < (t426.length : Int)) = true := decide_eq_true c32
           clear c32
           by_cases c33 : 0 ≤ x7_2
           ·rw [if_pos c33] at H
            have c33b0 : decide (0 ≤ x7_2) = true := decide_eq_true c33
            clear c33
            replace H := Option.bind_eq_some_iff.mp H
            obtain ⟨t440, A340, H⟩ := H
            replace H : (if t440 = true then ((impl_IsMember.f k2 y423 ((rd_T36 t426 x7_2).f0.f0) ((rd_T36 t426 x7_2).f0.f1) ((rd_T36 t426 x7_2).f1)).bind fun t441 => (if t441 = true then (laws_FnMembers.l1 k2 t404 y423 t426 (wrap64 (x7_2 + 1))) else (some false))) else (some false)) = some r := H
            have A34 := Aside0.mk A340
            clear A340
            by_cases c35 : t440 = true
            ·subst c35
             have H1 : ((impl_IsMember.f k2 y423 ((rd_T36 t426 x7_2).f0.f0) ((rd_T36 t426 x7_2).f0.f1) ((rd_T36 t426 x7_2).f1)).bind fun t441 => (if t441 = true then (laws_FnMembers.l1 k2 t404 y423 t426 (wrap64 (x7_2 + 1))) else (some false))) = some r := by rw [if_pos rfl] at H; exact H
             clear H
             have H := H1
             clear H1
             replace H := Option.bind_eq_some_iff.mp H
             obtain ⟨t441, A360, H⟩ := H
             replace H : (if t441 = true then (laws_FnMembers.l1 k2 t404 y423 t426 (wrap64 (x7_2 + 1))) else (some false)) = some r := H
             have A36 := Aside0.mk A360
             clear A360
             by_cases c37 : t441 = true
             ·subst c37
              have H1 : (laws_FnMembers.l1 k2 t404 y423 t426 (wrap64 (x7_2 + 1))) = some r := by rw [if_pos rfl] at H; exact H
              clear H
              have H := H1
              clear H1
              have H' := Aside0.mk H
              clear H
              have p438 : 0 ≤ (x7_2 : Int) := sqD
              have q438 : x7_2 < (t426.length : Int) := sqD
              obtain ⟨ad438, e438, hx438_0, hx438_1, hx438_2⟩ := at_T36 (Kd.R_reads' HO_5.out).2.2 x7_2 p438 q438
              cases e438
              replace p438 := eq_true p438
              replace q438 := eq_true q438
              go_wp2_with (first | ((with_reducible refine gate_dst (N := 8) rfl ?_); refine sqX (N := 8) (cs := #[.int .i64 0, .int .i64 0, .int .i64 0]) (t := 36) ?_; intro gb439 hg w38 hbox hb; replace HO_3 := Aside0.mk (Kd.R_below (sqR HO_3) hb); replace HO_4 := Aside0.mk (Kd.R_below (sqR HO_4) hb); replace HO_5 := Aside0.mk (Kd.R_below (Kd.R_elderB (sqR HO_5) gb439 (Nat.le_of_eq hg.symm)) hb); have BK439 := Aside0.mk (hbox); have GW439 := sqG hg; have GE439 := sqG hg; replace HB := sqS hb; clear hb hbox hg; obtain ⟨hcz39_0, hcz39_1, hcz39_2, hfz39_0, hfz39_1, hfz39_2⟩ := sqC3 BK439) | ((with_reducible refine gate_callee (f := 16) rfl ?_); refine goesL_ (some 61) rfl rfl Try.func16 (by kernel_rfl) rfl #[.slice Ao16 t404.length co16, .agg #[.int .i64 ((rd_T36 t426 x7_2).f0.f0), .int .i64 ((rd_T36 t426 x7_2).f0.f1)], .int .i64 ((rd_T36 t426 x7_2).f1)] rfl sqA ?_; (with_reducible refine (impl_IsMember.calls k2 _ _ t404 ((rd_T36 t426 x7_2).f0.f0) ((rd_T36 t426 x7_2).f0.f1) ((rd_T36 t426 x7_2).f1) true _ ?side1 ?side2 A34.out).mono ?_); (case side1 => refine (Kd.R_reads' (e := 29) (base := w.heap.size) (ok := fun k_ => some k_ ≠ (v424 : Value).ownBlock) (n := t404.length) (c := co16) ?_).2.2; exact (by (with_reducible repeat (first | apply Kd.R_alloc | apply Kd.R_drewN | apply Kd.R_drew)); exact (Kd.R_mono (Kd.R_far (p := ⟨gb439, 2, none⟩) (Kd.R_far (p := ⟨gb439, 1, none⟩) (Kd.R_far (p := ⟨gb439, 0, none⟩) (Kd.R_types HO_3.out BK439.out (by decide)) (fun _ hk => hk.2) (.int .i64 ((rd_T36 t426 x7_2).f0.f0))) (fun _ hk => hk.2) (.int .i64 ((rd_T36 t426 x7_2).f0.f1))) (fun _ hk => hk.2) (.int .i64 ((rd_T36 t426 x7_2).f1))) (fun _ h_ => h_.1)))); (case side2 => exact (Kd.R_reads' HO_3.out).2.1); rintro e w40 ⟨rfl, hb⟩; refine ⟨_, rfl, ?_⟩; have n0_ := Aside0.mk (Kd.R_below (by (with_reducible repeat (first | apply Kd.R_alloc | apply Kd.R_drewN | apply Kd.R_drew)); exact (Kd.R_mono (Kd.R_far (p := ⟨gb439, 2, none⟩) (Kd.R_far (p := ⟨gb439, 1, none⟩) (Kd.R_far (p := ⟨gb439, 0, none⟩) (Kd.R_types HO_3.out BK439.out (by decide)) (fun _ hk => hk.2) (.int .i64 ((rd_T36 t426 x7_2).f0.f0))) (fun _ hk => hk.2) (.int .i64 ((rd_T36 t426 x7_2).f0.f1))) (fun _ hk => hk.2) (.int .i64 ((rd_T36 t426 x7_2).f1))) (fun _ h_ => h_.1))) hb); have n1_ := Aside0.mk (Kd.R_below (by (with_reducible repeat (first | apply Kd.R_alloc | apply Kd.R_drewN | apply Kd.R_drew)); exact (Kd.R_mono (Kd.R_far (p := ⟨gb439, 2, none⟩) (Kd.R_far (p := ⟨gb439, 1, none⟩) (Kd.R_far (p := ⟨gb439, 0, none⟩) (Kd.R_types HO_4.out BK439.out (by decide)) (fun _ hk => hk.2) (.int .i64 ((rd_T36 t426 x7_2).f0.f0))) (fun _ hk => hk.2) (.int .i64 ((rd_T36 t426 x7_2).f0.f1))) (fun _ hk => hk.2) (.int .i64 ((rd_T36 t426 x7_2).f1))) (fun _ h_ => h_.1))) hb); have n2_ := Aside0.mk (Kd.R_below (by (with_reducible repeat (first | apply Kd.R_alloc | apply Kd.R_drewN | apply Kd.R_drew)); exact (Kd.R_mono (Kd.R_far (p := ⟨gb439, 2, none⟩) (Kd.R_far (p := ⟨gb439, 1, none⟩) (Kd.R_far (p := ⟨gb439, 0, none⟩) (Kd.R_mono HO_5.out (fun k_ hk => (⟨hk, hk.2⟩ : _ ∧ k_ ≠ gb439))) (fun _ hk => hk.2) (.int .i64 ((rd_T36 t426 x7_2).f0.f0))) (fun _ hk => hk.2) (.int .i64 ((rd_T36 t426 x7_2).f0.f1))) (fun _ hk => hk.2) (.int .i64 ((rd_T36 t426 x7_2).f1))) (fun _ h_ => h_.1))) hb); have n3_ := Aside0.mk (blk_below (g := gb439) (o := .cells #[.int .i64 ((rd_T36 t426 x7_2).f0.f0), .int .i64 ((rd_T36 t426 x7_2).f0.f1), .int .i64 ((rd_T36 t426 x7_2).f1)] 36 (0, 0)) (by (with_reducible repeat (first | refine blk_drewN ?_ _ | refine blk_drew ?_ | refine blk_alloc ?_ _)); refine blk_put (cs := #[.int .i64 ((rd_T36 t426 x7_2).f0.f0), .int .i64 ((rd_T36 t426 x7_2).f0.f1), .int .i64 0]) ?_ 2 _ rfl; (with_reducible repeat (first | refine blk_drewN ?_ _ | refine blk_drew ?_ | refine blk_alloc ?_ _)); refine blk_put (cs := #[.int .i64 ((rd_T36 t426 x7_2).f0.f0), .int .i64 0, .int .i64 0]) ?_ 1 _ rfl; (with_reducible repeat (first | refine blk_drewN ?_ _ | refine blk_drew ?_ | refine blk_alloc ?_ _)); refine blk_put (cs := #[.int .i64 0, .int .i64 0, .int .i64 0]) ?_ 0 _ rfl; (with_reducible repeat (first | refine blk_drewN ?_ _ | refine blk_drew ?_ | refine blk_alloc ?_ _)); exact BK439.out) hb); have n4_ := sqS hb; clear HO_3; clear HO_4; clear HO_5; clear BK439; clear HB; have HO_3 := n0_; have HO_4 := n1_; have HO_5 := n2_; have BK439 := n3_; have HB := n4_; clear n0_ n1_ n2_ n3_ n4_; (try clear hb); (try clear hb2); (try clear hk); (try clear hi); obtain ⟨hcz41_0, hcz41_1, hcz41_2, hfz41_0, hfz41_1, hfz41_2⟩ := sqC3 BK439; obtain ⟨Ao42, co42, eo42⟩ := Kd.R_slice HO_4.out; subst eo42) | (go_at_call 16; (with_reducible refine (impl_IsMember.calls k2 _ _ y423 ((rd_T36 t426 x7_2).f0.f0) ((rd_T36 t426 x7_2).f0.f1) ((rd_T36 t426 x7_2).f1) true _ ?side1 ?side2 A36.out).mono ?_); (case side1 => repeat (first | exact (Kd.R_reads' HO_4.out).2.2 | (with_reducible refine Kd.C_alloc ?_ _) | (with_reducible refine Kd.C_drewN ?_ _) | (with_reducible refine Kd.C_drew ?_))); (case side2 => exact (Kd.R_reads' HO_4.out).2.1); rintro e w43 ⟨rfl, hb⟩; replace HO_3 := Aside0.mk (Kd.R_below (sqR HO_3) hb); replace HO_4 := Aside0.mk (Kd.R_below (sqR HO_4) hb); replace HO_5 := Aside0.mk (Kd.R_below (sqR HO_5) hb); replace BK439 := sqL BK439 hb; replace HB := sqS hb; (try clear hb); (try clear hb2); (try clear hk); (try clear hi)))
              go_roundg k2
              case measure => have := HK1.out; have := HK2.out; omega
              case rel => exact ⟨(wrap64 (x7_2 + 1)), (by first | rfl | (simp; done) | (simp [*]; done)), H', ⟨by have := HK1.out; have := HK2.out; omega⟩, ⟨sqR HO_3⟩, ⟨sqR HO_4⟩, ⟨by (with_reducible repeat (first | apply Kd.R_alloc | apply Kd.R_drewN | apply Kd.R_drew)); exact Kd.R_mono HO_5.out (fun _ hk => trivial)⟩, ⟨sqB⟩⟩
             ·replace c37 := Bool.eq_false_iff.mpr c37
              subst c37
              have H1 : (some false) = some r := by rw [if_neg (show ¬ (false = true) by decide)] at H; exact H
              exact absurd ((Option.some.inj H1).trans HRT.out) (by decide)
            ·replace c35 := Bool.eq_false_iff.mpr c35
             subst c35
             have H1 : (some false) = some r := by rw [if_neg (show ¬ (false = true) by decide)] at H; exact H
             exact absurd ((Option.some.inj H1).trans HRT.out) (by decide)
           ·rw [if_neg c33] at H
            exact absurd H (by simp)
          ·rw [if_neg c32] at H
           have c32b0 : decide (x7_2 < (t426.length : Int)) = false := decide_eq_false c32
           clear c32
           have H' := Aside0.mk H
           clear H
           go_wp2
           go_loopg [9, 10] k2 (fun kq v9 v10 w' => ∃ (x9_3 : Int) (x10_3 : Int), v9 = .int .i64 x9_3 ∧ v10 = .int .i64 x10_3 ∧ Aside0 (laws_FnMembers.l2 kq t404 t426 x9_3 x10_3 = some r) ∧ Aside0 (kq ≤ k2) ∧ Aside0 (Kd.R k29 29 w' w.heap.size (fun _ => True) (.slice Ao16 t404.length co16) t404) ∧ Aside0 (Kd.R k36 36 w' w.heap.size (fun _ => True) (.slice Ao21 t426.length co21) t426) ∧ Aside0 (Below w.heap.size w w'))
           case atStart => exact ⟨(0), (0), (by first | rfl | (simp; done) | (simp [*]; done)), (by first | rfl | (simp; done) | (simp [*]; done)), H', ⟨Nat.le_refl _⟩, ⟨by (with_reducible repeat (first | apply Kd.R_alloc | apply Kd.R_drewN | apply Kd.R_drew)); exact Kd.R_mono HO_3.out (fun _ hk => trivial)⟩, ⟨sqR HO_5⟩, ⟨sqB⟩⟩
           case round =>
            clear H'
            try clear c1
            try clear c2
            try clear p2
            try clear c3
            try clear p4
            try clear q4
            try clear hx4
            try clear c5
            try clear p6
            try clear c7
            try clear c9
            try clear c10
            try clear c11
            try clear c12
            try clear c13
            try clear c14
            try clear c15
            try clear c16
            try clear c23
            try clear c23b0
            try clear c24
            try clear c24b0
            try clear c27
            try clear c32
            try clear c32b0
            try clear c33
            try clear c33b0
            try clear c35
            try clear c37
            try clear p43
            try clear q43
            try clear hx43
            try clear hcz39_0 hcz39_1 hcz39_2
            try clear hcz41_0 hcz41_1 hcz41_2
            try clear hcz45_0 hcz45_1 hcz45_2
            try clear hcz47_0 hcz47_1 hcz47_2
            try clear hcz51_0 hcz51_1 hcz51_2
            try clear hfz39_0
            try clear hfz39_1
            try clear hfz39_2
            try clear hfz41_0
            try clear hfz41_1
            try clear hfz41_2
            try clear hfz45_0
            try clear hfz45_1
            try clear hfz45_2
            try clear hfz47_0
            try clear hfz47_1
            try clear hfz47_2
            try clear hfz51_0
            try clear hfz51_1
            try clear hfz51_2
            try clear hx433_0
            try clear hx433_1
            try clear hx433_2
            try clear hx433_3
            try clear hx433_4
            try clear hx433_5
            try clear hx433_6
            try clear hx433_7
            try clear hx433_8
            try clear hx433_9
            try clear hx438_0
            try clear hx438_1
            try clear hx438_2
            try clear p2
            try clear p4
            try clear p433
            try clear p438
            try clear p6
            try clear q4
            try clear q433
            try clear q438
            obtain ⟨x9_3, x10_3, rfl, rfl, HA, HK3, HO_3, HO_5, HB⟩ := hrel
            cases gk with
            | zero => exact absurd HA.out (by simp [laws_FnMembers.l2])
            | succ k3 =>
             have H := HA.out
             clear HA
             simp only [laws_FnMembers.l2] at H
             by_cases c53 : x10_3 < 6
             ·rw [if_pos c53] at H
              have c53b0 : decide (x10_3 < 6) = true := decide_eq_true c53
              clear c53
              replace H := Option.bind_eq_some_iff.mp H
              obtain ⟨t442, A540, H⟩ := H
              replace H : (laws_FnMembers.l2 k3 t404 t426 (wrap64 (x9_3 + (t442.length : Int))) (wrap64 (x10_3 + 1))) = some r := H
              have A54 := Aside0.mk A540
              clear A540
              have H' := Aside0.mk H
              clear H
              go_wp2_with (first | ((with_reducible refine gate_callee (f := 17) rfl ?_); refine goesL_ (some 79) rfl rfl Try.func17 (by kernel_rfl) rfl #[.slice Ao16 t404.length co16, .int .i64 x10_3] rfl sqA ?_; (with_reducible refine (impl_RolesOf.calls k3 _ _ t404 x10_3 t442 _ ?side1 ?side2 A54.out).mono ?_); (case side1 => repeat (first | exact (Kd.R_reads' HO_3.out).2.2 | (with_reducible refine Kd.C_alloc ?_ _) | (with_reducible refine Kd.C_drewN ?_ _) | (with_reducible refine Kd.C_drew ?_))); (case side2 => exact (Kd.R_reads' HO_3.out).2.1); rintro e w55 ⟨v443, rfl, ho0, hb⟩; refine ⟨_, rfl, ?_⟩; replace HO_3 := Aside0.mk (Kd.R_below (sqR HO_3) hb); replace HO_5 := Aside0.mk (Kd.R_below (sqR HO_5) hb); have HO444 := Aside0.mk (Kd.R_lower ho0 (below_size (sqB))); replace HB := sqS hb; (try clear hb); (try clear hb2); (try clear hk); (try clear hi); (try clear ho0); obtain ⟨Ao56, co56, eo56⟩ := Kd.R_slice HO444.out; subst eo56))
              go_roundg k3
              case measure => have := HK1.out; have := HK2.out; have := HK3.out; omega
              case rel => exact ⟨(wrap64 (x9_3 + (t442.length : Int))), (wrap64 (x10_3 + 1)), (by first | rfl | (simp; done) | (simp [*]; done)), (by first | rfl | (simp; done) | (simp [*]; done)), H', ⟨by have := HK1.out; have := HK2.out; have := HK3.out; omega⟩, ⟨sqR HO_3⟩, ⟨sqR HO_5⟩, ⟨sqB⟩⟩
             ·rw [if_neg c53] at H
              have c53b0 : decide (x10_3 < 6) = false := decide_eq_false c53
              clear c53
              have H' := Aside0.mk H
              clear H
              go_wp2
              go_loopg [11, 12] k3 (fun kq v11 v12 w' => ∃ (x11_4 : Int) (x12_4 : Int), v11 = .int .i64 x11_4 ∧ v12 = .int .i64 x12_4 ∧ Aside0 (laws_FnMembers.l3 kq t404 t426 x9_3 x11_4 x12_4 = some r) ∧ Aside0 (kq ≤ k3) ∧ Aside0 (Kd.R k29 29 w' w.heap.size (fun _ => True) (.slice Ao16 t404.length co16) t404) ∧ Aside0 (Kd.R k36 36 w' w.heap.size (fun _ => True) (.slice Ao21 t426.length co21) t426) ∧ Aside0 (Below w.heap.size w w'))
              case atStart => exact ⟨(0), (0), (by first | rfl | (simp; done) | (simp [*]; done)), (by first | rfl | (simp; done) | (simp [*]; done)), H', ⟨Nat.le_refl _⟩, ⟨sqR HO_3⟩, ⟨sqR HO_5⟩, ⟨sqB⟩⟩
              case round =>
               clear H'
               try clear c1
               try clear c2
               try clear p2
               try clear c3
               try clear p4
               try clear q4
               try clear hx4
               try clear c5
               try clear p6
               try clear c7
               try clear c9
               try clear c10
               try clear c11
               try clear c12
               try clear c13
               try clear c14
               try clear c15
               try clear c16
               try clear c17
               try clear c23
               try clear c23b0
               try clear c24
               try clear c24b0
               try clear c27
               try clear c32
               try clear c32b0
               try clear c33
               try clear c33b0
               try clear c35
               try clear c37
               try clear p43
               try clear q43
               try clear hx43
               try clear c53
               try clear c53b0
               try clear hcz39_0 hcz39_1 hcz39_2
               try clear hcz41_0 hcz41_1 hcz41_2
               try clear hcz45_0 hcz45_1 hcz45_2
               try clear hcz47_0 hcz47_1 hcz47_2
               try clear hcz51_0 hcz51_1 hcz51_2
               try clear hfz39_0
               try clear hfz39_1
               try clear hfz39_2
               try clear hfz41_0
               try clear hfz41_1
               try clear hfz41_2
               try clear hfz45_0
               try clear hfz45_1
               try clear hfz45_2
               try clear hfz47_0
               try clear hfz47_1
               try clear hfz47_2
               try clear hfz51_0
               try clear hfz51_1
               try clear hfz51_2
               try clear hx433_0
               try clear hx433_1
               try clear hx433_2
               try clear hx433_3
               try clear hx433_4
               try clear hx433_5
               try clear hx433_6
               try clear hx433_7
               try clear hx433_8
               try clear hx433_9
               try clear hx438_0
               try clear hx438_1
               try clear hx438_2
               try clear p2
               try clear p4
               try clear p43
               try clear p433
               try clear p438
               try clear p6
               try clear q4
               try clear q43
               try clear q433
               try clear q438
               obtain ⟨x11_4, x12_4, rfl, rfl, HA, HK4, HO_3, HO_5, HB⟩ := hrel
               cases gk with
               | zero => exact absurd HA.out (by simp [laws_FnMembers.l3])
               | succ k4 =>
                have H := HA.out
                clear HA
                simp only [laws_FnMembers.l3] at H
                by_cases c57 : x12_4 < 24
                ·rw [if_pos c57] at H
                 have c57b0 : decide (x12_4 < 24) = true := decide_eq_true c57
                 clear c57
                 replace H := Option.bind_eq_some_iff.mp H
                 obtain ⟨t445, A580, H⟩ := H
                 replace H : (laws_FnMembers.l3 k4 t404 t426 x9_3 (wrap64 (x11_4 + (t445.length : Int))) (wrap64 (x12_4 + 1))) = some r := H
                 have A58 := Aside0.mk A580
                 clear A580
                 have H' := Aside0.mk H
                 clear H
                 go_wp2_with (first | ((with_reducible refine gate_callee (f := 18) rfl ?_); refine goesL_ (some 93) rfl rfl Try.func18 (by kernel_rfl) rfl #[.slice Ao16 t404.length co16, .agg #[.int .i64 (wrap64 (Int.tdiv x12_4 4)), .int .i64 (Int.tmod x12_4 4)]] rfl sqA ?_; (with_reducible refine (impl_MembersOf.calls k4 _ _ t404 (wrap64 (Int.tdiv x12_4 4)) (Int.tmod x12_4 4) t445 _ ?side1 ?side2 A58.out).mono ?_); (case side1 => repeat (first | exact (Kd.R_reads' HO_3.out).2.2 | (with_reducible refine Kd.C_alloc ?_ _) | (with_reducible refine Kd.C_drewN ?_ _) | (with_reducible refine Kd.C_drew ?_))); (case side2 => exact (Kd.R_reads' HO_3.out).2.1); rintro e w59 ⟨v446, rfl, ho0, hb⟩; refine ⟨_, rfl, ?_⟩; replace HO_3 := Aside0.mk (Kd.R_below (sqR HO_3) hb); replace HO_5 := Aside0.mk (Kd.R_below (sqR HO_5) hb); have HO447 := Aside0.mk (Kd.R_lower ho0 (below_size (sqB))); replace HB := sqS hb; (try clear hb); (try clear hb2); (try clear hk); (try clear hi); (try clear ho0); obtain ⟨Ao60, co60, eo60⟩ := Kd.R_slice HO447.out; subst eo60))
                 go_roundg k4
                 case measure => have := HK1.out; have := HK2.out; have := HK3.out; have := HK4.out; omega
                 case rel => exact ⟨(wrap64 (x11_4 + (t445.length : Int))), (wrap64 (x12_4 + 1)), (by first | rfl | (simp; done) | (simp [*]; done)), (by first | rfl | (simp; done) | (simp [*]; done)), H', ⟨by have := HK1.out; have := HK2.out; have := HK3.out; have := HK4.out; omega⟩, ⟨sqR HO_3⟩, ⟨sqR HO_5⟩, ⟨sqB⟩⟩
                ·rw [if_neg c57] at H
                 have c57b0 : decide (x12_4 < 24) = false := decide_eq_false c57
                 clear c57
                 by_cases c61 : x9_3 = (t426.length : Int)
                 ·rw [if_pos c61] at H
                  have c61b0 : (x9_3 == (t426.length : Int)) = true := beq_iff_eq.mpr c61
                  have c61b1 : (x9_3 != (t426.length : Int)) = false := bne_eq_false_iff_eq.mpr c61
                  clear c61
                  obtain rfl := Option.some.inj H
                  go_wp2
                  go_ret
                  exact ⟨sqE, sqB⟩
                 ·rw [if_neg c61] at H
                  have c61b0 : (x9_3 == (t426.length : Int)) = false := beq_eq_false_iff_ne.mpr c61
                  have c61b1 : (x9_3 != (t426.length : Int)) = true := bne_iff_ne.mpr c61
                  obtain rfl := Option.some.inj H
                  go_wp2
                  go_ret
                  exact ⟨sqE, sqB⟩
    ·replace c11 := Bool.eq_false_iff.mpr c11
     subst c11
     have H1 : (some false) = some r := by rw [if_neg (show ¬ (false = true) by decide)] at H; exact H
     exact absurd ((Option.some.inj H1).trans HRT.out) (by decide)
   ·rw [if_neg c7] at H
    exact absurd H (by simp)
  ·rw [if_neg c5] at H
   exact absurd H (by simp)

/-- THE ONE PURE STATEMENT of laws_FnMembers: yours. -/
def laws_FnMembers.Pure : Prop := ∀ (l0 : List Int), l0.length ≤ maxLen → l0.length * 1 ≤ 140737488351232 → (∀ x ∈ l0, (Lit.int .u8 x).wf = true) → ∃ k, laws_FnMembers.f k l0 = some true
theorem laws_FnMembers.walk (P : laws_FnMembers.Pure) (a0 : Option Addr) (len0 cap0 : Nat) (z0 : List Int) (w : World) (w0 : (a0 = none ∧ len0 = 0 ∧ cap0 = 0 ∧ z0 = []) ∨ ∃ x, a0 = some x ∧ len0 ≤ cap0 ∧ cap0 ≤ maxLen ∧ z0.length = cap0 ∧ (∀ i, i < z0.length → w.cell? (x.add i) = some (.int .u8 (z0.getD i 0))) ∧ ∀ n ∈ z0, (Lit.int .u8 n).wf = true) (y0 : len0 * 1 ≤ 140737488351232) :
  Calls Try.prog 3 #[.slice a0 len0 cap0] w fun e w' => e = .returned (.bool true) ∧ Below w.heap.size w w' := by
 obtain ⟨l0, rfl, hr0, hm0, hw0, hc0⟩ := ReadsInt.ofRowC w0
 obtain ⟨k, h⟩ := P l0 hm0 y0 hw0
 refine (laws_FnMembers.calls k _ _ l0 true w (Kd.C_of_reads (d := (0 : Int)) (h1 := fun _ => rfl) hr0) hc0 h rfl).mono ?_
 rintro e w' ⟨rfl, hd⟩
 exact ⟨rfl, hd⟩

end Go.Proofs.Ytnebbjcgkoaloaa.PFnMembers
