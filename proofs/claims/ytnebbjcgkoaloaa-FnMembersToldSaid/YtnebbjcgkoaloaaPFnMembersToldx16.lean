/- What the code that one law of the given program reaches computes, function by function, each with its proof over the given translation.
Conditions: none of our own. (Laid by a program of this session, wip/xp/xp.py; some contracts are typed by hand.) -/
import Derived.Test.YtnebbjcgkoaloaaPFnMembersToldx0
import Derived.Test.YtnebbjcgkoaloaaPFnMembersToldx1
import Derived.Test.YtnebbjcgkoaloaaPFnMembersToldx4
import Derived.Test.YtnebbjcgkoaloaaPFnMembersToldx6
import Derived.Test.YtnebbjcgkoaloaaPFnMembersToldx8
import Derived.Test.YtnebbjcgkoaloaaPFnMembersToldx9
import Derived.Test.YtnebbjcgkoaloaaPFnMembersToldx10
import Derived.Test.YtnebbjcgkoaloaaPFnMembersToldx12
import Derived.Test.YtnebbjcgkoaloaaPFnMembersToldx13
import Derived.Test.YtnebbjcgkoaloaaPFnMembersToldx14
import Derived.Test.YtnebbjcgkoaloaaPFnMembersToldx15
namespace Go.Proofs.Ytnebbjcgkoaloaa.PFnMembersTold
open Go.RowKit Go.Proofs.YtnebbjcgkoaloaaW.PrintWords Go.Proofs.YtnebbjcgkoaloaaW.PrintLast Go.Proofs.YtnebbjcgkoaloaaW.PrintMore
attribute [local go_sem] max2_int min2_int max_two min_two max_three min_three max_four min_four   -- for this text's walks alone
set_option linter.unusedVariables false
set_option linter.unusedSimpArgs false

attribute [local go_sem high] eqA27
/-! ### laws_FnMembersTold: function 8 -/
def laws_FnMembersTold.l0 : Nat → List (S36) → List (S29) → List (S29) → Int → List (S29) → Int → List (S27) → List (S27) → Int → Int → Int → Int → Int → Int → Int → Int → Int → Int → Int → Int → Int → Option (Bool)
 | 0, _, _, _, _, _, _, _, _, _, _, _, _, _, _, _, _, _, _, _, _, _ => none
 | k + 1, x3, x5, x6, x8, x9, x10, x11, x12, x13, x581000, x581001, x581002, x581003, x581004, x581005, x581006, x581007, x581008, x581009, x591000, x591001 => if x13 < (x11.length : Int) then (if (x11.length : Int) = (x12.length : Int) then (if 0 ≤ x13 then (if x13 < (x12.length : Int) then (if (!(((rd_T27 x11 x13).f0) == ((rd_T27 x12 x13).f0)) || (!(((rd_T27 x11 x13).f1) == ((rd_T27 x12 x13).f1)))) = true then (some false) else (laws_FnMembersTold.l0 k x3 x5 x6 x8 x9 x10 x11 x12 (wrap64 (x13 + 1)) x581000 x581001 x581002 x581003 x581004 x581005 x581006 x581007 x581008 x581009 x591000 x591001)) else (none)) else (none)) else (some false)) else ((impl_Follows.f k x3 x581000 x581001 x581002 x581003 x581004 x581005 x581006 x581007 x581008 x581009).bind fun t603 => ((spec_Follows.f k x3 x581000 x581001 x581002 x581003 x581004 x581005 x581006 x581007 x581008 x581009).bind fun t606 => ((laws_sameFacts.f k t603 t606).bind fun t609 => (if t609 = true then ((impl_FactsOf.f k x5).bind fun t610 => ((spec_FactsOf.f k x5).bind fun t613 => ((laws_sameFacts.f k t610 t613).bind fun t616 => (if t616 = true then ((impl_IsMember.f k x6 x591000 x591001 x8).bind fun t617 => ((spec_IsMember.f k x6 x591000 x591001 x8).bind fun t618 => (if (t617 == t618) = true then ((impl_MembersOf.f k x6 x591000 x591001).bind fun t619 => ((spec_MembersOf.f k x6 x591000 x591001).bind fun t622 => ((laws_sameInts.f k t619 t622).bind fun t625 => (if t625 = true then (if (x11.length : Int) = (x12.length : Int) then ((impl_Alive.f k x9 x10).bind fun t626 => ((spec_Alive.f k x9 x10).bind fun t629 => ((laws_sameCreds.f k t626 t629).bind fun t632 => (some t632)))) else (some false)) else (some false))))) else (some false)))) else (some false))))) else (some false)))))
def laws_FnMembersTold.f (k : Nat) (l0 : List Int) : Option (Bool) := (laws_big.f l0).bind fun t566 => (if t566 = true then (some true) else ((spec_DrawFollows.f k l0).bind fun bt567 => ((spec_DrawFactsOf.f k l0).bind fun t581 => ((spec_DrawIsMember.f k l0).bind fun bt584 => ((spec_DrawAlive.f k l0).bind fun bt591 => ((impl_RolesOf.f k bt584.1 bt584.2.2.2).bind fun t595 => ((spec_RolesOf.f k bt584.1 bt584.2.2.2).bind fun t598 => (laws_FnMembersTold.l0 k bt567.1 t581 bt584.1 bt584.2.2.2 bt591.1 bt591.2 t595 t598 0 bt567.2.1 bt567.2.2.1 bt567.2.2.2.1 bt567.2.2.2.2.1 bt567.2.2.2.2.2.1 bt567.2.2.2.2.2.2.1 bt567.2.2.2.2.2.2.2.1 bt567.2.2.2.2.2.2.2.2.1 bt567.2.2.2.2.2.2.2.2.2.1 bt567.2.2.2.2.2.2.2.2.2.2 bt584.2.1 bt584.2.2.1))))))))
theorem laws_FnMembersTold.mono_l : ∀ k, (∀ y0 y1 y2 y3 y4 y5 y6 y7 y8 y9 y10 y11 y12 y13 y14 y15 y16 y17 y18 y19 y20, LeO (laws_FnMembersTold.l0 k y0 y1 y2 y3 y4 y5 y6 y7 y8 y9 y10 y11 y12 y13 y14 y15 y16 y17 y18 y19 y20) (laws_FnMembersTold.l0 (k + 1) y0 y1 y2 y3 y4 y5 y6 y7 y8 y9 y10 y11 y12 y13 y14 y15 y16 y17 y18 y19 y20))
 | 0 => fun _ _ _ _ _ _ _ _ _ _ _ _ _ _ _ _ _ _ _ _ _ r h => by simp [laws_FnMembersTold.l0] at h
 | k + 1 => by
  have ih0 := laws_FnMembersTold.mono_l k
  ·intro y0 y1 y2 y3 y4 y5 y6 y7 y8 y9 y10 y11 y12 y13 y14 y15 y16 y17 y18 y19 y20
   unfold laws_FnMembersTold.l0
   repeat' first
   | (with_reducible exact ih0 _ _ _ _ _ _ _ _ _ _ _ _ _ _ _ _ _ _ _ _ _)
   | (with_reducible exact impl_Alive.mono _ _ _)
   | (with_reducible exact impl_FactsOf.mono _ _)
   | (with_reducible exact impl_Follows.mono _ _ _ _ _ _ _ _ _ _ _ _)
   | (with_reducible exact impl_IsMember.mono _ _ _ _ _)
   | (with_reducible exact impl_MembersOf.mono _ _ _ _)
   | (with_reducible exact impl_RolesOf.mono _ _ _)
   | (with_reducible exact laws_sameCreds.mono _ _ _)
   | (with_reducible exact laws_sameFacts.mono _ _ _)
   | (with_reducible exact laws_sameInts.mono _ _ _)
   | (with_reducible exact spec_Alive.mono _ _ _)
   | (with_reducible exact spec_DrawAlive.mono _ _)
   | (with_reducible exact spec_DrawFactsOf.mono _ _)
   | (with_reducible exact spec_DrawFollows.mono _ _)
   | (with_reducible exact spec_DrawIsMember.mono _ _)
   | (with_reducible exact spec_FactsOf.mono _ _)
   | (with_reducible exact spec_Follows.mono _ _ _ _ _ _ _ _ _ _ _ _)
   | (with_reducible exact spec_IsMember.mono _ _ _ _ _)
   | (with_reducible exact spec_MembersOf.mono _ _ _ _)
   | (with_reducible exact spec_RolesOf.mono _ _ _)
   | (with_reducible exact LeO.refl _)
   | (with_reducible exact LeO.none _)
   | (with_reducible refine LeO.ite ?_ ?_)
   | (with_reducible refine LeO.bind ?_ (fun _ => ?_))
   | exact ih0 _ _ _ _ _ _ _ _ _ _ _ _ _ _ _ _ _ _ _ _ _
   | exact impl_Alive.mono _ _ _
   | exact impl_FactsOf.mono _ _
   | exact impl_Follows.mono _ _ _ _ _ _ _ _ _ _ _ _
   | exact impl_IsMember.mono _ _ _ _ _
   | exact impl_MembersOf.mono _ _ _ _
   | exact impl_RolesOf.mono _ _ _
   | exact laws_sameCreds.mono _ _ _
   | exact laws_sameFacts.mono _ _ _
   | exact laws_sameInts.mono _ _ _
   | exact spec_Alive.mono _ _ _
   | exact spec_DrawAlive.mono _ _
   | exact spec_DrawFactsOf.mono _ _
   | exact spec_DrawFollows.mono _ _
   | exact spec_DrawIsMember.mono _ _
   | exact spec_FactsOf.mono _ _
   | exact spec_Follows.mono _ _ _ _ _ _ _ _ _ _ _ _
   | exact spec_IsMember.mono _ _ _ _ _
   | exact spec_MembersOf.mono _ _ _ _
   | exact spec_RolesOf.mono _ _ _
   | exact LeO.none _
   | refine LeO.ite ?_ ?_
   | refine LeO.bind ?_ (fun _ => ?_)
theorem laws_FnMembersTold.mono : ∀ a0 k, LeO (laws_FnMembersTold.f k a0) (laws_FnMembersTold.f (k + 1) a0) := by
 intro a0 k
 have ih0 := laws_FnMembersTold.mono_l k
 unfold laws_FnMembersTold.f
 repeat' first
   | (with_reducible exact ih0 _ _ _ _ _ _ _ _ _ _ _ _ _ _ _ _ _ _ _ _ _)
   | (with_reducible exact impl_Alive.mono _ _ _)
   | (with_reducible exact impl_FactsOf.mono _ _)
   | (with_reducible exact impl_Follows.mono _ _ _ _ _ _ _ _ _ _ _ _)
   | (with_reducible exact impl_IsMember.mono _ _ _ _ _)
   | (with_reducible exact impl_MembersOf.mono _ _ _ _)
   | (with_reducible exact impl_RolesOf.mono _ _ _)
   | (with_reducible exact laws_sameCreds.mono _ _ _)
   | (with_reducible exact laws_sameFacts.mono _ _ _)
   | (with_reducible exact laws_sameInts.mono _ _ _)
   | (with_reducible exact spec_Alive.mono _ _ _)
   | (with_reducible exact spec_DrawAlive.mono _ _)
   | (with_reducible exact spec_DrawFactsOf.mono _ _)
   | (with_reducible exact spec_DrawFollows.mono _ _)
   | (with_reducible exact spec_DrawIsMember.mono _ _)
   | (with_reducible exact spec_FactsOf.mono _ _)
   | (with_reducible exact spec_Follows.mono _ _ _ _ _ _ _ _ _ _ _ _)
   | (with_reducible exact spec_IsMember.mono _ _ _ _ _)
   | (with_reducible exact spec_MembersOf.mono _ _ _ _)
   | (with_reducible exact spec_RolesOf.mono _ _ _)
   | (with_reducible exact LeO.refl _)
   | (with_reducible exact LeO.none _)
   | (with_reducible refine LeO.ite ?_ ?_)
   | (with_reducible refine LeO.bind ?_ (fun _ => ?_))
   | exact ih0 _ _ _ _ _ _ _ _ _ _ _ _ _ _ _ _ _ _ _ _ _
   | exact impl_Alive.mono _ _ _
   | exact impl_FactsOf.mono _ _
   | exact impl_Follows.mono _ _ _ _ _ _ _ _ _ _ _ _
   | exact impl_IsMember.mono _ _ _ _ _
   | exact impl_MembersOf.mono _ _ _ _
   | exact impl_RolesOf.mono _ _ _
   | exact laws_sameCreds.mono _ _ _
   | exact laws_sameFacts.mono _ _ _
   | exact laws_sameInts.mono _ _ _
   | exact spec_Alive.mono _ _ _
   | exact spec_DrawAlive.mono _ _
   | exact spec_DrawFactsOf.mono _ _
   | exact spec_DrawFollows.mono _ _
   | exact spec_DrawIsMember.mono _ _
   | exact spec_FactsOf.mono _ _
   | exact spec_Follows.mono _ _ _ _ _ _ _ _ _ _ _ _
   | exact spec_IsMember.mono _ _ _ _ _
   | exact spec_MembersOf.mono _ _ _ _
   | exact spec_RolesOf.mono _ _ _
   | exact LeO.none _
   | refine LeO.ite ?_ ?_
   | refine LeO.bind ?_ (fun _ => ?_)
def laws_FnMembersTold.T12 : Bool × List (List Nat × List Nat) := (true, [([], []), ([0], [0]), ([], []), ([2], [2]), ([1, 3], [1, 3]), ([4], [4]), ([5], [5]), ([5], [5]), ([6, 7, 5], [5, 6, 7]), ([8, 5], [5, 8]), ([5], [5]), ([5], [5]), ([10, 11, 5], [5, 10, 11]), ([12, 5], [5, 12]), ([9, 13, 5], [5, 9, 13]), ([5, 14], [5, 14])])
def laws_FnMembersTold.B12 : List Nat := [0, 1, 0, 4, 15, 31, 63, 63, 255, 511, 63, 63, 3135, 7231, 16383, 32767]
theorem laws_FnMembersTold.tab12 : rtab .any (opsOf Try.f8 12) = laws_FnMembersTold.T12 := by kernel_rfl
theorem laws_FnMembersTold.bits12 : waitsOk laws_FnMembersTold.T12.2 laws_FnMembersTold.B12 = true := by kernel_rfl
def laws_FnMembersTold.T14 : Bool × List (List Nat × List Nat) := (true, [([], []), ([], []), ([0, 1], [0, 1]), ([], []), ([], []), ([3, 4, 2], [3, 4]), ([2, 5, 5], [2, 5]), ([6, 6], [6]), ([7], [7]), ([8, 7, 7], [7, 8]), ([7], [7]), ([10, 9, 7], [7, 10]), ([9, 11, 11, 7], [7, 9, 11]), ([7, 12], [7, 12]), ([13, 12], [13]), ([14], [14]), ([14], [14]), ([14], [14]), ([15, 16, 17, 14, 14], [14, 15, 16, 17]), ([14], [14]), ([14], [14]), ([14], [14]), ([19, 20, 21, 18, 14], [14, 19, 20, 21]), ([18, 22, 14], [14, 18, 22]), ([14, 23], [14, 23]), ([24, 22], [24]), ([25], [25]), ([25], [25]), ([26, 27, 25, 25], [25, 26, 27]), ([25], [25]), ([25], [25]), ([29, 30, 28, 25], [25, 29, 30]), ([28, 31, 31, 25], [25, 28, 31]), ([25, 32], [25, 32]), ([33, 32], [33]), ([34], [34]), ([35, 34], [34, 35]), ([34], [34]), ([37, 34], [34, 37]), ([36, 38, 34], [34, 36, 38]), ([34, 39], [34, 39]), ([40, 34], [40]), ([41], [41]), ([41], [41]), ([42, 43, 41, 41], [41, 42, 43]), ([41], [41]), ([41], [41]), ([45, 46, 44, 41], [41, 45, 46]), ([44, 47, 47, 41], [41, 44, 47]), ([41, 48], [41, 48]), ([49, 48, 0, 1, 2, 3, 4, 5, 6, 7, 8, 9, 10, 11, 12, 13, 14, 15, 16, 17, 18, 19, 20, 21, 22, 23, 24, 25, 26, 27, 28, 29, 30, 31, 32, 33, 34, 35, 36, 37, 38, 39, 40, 41, 42, 43, 44, 45, 46, 47, 48, 49], [49])])
def laws_FnMembersTold.B14 : List Nat := [0, 0, 3, 0, 0, 31, 63, 127, 255, 511, 255, 2047, 4095, 8191, 16383, 32767, 32767, 32767, 262143, 32767, 32767, 32767, 4194303, 8388607, 16777215, 33554431, 67108863, 67108863, 268435455, 67108863, 67108863, 2147483647, 4294967295, 8589934591, 17179869183, 34359738367, 68719476735, 34359738367, 171798691839, 549755813887, 1099511627775, 2199023255551, 4398046511103, 4398046511103, 17592186044415, 4398046511103, 4398046511103, 140737488355327, 281474976710655, 562949953421311, 1125899906842623]
theorem laws_FnMembersTold.tab14 : rtab .any (opsOf Try.f8 14) = laws_FnMembersTold.T14 := by kernel_rfl
theorem laws_FnMembersTold.bits14 : waitsOk laws_FnMembersTold.T14.2 laws_FnMembersTold.B14 = true := by kernel_rfl
set_option maxHeartbeats 8000000 in
set_option maxRecDepth 100000 in
theorem laws_FnMembersTold.calls (k : Nat) (A0 : Option Addr) (c0 : Nat) (l0 : List Int) (r : Bool) (w : World) (hr0 : Kd.C (Kd.int .u8) w A0 l0.length l0) (hc0 : l0.length ≤ c0) (h : laws_FnMembersTold.f k l0 = some r) (hrt : r = true) :
  Calls Try.prog 8 #[.slice A0 l0.length c0] w fun e w' => e = .returned (.bool r) ∧ Below w.heap.size w w' := by
 have HRT := Aside0.mk hrt
 clear hrt
 have hu29 := Try.underlying29
 have hu27 := Try.underlying27
 have HR0 := Aside0.mk hr0
 have HC0 := Aside0.mk hc0
 clear hr0 hc0
 have HB := Aside0.mk (Below.refl w.heap.size w)
 have H : ((laws_big.f l0).bind fun t566 => (if t566 = true then (some true) else ((spec_DrawFollows.f k l0).bind fun bt567 => ((spec_DrawFactsOf.f k l0).bind fun t581 => ((spec_DrawIsMember.f k l0).bind fun bt584 => ((spec_DrawAlive.f k l0).bind fun bt591 => ((impl_RolesOf.f k bt584.1 bt584.2.2.2).bind fun t595 => ((spec_RolesOf.f k bt584.1 bt584.2.2.2).bind fun t598 => (laws_FnMembersTold.l0 k bt567.1 t581 bt584.1 bt584.2.2.2 bt591.1 bt591.2 t595 t598 0 bt567.2.1 bt567.2.2.1 bt567.2.2.2.1 bt567.2.2.2.2.1 bt567.2.2.2.2.2.1 bt567.2.2.2.2.2.2.1 bt567.2.2.2.2.2.2.2.1 bt567.2.2.2.2.2.2.2.2.1 bt567.2.2.2.2.2.2.2.2.2.1 bt567.2.2.2.2.2.2.2.2.2.2 bt584.2.1 bt584.2.2.1))))))))) = some r := h
 clear h
 replace H := Option.bind_eq_some_iff.mp H
 obtain ⟨t566, A20, H⟩ := H
 try dsimp only at H
 have A2 := Aside0.mk A20
 clear A20
 by_cases c3 : t566 = true
 ·subst c3
  rw [if_pos rfl] at H
  obtain rfl := Option.some.inj H
  go_enter Try.func8, Try.ntmps8
  go_wp2_with (first | ((with_reducible refine gate_callee (f := 9) rfl ?_); refine goesL_ (some 15) rfl rfl Try.func9 (by kernel_rfl) rfl #[.slice A0 l0.length c0] rfl sqA ?_; (with_reducible refine (laws_big.calls _ _ l0 true _ ?side1 ?side2 A2.out).mono ?_); (case side1 => repeat (first | exact HR0.out | (with_reducible refine Kd.C_alloc ?_ _) | (with_reducible refine Kd.C_drewN ?_ _) | (with_reducible refine Kd.C_drew ?_))); (case side2 => exact HC0.out); rintro e w' ⟨rfl, ⟨nd, rfl⟩⟩; refine ⟨_, rfl, ?_⟩))
  go_ret
  exact ⟨sqE, sqB⟩
 ·replace c3 := Bool.eq_false_iff.mpr c3
  subst c3
  rw [if_neg (show ¬ (false = true) by decide)] at H
  replace H := Option.bind_eq_some_iff.mp H
  obtain ⟨⟨t567, t570, t571, t572, t573, t574, t575, t576, t577, t578, t579⟩, A40, H⟩ := H
  try dsimp only at H
  have A4 := Aside0.mk A40
  clear A40
  replace H := Option.bind_eq_some_iff.mp H
  obtain ⟨t581, A50, H⟩ := H
  try dsimp only at H
  have A5 := Aside0.mk A50
  clear A50
  replace H := Option.bind_eq_some_iff.mp H
  obtain ⟨⟨t584, t587, t588, t589⟩, A60, H⟩ := H
  try dsimp only at H
  have A6 := Aside0.mk A60
  clear A60
  replace H := Option.bind_eq_some_iff.mp H
  obtain ⟨⟨t591, t592⟩, A70, H⟩ := H
  try dsimp only at H
  have A7 := Aside0.mk A70
  clear A70
  replace H := Option.bind_eq_some_iff.mp H
  obtain ⟨t595, A80, H⟩ := H
  try dsimp only at H
  have A8 := Aside0.mk A80
  clear A80
  replace H := Option.bind_eq_some_iff.mp H
  obtain ⟨t598, A90, H⟩ := H
  try dsimp only at H
  have A9 := Aside0.mk A90
  clear A90
  have H' := Aside0.mk H
  clear H
  go_enter Try.func8, Try.ntmps8
  go_wp2_with (first | ((with_reducible refine gate_callee (f := 9) rfl ?_); refine goesL_ (some 15) rfl rfl Try.func9 (by kernel_rfl) rfl #[.slice A0 l0.length c0] rfl sqA ?_; (with_reducible refine (laws_big.calls _ _ l0 false _ ?side1 ?side2 A2.out).mono ?_); (case side1 => repeat (first | exact HR0.out | (with_reducible refine Kd.C_alloc ?_ _) | (with_reducible refine Kd.C_drewN ?_ _) | (with_reducible refine Kd.C_drew ?_))); (case side2 => exact HC0.out); rintro e w' ⟨rfl, ⟨nd, rfl⟩⟩; refine ⟨_, rfl, ?_⟩) | ((with_reducible refine gate_callee (f := 36) rfl ?_); refine goesL_ (some 18) rfl rfl Try.func36 (by kernel_rfl) rfl #[.slice A0 l0.length c0] rfl sqA ?_; (with_reducible refine (spec_DrawFollows.calls k _ _ l0 t567 t570 t571 t572 t573 t574 t575 t576 t577 t578 t579 _ ?side1 ?side2 A4.out).mono ?_); (case side1 => repeat (first | exact HR0.out | (with_reducible refine Kd.C_alloc ?_ _) | (with_reducible refine Kd.C_drewN ?_ _) | (with_reducible refine Kd.C_drew ?_))); (case side2 => exact HC0.out); rintro e w10 ⟨v568, rfl, ho0, hb⟩; refine ⟨_, rfl, ?_⟩; have HO569 := Aside0.mk (Kd.R_lower ho0 (below_size (sqB))); replace HB := sqS hb; (try clear hb); (try clear hb2); (try clear hk); (try clear hi); (try clear ho0)) | ((with_reducible refine gate_dst (N := 4) rfl ?_); (try (refine gate_guard (by rfl) ?_; dsimp only)); refine sqX (N := 4) (cs := #[.int .i64 0, .int .i64 0, .int .i64 0, .int .i64 0, .int .i64 0, .int .i64 0, .int .i64 0, .int .i64 0, .int .i64 0, .int .i64 0]) (t := 29) ?_; intro gb580 hg w11 hbox hb; replace HO569 := Aside0.mk (Kd.R_below (sqR HO569) hb); have BK580 := Aside0.mk (hbox); have GW580 := sqG hg; have GE580 := sqG hg; replace HB := sqS hb; clear hb hbox hg; obtain ⟨hcz12_0, hcz12_1, hcz12_2, hcz12_3, hcz12_4, hcz12_5, hcz12_6, hcz12_7, hcz12_8, hcz12_9, hfz12_0, hfz12_1, hfz12_2, hfz12_3, hfz12_4, hfz12_5, hfz12_6, hfz12_7, hfz12_8, hfz12_9⟩ := sqC10 BK580) | ((with_reducible refine gate_callee (f := 37) rfl ?_); refine goesL_ (some 22) rfl rfl Try.func37 (by kernel_rfl) rfl #[.slice A0 l0.length c0] rfl sqA ?_; (with_reducible refine (spec_DrawFactsOf.calls k _ _ l0 t581 _ ?side1 ?side2 A5.out).mono ?_); (case side1 => exact Kd.C_below HR0.out (sqB)); (case side2 => exact HC0.out); rintro e w13 ⟨v582, rfl, ho0, hb⟩; refine ⟨_, rfl, ?_⟩; replace HO569 := Aside0.mk (Kd.R_below (by (with_reducible repeat (first | apply Kd.R_alloc | apply Kd.R_drewN | apply Kd.R_drew)); exact (Kd.R_mono (Kd.R_far (p := ⟨gb580, 9, none⟩) (Kd.R_far (p := ⟨gb580, 8, none⟩) (Kd.R_far (p := ⟨gb580, 7, none⟩) (Kd.R_far (p := ⟨gb580, 6, none⟩) (Kd.R_far (p := ⟨gb580, 5, none⟩) (Kd.R_far (p := ⟨gb580, 4, none⟩) (Kd.R_far (p := ⟨gb580, 3, none⟩) (Kd.R_far (p := ⟨gb580, 2, none⟩) (Kd.R_far (p := ⟨gb580, 1, none⟩) (Kd.R_far (p := ⟨gb580, 0, none⟩) (Kd.R_types HO569.out BK580.out (by decide)) (fun _ hk => hk.2) (.int .i64 t570)) (fun _ hk => hk.2) (.int .i64 t571)) (fun _ hk => hk.2) (.int .i64 t572)) (fun _ hk => hk.2) (.int .i64 t573)) (fun _ hk => hk.2) (.int .i64 t574)) (fun _ hk => hk.2) (.int .i64 t575)) (fun _ hk => hk.2) (.int .i64 t576)) (fun _ hk => hk.2) (.int .i64 t577)) (fun _ hk => hk.2) (.int .i64 t578)) (fun _ hk => hk.2) (.int .i64 t579)) (fun _ h_ => h_.1))) hb); have HO583 := Aside0.mk (Kd.R_lower (Kd.R_newB ho0 (g := gb580) (o := .cells #[.int .i64 t570, .int .i64 t571, .int .i64 t572, .int .i64 t573, .int .i64 t574, .int .i64 t575, .int .i64 t576, .int .i64 t577, .int .i64 t578, .int .i64 t579] 29 (0, 0)) (sqW BK580)) (below_size (sqB))); replace BK580 := sqLW (o' := .cells #[.int .i64 t570, .int .i64 t571, .int .i64 t572, .int .i64 t573, .int .i64 t574, .int .i64 t575, .int .i64 t576, .int .i64 t577, .int .i64 t578, .int .i64 t579] 29 (0, 0)) BK580 hb; replace HB := sqS hb; (try clear hb); (try clear hb2); (try clear hk); (try clear hi); (try clear ho0)) | ((with_reducible refine gate_callee (f := 38) rfl ?_); refine goesL_ (some 25) rfl rfl Try.func38 (by kernel_rfl) rfl #[.slice A0 l0.length c0] rfl sqA ?_; (with_reducible refine (spec_DrawIsMember.calls k _ _ l0 t584 t587 t588 t589 _ ?side1 ?side2 A6.out).mono ?_); (case side1 => repeat (first | exact (Kd.C_below HR0.out HB.out) | (with_reducible refine Kd.C_alloc ?_ _) | (with_reducible refine Kd.C_drewN ?_ _) | (with_reducible refine Kd.C_drew ?_))); (case side2 => exact HC0.out); rintro e w14 ⟨v585, rfl, ho0, hb⟩; refine ⟨_, rfl, ?_⟩; replace HO569 := Aside0.mk (Kd.R_below (sqR HO569) hb); have HO586 := Aside0.mk (Kd.R_lower (Kd.R_newB (Kd.R_new' ho0 (Kd.R_lt (sqR HO583))) (g := gb580) (o := .cells #[.int .i64 t570, .int .i64 t571, .int .i64 t572, .int .i64 t573, .int .i64 t574, .int .i64 t575, .int .i64 t576, .int .i64 t577, .int .i64 t578, .int .i64 t579] 29 (0, 0)) (sqK BK580)) (below_size (sqB))); replace HO583 := Aside0.mk (Kd.R_elder' (sqR HO583) (Kd.R_base ho0) hb); replace BK580 := sqL BK580 hb; replace HB := sqS hb; (try clear hb); (try clear hb2); (try clear hk); (try clear hi); (try clear ho0)) | ((with_reducible refine gate_dst (N := 7) rfl ?_); (try (refine gate_guard (by rfl) ?_; dsimp only)); refine sqX (N := 7) (cs := #[.int .i64 0, .int .i64 0]) (t := 27) ?_; intro gb590 hg w15 hbox hb; replace HO569 := Aside0.mk (Kd.R_below (sqR HO569) hb); replace HO583 := Aside0.mk (Kd.R_below (sqR HO583) hb); replace HO586 := Aside0.mk (Kd.R_below (sqR HO586) hb); have BK590 := Aside0.mk (hbox); have GW590 := sqG hg; have GE590 := sqG hg; have NB580_590 := sqN BK580 hg; have NB590_580 := sqM BK580 hg; replace BK580 := sqL BK580 hb; replace HB := sqS hb; clear hb hbox hg; have hnb16 := NB590_580.out; have hnc16 := NB580_590.out; obtain ⟨hcz17_0, hcz17_1, hfz17_0, hfz17_1⟩ := sqC2 BK590) | ((with_reducible refine gate_callee (f := 39) rfl ?_); refine goesL_ (some 31) rfl rfl Try.func39 (by kernel_rfl) rfl #[.slice A0 l0.length c0] rfl sqA ?_; (with_reducible refine (spec_DrawAlive.calls k _ _ l0 t591 t592 _ ?side1 ?side2 A7.out).mono ?_); (case side1 => exact Kd.C_below HR0.out (sqB)); (case side2 => exact HC0.out); rintro e w18 ⟨v593, rfl, ho0, hb⟩; refine ⟨_, rfl, ?_⟩; replace HO569 := Aside0.mk (Kd.R_below (by (with_reducible repeat (first | apply Kd.R_alloc | apply Kd.R_drewN | apply Kd.R_drew)); exact (Kd.R_mono (Kd.R_far (p := ⟨gb590, 1, none⟩) (Kd.R_far (p := ⟨gb590, 0, none⟩) (Kd.R_types HO569.out BK590.out (by decide)) (fun _ hk => hk.2) (.int .i64 t587)) (fun _ hk => hk.2) (.int .i64 t588)) (fun _ h_ => h_.1))) hb); have HO594 := Aside0.mk (Kd.R_lower (Kd.R_newB (Kd.R_new' (Kd.R_new' ho0 (Kd.R_lt (by (with_reducible repeat (first | apply Kd.R_alloc | apply Kd.R_drewN | apply Kd.R_drew)); exact (Kd.R_mono (Kd.R_far (p := ⟨gb590, 1, none⟩) (Kd.R_far (p := ⟨gb590, 0, none⟩) (Kd.R_types HO583.out BK590.out (by decide)) (fun _ hk => hk.2) (.int .i64 t587)) (fun _ hk => hk.2) (.int .i64 t588)) (fun _ h_ => h_.1))))) (Kd.R_lt (by (with_reducible repeat (first | apply Kd.R_alloc | apply Kd.R_drewN | apply Kd.R_drew)); exact (Kd.R_mono (Kd.R_far (p := ⟨gb590, 1, none⟩) (Kd.R_far (p := ⟨gb590, 0, none⟩) (Kd.R_types HO586.out BK590.out (by decide)) (fun _ hk => hk.2) (.int .i64 t587)) (fun _ hk => hk.2) (.int .i64 t588)) (fun _ h_ => h_.1))))) (g := gb580) (o := .cells #[.int .i64 t570, .int .i64 t571, .int .i64 t572, .int .i64 t573, .int .i64 t574, .int .i64 t575, .int .i64 t576, .int .i64 t577, .int .i64 t578, .int .i64 t579] 29 (0, 0)) (sqW BK580)) (below_size (sqB))); replace HO583 := Aside0.mk (Kd.R_elder' (by (with_reducible repeat (first | apply Kd.R_alloc | apply Kd.R_drewN | apply Kd.R_drew)); exact (Kd.R_mono (Kd.R_far (p := ⟨gb590, 1, none⟩) (Kd.R_far (p := ⟨gb590, 0, none⟩) (Kd.R_types HO583.out BK590.out (by decide)) (fun _ hk => hk.2) (.int .i64 t587)) (fun _ hk => hk.2) (.int .i64 t588)) (fun _ h_ => h_.1))) (Kd.R_base ho0) hb); replace HO586 := Aside0.mk (Kd.R_elder' (by (with_reducible repeat (first | apply Kd.R_alloc | apply Kd.R_drewN | apply Kd.R_drew)); exact (Kd.R_mono (Kd.R_far (p := ⟨gb590, 1, none⟩) (Kd.R_far (p := ⟨gb590, 0, none⟩) (Kd.R_types HO586.out BK590.out (by decide)) (fun _ hk => hk.2) (.int .i64 t587)) (fun _ hk => hk.2) (.int .i64 t588)) (fun _ h_ => h_.1))) (Kd.R_base ho0) hb); replace BK580 := sqLW (o' := .cells #[.int .i64 t570, .int .i64 t571, .int .i64 t572, .int .i64 t573, .int .i64 t574, .int .i64 t575, .int .i64 t576, .int .i64 t577, .int .i64 t578, .int .i64 t579] 29 (0, 0)) BK580 hb; replace BK590 := sqLW (o' := .cells #[.int .i64 t587, .int .i64 t588] 27 (0, 0)) BK590 hb; replace HB := sqS hb; (try clear hb); (try clear hb2); (try clear hk); (try clear hi); (try clear ho0); obtain ⟨Ao19, co19, eo19⟩ := Kd.R_slice HO586.out; subst eo19) | ((with_reducible refine gate_callee (f := 17) rfl ?_); refine goesL_ (some 36) rfl rfl Try.func17 (by kernel_rfl) rfl #[.slice Ao19 t584.length co19, .int .i64 t589] rfl sqA ?_; (with_reducible refine (impl_RolesOf.calls k _ _ t584 t589 t595 _ ?side1 ?side2 A8.out).mono ?_); (case side1 => repeat (first | exact (Kd.R_reads' HO586.out).2.2 | (with_reducible refine Kd.C_alloc ?_ _) | (with_reducible refine Kd.C_drewN ?_ _) | (with_reducible refine Kd.C_drew ?_))); (case side2 => exact (Kd.R_reads' HO586.out).2.1); rintro e w20 ⟨v596, rfl, ho0, hb⟩; refine ⟨_, rfl, ?_⟩; replace HO569 := Aside0.mk (Kd.R_below (sqR HO569) hb); replace HO583 := Aside0.mk (Kd.R_below (sqR HO583) hb); replace HO586 := Aside0.mk (Kd.R_below (sqR HO586) hb); replace HO594 := Aside0.mk (Kd.R_below (sqR HO594) hb); have HO597 := Aside0.mk (Kd.R_lower (Kd.R_newB ho0 (g := gb590) (o := .cells #[.int .i64 t587, .int .i64 t588] 27 (0, 0)) (sqK BK590)) (below_size (sqB))); replace BK580 := sqL BK580 hb; replace BK590 := sqL BK590 hb; replace HB := sqS hb; (try clear hb); (try clear hb2); (try clear hk); (try clear hi); (try clear ho0)) | ((with_reducible refine gate_callee (f := 32) rfl ?_); refine goesL_ (some 39) rfl rfl Try.func32 (by kernel_rfl) rfl #[.slice Ao19 t584.length co19, .int .i64 t589] rfl sqA ?_; (with_reducible refine (spec_RolesOf.calls k _ _ t584 t589 t598 _ ?side1 ?side2 A9.out).mono ?_); (case side1 => repeat (first | exact (Kd.R_reads' HO586.out).2.2 | (with_reducible refine Kd.C_alloc ?_ _) | (with_reducible refine Kd.C_drewN ?_ _) | (with_reducible refine Kd.C_drew ?_))); (case side2 => exact (Kd.R_reads' HO586.out).2.1); rintro e w21 ⟨v599, rfl, ho0, hb⟩; refine ⟨_, rfl, ?_⟩; replace HO569 := Aside0.mk (Kd.R_below (sqR HO569) hb); replace HO583 := Aside0.mk (Kd.R_below (sqR HO583) hb); replace HO586 := Aside0.mk (Kd.R_below (sqR HO586) hb); replace HO594 := Aside0.mk (Kd.R_below (sqR HO594) hb); have HO600 := Aside0.mk (Kd.R_lower (Kd.R_newB (Kd.R_new' ho0 (Kd.R_lt (sqR HO597))) (g := gb590) (o := .cells #[.int .i64 t587, .int .i64 t588] 27 (0, 0)) (sqK BK590)) (below_size (sqB))); replace HO597 := Aside0.mk (Kd.R_elder' (sqR HO597) (Kd.R_base ho0) hb); replace BK580 := sqL BK580 hb; replace BK590 := sqL BK590 hb; replace HB := sqS hb; (try clear hb); (try clear hb2); (try clear hk); (try clear hi); (try clear ho0)))
  go_loopg [13] k (fun kq v13 w' => ∃ (x13_1 : Int), v13 = .int .i64 x13_1 ∧ Aside0 (laws_FnMembersTold.l0 kq t567 t581 t584 t589 t591 t592 t595 t598 x13_1 t570 t571 t572 t573 t574 t575 t576 t577 t578 t579 t587 t588 = some r) ∧ Aside0 (kq ≤ k) ∧ Aside0 (Kd.R k36 36 w' w.heap.size (fun _ => True) v568 t567) ∧ Aside0 (Kd.R k29 29 w' w.heap.size (fun k_ => some k_ ≠ ((.slice Ao19 t584.length co19) : Value).ownBlock ∧ some k_ ≠ (v593 : Value).ownBlock ∧ k_ ≠ gb580) v582 t581) ∧ Aside0 (Kd.R k29 29 w' w.heap.size (fun k_ => some k_ ≠ (v582 : Value).ownBlock ∧ some k_ ≠ (v593 : Value).ownBlock ∧ k_ ≠ gb580) (.slice Ao19 t584.length co19) t584) ∧ Aside0 (Kd.R k29 29 w' w.heap.size (fun k_ => some k_ ≠ (v582 : Value).ownBlock ∧ some k_ ≠ ((.slice Ao19 t584.length co19) : Value).ownBlock ∧ k_ ≠ gb580) v593 t591) ∧ Aside0 (Kd.R k27 27 w' w.heap.size (fun k_ => some k_ ≠ (v599 : Value).ownBlock ∧ k_ ≠ gb590) v596 t595) ∧ Aside0 (Kd.R k27 27 w' w.heap.size (fun k_ => some k_ ≠ (v596 : Value).ownBlock ∧ k_ ≠ gb590) v599 t598) ∧ Aside0 (w'.heap[gb580]? = some (.cells #[.int .i64 t570, .int .i64 t571, .int .i64 t572, .int .i64 t573, .int .i64 t574, .int .i64 t575, .int .i64 t576, .int .i64 t577, .int .i64 t578, .int .i64 t579] 29 (0, 0))) ∧ Aside0 (w'.heap[gb590]? = some (.cells #[.int .i64 t587, .int .i64 t588] 27 (0, 0))) ∧ Aside0 (Below w.heap.size w w'))
  case atStart => exact ⟨(0), (by first | rfl | (simp; done) | (simp [*]; done)), H', ⟨Nat.le_refl _⟩, ⟨sqR HO569⟩, ⟨by (with_reducible repeat (first | apply Kd.R_alloc | apply Kd.R_drewN | apply Kd.R_drew)); exact Kd.R_mono HO583.out (fun _ hk => ⟨hk.1.2, ⟨hk.2, hk.1.1.2⟩⟩)⟩, ⟨by (with_reducible repeat (first | apply Kd.R_alloc | apply Kd.R_drewN | apply Kd.R_drew)); exact Kd.R_mono HO586.out (fun _ hk => ⟨hk.1.1.2, ⟨hk.2, hk.1.2⟩⟩)⟩, ⟨by (with_reducible repeat (first | apply Kd.R_alloc | apply Kd.R_drewN | apply Kd.R_drew)); exact Kd.R_mono HO594.out (fun _ hk => ⟨hk.1.1.2, ⟨hk.1.2, hk.2⟩⟩)⟩, ⟨by (with_reducible repeat (first | apply Kd.R_alloc | apply Kd.R_drewN | apply Kd.R_drew)); exact Kd.R_mono HO597.out (fun _ hk => by (refine ⟨?_, ?_⟩ <;> first | exact hk | trivial | exact hk.1 | exact hk.2 | exact hk.1.1 | exact hk.1.2 | exact hk.2.1 | exact hk.2.2 | exact hk.1.1.1 | exact hk.1.1.2 | exact hk.1.2.1 | exact hk.1.2.2))⟩, ⟨by (with_reducible repeat (first | apply Kd.R_alloc | apply Kd.R_drewN | apply Kd.R_drew)); exact Kd.R_mono HO600.out (fun _ hk => by (refine ⟨?_, ?_⟩ <;> first | exact hk | trivial | exact hk.1 | exact hk.2 | exact hk.1.1 | exact hk.1.2 | exact hk.2.1 | exact hk.2.2 | exact hk.1.1.1 | exact hk.1.1.2 | exact hk.1.2.1 | exact hk.1.2.2))⟩, ⟨sqK BK580⟩, ⟨sqK BK590⟩, ⟨sqB⟩⟩
  case round =>
   clear H'
   try clear c1
   try clear p2
   try clear c3
   try clear c8
   try clear c9
   try clear c16
   try clear c17
   try clear hcz12_0 hcz12_1 hcz12_2 hcz12_3 hcz12_4 hcz12_5 hcz12_6 hcz12_7 hcz12_8 hcz12_9
   try clear hcz17_0 hcz17_1
   try clear hfz12_0
   try clear hfz12_1
   try clear hfz12_2
   try clear hfz12_3
   try clear hfz12_4
   try clear hfz12_5
   try clear hfz12_6
   try clear hfz12_7
   try clear hfz12_8
   try clear hfz12_9
   try clear hfz17_0
   try clear hfz17_1
   obtain ⟨x13_1, rfl, HA, HK1, HO_3, HO_5, HO_6, HO_9, HO_11, HO_12, BK580, BK590, HB⟩ := hrel
   cases gk with
   | zero => exact absurd HA.out (by simp [laws_FnMembersTold.l0])
   | succ k1 =>
    have H := HA.out
    clear HA
    simp only [laws_FnMembersTold.l0] at H
    by_cases c22 : x13_1 < (t595.length : Int)
    ·rw [if_pos c22] at H
     have c22b0 : decide (x13_1 < (t595.length : Int)) = true := decide_eq_true c22
     clear c22
     by_cases c23 : (t595.length : Int) = (t598.length : Int)
     ·rw [if_pos c23] at H
      have c23b0 : ((t595.length : Int) == (t598.length : Int)) = true := beq_iff_eq.mpr c23
      have c23b1 : ((t595.length : Int) != (t598.length : Int)) = false := bne_eq_false_iff_eq.mpr c23
      have c23b2 : (t595.length == t598.length) = true := by first | simpa using c23 | (simp at c23 ⊢; omega)
      clear c23
      by_cases c24 : 0 ≤ x13_1
      ·rw [if_pos c24] at H
       have c24b0 : decide (0 ≤ x13_1) = true := decide_eq_true c24
       clear c24
       by_cases c25 : x13_1 < (t598.length : Int)
       ·rw [if_pos c25] at H
        have c25b0 : decide (x13_1 < (t598.length : Int)) = true := decide_eq_true c25
        clear c25
        by_cases c26 : (!(((rd_T27 t595 x13_1).f0) == ((rd_T27 t598 x13_1).f0)) || (!(((rd_T27 t595 x13_1).f1) == ((rd_T27 t598 x13_1).f1)))) = true
        ·rw [if_pos c26] at H
         have c26b0 : (!(((rd_T27 t595 x13_1).f0) == ((rd_T27 t598 x13_1).f0)) || (!(((rd_T27 t595 x13_1).f1) == ((rd_T27 t598 x13_1).f1)))) = true := c26
         clear c26
         obtain rfl := Option.some.inj H
         obtain ⟨Ao27, co27, eo27⟩ := Kd.R_slice HO_11.out
         subst eo27
         try go_wp2
         replace HO_3 := Aside0.mk (Kd.R_drew HO_3.out); replace HO_5 := Aside0.mk (Kd.R_drew HO_5.out); replace HO_6 := Aside0.mk (Kd.R_drew HO_6.out); replace HO_9 := Aside0.mk (Kd.R_drew HO_9.out); replace HO_11 := Aside0.mk (Kd.R_drew HO_11.out); replace HO_12 := Aside0.mk (Kd.R_drew HO_12.out); replace BK580 := Aside0.mk (blk_drew BK580.out); replace BK590 := Aside0.mk (blk_drew BK590.out); replace HB := Aside0.mk (below_drew1 HB.out)
         obtain ⟨Ao29, co29, eo29⟩ := Kd.R_slice HO_12.out
         (first | subst eo29 | (injection eo29 with f1_ f2_ f3_; have f4_ := f1_.symm; have f5_ := f3_.symm; clear f1_ f2_ f3_; subst f4_; subst f5_))
         have p601 : 0 ≤ (x13_1 : Int) := sqD
         have q601 : x13_1 < (t595.length : Int) := sqD
         obtain ⟨ad601, e601, hx601_0, hx601_1⟩ := at_T27 (Kd.R_reads' HO_11.out).2.2 x13_1 p601 q601
         cases e601
         replace p601 := eq_true p601
         replace q601 := eq_true q601
         have p602 : 0 ≤ (x13_1 : Int) := sqD
         have q602 : x13_1 < (t598.length : Int) := sqD
         obtain ⟨ad602, e602, hx602_0, hx602_1⟩ := at_T27 (Kd.R_reads' HO_12.out).2.2 x13_1 p602 q602
         cases e602
         replace p602 := eq_true p602
         replace q602 := eq_true q602
         refine start_ (n := 16) (S := fun w' => w'.cell? (ad601.add ((x13_1).toNat * 2)) = some (.int .i64 ((rd_T27 t595 x13_1).f0)) ∧ w'.cell? ⟨(ad601.add ((x13_1).toNat * 2)).block, (ad601.add ((x13_1).toNat * 2)).off + 1, none⟩ = some (.int .i64 ((rd_T27 t595 x13_1).f1)) ∧ w'.cell? (ad602.add ((x13_1).toNat * 2)) = some (.int .i64 ((rd_T27 t598 x13_1).f0)) ∧ w'.cell? ⟨(ad602.add ((x13_1).toNat * 2)).block, (ad602.add ((x13_1).toNat * 2)).off + 1, none⟩ = some (.int .i64 ((rd_T27 t598 x13_1).f1))) (ds := []) (sqb 0 16) (by kernel_rfl) rfl rfl ⟨hx601_0, hx601_1, hx602_0, hx602_1⟩ (fun hHeld => ?_); refine with_tabW laws_FnMembersTold.tab12 laws_FnMembersTold.bits12 (fun HT_ HW_ => ?_)
         generalize wr.drew = w28 at HO_3 HO_5 HO_6 HO_9 HO_11 HO_12 BK580 BK590 HB hx601_0 hx601_1 hx602_0 hx602_1 hHeld ⊢
         refine sqP (i := 0) (N := some 46) (sqb 1 15) rfl rfl (any_of HT_.out (by kernel_rfl)) ?_
         refine sqP (i := 1) (N := some 47) (sqb 2 14) rfl rfl (any_of HT_.out (by kernel_rfl)) ?_
         refine sqP (i := 2) (N := some 48) (sqb 3 13) rfl rfl (any_of HT_.out (by kernel_rfl)) ?_
         refine sqP (i := 3) (N := some 49) (sqb 4 12) rfl rfl (any_of HT_.out (by kernel_rfl)) ?_
         refine sqP (i := 4) (N := some 50) (sqb 5 11) rfl rfl (any_of HT_.out (by kernel_rfl)) ?_
         refine sqP (i := 5) (N := some 51) (sqb 6 10) rfl rfl (any_of HT_.out (by kernel_rfl)) ?_
         refine sqP (i := 6) (N := some 52) (sqb 7 9) rfl rfl (any_of HT_.out (by kernel_rfl)) ?_
         refine sqP (i := 7) (N := some 53) (sqb 8 8) rfl rfl (any_of HT_.out (by kernel_rfl)) ?_
         refine sqP (i := 8) (N := some 54) (sqb 9 7) rfl rfl (any_of HT_.out (by kernel_rfl)) ?_
         refine sqP (i := 10) (N := some 56) (sqr [9, 1, 1, 5]) rfl rfl (any_of HT_.out (by kernel_rfl)) ?_
         refine sqP (i := 11) (N := some 57) (sqr [9, 1, 2, 4]) rfl rfl (any_of HT_.out (by kernel_rfl)) ?_
         refine sqP (i := 12) (N := some 58) (sqr [9, 1, 3, 3]) rfl rfl (any_of HT_.out (by kernel_rfl)) ?_
         refine sqTk (i := 9) (N := some 55) (sqb 13 3) rfl rfl (take_ofW HT_.out HW_.out (by kernel_rfl)) hHeld ?_
         refine sqTk (i := 13) (N := some 59) (sqb 14 2) rfl rfl (take_ofW HT_.out HW_.out (by kernel_rfl)) hHeld ?_
         refine sqP (i := 14) (N := some 60) (sqb 15 1) rfl rfl (any_of HT_.out (by kernel_rfl)) ?_
         refine sqP (i := 15) (N := some 61) (sqb 16 0) rfl rfl (any_of HT_.out (by kernel_rfl)) ?_
         refine done_ (done_of HT_.out (by kernel_rfl)) ?_
         try go_wp2
         go_ret
         exact ⟨sqE, sqB⟩
        ·rw [if_neg c26] at H
         have c26b0 : (!(((rd_T27 t595 x13_1).f0) == ((rd_T27 t598 x13_1).f0)) || (!(((rd_T27 t595 x13_1).f1) == ((rd_T27 t598 x13_1).f1)))) = false := by simpa using c26
         clear c26
         have H' := Aside0.mk H
         clear H
         obtain ⟨Ao30, co30, eo30⟩ := Kd.R_slice HO_11.out
         subst eo30
         try go_wp2
         replace HO_3 := Aside0.mk (Kd.R_drew HO_3.out); replace HO_5 := Aside0.mk (Kd.R_drew HO_5.out); replace HO_6 := Aside0.mk (Kd.R_drew HO_6.out); replace HO_9 := Aside0.mk (Kd.R_drew HO_9.out); replace HO_11 := Aside0.mk (Kd.R_drew HO_11.out); replace HO_12 := Aside0.mk (Kd.R_drew HO_12.out); replace BK580 := Aside0.mk (blk_drew BK580.out); replace BK590 := Aside0.mk (blk_drew BK590.out); replace HB := Aside0.mk (below_drew1 HB.out)
         obtain ⟨Ao32, co32, eo32⟩ := Kd.R_slice HO_12.out
         (first | subst eo32 | (injection eo32 with f1_ f2_ f3_; have f4_ := f1_.symm; have f5_ := f3_.symm; clear f1_ f2_ f3_; subst f4_; subst f5_))
         have p601 : 0 ≤ (x13_1 : Int) := sqD
         have q601 : x13_1 < (t595.length : Int) := sqD
         obtain ⟨ad601, e601, hx601_0, hx601_1⟩ := at_T27 (Kd.R_reads' HO_11.out).2.2 x13_1 p601 q601
         cases e601
         replace p601 := eq_true p601
         replace q601 := eq_true q601
         have p602 : 0 ≤ (x13_1 : Int) := sqD
         have q602 : x13_1 < (t598.length : Int) := sqD
         obtain ⟨ad602, e602, hx602_0, hx602_1⟩ := at_T27 (Kd.R_reads' HO_12.out).2.2 x13_1 p602 q602
         cases e602
         replace p602 := eq_true p602
         replace q602 := eq_true q602
         refine start_ (n := 16) (S := fun w' => w'.cell? (ad601.add ((x13_1).toNat * 2)) = some (.int .i64 ((rd_T27 t595 x13_1).f0)) ∧ w'.cell? ⟨(ad601.add ((x13_1).toNat * 2)).block, (ad601.add ((x13_1).toNat * 2)).off + 1, none⟩ = some (.int .i64 ((rd_T27 t595 x13_1).f1)) ∧ w'.cell? (ad602.add ((x13_1).toNat * 2)) = some (.int .i64 ((rd_T27 t598 x13_1).f0)) ∧ w'.cell? ⟨(ad602.add ((x13_1).toNat * 2)).block, (ad602.add ((x13_1).toNat * 2)).off + 1, none⟩ = some (.int .i64 ((rd_T27 t598 x13_1).f1))) (ds := []) (sqb 0 16) (by kernel_rfl) rfl rfl ⟨hx601_0, hx601_1, hx602_0, hx602_1⟩ (fun hHeld => ?_); refine with_tabW laws_FnMembersTold.tab12 laws_FnMembersTold.bits12 (fun HT_ HW_ => ?_)
         generalize wr.drew = w31 at HO_3 HO_5 HO_6 HO_9 HO_11 HO_12 BK580 BK590 HB hx601_0 hx601_1 hx602_0 hx602_1 hHeld ⊢
         refine sqP (i := 0) (N := some 46) (sqb 1 15) rfl rfl (any_of HT_.out (by kernel_rfl)) ?_
         refine sqP (i := 1) (N := some 47) (sqb 2 14) rfl rfl (any_of HT_.out (by kernel_rfl)) ?_
         refine sqP (i := 2) (N := some 48) (sqb 3 13) rfl rfl (any_of HT_.out (by kernel_rfl)) ?_
         refine sqP (i := 3) (N := some 49) (sqb 4 12) rfl rfl (any_of HT_.out (by kernel_rfl)) ?_
         refine sqP (i := 4) (N := some 50) (sqb 5 11) rfl rfl (any_of HT_.out (by kernel_rfl)) ?_
         refine sqP (i := 5) (N := some 51) (sqb 6 10) rfl rfl (any_of HT_.out (by kernel_rfl)) ?_
         refine sqP (i := 6) (N := some 52) (sqb 7 9) rfl rfl (any_of HT_.out (by kernel_rfl)) ?_
         refine sqP (i := 7) (N := some 53) (sqb 8 8) rfl rfl (any_of HT_.out (by kernel_rfl)) ?_
         refine sqP (i := 8) (N := some 54) (sqb 9 7) rfl rfl (any_of HT_.out (by kernel_rfl)) ?_
         refine sqP (i := 10) (N := some 56) (sqr [9, 1, 1, 5]) rfl rfl (any_of HT_.out (by kernel_rfl)) ?_
         refine sqP (i := 11) (N := some 57) (sqr [9, 1, 2, 4]) rfl rfl (any_of HT_.out (by kernel_rfl)) ?_
         refine sqP (i := 12) (N := some 58) (sqr [9, 1, 3, 3]) rfl rfl (any_of HT_.out (by kernel_rfl)) ?_
         refine sqTk (i := 9) (N := some 55) (sqb 13 3) rfl rfl (take_ofW HT_.out HW_.out (by kernel_rfl)) hHeld ?_
         refine sqTk (i := 13) (N := some 59) (sqb 14 2) rfl rfl (take_ofW HT_.out HW_.out (by kernel_rfl)) hHeld ?_
         refine sqP (i := 14) (N := some 60) (sqb 15 1) rfl rfl (any_of HT_.out (by kernel_rfl)) ?_
         refine sqP (i := 15) (N := some 61) (sqb 16 0) rfl rfl (any_of HT_.out (by kernel_rfl)) ?_
         refine done_ (done_of HT_.out (by kernel_rfl)) ?_
         try go_wp2
         go_roundg k1
         case measure => have := HK1.out; omega
         case rel => exact ⟨(wrap64 (x13_1 + 1)), (by first | rfl | (simp; done) | (simp [*]; done)), H', ⟨by have := HK1.out; omega⟩, ⟨sqR HO_3⟩, ⟨sqR HO_5⟩, ⟨sqR HO_6⟩, ⟨sqR HO_9⟩, ⟨sqR HO_11⟩, ⟨sqR HO_12⟩, ⟨sqK BK580⟩, ⟨sqK BK590⟩, ⟨sqB⟩⟩
       ·rw [if_neg c25] at H
        exact absurd H (by simp)
      ·rw [if_neg c24] at H
       exact absurd H (by simp)
     ·rw [if_neg c23] at H
      have c23b0 : ((t595.length : Int) == (t598.length : Int)) = false := beq_eq_false_iff_ne.mpr c23
      have c23b1 : ((t595.length : Int) != (t598.length : Int)) = true := bne_iff_ne.mpr c23
      have c23b2 : (t595.length == t598.length) = false := by first | simpa using c23 | (simp at c23 ⊢; omega)
      obtain rfl := Option.some.inj H
      obtain ⟨Ao33, co33, eo33⟩ := Kd.R_slice HO_11.out
      subst eo33
      try go_wp2
      replace HO_3 := Aside0.mk (Kd.R_drew HO_3.out); replace HO_5 := Aside0.mk (Kd.R_drew HO_5.out); replace HO_6 := Aside0.mk (Kd.R_drew HO_6.out); replace HO_9 := Aside0.mk (Kd.R_drew HO_9.out); replace HO_11 := Aside0.mk (Kd.R_drew HO_11.out); replace HO_12 := Aside0.mk (Kd.R_drew HO_12.out); replace BK580 := Aside0.mk (blk_drew BK580.out); replace BK590 := Aside0.mk (blk_drew BK590.out); replace HB := Aside0.mk (below_drew1 HB.out)
      obtain ⟨Ao35, co35, eo35⟩ := Kd.R_slice HO_12.out
      (first | subst eo35 | (injection eo35 with f1_ f2_ f3_; have f4_ := f1_.symm; have f5_ := f3_.symm; clear f1_ f2_ f3_; subst f4_; subst f5_))
      refine start_ (n := 16) (S := fun w' => True) (ds := []) (sqb 0 16) (by kernel_rfl) rfl rfl trivial (fun hHeld => ?_); refine with_tabW laws_FnMembersTold.tab12 laws_FnMembersTold.bits12 (fun HT_ HW_ => ?_)
      generalize wr.drew = w34 at HO_3 HO_5 HO_6 HO_9 HO_11 HO_12 BK580 BK590 HB hHeld ⊢
      refine sqP (i := 0) (N := some 46) (sqb 1 15) rfl rfl (any_of HT_.out (by kernel_rfl)) ?_
      refine sqP (i := 1) (N := some 47) (sqb 2 14) rfl rfl (any_of HT_.out (by kernel_rfl)) ?_
      refine sqP (i := 2) (N := some 48) (sqb 3 13) rfl rfl (any_of HT_.out (by kernel_rfl)) ?_
      refine sqP (i := 3) (N := some 49) (sqb 4 12) rfl rfl (any_of HT_.out (by kernel_rfl)) ?_
      refine sqP (i := 4) (N := some 50) (sqb 5 11) rfl rfl (any_of HT_.out (by kernel_rfl)) ?_
      refine sqP (i := 5) (N := some 51) (sqb 6 10) rfl rfl (any_of HT_.out (by kernel_rfl)) ?_
      refine sqU (i := 6) (N := some 52) (sqb 7 9) rfl rfl (any_of HT_.out (by kernel_rfl)) ?_
      refine sqU (i := 7) (N := some 53) (sqb 8 8) rfl rfl (any_of HT_.out (by kernel_rfl)) ?_
      refine sqU (i := 8) (N := some 54) (sqb 9 7) rfl rfl (any_of HT_.out (by kernel_rfl)) ?_
      refine sqU (i := 9) (N := some 55) (sqb 10 6) rfl rfl (any_of HT_.out (by kernel_rfl)) ?_
      refine sqU (i := 10) (N := some 56) (sqb 11 5) rfl rfl (any_of HT_.out (by kernel_rfl)) ?_
      refine sqU (i := 11) (N := some 57) (sqb 12 4) rfl rfl (any_of HT_.out (by kernel_rfl)) ?_
      refine sqU (i := 12) (N := some 58) (sqb 13 3) rfl rfl (any_of HT_.out (by kernel_rfl)) ?_
      refine sqU (i := 13) (N := some 59) (sqb 14 2) rfl rfl (any_of HT_.out (by kernel_rfl)) ?_
      refine sqU (i := 14) (N := some 60) (sqb 15 1) rfl rfl (any_of HT_.out (by kernel_rfl)) ?_
      refine sqP (i := 15) (N := some 61) (sqb 16 0) rfl rfl (any_of HT_.out (by kernel_rfl)) ?_
      refine done_ (done_of HT_.out (by kernel_rfl)) ?_
      try go_wp2
      go_ret
      exact ⟨sqE, sqB⟩
    ·rw [if_neg c22] at H
     have c22b0 : decide (x13_1 < (t595.length : Int)) = false := decide_eq_false c22
     clear c22
     replace H := Option.bind_eq_some_iff.mp H
     obtain ⟨t603, A360, H⟩ := H
     try dsimp only at H
     have A36 := Aside0.mk A360
     clear A360
     replace H := Option.bind_eq_some_iff.mp H
     obtain ⟨t606, A370, H⟩ := H
     try dsimp only at H
     have A37 := Aside0.mk A370
     clear A370
     replace H := Option.bind_eq_some_iff.mp H
     obtain ⟨t609, A380, H⟩ := H
     try dsimp only at H
     have A38 := Aside0.mk A380
     clear A380
     by_cases c39 : t609 = true
     ·subst c39
      rw [if_pos rfl] at H
      replace H := Option.bind_eq_some_iff.mp H
      obtain ⟨t610, A400, H⟩ := H
      try dsimp only at H
      have A40 := Aside0.mk A400
      clear A400
      replace H := Option.bind_eq_some_iff.mp H
      obtain ⟨t613, A410, H⟩ := H
      try dsimp only at H
      have A41 := Aside0.mk A410
      clear A410
      replace H := Option.bind_eq_some_iff.mp H
      obtain ⟨t616, A420, H⟩ := H
      try dsimp only at H
      have A42 := Aside0.mk A420
      clear A420
      by_cases c43 : t616 = true
      ·subst c43
       rw [if_pos rfl] at H
       replace H := Option.bind_eq_some_iff.mp H
       obtain ⟨t617, A440, H⟩ := H
       try dsimp only at H
       have A44 := Aside0.mk A440
       clear A440
       replace H := Option.bind_eq_some_iff.mp H
       obtain ⟨t618, A450, H⟩ := H
       try dsimp only at H
       have A45 := Aside0.mk A450
       clear A450
       by_cases c46 : (t617 == t618) = true
       ·rw [if_pos c46] at H
        have c46b0 : (t617 == t618) = true := c46
        (try (have c46b1 : decide (t617 = t618) = true := by simpa using c46))
        (try (have c46b2 : (t617 == t618) = true := by simpa using c46))
        clear c46
        replace H := Option.bind_eq_some_iff.mp H
        obtain ⟨t619, A470, H⟩ := H
        try dsimp only at H
        have A47 := Aside0.mk A470
        clear A470
        replace H := Option.bind_eq_some_iff.mp H
        obtain ⟨t622, A480, H⟩ := H
        try dsimp only at H
        have A48 := Aside0.mk A480
        clear A480
        replace H := Option.bind_eq_some_iff.mp H
        obtain ⟨t625, A490, H⟩ := H
        try dsimp only at H
        have A49 := Aside0.mk A490
        clear A490
        by_cases c50 : t625 = true
        ·subst c50
         rw [if_pos rfl] at H
         by_cases c51 : (t595.length : Int) = (t598.length : Int)
         ·rw [if_pos c51] at H
          have c51b0 : ((t595.length : Int) == (t598.length : Int)) = true := beq_iff_eq.mpr c51
          have c51b1 : ((t595.length : Int) != (t598.length : Int)) = false := bne_eq_false_iff_eq.mpr c51
          have c51b2 : (t595.length == t598.length) = true := by first | simpa using c51 | (simp at c51 ⊢; omega)
          clear c51
          replace H := Option.bind_eq_some_iff.mp H
          obtain ⟨t626, A520, H⟩ := H
          try dsimp only at H
          have A52 := Aside0.mk A520
          clear A520
          replace H := Option.bind_eq_some_iff.mp H
          obtain ⟨t629, A530, H⟩ := H
          try dsimp only at H
          have A53 := Aside0.mk A530
          clear A530
          replace H := Option.bind_eq_some_iff.mp H
          obtain ⟨t632, A540, H⟩ := H
          try dsimp only at H
          have A54 := Aside0.mk A540
          clear A540
          obtain rfl := Option.some.inj H
          obtain ⟨Ao55, co55, eo55⟩ := Kd.R_slice HO_11.out
          subst eo55
          try go_wp2
          replace HO_3 := Aside0.mk (Kd.R_drew HO_3.out); replace HO_5 := Aside0.mk (Kd.R_drew HO_5.out); replace HO_6 := Aside0.mk (Kd.R_drew HO_6.out); replace HO_9 := Aside0.mk (Kd.R_drew HO_9.out); replace HO_11 := Aside0.mk (Kd.R_drew HO_11.out); replace HO_12 := Aside0.mk (Kd.R_drew HO_12.out); replace BK580 := Aside0.mk (blk_drew BK580.out); replace BK590 := Aside0.mk (blk_drew BK590.out); replace HB := Aside0.mk (below_drew1 HB.out)
          obtain ⟨Ao57, co57, eo57⟩ := Kd.R_slice HO_3.out
          (first | subst eo57 | (injection eo57 with f1_ f2_ f3_; have f4_ := f1_.symm; have f5_ := f3_.symm; clear f1_ f2_ f3_; subst f4_; subst f5_))
          refine start_ (n := 51) (S := fun w' => w'.cell? ⟨gb580, 0, none⟩ = some (.int .i64 t570) ∧ w'.cell? ⟨gb580, 1, none⟩ = some (.int .i64 t571) ∧ w'.cell? ⟨gb580, 2, none⟩ = some (.int .i64 t572) ∧ w'.cell? ⟨gb580, 3, none⟩ = some (.int .i64 t573) ∧ w'.cell? ⟨gb580, 4, none⟩ = some (.int .i64 t574) ∧ w'.cell? ⟨gb580, 5, none⟩ = some (.int .i64 t575) ∧ w'.cell? ⟨gb580, 6, none⟩ = some (.int .i64 t576) ∧ w'.cell? ⟨gb580, 7, none⟩ = some (.int .i64 t577) ∧ w'.cell? ⟨gb580, 8, none⟩ = some (.int .i64 t578) ∧ w'.cell? ⟨gb580, 9, none⟩ = some (.int .i64 t579) ∧ w'.cell? ⟨gb590, 0, none⟩ = some (.int .i64 t587) ∧ w'.cell? ⟨gb590, 1, none⟩ = some (.int .i64 t588)) (ds := []) (sqb 0 51) (by kernel_rfl) rfl rfl sqF (fun hHeld => ?_); refine with_tabW laws_FnMembersTold.tab14 laws_FnMembersTold.bits14 (fun HT_ HW_ => ?_)
          generalize wr.drew = w56 at HO_3 HO_5 HO_6 HO_9 HO_11 HO_12 BK580 BK590 HB hHeld ⊢
          refine sqP (i := 0) (N := some 62) (sqb 1 50) rfl rfl (any_of HT_.out (by kernel_rfl)) ?_
          refine sqP (i := 3) (N := some 65) (sqr [1, 2, 1, 47]) rfl rfl (any_of HT_.out (by kernel_rfl)) ?_
          refine sqTk (i := 1) (N := some 63) (sqr [2, 1, 1, 47]) rfl rfl (take_ofW HT_.out HW_.out (by kernel_rfl)) hHeld ?_
          refine sqTk (i := 4) (N := some 66) (sqr [2, 1, 2, 46]) rfl rfl (take_ofW HT_.out HW_.out (by kernel_rfl)) hHeld ?_
          refine one_ (i := 2) (N := some 64) (sqb 5 46) rfl rfl (one_of HT_.out (by kernel_rfl)) (by decide) (fun K hK => ?_)
          refine goes_ Try.func15 (by kernel_rfl) rfl #[.slice Ao57 t567.length co57, .agg #[.int .i64 t570, .int .i64 t571, .int .i64 t572, .int .i64 t573, .int .i64 t574, .int .i64 t575, .int .i64 t576, .int .i64 t577, .int .i64 t578, .int .i64 t579]] (by rfl) rfl rfl sqA ?_
          with_reducible refine (impl_Follows.calls k1 _ _ t567 t570 t571 t572 t573 t574 t575 t576 t577 t578 t579 t603 _ ?side1 ?side2 A36.out).mono ?_
          (case side1 => repeat (first | exact (Kd.R_reads' HO_3.out).2.2 | (with_reducible refine Kd.C_alloc ?_ _) | (with_reducible refine Kd.C_drewN ?_ _) | (with_reducible refine Kd.C_drew ?_)))
          (case side2 => exact (Kd.R_reads' HO_3.out).2.1)
          rintro e w58 ⟨v604, rfl, ho0, hb⟩
          refine ⟨_, rfl, ?_⟩
          replace HO_5 := Aside0.mk (Kd.R_below (sqR HO_5) hb); replace HO_6 := Aside0.mk (Kd.R_below (sqR HO_6) hb); replace HO_9 := Aside0.mk (Kd.R_below (sqR HO_9) hb); replace HO_11 := Aside0.mk (Kd.R_below (sqR HO_11) hb); replace HO_12 := Aside0.mk (Kd.R_below (sqR HO_12) hb); have HO605 := Aside0.mk (Kd.R_lower (Kd.R_new' ho0 (Kd.R_lt (sqR HO_3))) (below_size (sqB))); replace HO_3 := Aside0.mk (Kd.R_elder' (sqR HO_3) (Kd.R_base ho0) hb); replace BK580 := sqL BK580 hb; replace BK590 := sqL BK590 hb; replace HB := sqS hb
          (try clear hb)
          (try clear hb2)
          (try clear hk)
          (try clear hi)
          (try clear ho0)
          refine hK.out _ _ sqF (fun hHeld => ?_)
          clear hK K
          refine sqV (N := some 64) ?_
          refine one_ (i := 5) (N := some 67) (sqb 6 45) rfl rfl (one_of HT_.out (by kernel_rfl)) (by decide) (fun K hK => ?_)
          refine goes_ Try.func40 (by kernel_rfl) rfl #[.slice Ao57 t567.length co57, .agg #[.int .i64 t570, .int .i64 t571, .int .i64 t572, .int .i64 t573, .int .i64 t574, .int .i64 t575, .int .i64 t576, .int .i64 t577, .int .i64 t578, .int .i64 t579]] (by rfl) rfl rfl sqA ?_
          with_reducible refine (spec_Follows.calls k1 _ _ t567 t570 t571 t572 t573 t574 t575 t576 t577 t578 t579 t606 _ ?side1 ?side2 A37.out).mono ?_
          (case side1 => repeat (first | exact (Kd.R_reads' HO_3.out).2.2 | (with_reducible refine Kd.C_alloc ?_ _) | (with_reducible refine Kd.C_drewN ?_ _) | (with_reducible refine Kd.C_drew ?_)))
          (case side2 => exact (Kd.R_reads' HO_3.out).2.1)
          rintro e w59 ⟨v607, rfl, ho0, hb⟩
          refine ⟨_, rfl, ?_⟩
          replace HO_5 := Aside0.mk (Kd.R_below (sqR HO_5) hb); replace HO_6 := Aside0.mk (Kd.R_below (sqR HO_6) hb); replace HO_9 := Aside0.mk (Kd.R_below (sqR HO_9) hb); replace HO_11 := Aside0.mk (Kd.R_below (sqR HO_11) hb); replace HO_12 := Aside0.mk (Kd.R_below (sqR HO_12) hb); have HO608 := Aside0.mk (Kd.R_lower (Kd.R_new' (Kd.R_new' ho0 (Kd.R_lt (sqR HO_3))) (Kd.R_lt (sqR HO605))) (below_size (sqB))); replace HO_3 := Aside0.mk (Kd.R_elder' (sqR HO_3) (Kd.R_base ho0) hb); replace HO605 := Aside0.mk (Kd.R_elder' (sqR HO605) (Kd.R_base ho0) hb); replace BK580 := sqL BK580 hb; replace BK590 := sqL BK590 hb; replace HB := sqS hb
          (try clear hb)
          (try clear hb2)
          (try clear hk)
          (try clear hi)
          (try clear ho0)
          obtain ⟨Ao60, co60, eo60⟩ := Kd.R_slice HO605.out
          (first | subst eo60 | (injection eo60 with f1_ f2_ f3_; have f4_ := f1_.symm; have f5_ := f3_.symm; clear f1_ f2_ f3_; subst f4_; subst f5_))
          obtain ⟨Ao61, co61, eo61⟩ := Kd.R_slice HO608.out
          (first | subst eo61 | (injection eo61 with f1_ f2_ f3_; have f4_ := f1_.symm; have f5_ := f3_.symm; clear f1_ f2_ f3_; subst f4_; subst f5_))
          refine hK.out _ _ sqF (fun hHeld => ?_)
          clear hK K
          refine sqV (N := some 67) ?_
          refine one_ (i := 6) (N := some 68) (sqb 7 44) rfl rfl (one_of HT_.out (by kernel_rfl)) (by decide) (fun K hK => ?_)
          refine goes_ Try.func13 (by kernel_rfl) rfl #[.slice Ao60 t603.length co60, .slice Ao61 t606.length co61] (by rfl) rfl rfl sqA ?_
          with_reducible refine (laws_sameFacts.calls k1 _ _ t603 _ _ t606 true _ ?side1 ?side2 ?side3 ?side4 A38.out).mono ?_
          (case side1 => repeat (first | exact (Kd.R_reads' HO605.out).2.2 | (with_reducible refine Kd.C_alloc ?_ _) | (with_reducible refine Kd.C_drewN ?_ _) | (with_reducible refine Kd.C_drew ?_)))
          (case side2 => exact (Kd.R_reads' HO605.out).2.1)
          (case side3 => repeat (first | exact (Kd.R_reads' HO608.out).2.2 | (with_reducible refine Kd.C_alloc ?_ _) | (with_reducible refine Kd.C_drewN ?_ _) | (with_reducible refine Kd.C_drew ?_)))
          (case side4 => exact (Kd.R_reads' HO608.out).2.1)
          rintro e w' ⟨rfl, ⟨nd, rfl⟩⟩
          refine ⟨_, rfl, ?_⟩
          obtain ⟨Ao62, co62, eo62⟩ := Kd.R_slice HO_5.out
          (first | subst eo62 | (injection eo62 with f1_ f2_ f3_; have f4_ := f1_.symm; have f5_ := f3_.symm; clear f1_ f2_ f3_; subst f4_; subst f5_))
          refine hK.out _ _ sqF (fun hHeld => ?_)
          clear hK K
          refine sqV (N := some 68) ?_
          refine sqP (i := 7) (N := some 69) (sqb 8 43) rfl rfl (any_of HT_.out (by kernel_rfl)) ?_
          refine sqP (i := 8) (N := some 70) (sqb 9 42) rfl rfl (any_of HT_.out (by kernel_rfl)) ?_
          refine sqP (i := 10) (N := some 72) (sqr [9, 1, 1, 40]) rfl rfl (any_of HT_.out (by kernel_rfl)) ?_
          refine one_ (i := 9) (N := some 71) (sqb 11 40) rfl rfl (one_of HT_.out (by kernel_rfl)) (by decide) (fun K hK => ?_)
          refine goes_ Try.func12 (by kernel_rfl) rfl #[.slice Ao62 t581.length co62] (by rfl) rfl rfl sqA ?_
          with_reducible refine (impl_FactsOf.calls k1 _ _ t581 t610 _ ?side1 ?side2 A40.out).mono ?_
          (case side1 => repeat (first | exact (Kd.R_reads' HO_5.out).2.2 | (with_reducible refine Kd.C_alloc ?_ _) | (with_reducible refine Kd.C_drewN ?_ _) | (with_reducible refine Kd.C_drew ?_)))
          (case side2 => exact (Kd.R_reads' HO_5.out).2.1)
          rintro e w63 ⟨v611, rfl, ho0, hb⟩
          refine ⟨_, rfl, ?_⟩
          replace HO_5 := Aside0.mk (Kd.R_below (sqR HO_5) hb); replace HO_6 := Aside0.mk (Kd.R_below (sqR HO_6) hb); replace HO_9 := Aside0.mk (Kd.R_below (sqR HO_9) hb); replace HO_11 := Aside0.mk (Kd.R_below (sqR HO_11) hb); replace HO_12 := Aside0.mk (Kd.R_below (sqR HO_12) hb); have HO612 := Aside0.mk (Kd.R_lower (Kd.R_new' (Kd.R_new' (Kd.R_new' ho0 (Kd.R_lt (sqR HO_3))) (Kd.R_lt (sqR HO605))) (Kd.R_lt (sqR HO608))) (below_size (sqB))); replace HO_3 := Aside0.mk (Kd.R_elder' (sqR HO_3) (Kd.R_base ho0) hb); replace HO605 := Aside0.mk (Kd.R_elder' (sqR HO605) (Kd.R_base ho0) hb); replace HO608 := Aside0.mk (Kd.R_elder' (sqR HO608) (Kd.R_base ho0) hb); replace BK580 := sqL BK580 hb; replace BK590 := sqL BK590 hb; replace HB := sqS hb
          (try clear hb)
          (try clear hb2)
          (try clear hk)
          (try clear hi)
          (try clear ho0)
          refine hK.out _ _ sqF (fun hHeld => ?_)
          clear hK K
          refine sqV (N := some 71) ?_
          refine one_ (i := 11) (N := some 73) (sqb 12 39) rfl rfl (one_of HT_.out (by kernel_rfl)) (by decide) (fun K hK => ?_)
          refine goes_ Try.func14 (by kernel_rfl) rfl #[.slice Ao62 t581.length co62] (by rfl) rfl rfl sqA ?_
          with_reducible refine (spec_FactsOf.calls k1 _ _ t581 t613 _ ?side1 ?side2 A41.out).mono ?_
          (case side1 => repeat (first | exact (Kd.R_reads' HO_5.out).2.2 | (with_reducible refine Kd.C_alloc ?_ _) | (with_reducible refine Kd.C_drewN ?_ _) | (with_reducible refine Kd.C_drew ?_)))
          (case side2 => exact (Kd.R_reads' HO_5.out).2.1)
          rintro e w64 ⟨v614, rfl, ho0, hb⟩
          refine ⟨_, rfl, ?_⟩
          replace HO_5 := Aside0.mk (Kd.R_below (sqR HO_5) hb); replace HO_6 := Aside0.mk (Kd.R_below (sqR HO_6) hb); replace HO_9 := Aside0.mk (Kd.R_below (sqR HO_9) hb); replace HO_11 := Aside0.mk (Kd.R_below (sqR HO_11) hb); replace HO_12 := Aside0.mk (Kd.R_below (sqR HO_12) hb); have HO615 := Aside0.mk (Kd.R_lower (Kd.R_new' (Kd.R_new' (Kd.R_new' (Kd.R_new' ho0 (Kd.R_lt (sqR HO_3))) (Kd.R_lt (sqR HO605))) (Kd.R_lt (sqR HO608))) (Kd.R_lt (sqR HO612))) (below_size (sqB))); replace HO_3 := Aside0.mk (Kd.R_elder' (sqR HO_3) (Kd.R_base ho0) hb); replace HO605 := Aside0.mk (Kd.R_elder' (sqR HO605) (Kd.R_base ho0) hb); replace HO608 := Aside0.mk (Kd.R_elder' (sqR HO608) (Kd.R_base ho0) hb); replace HO612 := Aside0.mk (Kd.R_elder' (sqR HO612) (Kd.R_base ho0) hb); replace BK580 := sqL BK580 hb; replace BK590 := sqL BK590 hb; replace HB := sqS hb
          (try clear hb)
          (try clear hb2)
          (try clear hk)
          (try clear hi)
          (try clear ho0)
          obtain ⟨Ao65, co65, eo65⟩ := Kd.R_slice HO612.out
          (first | subst eo65 | (injection eo65 with f1_ f2_ f3_; have f4_ := f1_.symm; have f5_ := f3_.symm; clear f1_ f2_ f3_; subst f4_; subst f5_))
          obtain ⟨Ao66, co66, eo66⟩ := Kd.R_slice HO615.out
          (first | subst eo66 | (injection eo66 with f1_ f2_ f3_; have f4_ := f1_.symm; have f5_ := f3_.symm; clear f1_ f2_ f3_; subst f4_; subst f5_))
          refine hK.out _ _ sqF (fun hHeld => ?_)
          clear hK K
          refine sqV (N := some 73) ?_
          refine one_ (i := 12) (N := some 74) (sqb 13 38) rfl rfl (one_of HT_.out (by kernel_rfl)) (by decide) (fun K hK => ?_)
          refine goes_ Try.func13 (by kernel_rfl) rfl #[.slice Ao65 t610.length co65, .slice Ao66 t613.length co66] (by rfl) rfl rfl sqA ?_
          with_reducible refine (laws_sameFacts.calls k1 _ _ t610 _ _ t613 true _ ?side1 ?side2 ?side3 ?side4 A42.out).mono ?_
          (case side1 => repeat (first | exact (Kd.R_reads' HO612.out).2.2 | (with_reducible refine Kd.C_alloc ?_ _) | (with_reducible refine Kd.C_drewN ?_ _) | (with_reducible refine Kd.C_drew ?_)))
          (case side2 => exact (Kd.R_reads' HO612.out).2.1)
          (case side3 => repeat (first | exact (Kd.R_reads' HO615.out).2.2 | (with_reducible refine Kd.C_alloc ?_ _) | (with_reducible refine Kd.C_drewN ?_ _) | (with_reducible refine Kd.C_drew ?_)))
          (case side4 => exact (Kd.R_reads' HO615.out).2.1)
          rintro e w' ⟨rfl, ⟨nd, rfl⟩⟩
          refine ⟨_, rfl, ?_⟩
          refine hK.out _ _ sqF (fun hHeld => ?_)
          clear hK K
          refine sqV (N := some 74) ?_
          refine sqP (i := 13) (N := some 75) (sqb 14 37) rfl rfl (any_of HT_.out (by kernel_rfl)) ?_
          refine sqP (i := 14) (N := some 76) (sqb 15 36) rfl rfl (any_of HT_.out (by kernel_rfl)) ?_
          refine sqP (i := 15) (N := some 77) (sqb 16 35) rfl rfl (any_of HT_.out (by kernel_rfl)) ?_
          refine sqP (i := 17) (N := some 79) (sqr [16, 1, 1, 33]) rfl rfl (any_of HT_.out (by kernel_rfl)) ?_
          refine sqP (i := 19) (N := some 81) (sqr [16, 1, 1, 1, 1, 31]) rfl rfl (any_of HT_.out (by kernel_rfl)) ?_
          refine sqP (i := 21) (N := some 83) (sqr [16, 1, 1, 1, 1, 1, 1, 29]) rfl rfl (any_of HT_.out (by kernel_rfl)) ?_
          refine sqTk (i := 16) (N := some 78) (sqr [18, 1, 1, 1, 1, 29]) rfl rfl (take_ofW HT_.out HW_.out (by kernel_rfl)) hHeld ?_
          refine sqTk (i := 20) (N := some 82) (sqr [18, 1, 3, 29]) rfl rfl (take_ofW HT_.out HW_.out (by kernel_rfl)) hHeld ?_
          refine one_ (i := 18) (N := some 80) (sqb 22 29) rfl rfl (one_of HT_.out (by kernel_rfl)) (by decide) (fun K hK => ?_)
          refine goes_ Try.func16 (by kernel_rfl) rfl #[.slice Ao19 t584.length co19, .agg #[.int .i64 t587, .int .i64 t588], .int .i64 t589] (by rfl) rfl rfl sqA ?_
          with_reducible refine (impl_IsMember.calls k1 _ _ t584 t587 t588 t589 t617 _ ?side1 ?side2 A44.out).mono ?_
          (case side1 => repeat (first | exact (Kd.R_reads' HO_6.out).2.2 | (with_reducible refine Kd.C_alloc ?_ _) | (with_reducible refine Kd.C_drewN ?_ _) | (with_reducible refine Kd.C_drew ?_)))
          (case side2 => exact (Kd.R_reads' HO_6.out).2.1)
          rintro e w67 ⟨rfl, hb⟩
          refine ⟨_, rfl, ?_⟩
          replace HO_3 := Aside0.mk (Kd.R_below (sqR HO_3) hb); replace HO_5 := Aside0.mk (Kd.R_below (sqR HO_5) hb); replace HO_6 := Aside0.mk (Kd.R_below (sqR HO_6) hb); replace HO_9 := Aside0.mk (Kd.R_below (sqR HO_9) hb); replace HO_11 := Aside0.mk (Kd.R_below (sqR HO_11) hb); replace HO_12 := Aside0.mk (Kd.R_below (sqR HO_12) hb); replace HO605 := Aside0.mk (Kd.R_below (sqR HO605) hb); replace HO608 := Aside0.mk (Kd.R_below (sqR HO608) hb); replace HO612 := Aside0.mk (Kd.R_below (sqR HO612) hb); replace HO615 := Aside0.mk (Kd.R_below (sqR HO615) hb); replace BK580 := sqL BK580 hb; replace BK590 := sqL BK590 hb; replace HB := sqS hb
          (try clear hb)
          (try clear hb2)
          (try clear hk)
          (try clear hi)
          refine hK.out _ _ sqF (fun hHeld => ?_)
          clear hK K
          refine sqV (N := some 80) ?_
          refine one_ (i := 22) (N := some 84) (sqb 23 28) rfl rfl (one_of HT_.out (by kernel_rfl)) (by decide) (fun K hK => ?_)
          refine goes_ Try.func20 (by kernel_rfl) rfl #[.slice Ao19 t584.length co19, .agg #[.int .i64 t587, .int .i64 t588], .int .i64 t589] (by rfl) rfl rfl sqA ?_
          with_reducible refine (spec_IsMember.calls k1 _ _ t584 t587 t588 t589 t618 _ ?side1 ?side2 A45.out).mono ?_
          (case side1 => repeat (first | exact (Kd.R_reads' HO_6.out).2.2 | (with_reducible refine Kd.C_alloc ?_ _) | (with_reducible refine Kd.C_drewN ?_ _) | (with_reducible refine Kd.C_drew ?_)))
          (case side2 => exact (Kd.R_reads' HO_6.out).2.1)
          rintro e w68 ⟨rfl, hb⟩
          refine ⟨_, rfl, ?_⟩
          replace HO_3 := Aside0.mk (Kd.R_below (sqR HO_3) hb); replace HO_5 := Aside0.mk (Kd.R_below (sqR HO_5) hb); replace HO_6 := Aside0.mk (Kd.R_below (sqR HO_6) hb); replace HO_9 := Aside0.mk (Kd.R_below (sqR HO_9) hb); replace HO_11 := Aside0.mk (Kd.R_below (sqR HO_11) hb); replace HO_12 := Aside0.mk (Kd.R_below (sqR HO_12) hb); replace HO605 := Aside0.mk (Kd.R_below (sqR HO605) hb); replace HO608 := Aside0.mk (Kd.R_below (sqR HO608) hb); replace HO612 := Aside0.mk (Kd.R_below (sqR HO612) hb); replace HO615 := Aside0.mk (Kd.R_below (sqR HO615) hb); replace BK580 := sqL BK580 hb; replace BK590 := sqL BK590 hb; replace HB := sqS hb
          (try clear hb)
          (try clear hb2)
          (try clear hk)
          (try clear hi)
          refine hK.out _ _ sqF (fun hHeld => ?_)
          clear hK K
          refine sqV (N := some 84) ?_
          refine sqP (i := 23) (N := some 85) (sqb 24 27) rfl rfl (any_of HT_.out (by kernel_rfl)) ?_
          refine sqP (i := 24) (N := some 86) (sqb 25 26) rfl rfl (any_of HT_.out (by kernel_rfl)) ?_
          refine sqP (i := 25) (N := some 87) (sqb 26 25) rfl rfl (any_of HT_.out (by kernel_rfl)) ?_
          refine sqP (i := 26) (N := some 88) (sqb 27 24) rfl rfl (any_of HT_.out (by kernel_rfl)) ?_
          refine sqP (i := 29) (N := some 91) (sqr [27, 2, 1, 21]) rfl rfl (any_of HT_.out (by kernel_rfl)) ?_
          refine sqTk (i := 27) (N := some 89) (sqr [28, 1, 1, 21]) rfl rfl (take_ofW HT_.out HW_.out (by kernel_rfl)) hHeld ?_
          refine sqTk (i := 30) (N := some 92) (sqr [28, 1, 2, 20]) rfl rfl (take_ofW HT_.out HW_.out (by kernel_rfl)) hHeld ?_
          refine one_ (i := 28) (N := some 90) (sqb 31 20) rfl rfl (one_of HT_.out (by kernel_rfl)) (by decide) (fun K hK => ?_)
          refine goes_ Try.func18 (by kernel_rfl) rfl #[.slice Ao19 t584.length co19, .agg #[.int .i64 t587, .int .i64 t588]] (by rfl) rfl rfl sqA ?_
          with_reducible refine (impl_MembersOf.calls k1 _ _ t584 t587 t588 t619 _ ?side1 ?side2 A47.out).mono ?_
          (case side1 => repeat (first | exact (Kd.R_reads' HO_6.out).2.2 | (with_reducible refine Kd.C_alloc ?_ _) | (with_reducible refine Kd.C_drewN ?_ _) | (with_reducible refine Kd.C_drew ?_)))
          (case side2 => exact (Kd.R_reads' HO_6.out).2.1)
          rintro e w69 ⟨v620, rfl, ho0, hb⟩
          refine ⟨_, rfl, ?_⟩
          replace HO_3 := Aside0.mk (Kd.R_below (sqR HO_3) hb); replace HO_5 := Aside0.mk (Kd.R_below (sqR HO_5) hb); replace HO_6 := Aside0.mk (Kd.R_below (sqR HO_6) hb); replace HO_9 := Aside0.mk (Kd.R_below (sqR HO_9) hb); replace HO_11 := Aside0.mk (Kd.R_below (sqR HO_11) hb); replace HO_12 := Aside0.mk (Kd.R_below (sqR HO_12) hb); replace HO605 := Aside0.mk (Kd.R_below (sqR HO605) hb); replace HO608 := Aside0.mk (Kd.R_below (sqR HO608) hb); replace HO612 := Aside0.mk (Kd.R_below (sqR HO612) hb); replace HO615 := Aside0.mk (Kd.R_below (sqR HO615) hb); have HO621 := Aside0.mk (Kd.R_lower ho0 (below_size (sqB))); replace BK580 := sqL BK580 hb; replace BK590 := sqL BK590 hb; replace HB := sqS hb
          (try clear hb)
          (try clear hb2)
          (try clear hk)
          (try clear hi)
          (try clear ho0)
          refine hK.out _ _ sqF (fun hHeld => ?_)
          clear hK K
          refine sqV (N := some 90) ?_
          refine one_ (i := 31) (N := some 93) (sqb 32 19) rfl rfl (one_of HT_.out (by kernel_rfl)) (by decide) (fun K hK => ?_)
          refine goes_ Try.func28 (by kernel_rfl) rfl #[.slice Ao19 t584.length co19, .agg #[.int .i64 t587, .int .i64 t588]] (by rfl) rfl rfl sqA ?_
          with_reducible refine (spec_MembersOf.calls k1 _ _ t584 t587 t588 t622 _ ?side1 ?side2 A48.out).mono ?_
          (case side1 => repeat (first | exact (Kd.R_reads' HO_6.out).2.2 | (with_reducible refine Kd.C_alloc ?_ _) | (with_reducible refine Kd.C_drewN ?_ _) | (with_reducible refine Kd.C_drew ?_)))
          (case side2 => exact (Kd.R_reads' HO_6.out).2.1)
          rintro e w70 ⟨v623, rfl, ho0, hb⟩
          refine ⟨_, rfl, ?_⟩
          replace HO_3 := Aside0.mk (Kd.R_below (sqR HO_3) hb); replace HO_5 := Aside0.mk (Kd.R_below (sqR HO_5) hb); replace HO_6 := Aside0.mk (Kd.R_below (sqR HO_6) hb); replace HO_9 := Aside0.mk (Kd.R_below (sqR HO_9) hb); replace HO_11 := Aside0.mk (Kd.R_below (sqR HO_11) hb); replace HO_12 := Aside0.mk (Kd.R_below (sqR HO_12) hb); replace HO605 := Aside0.mk (Kd.R_below (sqR HO605) hb); replace HO608 := Aside0.mk (Kd.R_below (sqR HO608) hb); replace HO612 := Aside0.mk (Kd.R_below (sqR HO612) hb); replace HO615 := Aside0.mk (Kd.R_below (sqR HO615) hb); have HO624 := Aside0.mk (Kd.R_lower (Kd.R_new' ho0 (Kd.R_lt (sqR HO621))) (below_size (sqB))); replace HO621 := Aside0.mk (Kd.R_elder' (sqR HO621) (Kd.R_base ho0) hb); replace BK580 := sqL BK580 hb; replace BK590 := sqL BK590 hb; replace HB := sqS hb
          (try clear hb)
          (try clear hb2)
          (try clear hk)
          (try clear hi)
          (try clear ho0)
          obtain ⟨Ao71, co71, eo71⟩ := Kd.R_slice HO621.out
          (first | subst eo71 | (injection eo71 with f1_ f2_ f3_; have f4_ := f1_.symm; have f5_ := f3_.symm; clear f1_ f2_ f3_; subst f4_; subst f5_))
          obtain ⟨Ao72, co72, eo72⟩ := Kd.R_slice HO624.out
          (first | subst eo72 | (injection eo72 with f1_ f2_ f3_; have f4_ := f1_.symm; have f5_ := f3_.symm; clear f1_ f2_ f3_; subst f4_; subst f5_))
          refine hK.out _ _ sqF (fun hHeld => ?_)
          clear hK K
          refine sqV (N := some 93) ?_
          refine one_ (i := 32) (N := some 94) (sqb 33 18) rfl rfl (one_of HT_.out (by kernel_rfl)) (by decide) (fun K hK => ?_)
          refine goes_ Try.func41 (by kernel_rfl) rfl #[.slice Ao71 t619.length co71, .slice Ao72 t622.length co72] (by rfl) rfl rfl sqA ?_
          with_reducible refine (laws_sameInts.calls k1 _ _ t619 _ _ t622 true _ ?side1 ?side2 ?side3 ?side4 A49.out).mono ?_
          (case side1 => repeat (first | exact (Kd.R_reads' HO621.out).2.2 | (with_reducible refine Kd.C_alloc ?_ _) | (with_reducible refine Kd.C_drewN ?_ _) | (with_reducible refine Kd.C_drew ?_)))
          (case side2 => exact (Kd.R_reads' HO621.out).2.1)
          (case side3 => repeat (first | exact (Kd.R_reads' HO624.out).2.2 | (with_reducible refine Kd.C_alloc ?_ _) | (with_reducible refine Kd.C_drewN ?_ _) | (with_reducible refine Kd.C_drew ?_)))
          (case side4 => exact (Kd.R_reads' HO624.out).2.1)
          rintro e w' ⟨rfl, ⟨nd, rfl⟩⟩
          refine ⟨_, rfl, ?_⟩
          obtain ⟨Ao73, co73, eo73⟩ := Kd.R_slice HO_12.out
          (first | subst eo73 | (injection eo73 with f1_ f2_ f3_; have f4_ := f1_.symm; have f5_ := f3_.symm; clear f1_ f2_ f3_; subst f4_; subst f5_))
          obtain ⟨Ao74, co74, eo74⟩ := Kd.R_slice HO_9.out
          (first | subst eo74 | (injection eo74 with f1_ f2_ f3_; have f4_ := f1_.symm; have f5_ := f3_.symm; clear f1_ f2_ f3_; subst f4_; subst f5_))
          refine hK.out _ _ sqF (fun hHeld => ?_)
          clear hK K
          refine sqV (N := some 94) ?_
          refine sqP (i := 33) (N := some 95) (sqb 34 17) rfl rfl (any_of HT_.out (by kernel_rfl)) ?_
          refine sqP (i := 34) (N := some 96) (sqb 35 16) rfl rfl (any_of HT_.out (by kernel_rfl)) ?_
          refine sqP (i := 35) (N := some 97) (sqb 36 15) rfl rfl (any_of HT_.out (by kernel_rfl)) ?_
          refine sqP (i := 36) (N := some 98) (sqb 37 14) rfl rfl (any_of HT_.out (by kernel_rfl)) ?_
          refine sqP (i := 37) (N := some 99) (sqb 38 13) rfl rfl (any_of HT_.out (by kernel_rfl)) ?_
          refine sqP (i := 38) (N := some 100) (sqb 39 12) rfl rfl (any_of HT_.out (by kernel_rfl)) ?_
          refine sqP (i := 39) (N := some 101) (sqb 40 11) rfl rfl (any_of HT_.out (by kernel_rfl)) ?_
          refine sqP (i := 40) (N := some 102) (sqb 41 10) rfl rfl (any_of HT_.out (by kernel_rfl)) ?_
          refine sqP (i := 41) (N := some 103) (sqb 42 9) rfl rfl (any_of HT_.out (by kernel_rfl)) ?_
          refine sqP (i := 42) (N := some 104) (sqb 43 8) rfl rfl (any_of HT_.out (by kernel_rfl)) ?_
          refine sqP (i := 43) (N := some 105) (sqb 44 7) rfl rfl (any_of HT_.out (by kernel_rfl)) ?_
          refine sqP (i := 45) (N := some 107) (sqr [44, 1, 1, 5]) rfl rfl (any_of HT_.out (by kernel_rfl)) ?_
          refine sqP (i := 46) (N := some 108) (sqr [44, 1, 2, 4]) rfl rfl (any_of HT_.out (by kernel_rfl)) ?_
          refine one_ (i := 44) (N := some 106) (sqb 47 4) rfl rfl (one_of HT_.out (by kernel_rfl)) (by decide) (fun K hK => ?_)
          refine goes_ Try.func43 (by kernel_rfl) rfl #[.slice Ao74 t591.length co74, .int .i64 t592] (by rfl) rfl rfl sqA ?_
          with_reducible refine (impl_Alive.calls k1 _ _ t591 t592 t626 _ ?side1 ?side2 A52.out).mono ?_
          (case side1 => repeat (first | exact (Kd.R_reads' HO_9.out).2.2 | (with_reducible refine Kd.C_alloc ?_ _) | (with_reducible refine Kd.C_drewN ?_ _) | (with_reducible refine Kd.C_drew ?_)))
          (case side2 => exact (Kd.R_reads' HO_9.out).2.1)
          rintro e w75 ⟨v627, rfl, ho0, hb⟩
          refine ⟨_, rfl, ?_⟩
          replace HO_3 := Aside0.mk (Kd.R_below (sqR HO_3) hb); replace HO_11 := Aside0.mk (Kd.R_below (sqR HO_11) hb); replace HO_12 := Aside0.mk (Kd.R_below (sqR HO_12) hb); replace HO605 := Aside0.mk (Kd.R_below (sqR HO605) hb); replace HO608 := Aside0.mk (Kd.R_below (sqR HO608) hb); replace HO612 := Aside0.mk (Kd.R_below (sqR HO612) hb); replace HO615 := Aside0.mk (Kd.R_below (sqR HO615) hb); replace HO621 := Aside0.mk (Kd.R_below (sqR HO621) hb); replace HO624 := Aside0.mk (Kd.R_below (sqR HO624) hb); have HO628 := Aside0.mk (Kd.R_lower (Kd.R_newB (Kd.R_new' (Kd.R_new' (Kd.R_new' ho0 (Kd.R_lt (sqR HO_5))) (Kd.R_lt (sqR HO_6))) (Kd.R_lt (sqR HO_9))) (g := gb580) (o := .cells #[.int .i64 t570, .int .i64 t571, .int .i64 t572, .int .i64 t573, .int .i64 t574, .int .i64 t575, .int .i64 t576, .int .i64 t577, .int .i64 t578, .int .i64 t579] 29 (0, 0)) (sqK BK580)) (below_size (sqB))); replace HO_5 := Aside0.mk (Kd.R_elder' (sqR HO_5) (Kd.R_base ho0) hb); replace HO_6 := Aside0.mk (Kd.R_elder' (sqR HO_6) (Kd.R_base ho0) hb); replace HO_9 := Aside0.mk (Kd.R_elder' (sqR HO_9) (Kd.R_base ho0) hb); replace BK580 := sqL BK580 hb; replace BK590 := sqL BK590 hb; replace HB := sqS hb
          (try clear hb)
          (try clear hb2)
          (try clear hk)
          (try clear hi)
          (try clear ho0)
          refine hK.out _ _ sqF (fun hHeld => ?_)
          clear hK K
          refine sqV (N := some 106) ?_
          refine one_ (i := 47) (N := some 109) (sqb 48 3) rfl rfl (one_of HT_.out (by kernel_rfl)) (by decide) (fun K hK => ?_)
          refine goes_ Try.func44 (by kernel_rfl) rfl #[.slice Ao74 t591.length co74, .int .i64 t592] (by rfl) rfl rfl sqA ?_
          with_reducible refine (spec_Alive.calls k1 _ _ t591 t592 t629 _ ?side1 ?side2 A53.out).mono ?_
          (case side1 => repeat (first | exact (Kd.R_reads' HO_9.out).2.2 | (with_reducible refine Kd.C_alloc ?_ _) | (with_reducible refine Kd.C_drewN ?_ _) | (with_reducible refine Kd.C_drew ?_)))
          (case side2 => exact (Kd.R_reads' HO_9.out).2.1)
          rintro e w76 ⟨v630, rfl, ho0, hb⟩
          refine ⟨_, rfl, ?_⟩
          replace HO_3 := Aside0.mk (Kd.R_below (sqR HO_3) hb); replace HO_11 := Aside0.mk (Kd.R_below (sqR HO_11) hb); replace HO_12 := Aside0.mk (Kd.R_below (sqR HO_12) hb); replace HO605 := Aside0.mk (Kd.R_below (sqR HO605) hb); replace HO608 := Aside0.mk (Kd.R_below (sqR HO608) hb); replace HO612 := Aside0.mk (Kd.R_below (sqR HO612) hb); replace HO615 := Aside0.mk (Kd.R_below (sqR HO615) hb); replace HO621 := Aside0.mk (Kd.R_below (sqR HO621) hb); replace HO624 := Aside0.mk (Kd.R_below (sqR HO624) hb); have HO631 := Aside0.mk (Kd.R_lower (Kd.R_newB (Kd.R_new' (Kd.R_new' (Kd.R_new' (Kd.R_new' ho0 (Kd.R_lt (sqR HO_5))) (Kd.R_lt (sqR HO_6))) (Kd.R_lt (sqR HO_9))) (Kd.R_lt (sqR HO628))) (g := gb580) (o := .cells #[.int .i64 t570, .int .i64 t571, .int .i64 t572, .int .i64 t573, .int .i64 t574, .int .i64 t575, .int .i64 t576, .int .i64 t577, .int .i64 t578, .int .i64 t579] 29 (0, 0)) (sqK BK580)) (below_size (sqB))); replace HO_5 := Aside0.mk (Kd.R_elder' (sqR HO_5) (Kd.R_base ho0) hb); replace HO_6 := Aside0.mk (Kd.R_elder' (sqR HO_6) (Kd.R_base ho0) hb); replace HO_9 := Aside0.mk (Kd.R_elder' (sqR HO_9) (Kd.R_base ho0) hb); replace HO628 := Aside0.mk (Kd.R_elder' (sqR HO628) (Kd.R_base ho0) hb); replace BK580 := sqL BK580 hb; replace BK590 := sqL BK590 hb; replace HB := sqS hb
          (try clear hb)
          (try clear hb2)
          (try clear hk)
          (try clear hi)
          (try clear ho0)
          obtain ⟨Ao77, co77, eo77⟩ := Kd.R_slice HO628.out
          (first | subst eo77 | (injection eo77 with f1_ f2_ f3_; have f4_ := f1_.symm; have f5_ := f3_.symm; clear f1_ f2_ f3_; subst f4_; subst f5_))
          obtain ⟨Ao78, co78, eo78⟩ := Kd.R_slice HO631.out
          (first | subst eo78 | (injection eo78 with f1_ f2_ f3_; have f4_ := f1_.symm; have f5_ := f3_.symm; clear f1_ f2_ f3_; subst f4_; subst f5_))
          refine hK.out _ _ sqF (fun hHeld => ?_)
          clear hK K
          refine sqV (N := some 109) ?_
          refine one_ (i := 48) (N := some 110) (sqb 49 2) rfl rfl (one_of HT_.out (by kernel_rfl)) (by decide) (fun K hK => ?_)
          refine goes_ Try.func42 (by kernel_rfl) rfl #[.slice Ao77 t626.length co77, .slice Ao78 t629.length co78] (by rfl) rfl rfl sqA ?_
          with_reducible refine (laws_sameCreds.calls k1 _ _ t626 _ _ t629 t632 _ ?side1 ?side2 ?side3 ?side4 A54.out).mono ?_
          (case side1 => repeat (first | exact (Kd.R_reads' HO628.out).2.2 | (with_reducible refine Kd.C_alloc ?_ _) | (with_reducible refine Kd.C_drewN ?_ _) | (with_reducible refine Kd.C_drew ?_)))
          (case side2 => exact (Kd.R_reads' HO628.out).2.1)
          (case side3 => repeat (first | exact (Kd.R_reads' HO631.out).2.2 | (with_reducible refine Kd.C_alloc ?_ _) | (with_reducible refine Kd.C_drewN ?_ _) | (with_reducible refine Kd.C_drew ?_)))
          (case side4 => exact (Kd.R_reads' HO631.out).2.1)
          rintro e w' ⟨rfl, ⟨nd, rfl⟩⟩
          refine ⟨_, rfl, ?_⟩
          refine hK.out _ _ sqF (fun hHeld => ?_)
          clear hK K
          refine sqV (N := some 110) ?_
          refine sqP (i := 49) (N := some 111) (sqb 50 1) rfl rfl (any_of HT_.out (by kernel_rfl)) ?_
          refine sqP (i := 50) (N := some 2) (sqb 51 0) rfl rfl (any_of HT_.out (by kernel_rfl)) ?_
          refine done_ (done_of HT_.out (by kernel_rfl)) ?_
          try go_wp2
          go_ret
          exact ⟨sqE, sqB⟩
         ·rw [if_neg c51] at H
          exact absurd ((Option.some.inj H).trans HRT.out) (by decide)
        ·replace c50 := Bool.eq_false_iff.mpr c50
         subst c50
         have H1 : (some false) = some r := by rw [if_neg (show ¬ (false = true) by decide)] at H; exact H
         exact absurd ((Option.some.inj H1).trans HRT.out) (by decide)
       ·rw [if_neg c46] at H
        exact absurd ((Option.some.inj H).trans HRT.out) (by decide)
      ·replace c43 := Bool.eq_false_iff.mpr c43
       subst c43
       have H1 : (some false) = some r := by rw [if_neg (show ¬ (false = true) by decide)] at H; exact H
       exact absurd ((Option.some.inj H1).trans HRT.out) (by decide)
     ·replace c39 := Bool.eq_false_iff.mpr c39
      subst c39
      have H1 : (some false) = some r := by rw [if_neg (show ¬ (false = true) by decide)] at H; exact H
      exact absurd ((Option.some.inj H1).trans HRT.out) (by decide)

/-- THE ONE PURE STATEMENT of laws_FnMembersTold: yours. -/
def laws_FnMembersTold.Pure : Prop := ∀ (l0 : List Int), l0.length ≤ maxLen → l0.length * 1 ≤ 140737488351232 → (∀ x ∈ l0, (Lit.int .u8 x).wf = true) → ∃ k, laws_FnMembersTold.f k l0 = some true
theorem laws_FnMembersTold.walk (P : laws_FnMembersTold.Pure) (a0 : Option Addr) (len0 cap0 : Nat) (z0 : List Int) (w : World) (w0 : (a0 = none ∧ len0 = 0 ∧ cap0 = 0 ∧ z0 = []) ∨ ∃ x, a0 = some x ∧ len0 ≤ cap0 ∧ cap0 ≤ maxLen ∧ z0.length = cap0 ∧ (∀ i, i < z0.length → w.cell? (x.add i) = some (.int .u8 (z0.getD i 0))) ∧ ∀ n ∈ z0, (Lit.int .u8 n).wf = true) (y0 : len0 * 1 ≤ 140737488351232) :
  Calls Try.prog 8 #[.slice a0 len0 cap0] w fun e w' => e = .returned (.bool true) ∧ Below w.heap.size w w' := by
 obtain ⟨l0, rfl, hr0, hm0, hw0, hc0⟩ := ReadsInt.ofRowC w0
 obtain ⟨k, h⟩ := P l0 hm0 y0 hw0
 refine (laws_FnMembersTold.calls k _ _ l0 true w (Kd.C_of_reads (d := (0 : Int)) (h1 := fun _ => rfl) hr0) hc0 h rfl).mono ?_
 rintro e w' ⟨rfl, hd⟩
 exact ⟨rfl, hd⟩

end Go.Proofs.Ytnebbjcgkoaloaa.PFnMembersTold
