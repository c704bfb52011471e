/- What the code that one law of the given program reaches computes, function by function, each with its proof over the given translation.
Conditions: none of our own. (Laid by a program of this session, wip/xp/xp.py; some contracts are typed by hand.) -/
import Derived.Test.YtnebbjcgkoaloaaPFnMembersToldx0
import Derived.Test.YtnebbjcgkoaloaaPFnMembersToldx1
import Derived.Test.YtnebbjcgkoaloaaPFnMembersToldx6
import Derived.Test.YtnebbjcgkoaloaaPFnMembersToldx7
namespace Go.Proofs.Ytnebbjcgkoaloaa.PFnMembersTold
open Go.RowKit Go.Proofs.YtnebbjcgkoaloaaW.PrintWords Go.Proofs.YtnebbjcgkoaloaaW.PrintLast Go.Proofs.YtnebbjcgkoaloaaW.PrintMore
attribute [local go_sem] max2_int min2_int max_two min_two max_three min_three max_four min_four   -- for this text's walks alone
set_option linter.unusedVariables false
set_option linter.unusedSimpArgs false

attribute [local go_sem high] eqA27
/-! ### spec_Follows: function 40 -/
mutual
def spec_Follows.j0 : Nat → List (S36) → List (S36) → Int → Bool → Int → Int → Int → Int → Int → Int → Int → Int → Int → Int → Option ((List (S36)))
 | 0, _, _, _, _, _, _, _, _, _, _, _, _, _, _ => none
 | k + 1, x0, x5, x19, x29, x192000, x192001, x192002, x192003, x192004, x192005, x192006, x192007, x192008, x192009 => if x29 = true then (spec_Follows.l0 k x0 x5 0 x192000 x192001 x192002 x192003 x192004 x192005 x192006 x192007 x192008 x192009) else (if x19 = 3 then (spec_Follows.l1 k x0 x5 0 x192000 x192001 x192002 x192003 x192004 x192005 x192006 x192007 x192008 x192009) else (some x5))
def spec_Follows.l0 : Nat → List (S36) → List (S36) → Int → Int → Int → Int → Int → Int → Int → Int → Int → Int → Int → Option ((List (S36)))
 | 0, _, _, _, _, _, _, _, _, _, _, _, _, _ => none
 | k + 1, x0, x5, x6, x192000, x192001, x192002, x192003, x192004, x192005, x192006, x192007, x192008, x192009 => if x6 < (x0.length : Int) then (if 0 ≤ x6 then (if (((rd_T36 x0 x6).f0.f0) == x192004 && (((rd_T36 x0 x6).f0.f1) == x192005)) = true then (if x192000 = 2 then ((spec_l06Put.f k x5 x192001 x192002 ((rd_T36 x0 x6).f1)).bind fun t204 => (spec_Follows.l0 k x0 t204 (wrap64 (x6 + 1)) x192000 x192001 x192002 x192003 x192004 x192005 x192006 x192007 x192008 x192009)) else ((spec_l06Has.f k x0 x192006 x192007 ((rd_T36 x0 x6).f1)).bind fun t207 => (if t207 = true then ((spec_l06Put.f k x5 x192001 x192002 ((rd_T36 x0 x6).f1)).bind fun t208 => (spec_Follows.l0 k x0 t208 (wrap64 (x6 + 1)) x192000 x192001 x192002 x192003 x192004 x192005 x192006 x192007 x192008 x192009)) else (spec_Follows.l0 k x0 x5 (wrap64 (x6 + 1)) x192000 x192001 x192002 x192003 x192004 x192005 x192006 x192007 x192008 x192009)))) else (spec_Follows.l0 k x0 x5 (wrap64 (x6 + 1)) x192000 x192001 x192002 x192003 x192004 x192005 x192006 x192007 x192008 x192009)) else (none)) else (some x5)
def spec_Follows.l1 : Nat → List (S36) → List (S36) → Int → Int → Int → Int → Int → Int → Int → Int → Int → Int → Int → Option ((List (S36)))
 | 0, _, _, _, _, _, _, _, _, _, _, _, _, _ => none
 | k + 1, x0, x5, x8, x192000, x192001, x192002, x192003, x192004, x192005, x192006, x192007, x192008, x192009 => if x8 < (x0.length : Int) then (if 0 ≤ x8 then (if (!(((rd_T36 x0 x8).f0.f0) == x192004) || (!(((rd_T36 x0 x8).f0.f1) == x192005))) = true then (spec_Follows.l1 k x0 x5 (wrap64 (x8 + 1)) x192000 x192001 x192002 x192003 x192004 x192005 x192006 x192007 x192008 x192009) else (spec_Follows.l2 k x0 x5 x8 0 x192000 x192001 x192002 x192003 x192004 x192005 x192006 x192007 x192008 x192009 ((rd_T36 x0 x8).f1) x192007)) else (none)) else (some x5)
def spec_Follows.l2 : Nat → List (S36) → List (S36) → Int → Int → Int → Int → Int → Int → Int → Int → Int → Int → Int → Int → Int → Int → Option ((List (S36)))
 | 0, _, _, _, _, _, _, _, _, _, _, _, _, _, _, _, _ => none
 | k + 1, x0, x5, x8, x10, x192000, x192001, x192002, x192003, x192004, x192005, x192006, x192007, x192008, x192009, x214000, x214001 => if x10 < (x0.length : Int) then (if 0 ≤ x10 then (if (((rd_T36 x0 x10).f0.f0) == x214000 && (((rd_T36 x0 x10).f0.f1) == x214001)) = true then ((spec_l06Put.f k x5 x192001 x192002 ((rd_T36 x0 x10).f1)).bind fun t216 => (spec_Follows.l2 k x0 t216 x8 (wrap64 (x10 + 1)) x192000 x192001 x192002 x192003 x192004 x192005 x192006 x192007 x192008 x192009 x214000 x214001)) else (spec_Follows.l2 k x0 x5 x8 (wrap64 (x10 + 1)) x192000 x192001 x192002 x192003 x192004 x192005 x192006 x192007 x192008 x192009 x214000 x214001)) else (none)) else (spec_Follows.l1 k x0 x5 (wrap64 (x8 + 1)) x192000 x192001 x192002 x192003 x192004 x192005 x192006 x192007 x192008 x192009)
end
def spec_Follows.f (k : Nat) (l0 : List (S36)) (a1_0 : Int) (a1_1 : Int) (a1_2 : Int) (a1_3 : Int) (a1_4 : Int) (a1_5 : Int) (a1_6 : Int) (a1_7 : Int) (a1_8 : Int) (a1_9 : Int) : Option ((List (S36))) := (some (([] : List (S36)) : List (S36))).bind fun y192 => (if y192.length + l0.length < 5864062014805 then ((some (y192 ++ l0 : List (S36))).bind fun y195 => ((spec_CredOk.f k a1_0 a1_1 a1_2 a1_3 a1_4 a1_5 a1_6 a1_7 a1_8 a1_9).bind fun t198 => (if t198 = true then (if a1_0 = 1 then ((spec_l06Put.f k y195 a1_1 a1_2 a1_3).bind fun t199 => (some t199)) else (if a1_0 = 2 then (spec_Follows.j0 k l0 y195 a1_0 (a1_0 == 2) a1_0 a1_1 a1_2 a1_3 a1_4 a1_5 a1_6 a1_7 a1_8 a1_9) else (spec_Follows.j0 k l0 y195 a1_0 (a1_0 == 4) a1_0 a1_1 a1_2 a1_3 a1_4 a1_5 a1_6 a1_7 a1_8 a1_9))) else (some y195)))) else (none))
theorem spec_Follows.mono_l : ∀ k, (∀ y0 y1 y2 y3 y4 y5 y6 y7 y8 y9 y10 y11 y12 y13, LeO (spec_Follows.j0 k y0 y1 y2 y3 y4 y5 y6 y7 y8 y9 y10 y11 y12 y13) (spec_Follows.j0 (k + 1) y0 y1 y2 y3 y4 y5 y6 y7 y8 y9 y10 y11 y12 y13)) ∧ (∀ y0 y1 y2 y3 y4 y5 y6 y7 y8 y9 y10 y11 y12, LeO (spec_Follows.l0 k y0 y1 y2 y3 y4 y5 y6 y7 y8 y9 y10 y11 y12) (spec_Follows.l0 (k + 1) y0 y1 y2 y3 y4 y5 y6 y7 y8 y9 y10 y11 y12)) ∧ (∀ y0 y1 y2 y3 y4 y5 y6 y7 y8 y9 y10 y11 y12, LeO (spec_Follows.l1 k y0 y1 y2 y3 y4 y5 y6 y7 y8 y9 y10 y11 y12) (spec_Follows.l1 (k + 1) y0 y1 y2 y3 y4 y5 y6 y7 y8 y9 y10 y11 y12)) ∧ (∀ y0 y1 y2 y3 y4 y5 y6 y7 y8 y9 y10 y11 y12 y13 y14 y15, LeO (spec_Follows.l2 k y0 y1 y2 y3 y4 y5 y6 y7 y8 y9 y10 y11 y12 y13 y14 y15) (spec_Follows.l2 (k + 1) y0 y1 y2 y3 y4 y5 y6 y7 y8 y9 y10 y11 y12 y13 y14 y15))
 | 0 => ⟨fun _ _ _ _ _ _ _ _ _ _ _ _ _ _ r h => by simp [spec_Follows.j0] at h, fun _ _ _ _ _ _ _ _ _ _ _ _ _ r h => by simp [spec_Follows.l0] at h, fun _ _ _ _ _ _ _ _ _ _ _ _ _ r h => by simp [spec_Follows.l1] at h, fun _ _ _ _ _ _ _ _ _ _ _ _ _ _ _ _ r h => by simp [spec_Follows.l2] at h⟩
 | k + 1 => by
  obtain ⟨ih0, ih1, ih2, ih3⟩ := spec_Follows.mono_l k
  refine ⟨?_, ?_, ?_, ?_⟩
  ·intro y0 y1 y2 y3 y4 y5 y6 y7 y8 y9 y10 y11 y12 y13
   unfold spec_Follows.j0
   repeat' first
   | (with_reducible exact ih0 _ _ _ _ _ _ _ _ _ _ _ _ _ _)
   | (with_reducible exact ih1 _ _ _ _ _ _ _ _ _ _ _ _ _)
   | (with_reducible exact ih2 _ _ _ _ _ _ _ _ _ _ _ _ _)
   | (with_reducible exact ih3 _ _ _ _ _ _ _ _ _ _ _ _ _ _ _ _)
   | (with_reducible exact spec_CredOk.mono _ _ _ _ _ _ _ _ _ _ _)
   | (with_reducible exact spec_l06Has.mono _ _ _ _ _)
   | (with_reducible exact spec_l06Put.mono _ _ _ _ _)
   | (with_reducible exact LeO.refl _)
   | (with_reducible exact LeO.none _)
   | (with_reducible refine LeO.ite ?_ ?_)
   | (with_reducible refine LeO.bind ?_ (fun _ => ?_))
   | exact ih0 _ _ _ _ _ _ _ _ _ _ _ _ _ _
   | exact ih1 _ _ _ _ _ _ _ _ _ _ _ _ _
   | exact ih2 _ _ _ _ _ _ _ _ _ _ _ _ _
   | exact ih3 _ _ _ _ _ _ _ _ _ _ _ _ _ _ _ _
   | exact spec_CredOk.mono _ _ _ _ _ _ _ _ _ _ _
   | exact spec_l06Has.mono _ _ _ _ _
   | exact spec_l06Put.mono _ _ _ _ _
   | exact LeO.none _
   | refine LeO.ite ?_ ?_
   | refine LeO.bind ?_ (fun _ => ?_)
  ·intro y0 y1 y2 y3 y4 y5 y6 y7 y8 y9 y10 y11 y12
   unfold spec_Follows.l0
   repeat' first
   | (with_reducible exact ih0 _ _ _ _ _ _ _ _ _ _ _ _ _ _)
   | (with_reducible exact ih1 _ _ _ _ _ _ _ _ _ _ _ _ _)
   | (with_reducible exact ih2 _ _ _ _ _ _ _ _ _ _ _ _ _)
   | (with_reducible exact ih3 _ _ _ _ _ _ _ _ _ _ _ _ _ _ _ _)
   | (with_reducible exact spec_CredOk.mono _ _ _ _ _ _ _ _ _ _ _)
   | (with_reducible exact spec_l06Has.mono _ _ _ _ _)
   | (with_reducible exact spec_l06Put.mono _ _ _ _ _)
   | (with_reducible exact LeO.refl _)
   | (with_reducible exact LeO.none _)
   | (with_reducible refine LeO.ite ?_ ?_)
   | (with_reducible refine LeO.bind ?_ (fun _ => ?_))
   | exact ih0 _ _ _ _ _ _ _ _ _ _ _ _ _ _
   | exact ih1 _ _ _ _ _ _ _ _ _ _ _ _ _
   | exact ih2 _ _ _ _ _ _ _ _ _ _ _ _ _
   | exact ih3 _ _ _ _ _ _ _ _ _ _ _ _ _ _ _ _
   | exact spec_CredOk.mono _ _ _ _ _ _ _ _ _ _ _
   | exact spec_l06Has.mono _ _ _ _ _
   | exact spec_l06Put.mono _ _ _ _ _
   | exact LeO.none _
   | refine LeO.ite ?_ ?_
   | refine LeO.bind ?_ (fun _ => ?_)
  ·intro y0 y1 y2 y3 y4 y5 y6 y7 y8 y9 y10 y11 y12
   unfold spec_Follows.l1
   repeat' first
   | (with_reducible exact ih0 _ _ _ _ _ _ _ _ _ _ _ _ _ _)
   | (with_reducible exact ih1 _ _ _ _ _ _ _ _ _ _ _ _ _)
   | (with_reducible exact ih2 _ _ _ _ _ _ _ _ _ _ _ _ _)
   | (with_reducible exact ih3 _ _ _ _ _ _ _ _ _ _ _ _ _ _ _ _)
   | (with_reducible exact spec_CredOk.mono _ _ _ _ _ _ _ _ _ _ _)
   | (with_reducible exact spec_l06Has.mono _ _ _ _ _)
   | (with_reducible exact spec_l06Put.mono _ _ _ _ _)
   | (with_reducible exact LeO.refl _)
   | (with_reducible exact LeO.none _)
   | (with_reducible refine LeO.ite ?_ ?_)
   | (with_reducible refine LeO.bind ?_ (fun _ => ?_))
   | exact ih0 _ _ _ _ _ _ _ _ _ _ _ _ _ _
   | exact ih1 _ _ _ _ _ _ _ _ _ _ _ _ _
   | exact ih2 _ _ _ _ _ _ _ _ _ _ _ _ _
   | exact ih3 _ _ _ _ _ _ _ _ _ _ _ _ _ _ _ _
   | exact spec_CredOk.mono _ _ _ _ _ _ _ _ _ _ _
   | exact spec_l06Has.mono _ _ _ _ _
   | exact spec_l06Put.mono _ _ _ _ _
   | exact LeO.none _
   | refine LeO.ite ?_ ?_
   | refine LeO.bind ?_ (fun _ => ?_)
  ·intro y0 y1 y2 y3 y4 y5 y6 y7 y8 y9 y10 y11 y12 y13 y14 y15
   unfold spec_Follows.l2
   repeat' first
   | (with_reducible exact ih0 _ _ _ _ _ _ _ _ _ _ _ _ _ _)
   | (with_reducible exact ih1 _ _ _ _ _ _ _ _ _ _ _ _ _)
   | (with_reducible exact ih2 _ _ _ _ _ _ _ _ _ _ _ _ _)
   | (with_reducible exact ih3 _ _ _ _ _ _ _ _ _ _ _ _ _ _ _ _)
   | (with_reducible exact spec_CredOk.mono _ _ _ _ _ _ _ _ _ _ _)
   | (with_reducible exact spec_l06Has.mono _ _ _ _ _)
   | (with_reducible exact spec_l06Put.mono _ _ _ _ _)
   | (with_reducible exact LeO.refl _)
   | (with_reducible exact LeO.none _)
   | (with_reducible refine LeO.ite ?_ ?_)
   | (with_reducible refine LeO.bind ?_ (fun _ => ?_))
   | exact ih0 _ _ _ _ _ _ _ _ _ _ _ _ _ _
   | exact ih1 _ _ _ _ _ _ _ _ _ _ _ _ _
   | exact ih2 _ _ _ _ _ _ _ _ _ _ _ _ _
   | exact ih3 _ _ _ _ _ _ _ _ _ _ _ _ _ _ _ _
   | exact spec_CredOk.mono _ _ _ _ _ _ _ _ _ _ _
   | exact spec_l06Has.mono _ _ _ _ _
   | exact spec_l06Put.mono _ _ _ _ _
   | exact LeO.none _
   | refine LeO.ite ?_ ?_
   | refine LeO.bind ?_ (fun _ => ?_)
theorem spec_Follows.mono : ∀ a0 a1 a2 a3 a4 a5 a6 a7 a8 a9 a10 k, LeO (spec_Follows.f k a0 a1 a2 a3 a4 a5 a6 a7 a8 a9 a10) (spec_Follows.f (k + 1) a0 a1 a2 a3 a4 a5 a6 a7 a8 a9 a10) := by
 intro a0 a1 a2 a3 a4 a5 a6 a7 a8 a9 a10 k
 obtain ⟨ih0, ih1, ih2, ih3⟩ := spec_Follows.mono_l k
 unfold spec_Follows.f
 repeat' first
   | (with_reducible exact ih0 _ _ _ _ _ _ _ _ _ _ _ _ _ _)
   | (with_reducible exact ih1 _ _ _ _ _ _ _ _ _ _ _ _ _)
   | (with_reducible exact ih2 _ _ _ _ _ _ _ _ _ _ _ _ _)
   | (with_reducible exact ih3 _ _ _ _ _ _ _ _ _ _ _ _ _ _ _ _)
   | (with_reducible exact spec_CredOk.mono _ _ _ _ _ _ _ _ _ _ _)
   | (with_reducible exact spec_l06Has.mono _ _ _ _ _)
   | (with_reducible exact spec_l06Put.mono _ _ _ _ _)
   | (with_reducible exact LeO.refl _)
   | (with_reducible exact LeO.none _)
   | (with_reducible refine LeO.ite ?_ ?_)
   | (with_reducible refine LeO.bind ?_ (fun _ => ?_))
   | exact ih0 _ _ _ _ _ _ _ _ _ _ _ _ _ _
   | exact ih1 _ _ _ _ _ _ _ _ _ _ _ _ _
   | exact ih2 _ _ _ _ _ _ _ _ _ _ _ _ _
   | exact ih3 _ _ _ _ _ _ _ _ _ _ _ _ _ _ _ _
   | exact spec_CredOk.mono _ _ _ _ _ _ _ _ _ _ _
   | exact spec_l06Has.mono _ _ _ _ _
   | exact spec_l06Put.mono _ _ _ _ _
   | exact LeO.none _
   | refine LeO.ite ?_ ?_
   | refine LeO.bind ?_ (fun _ => ?_)
def spec_Follows.T19 : Bool × List (List Nat × List Nat) := (true, [([], []), ([], []), ([0, 1], [0, 1]), ([2], [2]), ([3], [3]), ([], []), ([5], [5]), ([4, 6], [4, 6])])
def spec_Follows.B19 : List Nat := [0, 0, 3, 7, 15, 0, 32, 127]
theorem spec_Follows.tab19 : rtab .any (opsOf Try.f40 19) = spec_Follows.T19 := by kernel_rfl
theorem spec_Follows.bits19 : waitsOk spec_Follows.T19.2 spec_Follows.B19 = true := by kernel_rfl
def spec_Follows.T20 : Bool × List (List Nat × List Nat) := (true, [([], []), ([], []), ([0, 1], [0, 1]), ([2], [2]), ([3], [3]), ([], []), ([5], [5]), ([6], [6]), ([4, 7], [4, 7]), ([], []), ([9, 8, 0, 1, 2, 3, 4, 5, 6, 7, 8, 9], [8, 9])])
def spec_Follows.B20 : List Nat := [0, 0, 3, 7, 15, 0, 32, 96, 255, 0, 1023]
theorem spec_Follows.tab20 : rtab .any (opsOf Try.f40 20) = spec_Follows.T20 := by kernel_rfl
theorem spec_Follows.bits20 : waitsOk spec_Follows.T20.2 spec_Follows.B20 = true := by kernel_rfl
def spec_Follows.T25 : Bool × List (List Nat × List Nat) := (true, [([], []), ([], []), ([1], [1]), ([], []), ([], []), ([3, 4], [3, 4]), ([5], [5]), ([6], [6]), ([2, 7], [2, 7]), ([0, 8], [0, 8]), ([9, 9, 0, 1, 2, 3, 4, 5, 6, 7, 8, 9], [0, 9])])
def spec_Follows.B25 : List Nat := [0, 0, 2, 0, 0, 24, 56, 120, 254, 511, 1023]
theorem spec_Follows.tab25 : rtab .any (opsOf Try.f40 25) = spec_Follows.T25 := by kernel_rfl
theorem spec_Follows.bits25 : waitsOk spec_Follows.T25.2 spec_Follows.B25 = true := by kernel_rfl
set_option maxHeartbeats 8000000 in
set_option maxRecDepth 100000 in
theorem spec_Follows.calls (k : Nat) (A0 : Option Addr) (c0 : Nat) (l0 : List (S36)) (a1_0 : Int) (a1_1 : Int) (a1_2 : Int) (a1_3 : Int) (a1_4 : Int) (a1_5 : Int) (a1_6 : Int) (a1_7 : Int) (a1_8 : Int) (a1_9 : Int) (r : List (S36)) (w : World) (hr0 : Kd.C k36 w A0 l0.length l0) (hc0 : l0.length ≤ c0) (h : spec_Follows.f k l0 a1_0 a1_1 a1_2 a1_3 a1_4 a1_5 a1_6 a1_7 a1_8 a1_9 = some r) :
  Calls Try.prog 40 #[.slice A0 l0.length c0, .agg #[.int .i64 a1_0, .int .i64 a1_1, .int .i64 a1_2, .int .i64 a1_3, .int .i64 a1_4, .int .i64 a1_5, .int .i64 a1_6, .int .i64 a1_7, .int .i64 a1_8, .int .i64 a1_9]] w fun e w' => ∃ v0_ : Value, e = .returned (v0_) ∧ Kd.R k36 36 w' w.heap.size (fun _ => True) v0_ r ∧ Below w.heap.size w w' := by
 have hu29 := Try.underlying29
 have hu27 := Try.underlying27
 have hu36 := Try.underlying36
 have HR0 := Aside0.mk hr0
 have HC0 := Aside0.mk hc0
 clear hr0 hc0
 have HB := Aside0.mk (Below.refl w.heap.size w)
 have H : ((some (([] : List (S36)) : List (S36))).bind fun y192 => (if y192.length + l0.length < 5864062014805 then ((some (y192 ++ l0 : List (S36))).bind fun y195 => ((spec_CredOk.f k a1_0 a1_1 a1_2 a1_3 a1_4 a1_5 a1_6 a1_7 a1_8 a1_9).bind fun t198 => (if t198 = true then (if a1_0 = 1 then ((spec_l06Put.f k y195 a1_1 a1_2 a1_3).bind fun t199 => (some t199)) else (if a1_0 = 2 then (spec_Follows.j0 k l0 y195 a1_0 (a1_0 == 2) a1_0 a1_1 a1_2 a1_3 a1_4 a1_5 a1_6 a1_7 a1_8 a1_9) else (spec_Follows.j0 k l0 y195 a1_0 (a1_0 == 4) a1_0 a1_1 a1_2 a1_3 a1_4 a1_5 a1_6 a1_7 a1_8 a1_9))) else (some y195)))) else (none))) = some r := h
 clear h
 obtain ⟨y192, hy192⟩ : ∃ y_ : List (S36), y_ = (([] : List (S36))) := ⟨_, rfl⟩
 replace H : (if y192.length + l0.length < 5864062014805 then ((some (y192 ++ l0 : List (S36))).bind fun y195 => ((spec_CredOk.f k a1_0 a1_1 a1_2 a1_3 a1_4 a1_5 a1_6 a1_7 a1_8 a1_9).bind fun t198 => (if t198 = true then (if a1_0 = 1 then ((spec_l06Put.f k y195 a1_1 a1_2 a1_3).bind fun t199 => (some t199)) else (if a1_0 = 2 then (spec_Follows.j0 k l0 y195 a1_0 (a1_0 == 2) a1_0 a1_1 a1_2 a1_3 a1_4 a1_5 a1_6 a1_7 a1_8 a1_9) else (spec_Follows.j0 k l0 y195 a1_0 (a1_0 == 4) a1_0 a1_1 a1_2 a1_3 a1_4 a1_5 a1_6 a1_7 a1_8 a1_9))) else (some y195)))) else (none)) = some r := by first | (rw [hy192]; with_reducible exact H) | (have H2_ := (Option.bind_some _ _).symm.trans H; rw [hy192]; with_reducible exact H2_) | (have H2_ := (Option.bind_some _ _).symm.trans H; with_reducible exact H2_) | with_reducible exact H | (rw [hy192]; exact H) | exact H
 have Ny192 := Aside0.mk hy192
 clear hy192
 by_cases c3 : y192.length + l0.length < 5864062014805
 ·rw [if_pos c3] at H
  have LMc3 := Aside0.mk c3
  clear c3
  obtain ⟨y195, hy195⟩ : ∃ y_ : List (S36), y_ = (y192 ++ l0) := ⟨_, rfl⟩
  replace H : ((spec_CredOk.f k a1_0 a1_1 a1_2 a1_3 a1_4 a1_5 a1_6 a1_7 a1_8 a1_9).bind fun t198 => (if t198 = true then (if a1_0 = 1 then ((spec_l06Put.f k y195 a1_1 a1_2 a1_3).bind fun t199 => (some t199)) else (if a1_0 = 2 then (spec_Follows.j0 k l0 y195 a1_0 (a1_0 == 2) a1_0 a1_1 a1_2 a1_3 a1_4 a1_5 a1_6 a1_7 a1_8 a1_9) else (spec_Follows.j0 k l0 y195 a1_0 (a1_0 == 4) a1_0 a1_1 a1_2 a1_3 a1_4 a1_5 a1_6 a1_7 a1_8 a1_9))) else (some y195))) = some r := by first | (rw [hy195]; with_reducible exact H) | (have H2_ := (Option.bind_some _ _).symm.trans H; rw [hy195]; with_reducible exact H2_) | (have H2_ := (Option.bind_some _ _).symm.trans H; with_reducible exact H2_) | with_reducible exact H | (rw [hy195]; exact H) | exact H
  have Ny195 := Aside0.mk hy195
  clear hy195
  replace H := Option.bind_eq_some_iff.mp H
  obtain ⟨t198, A40, H⟩ := H
  try dsimp only at H
  have A4 := Aside0.mk A40
  clear A40
  by_cases c5 : t198 = true
  ·subst c5
   rw [if_pos rfl] at H
   by_cases c6 : a1_0 = 1
   ·rw [if_pos c6] at H
    have c6b0 : (a1_0 == 1) = true := beq_iff_eq.mpr c6
    have c6b1 : (a1_0 != 1) = false := bne_eq_false_iff_eq.mpr c6
    clear c6
    replace H := Option.bind_eq_some_iff.mp H
    obtain ⟨t199, A70, H⟩ := H
    try dsimp only at H
    have A7 := Aside0.mk A70
    clear A70
    obtain rfl := Option.some.inj H
    go_enter Try.func40, Try.ntmps40
    go_wp2_with (first | ((with_reducible refine gate_dst (N := 3) rfl ?_); refine sqX (N := 3) (cs := #[.int .i64 a1_0, .int .i64 a1_1, .int .i64 a1_2, .int .i64 a1_3, .int .i64 a1_4, .int .i64 a1_5, .int .i64 a1_6, .int .i64 a1_7, .int .i64 a1_8, .int .i64 a1_9]) (t := 29) ?_; intro gb191 hg w8 hbox hb; have BK191 := Aside0.mk (hbox); have GW191 := sqG hg; have GE191 := sqG hg; replace HB := sqS hb; clear hb hbox hg) | ((with_reducible refine gate_dst (N := 11) rfl ?_); refine Kd.R_lit k36 _ 36 ?hg (N := 11) ?hd (xs := ([] : List (S36))) (inner := []) (ok := fun _ => True) (okp := fun _ => True) ?hr ?hp (fun _ hk => hk) trivial (Below.refl _ _) (Nat.le_refl _) (by simp) ?_; (case hd => rfl); (case hg => rfl); (case hr => first | (go_simp; done) | (go_simp; rfl)); (case hp => exact (Reps.none _ _)); intro v193 w9 ho10 hb hg_ hnew_; clear hg_ hnew_; (first | rw [← Ny192.out] at ho10 | (simp only [Int.reduceToNat] at ho10; rw [← Ny192.out] at ho10)); have HO194 := Aside0.mk (Kd.R_lower ho10 (below_size (sqB))); replace BK191 := sqL BK191 hb; replace HB := sqS hb; clear hb ho10) | ((with_reducible refine gate_builtin (b := .append) (xs := #[.tmp 11, .tmp 12]) rfl ?_); at_builtin; refine Kd.R_append_rows k36 (w0 := w) w.heap.size rfl (.tmp 11) (.tmp 12) 31 36 (.agg #[(.int .i64 0), (.int .i64 0), (.int .i64 0)]) 24 rfl Try.underlying31 info36 rfl (by decide) (by omega) v193 y192 l0 _ _ _ (fun _ => True) (fun _ => False) rfl rfl ?aO ?aR (fun _ _ h => h) (fun _ h => h.elim) ?aF ?aB ?aS ?aL ?_; (case aR => repeat (first | exact (Kd.C_below HR0.out HB.out) | (with_reducible refine Kd.C_alloc ?_ _) | (with_reducible refine Kd.C_drewN ?_ _) | (with_reducible refine Kd.C_drew ?_))); (case aB => exact (sqB)); (case aF => exact (fun _ _ => trivial)); (case aO => exact (sqR HO194)); (case aS => exact (below_size (sqB))); (case aL => have := LMc3.out; omega); intro v196 w11 ho hb hg hat; rw [← Ny195.out] at ho; have n0_ := Aside0.mk (blk_grown (g := gb191) (o := .cells #[.int .i64 a1_0, .int .i64 a1_1, .int .i64 a1_2, .int .i64 a1_3, .int .i64 a1_4, .int .i64 a1_5, .int .i64 a1_6, .int .i64 a1_7, .int .i64 a1_8, .int .i64 a1_9] 29 (0, 0)) (sqK BK191) hg (Kd.R_ne HO194.out BK191.out (by decide))); have n1_ := Aside0.mk (hb); have n2_ := Aside0.mk (ho); clear BK191; clear HB; clear HO194; have BK191 := n0_; have HB := n1_; have HO197 := n2_; clear n0_ n1_ n2_; clear ho hb hg hat; obtain ⟨hcz12_0, hcz12_1, hcz12_2, hcz12_3, hcz12_4, hcz12_5, hcz12_6, hcz12_7, hcz12_8, hcz12_9, hfz12_0, hfz12_1, hfz12_2, hfz12_3, hfz12_4, hfz12_5, hfz12_6, hfz12_7, hfz12_8, hfz12_9⟩ := sqC10 BK191) | ((with_reducible refine gate_callee (f := 66) rfl ?_); refine goesL_ (some 15) rfl rfl Try.func66 (by kernel_rfl) rfl #[.agg #[.int .i64 a1_0, .int .i64 a1_1, .int .i64 a1_2, .int .i64 a1_3, .int .i64 a1_4, .int .i64 a1_5, .int .i64 a1_6, .int .i64 a1_7, .int .i64 a1_8, .int .i64 a1_9]] rfl sqA ?_; (with_reducible refine (spec_CredOk.calls k a1_0 a1_1 a1_2 a1_3 a1_4 a1_5 a1_6 a1_7 a1_8 a1_9 true _ A4.out).mono ?_); rintro e w13 ⟨rfl, hb⟩; refine ⟨_, rfl, ?_⟩; replace HO197 := Aside0.mk (Kd.R_below (sqR HO197) hb); replace BK191 := sqL BK191 hb; replace HB := sqS hb; (try clear hb); (try clear hb2); (try clear hk); (try clear hi); obtain ⟨hcz14_0, hcz14_1, hcz14_2, hcz14_3, hcz14_4, hcz14_5, hcz14_6, hcz14_7, hcz14_8, hcz14_9, hfz14_0, hfz14_1, hfz14_2, hfz14_3, hfz14_4, hfz14_5, hfz14_6, hfz14_7, hfz14_8, hfz14_9⟩ := sqC10 BK191; obtain ⟨Ao15, co15, eo15⟩ := Kd.R_slice HO197.out; subst eo15) | ((with_reducible refine gate_callee (f := 67) rfl ?_); refine goesL_ (some 28) rfl rfl Try.func67 (by kernel_rfl) rfl #[.slice Ao15 y195.length co15, .agg #[.int .i64 a1_1, .int .i64 a1_2, .int .i64 a1_3]] rfl sqA ?_; (with_reducible refine (spec_l06Put.calls k (fun k_ => some k_ = (.slice Ao15 y195.length co15 : Value).ownBlock) (.slice Ao15 y195.length co15) y195 a1_1 a1_2 a1_3 t199 w _ ?side1 ?side2 A7.out).mono ?_); (case side1 => exact sqB); (case side2 => exact Kd.R_tight rfl HO197.out); rintro e w16 ⟨v200, rfl, ho0, hb, hkp⟩; refine ⟨_, rfl, ?_⟩; have n0_ := Aside0.mk (blk_kept (sqK BK191) hkp (fun hs_ => (fun e_ => (Kd.R_ne HO197.out BK191.out (by decide)) e_) hs_)); have n1_ := Aside0.mk (Kd.R_mono (ok' := fun k_ => True) ho0 (fun k_ hk_ => trivial)); have n2_ := Aside0.mk (hb); clear BK191; clear HB; clear HO197; have BK191 := n0_; have HO201 := n1_; have HB := n2_; clear n0_ n1_ n2_; (try clear hb); (try clear hkp); (try clear ho0)))
    go_ret
    exact ⟨_, sqE, sqR HO201, sqB⟩
   ·rw [if_neg c6] at H
    have c6b0 : (a1_0 == 1) = false := beq_eq_false_iff_ne.mpr c6
    have c6b1 : (a1_0 != 1) = true := bne_iff_ne.mpr c6
    have HC17 := Aside0.mk H
    clear H
    go_enter Try.func40, Try.ntmps40
    go_upto_if 29 with (first | ((with_reducible refine gate_dst (N := 3) rfl ?_); refine sqX (N := 3) (cs := #[.int .i64 a1_0, .int .i64 a1_1, .int .i64 a1_2, .int .i64 a1_3, .int .i64 a1_4, .int .i64 a1_5, .int .i64 a1_6, .int .i64 a1_7, .int .i64 a1_8, .int .i64 a1_9]) (t := 29) ?_; intro gb191 hg w18 hbox hb; have BK191 := Aside0.mk (hbox); have GW191 := sqG hg; have GE191 := sqG hg; replace HB := sqS hb; clear hb hbox hg) | ((with_reducible refine gate_dst (N := 11) rfl ?_); refine Kd.R_lit k36 _ 36 ?hg (N := 11) ?hd (xs := ([] : List (S36))) (inner := []) (ok := fun _ => True) (okp := fun _ => True) ?hr ?hp (fun _ hk => hk) trivial (Below.refl _ _) (Nat.le_refl _) (by simp) ?_; (case hd => rfl); (case hg => rfl); (case hr => first | (go_simp; done) | (go_simp; rfl)); (case hp => exact (Reps.none _ _)); intro v193 w19 ho20 hb hg_ hnew_; clear hg_ hnew_; (first | rw [← Ny192.out] at ho20 | (simp only [Int.reduceToNat] at ho20; rw [← Ny192.out] at ho20)); have HO194 := Aside0.mk (Kd.R_lower ho20 (below_size (sqB))); replace BK191 := sqL BK191 hb; replace HB := sqS hb; clear hb ho20) | ((with_reducible refine gate_builtin (b := .append) (xs := #[.tmp 11, .tmp 12]) rfl ?_); at_builtin; refine Kd.R_append_rows k36 (w0 := w) w.heap.size rfl (.tmp 11) (.tmp 12) 31 36 (.agg #[(.int .i64 0), (.int .i64 0), (.int .i64 0)]) 24 rfl Try.underlying31 info36 rfl (by decide) (by omega) v193 y192 l0 _ _ _ (fun _ => True) (fun _ => False) rfl rfl ?aO ?aR (fun _ _ h => h) (fun _ h => h.elim) ?aF ?aB ?aS ?aL ?_; (case aR => repeat (first | exact (Kd.C_below HR0.out HB.out) | (with_reducible refine Kd.C_alloc ?_ _) | (with_reducible refine Kd.C_drewN ?_ _) | (with_reducible refine Kd.C_drew ?_))); (case aB => exact (sqB)); (case aF => exact (fun _ _ => trivial)); (case aO => exact (sqR HO194)); (case aS => exact (below_size (sqB))); (case aL => have := LMc3.out; omega); intro v196 w21 ho hb hg hat; rw [← Ny195.out] at ho; have n0_ := Aside0.mk (blk_grown (g := gb191) (o := .cells #[.int .i64 a1_0, .int .i64 a1_1, .int .i64 a1_2, .int .i64 a1_3, .int .i64 a1_4, .int .i64 a1_5, .int .i64 a1_6, .int .i64 a1_7, .int .i64 a1_8, .int .i64 a1_9] 29 (0, 0)) (sqK BK191) hg (Kd.R_ne HO194.out BK191.out (by decide))); have n1_ := Aside0.mk (hb); have n2_ := Aside0.mk (ho); clear BK191; clear HB; clear HO194; have BK191 := n0_; have HB := n1_; have HO197 := n2_; clear n0_ n1_ n2_; clear ho hb hg hat; obtain ⟨hcz22_0, hcz22_1, hcz22_2, hcz22_3, hcz22_4, hcz22_5, hcz22_6, hcz22_7, hcz22_8, hcz22_9, hfz22_0, hfz22_1, hfz22_2, hfz22_3, hfz22_4, hfz22_5, hfz22_6, hfz22_7, hfz22_8, hfz22_9⟩ := sqC10 BK191) | ((with_reducible refine gate_callee (f := 66) rfl ?_); refine goesL_ (some 15) rfl rfl Try.func66 (by kernel_rfl) rfl #[.agg #[.int .i64 a1_0, .int .i64 a1_1, .int .i64 a1_2, .int .i64 a1_3, .int .i64 a1_4, .int .i64 a1_5, .int .i64 a1_6, .int .i64 a1_7, .int .i64 a1_8, .int .i64 a1_9]] rfl sqA ?_; (with_reducible refine (spec_CredOk.calls k a1_0 a1_1 a1_2 a1_3 a1_4 a1_5 a1_6 a1_7 a1_8 a1_9 true _ A4.out).mono ?_); rintro e w23 ⟨rfl, hb⟩; refine ⟨_, rfl, ?_⟩; replace HO197 := Aside0.mk (Kd.R_below (sqR HO197) hb); replace BK191 := sqL BK191 hb; replace HB := sqS hb; (try clear hb); (try clear hb2); (try clear hk); (try clear hi); obtain ⟨hcz24_0, hcz24_1, hcz24_2, hcz24_3, hcz24_4, hcz24_5, hcz24_6, hcz24_7, hcz24_8, hcz24_9, hfz24_0, hfz24_1, hfz24_2, hfz24_3, hfz24_4, hfz24_5, hfz24_6, hfz24_7, hfz24_8, hfz24_9⟩ := sqC10 BK191))
    (try simp only [Act.put, List.setIfInBounds_toArray, List.set_cons_zero, List.set_cons_succ])
    go_cut [29] (fun v29 wc => ∃ (kq : Nat) (x29_16 : Bool), v29 = .bool x29_16 ∧ Aside0 (spec_Follows.j0 kq l0 y195 a1_0 x29_16 a1_0 a1_1 a1_2 a1_3 a1_4 a1_5 a1_6 a1_7 a1_8 a1_9 = some r) ∧ Aside0 (kq ≤ k) ∧ Aside0 (Kd.R k36 36 wc w.heap.size (fun _ => True) v196 y195) ∧ Aside0 (wc.heap[gb191]? = some (.cells #[.int .i64 a1_0, .int .i64 a1_1, .int .i64 a1_2, .int .i64 a1_3, .int .i64 a1_4, .int .i64 a1_5, .int .i64 a1_6, .int .i64 a1_7, .int .i64 a1_8, .int .i64 a1_9] 29 (0, 0))) ∧ Aside0 (Below w.heap.size w wc))
    case first =>
     have H := HC17.out
     clear HC17
     by_cases c25 : a1_0 = 2
     ·rw [if_pos c25] at H
      have c25b0 : (a1_0 == 2) = true := beq_iff_eq.mpr c25
      have c25b1 : (a1_0 != 2) = false := bne_eq_false_iff_eq.mpr c25
      clear c25
      (first | rw [c25b0] | (simp only [i64_w, i32_w]; rw [c25b0]) | skip)
      have H' := Aside0.mk H
      clear H
      go_wp2
      go_meet
      case rel => exact ⟨_, ((a1_0 == 2)), (by first | rfl | (simp; done) | (simp [*]; done)), H', ⟨by first | omega | exact Nat.le_refl _⟩, ⟨sqR HO197⟩, ⟨sqK BK191⟩, ⟨sqB⟩⟩
     ·rw [if_neg c25] at H
      have c25b0 : (a1_0 == 2) = false := beq_eq_false_iff_ne.mpr c25
      have c25b1 : (a1_0 != 2) = true := bne_iff_ne.mpr c25
      (first | rw [c25b0] | (simp only [i64_w, i32_w]; rw [c25b0]) | skip)
      have H' := Aside0.mk H
      clear H
      go_wp2
      go_meet
      case rel => exact ⟨_, ((a1_0 == 4)), (by first | rfl | (simp; done) | (simp [*]; done)), H', ⟨by first | omega | exact Nat.le_refl _⟩, ⟨sqR HO197⟩, ⟨sqK BK191⟩, ⟨sqB⟩⟩
    case rest =>
     clear HC17
     try clear c2
     try clear p2
     try clear c3
     try clear c4
     try clear c5
     try clear c6
     try clear c6b0
     try clear c6b1
     try clear c25
     try clear c25b0
     try clear c25b1
     try clear hcz12_0 hcz12_1 hcz12_2 hcz12_3 hcz12_4 hcz12_5 hcz12_6 hcz12_7 hcz12_8 hcz12_9
     try clear hcz14_0 hcz14_1 hcz14_2 hcz14_3 hcz14_4 hcz14_5 hcz14_6 hcz14_7 hcz14_8 hcz14_9
     try clear hcz22_0 hcz22_1 hcz22_2 hcz22_3 hcz22_4 hcz22_5 hcz22_6 hcz22_7 hcz22_8 hcz22_9
     try clear hcz24_0 hcz24_1 hcz24_2 hcz24_3 hcz24_4 hcz24_5 hcz24_6 hcz24_7 hcz24_8 hcz24_9
     try clear hfz12_0
     try clear hfz12_1
     try clear hfz12_2
     try clear hfz12_3
     try clear hfz12_4
     try clear hfz12_5
     try clear hfz12_6
     try clear hfz12_7
     try clear hfz12_8
     try clear hfz12_9
     try clear hfz14_0
     try clear hfz14_1
     try clear hfz14_2
     try clear hfz14_3
     try clear hfz14_4
     try clear hfz14_5
     try clear hfz14_6
     try clear hfz14_7
     try clear hfz14_8
     try clear hfz14_9
     try clear hfz22_0
     try clear hfz22_1
     try clear hfz22_2
     try clear hfz22_3
     try clear hfz22_4
     try clear hfz22_5
     try clear hfz22_6
     try clear hfz22_7
     try clear hfz22_8
     try clear hfz22_9
     try clear hfz24_0
     try clear hfz24_1
     try clear hfz24_2
     try clear hfz24_3
     try clear hfz24_4
     try clear hfz24_5
     try clear hfz24_6
     try clear hfz24_7
     try clear hfz24_8
     try clear hfz24_9
     obtain ⟨kq, x29_16, rfl, HA, HJ16, HO_5, BK191, HB⟩ := hcut
     cases kq with
     | zero => exact absurd HA.out (by simp [spec_Follows.j0])
     | succ kj16 =>
      have H := HA.out
      clear HA
      simp only [spec_Follows.j0] at H
      by_cases c26 : x29_16 = true
      ·subst c26
       rw [if_pos rfl] at H
       have H' := Aside0.mk H
       clear H
       go_wp2
       go_loopg [5, 6] kj16 (fun kq v5 v6 w' => ∃ (x5_2 : List (S36)) (x6_2 : Int), v6 = .int .i64 x6_2 ∧ Aside0 (spec_Follows.l0 kq l0 x5_2 x6_2 a1_0 a1_1 a1_2 a1_3 a1_4 a1_5 a1_6 a1_7 a1_8 a1_9 = some r) ∧ Aside0 (kq ≤ kj16) ∧ Aside0 (Kd.R k36 36 w' w.heap.size (fun _ => True) v5 x5_2) ∧ Aside0 (w'.heap[gb191]? = some (.cells #[.int .i64 a1_0, .int .i64 a1_1, .int .i64 a1_2, .int .i64 a1_3, .int .i64 a1_4, .int .i64 a1_5, .int .i64 a1_6, .int .i64 a1_7, .int .i64 a1_8, .int .i64 a1_9] 29 (0, 0))) ∧ Aside0 (Below w.heap.size w w'))
       case atStart => exact ⟨(y195), (0), (by first | rfl | (simp; done) | (simp [*]; done)), H', ⟨Nat.le_refl _⟩, ⟨sqR HO_5⟩, ⟨sqK BK191⟩, ⟨sqB⟩⟩
       case round =>
        clear H'
        try clear c2
        try clear p2
        try clear c3
        try clear c4
        try clear c5
        try clear c6
        try clear c6b0
        try clear c6b1
        try clear c25
        try clear c25b0
        try clear c25b1
        try clear c26
        try clear hcz12_0 hcz12_1 hcz12_2 hcz12_3 hcz12_4 hcz12_5 hcz12_6 hcz12_7 hcz12_8 hcz12_9
        try clear hcz14_0 hcz14_1 hcz14_2 hcz14_3 hcz14_4 hcz14_5 hcz14_6 hcz14_7 hcz14_8 hcz14_9
        try clear hcz22_0 hcz22_1 hcz22_2 hcz22_3 hcz22_4 hcz22_5 hcz22_6 hcz22_7 hcz22_8 hcz22_9
        try clear hcz24_0 hcz24_1 hcz24_2 hcz24_3 hcz24_4 hcz24_5 hcz24_6 hcz24_7 hcz24_8 hcz24_9
        try clear hfz12_0
        try clear hfz12_1
        try clear hfz12_2
        try clear hfz12_3
        try clear hfz12_4
        try clear hfz12_5
        try clear hfz12_6
        try clear hfz12_7
        try clear hfz12_8
        try clear hfz12_9
        try clear hfz14_0
        try clear hfz14_1
        try clear hfz14_2
        try clear hfz14_3
        try clear hfz14_4
        try clear hfz14_5
        try clear hfz14_6
        try clear hfz14_7
        try clear hfz14_8
        try clear hfz14_9
        try clear hfz22_0
        try clear hfz22_1
        try clear hfz22_2
        try clear hfz22_3
        try clear hfz22_4
        try clear hfz22_5
        try clear hfz22_6
        try clear hfz22_7
        try clear hfz22_8
        try clear hfz22_9
        try clear hfz24_0
        try clear hfz24_1
        try clear hfz24_2
        try clear hfz24_3
        try clear hfz24_4
        try clear hfz24_5
        try clear hfz24_6
        try clear hfz24_7
        try clear hfz24_8
        try clear hfz24_9
        try clear p2
        obtain ⟨x5_2, x6_2, rfl, HA, HK2, HO_5, BK191, HB⟩ := hrel
        cases gk with
        | zero => exact absurd HA.out (by simp [spec_Follows.l0])
        | succ k2 =>
         have H := HA.out
         clear HA
         simp only [spec_Follows.l0] at H
         by_cases c27 : x6_2 < (l0.length : Int)
         ·rw [if_pos c27] at H
          have c27b0 : decide (x6_2 < (l0.length : Int)) = true := decide_eq_true c27
          clear c27
          by_cases c28 : 0 ≤ x6_2
          ·rw [if_pos c28] at H
           have c28b0 : decide (0 ≤ x6_2) = true := decide_eq_true c28
           clear c28
           by_cases c29 : (((rd_T36 l0 x6_2).f0.f0) == a1_4 && (((rd_T36 l0 x6_2).f0.f1) == a1_5)) = true
           ·rw [if_pos c29] at H
            have c29b0 : (((rd_T36 l0 x6_2).f0.f0) == a1_4 && (((rd_T36 l0 x6_2).f0.f1) == a1_5)) = true := c29
            (try (have c29b1 : decide (((rd_T36 l0 x6_2).f0.f0) = a1_4 && (((rd_T36 l0 x6_2).f0.f1) == a1_5)) = true := by simpa using c29))
            (try (have c29b2 : (((rd_T36 l0 x6_2).f0.f0) == a1_4 && (((rd_T36 l0 x6_2).f0.f1) == a1_5)) = true := by simpa using c29))
            clear c29
            by_cases c30 : a1_0 = 2
            ·rw [if_pos c30] at H
             have c30b0 : (a1_0 == 2) = true := beq_iff_eq.mpr c30
             have c30b1 : (a1_0 != 2) = false := bne_eq_false_iff_eq.mpr c30
             clear c30
             replace H := Option.bind_eq_some_iff.mp H
             obtain ⟨t204, A310, H⟩ := H
             try dsimp only at H
             have A31 := Aside0.mk A310
             clear A310
             have H' := Aside0.mk H
             clear H
             have p202 : 0 ≤ (x6_2 : Int) := sqD
             have q202 : x6_2 < (l0.length : Int) := sqD
             obtain ⟨ad202, e202, hx202_0, hx202_1, hx202_2⟩ := at_T36 HR0.out x6_2 p202 q202
             cases e202
             replace hx202_0 := sqH HB hx202_0
             replace hx202_1 := sqH HB hx202_1
             replace hx202_2 := sqH HB hx202_2
             replace p202 := eq_true p202
             replace q202 := eq_true q202
             go_wp2_with (first | ((with_reducible refine gate_dst (N := 7) rfl ?_); refine sqX (N := 7) (cs := #[.int .i64 0, .int .i64 0, .int .i64 0]) (t := 36) ?_; intro gb203 hg w32 hbox hb; replace HO_5 := Aside0.mk (Kd.R_below (Kd.R_elderB (sqR HO_5) gb203 (Nat.le_of_eq hg.symm)) hb); have BK203 := Aside0.mk (hbox); have GW203 := sqG hg; have GE203 := sqG hg; have NB191_203 := sqN BK191 hg; have NB203_191 := sqM BK191 hg; replace BK191 := sqL BK191 hb; replace HB := sqS hb; clear hb hbox hg; have hnb33 := NB203_191.out; have hnc33 := NB191_203.out; obtain ⟨hcz34_0, hcz34_1, hcz34_2, hfz34_0, hfz34_1, hfz34_2⟩ := sqC3 BK203) | ((with_reducible refine gate_store (t := 36) (p := 7) rfl ?_); refine store_event (t := 36) (p := 7) (v := ?vo_w35) (w1 := (((w32.setCell ⟨gb203, 0, none⟩ (.int .i64 ((rd_T36 l0 x6_2).f0.f0))).setCell ⟨gb203, 1, none⟩ (.int .i64 ((rd_T36 l0 x6_2).f0.f1))).setCell ⟨gb203, 2, none⟩ (.int .i64 ((rd_T36 l0 x6_2).f1)))) ?hg ?ho ?hn ?hr ?_; (case ho => rfl); (case hg => rfl); (case hn => rfl); (case hr => first | (go_simp; done) | (go_simp; rfl)); intro w35 hw; have n0_ : Aside0 (Kd.R k36 36 w35 w.heap.size (fun k_ => k_ ≠ gb203) u5 x5_2) := ⟨(by rw [hw]; exact (by (with_reducible repeat (first | apply Kd.R_alloc | apply Kd.R_drewN | apply Kd.R_drew)); exact Kd.R_mono (Kd.R_far (p := ⟨gb203, 2, none⟩) (Kd.R_far (p := ⟨gb203, 1, none⟩) (Kd.R_far (p := ⟨gb203, 0, none⟩) (Kd.R_mono HO_5.out (fun k_ hk => (⟨hk, hk.2⟩ : _ ∧ k_ ≠ gb203))) (fun _ hk => hk.2) (.int .i64 ((rd_T36 l0 x6_2).f0.f0))) (fun _ hk => hk.2) (.int .i64 ((rd_T36 l0 x6_2).f0.f1))) (fun _ hk => hk.2) (.int .i64 ((rd_T36 l0 x6_2).f1))) (fun _ hk => hk.1.2)))⟩; have n1_ : Aside0 (w35.heap[gb191]? = some (.cells #[.int .i64 a1_0, .int .i64 a1_1, .int .i64 a1_2, .int .i64 a1_3, .int .i64 a1_4, .int .i64 a1_5, .int .i64 a1_6, .int .i64 a1_7, .int .i64 a1_8, .int .i64 a1_9] 29 (0, 0))) := ⟨(by rw [hw]; exact (sqW BK191))⟩; have n2_ : Aside0 (w35.heap[gb203]? = some (.cells #[.int .i64 ((rd_T36 l0 x6_2).f0.f0), .int .i64 ((rd_T36 l0 x6_2).f0.f1), .int .i64 ((rd_T36 l0 x6_2).f1)] 36 (0, 0))) := ⟨(by rw [hw]; exact (sqW BK203))⟩; have n3_ : Aside0 (Below w.heap.size w w35) := ⟨(by rw [hw]; exact (sqB))⟩; clear hw; clear HO_5; clear BK191; clear BK203; clear HB; have HO_5 := n0_; have BK191 := n1_; have BK203 := n2_; have HB := n3_; clear n0_ n1_ n2_ n3_; obtain ⟨hcz36_0, hcz36_1, hcz36_2, hfz36_0, hfz36_1, hfz36_2⟩ := sqC3 BK203; obtain ⟨hcz37_0, hcz37_1, hcz37_2, hcz37_3, hcz37_4, hcz37_5, hcz37_6, hcz37_7, hcz37_8, hcz37_9, hfz37_0, hfz37_1, hfz37_2, hfz37_3, hfz37_4, hfz37_5, hfz37_6, hfz37_7, hfz37_8, hfz37_9⟩ := sqC10 BK191; obtain ⟨Ao38, co38, eo38⟩ := Kd.R_slice HO_5.out; subst eo38) | ((with_reducible refine gate_callee (f := 67) rfl ?_); refine goesL_ (some 67) rfl rfl Try.func67 (by kernel_rfl) rfl #[.slice Ao38 x5_2.length co38, .agg #[.int .i64 a1_1, .int .i64 a1_2, .int .i64 ((rd_T36 l0 x6_2).f1)]] rfl sqA ?_; (with_reducible refine (spec_l06Put.calls k2 (fun k_ => some k_ = (.slice Ao38 x5_2.length co38 : Value).ownBlock) (.slice Ao38 x5_2.length co38) x5_2 a1_1 a1_2 ((rd_T36 l0 x6_2).f1) t204 w _ ?side1 ?side2 A31.out).mono ?_); (case side1 => exact sqB); (case side2 => exact Kd.R_tight rfl HO_5.out); rintro e w39 ⟨v205, rfl, ho0, hb, hkp⟩; refine ⟨_, rfl, ?_⟩; have n0_ := Aside0.mk (blk_kept (sqK BK191) hkp (fun hs_ => (fun e_ => (Kd.R_ne HO_5.out BK191.out (by decide)) e_) hs_)); have n1_ := Aside0.mk (blk_kept (sqK BK203) hkp (fun hs_ => (fun e_ => (Kd.R_away HO_5.out (fun _ hk => hk)) e_) hs_)); have n2_ := Aside0.mk (Kd.R_mono (ok' := fun k_ => k_ ≠ gb203) ho0 (fun k_ hk_ => Or.elim hk_ (fun hs_ => fun e_ => (Kd.R_away HO_5.out (fun _ hk => hk)) (by rw [← e_]; exact hs_)) (fun hn_ => (Kd.freshB (g := gb203) (o := .cells #[.int .i64 ((rd_T36 l0 x6_2).f0.f0), .int .i64 ((rd_T36 l0 x6_2).f0.f1), .int .i64 ((rd_T36 l0 x6_2).f1)] 36 (0, 0)) (sqK BK203) k_ hn_)))); have n3_ := Aside0.mk (hb); clear BK191; clear BK203; clear HB; clear HO_5; have BK191 := n0_; have BK203 := n1_; have HO206 := n2_; have HB := n3_; clear n0_ n1_ n2_ n3_; (try clear hb); (try clear hkp); (try clear ho0)))
             go_roundg k2
             case measure => have := HJ16.out; have := HK2.out; omega
             case rel => exact ⟨(t204), (wrap64 (x6_2 + 1)), (by first | rfl | (simp; done) | (simp [*]; done)), H', ⟨by have := HJ16.out; have := HK2.out; omega⟩, ⟨by (with_reducible repeat (first | apply Kd.R_alloc | apply Kd.R_drewN | apply Kd.R_drew)); exact Kd.R_mono HO206.out (fun _ hk => trivial)⟩, ⟨sqK BK191⟩, ⟨sqB⟩⟩
            ·rw [if_neg c30] at H
             have c30b0 : (a1_0 == 2) = false := beq_eq_false_iff_ne.mpr c30
             have c30b1 : (a1_0 != 2) = true := bne_iff_ne.mpr c30
             replace H := Option.bind_eq_some_iff.mp H
             obtain ⟨t207, A400, H⟩ := H
             try dsimp only at H
             have A40 := Aside0.mk A400
             clear A400
             by_cases c41 : t207 = true
             ·subst c41
              rw [if_pos rfl] at H
              replace H := Option.bind_eq_some_iff.mp H
              obtain ⟨t208, A420, H⟩ := H
              try dsimp only at H
              have A42 := Aside0.mk A420
              clear A420
              have H' := Aside0.mk H
              clear H
              have p202 : 0 ≤ (x6_2 : Int) := sqD
              have q202 : x6_2 < (l0.length : Int) := sqD
              obtain ⟨ad202, e202, hx202_0, hx202_1, hx202_2⟩ := at_T36 HR0.out x6_2 p202 q202
              cases e202
              replace hx202_0 := sqH HB hx202_0
              replace hx202_1 := sqH HB hx202_1
              replace hx202_2 := sqH HB hx202_2
              replace p202 := eq_true p202
              replace q202 := eq_true q202
              go_wp2_with (first | ((with_reducible refine gate_dst (N := 7) rfl ?_); refine sqX (N := 7) (cs := #[.int .i64 0, .int .i64 0, .int .i64 0]) (t := 36) ?_; intro gb203 hg w43 hbox hb; replace HO_5 := Aside0.mk (Kd.R_below (Kd.R_elderB (sqR HO_5) gb203 (Nat.le_of_eq hg.symm)) hb); have BK203 := Aside0.mk (hbox); have GW203 := sqG hg; have GE203 := sqG hg; have NB191_203 := sqN BK191 hg; have NB203_191 := sqM BK191 hg; replace BK191 := sqL BK191 hb; replace HB := sqS hb; clear hb hbox hg; have hnb44 := NB203_191.out; have hnc44 := NB191_203.out; obtain ⟨hcz45_0, hcz45_1, hcz45_2, hfz45_0, hfz45_1, hfz45_2⟩ := sqC3 BK203; obtain ⟨hcz46_0, hcz46_1, hcz46_2, hcz46_3, hcz46_4, hcz46_5, hcz46_6, hcz46_7, hcz46_8, hcz46_9, hfz46_0, hfz46_1, hfz46_2, hfz46_3, hfz46_4, hfz46_5, hfz46_6, hfz46_7, hfz46_8, hfz46_9⟩ := sqC10 BK191) | (go_at_call 56; (with_reducible refine (spec_l06Has.calls k2 _ _ l0 a1_6 a1_7 ((rd_T36 l0 x6_2).f1) true _ ?side1 ?side2 A40.out).mono ?_); (case side1 => exact Kd.C_below HR0.out (sqB)); (case side2 => exact HC0.out); rintro e w47 ⟨rfl, hb⟩; replace HO_5 := Aside0.mk (Kd.R_below (by (with_reducible repeat (first | apply Kd.R_alloc | apply Kd.R_drewN | apply Kd.R_drew)); exact (Kd.R_mono (Kd.R_far (p := ⟨gb203, 2, none⟩) (Kd.R_far (p := ⟨gb203, 1, none⟩) (Kd.R_far (p := ⟨gb203, 0, none⟩) (Kd.R_mono HO_5.out (fun k_ hk => (⟨hk, hk.2⟩ : _ ∧ k_ ≠ gb203))) (fun _ hk => hk.2) (.int .i64 ((rd_T36 l0 x6_2).f0.f0))) (fun _ hk => hk.2) (.int .i64 ((rd_T36 l0 x6_2).f0.f1))) (fun _ hk => hk.2) (.int .i64 ((rd_T36 l0 x6_2).f1))) (fun _ h_ => h_.1))) hb); replace BK191 := sqLW (o' := .cells #[.int .i64 a1_0, .int .i64 a1_1, .int .i64 a1_2, .int .i64 a1_3, .int .i64 a1_4, .int .i64 a1_5, .int .i64 a1_6, .int .i64 a1_7, .int .i64 a1_8, .int .i64 a1_9] 29 (0, 0)) BK191 hb; replace BK203 := sqLW (o' := .cells #[.int .i64 ((rd_T36 l0 x6_2).f0.f0), .int .i64 ((rd_T36 l0 x6_2).f0.f1), .int .i64 ((rd_T36 l0 x6_2).f1)] 36 (0, 0)) BK203 hb; replace HB := sqS hb; (try clear hb); (try clear hb2); (try clear hk); (try clear hi); obtain ⟨hcz48_0, hcz48_1, hcz48_2, hcz48_3, hcz48_4, hcz48_5, hcz48_6, hcz48_7, hcz48_8, hcz48_9, hfz48_0, hfz48_1, hfz48_2, hfz48_3, hfz48_4, hfz48_5, hfz48_6, hfz48_7, hfz48_8, hfz48_9⟩ := sqC10 BK191; obtain ⟨hcz49_0, hcz49_1, hcz49_2, hfz49_0, hfz49_1, hfz49_2⟩ := sqC3 BK203; obtain ⟨Ao50, co50, eo50⟩ := Kd.R_slice HO_5.out; subst eo50) | ((with_reducible refine gate_callee (f := 67) rfl ?_); refine goesL_ (some 67) rfl rfl Try.func67 (by kernel_rfl) rfl #[.slice Ao50 x5_2.length co50, .agg #[.int .i64 a1_1, .int .i64 a1_2, .int .i64 ((rd_T36 l0 x6_2).f1)]] rfl sqA ?_; (with_reducible refine (spec_l06Put.calls k2 (fun k_ => some k_ = (.slice Ao50 x5_2.length co50 : Value).ownBlock) (.slice Ao50 x5_2.length co50) x5_2 a1_1 a1_2 ((rd_T36 l0 x6_2).f1) t208 w _ ?side1 ?side2 A42.out).mono ?_); (case side1 => exact sqB); (case side2 => exact Kd.R_tight rfl HO_5.out); rintro e w51 ⟨v209, rfl, ho0, hb, hkp⟩; refine ⟨_, rfl, ?_⟩; have n0_ := Aside0.mk (blk_kept (sqK BK191) hkp (fun hs_ => (fun e_ => (Kd.R_ne HO_5.out BK191.out (by decide)) e_) hs_)); have n1_ := Aside0.mk (blk_kept (sqK BK203) hkp (fun hs_ => (fun e_ => (Kd.R_away HO_5.out (fun _ hk => hk.2)) e_) hs_)); have n2_ := Aside0.mk (Kd.R_mono (ok' := fun k_ => k_ ≠ gb203) ho0 (fun k_ hk_ => Or.elim hk_ (fun hs_ => fun e_ => (Kd.R_away HO_5.out (fun _ hk => hk.2)) (by rw [← e_]; exact hs_)) (fun hn_ => (Kd.freshB (g := gb203) (o := .cells #[.int .i64 ((rd_T36 l0 x6_2).f0.f0), .int .i64 ((rd_T36 l0 x6_2).f0.f1), .int .i64 ((rd_T36 l0 x6_2).f1)] 36 (0, 0)) (sqK BK203) k_ hn_)))); have n3_ := Aside0.mk (hb); clear BK191; clear BK203; clear HB; clear HO_5; have BK191 := n0_; have BK203 := n1_; have HO210 := n2_; have HB := n3_; clear n0_ n1_ n2_ n3_; (try clear hb); (try clear hkp); (try clear ho0)))
              go_roundg k2
              case measure => have := HJ16.out; have := HK2.out; omega
              case rel => exact ⟨(t208), (wrap64 (x6_2 + 1)), (by first | rfl | (simp; done) | (simp [*]; done)), H', ⟨by have := HJ16.out; have := HK2.out; omega⟩, ⟨by (with_reducible repeat (first | apply Kd.R_alloc | apply Kd.R_drewN | apply Kd.R_drew)); exact Kd.R_mono HO210.out (fun _ hk => trivial)⟩, ⟨sqK BK191⟩, ⟨sqB⟩⟩
             ·replace c41 := Bool.eq_false_iff.mpr c41
              subst c41
              rw [if_neg (show ¬ (false = true) by decide)] at H
              have H' := Aside0.mk H
              clear H
              have p202 : 0 ≤ (x6_2 : Int) := sqD
              have q202 : x6_2 < (l0.length : Int) := sqD
              obtain ⟨ad202, e202, hx202_0, hx202_1, hx202_2⟩ := at_T36 HR0.out x6_2 p202 q202
              cases e202
              replace hx202_0 := sqH HB hx202_0
              replace hx202_1 := sqH HB hx202_1
              replace hx202_2 := sqH HB hx202_2
              replace p202 := eq_true p202
              replace q202 := eq_true q202
              go_wp2_with (first | ((with_reducible refine gate_dst (N := 7) rfl ?_); refine sqX (N := 7) (cs := #[.int .i64 0, .int .i64 0, .int .i64 0]) (t := 36) ?_; intro gb203 hg w52 hbox hb; replace HO_5 := Aside0.mk (Kd.R_below (Kd.R_elderB (sqR HO_5) gb203 (Nat.le_of_eq hg.symm)) hb); have BK203 := Aside0.mk (hbox); have GW203 := sqG hg; have GE203 := sqG hg; have NB191_203 := sqN BK191 hg; have NB203_191 := sqM BK191 hg; replace BK191 := sqL BK191 hb; replace HB := sqS hb; clear hb hbox hg; have hnb53 := NB203_191.out; have hnc53 := NB191_203.out; obtain ⟨hcz54_0, hcz54_1, hcz54_2, hfz54_0, hfz54_1, hfz54_2⟩ := sqC3 BK203; obtain ⟨hcz55_0, hcz55_1, hcz55_2, hcz55_3, hcz55_4, hcz55_5, hcz55_6, hcz55_7, hcz55_8, hcz55_9, hfz55_0, hfz55_1, hfz55_2, hfz55_3, hfz55_4, hfz55_5, hfz55_6, hfz55_7, hfz55_8, hfz55_9⟩ := sqC10 BK191) | (go_at_call 56; (with_reducible refine (spec_l06Has.calls k2 _ _ l0 a1_6 a1_7 ((rd_T36 l0 x6_2).f1) false _ ?side1 ?side2 A40.out).mono ?_); (case side1 => exact Kd.C_below HR0.out (sqB)); (case side2 => exact HC0.out); rintro e w56 ⟨rfl, hb⟩; replace HO_5 := Aside0.mk (Kd.R_below (by (with_reducible repeat (first | apply Kd.R_alloc | apply Kd.R_drewN | apply Kd.R_drew)); exact (Kd.R_mono (Kd.R_far (p := ⟨gb203, 2, none⟩) (Kd.R_far (p := ⟨gb203, 1, none⟩) (Kd.R_far (p := ⟨gb203, 0, none⟩) (Kd.R_mono HO_5.out (fun k_ hk => (⟨hk, hk.2⟩ : _ ∧ k_ ≠ gb203))) (fun _ hk => hk.2) (.int .i64 ((rd_T36 l0 x6_2).f0.f0))) (fun _ hk => hk.2) (.int .i64 ((rd_T36 l0 x6_2).f0.f1))) (fun _ hk => hk.2) (.int .i64 ((rd_T36 l0 x6_2).f1))) (fun _ h_ => h_.1))) hb); replace BK191 := sqLW (o' := .cells #[.int .i64 a1_0, .int .i64 a1_1, .int .i64 a1_2, .int .i64 a1_3, .int .i64 a1_4, .int .i64 a1_5, .int .i64 a1_6, .int .i64 a1_7, .int .i64 a1_8, .int .i64 a1_9] 29 (0, 0)) BK191 hb; replace BK203 := sqLW (o' := .cells #[.int .i64 ((rd_T36 l0 x6_2).f0.f0), .int .i64 ((rd_T36 l0 x6_2).f0.f1), .int .i64 ((rd_T36 l0 x6_2).f1)] 36 (0, 0)) BK203 hb; replace HB := sqS hb; (try clear hb); (try clear hb2); (try clear hk); (try clear hi)))
              go_roundg k2
              case measure => have := HJ16.out; have := HK2.out; omega
              case rel => exact ⟨(x5_2), (wrap64 (x6_2 + 1)), (by first | rfl | (simp; done) | (simp [*]; done)), H', ⟨by have := HJ16.out; have := HK2.out; omega⟩, ⟨by (with_reducible repeat (first | apply Kd.R_alloc | apply Kd.R_drewN | apply Kd.R_drew)); exact Kd.R_mono HO_5.out (fun _ hk => trivial)⟩, ⟨sqK BK191⟩, ⟨sqB⟩⟩
           ·rw [if_neg c29] at H
            have c29b0 : (((rd_T36 l0 x6_2).f0.f0) == a1_4 && (((rd_T36 l0 x6_2).f0.f1) == a1_5)) = false := by simpa using c29
            (try (have c29b1 : decide (((rd_T36 l0 x6_2).f0.f0) = a1_4 && (((rd_T36 l0 x6_2).f0.f1) == a1_5)) = false := by simpa using c29))
            (try (have c29b2 : (((rd_T36 l0 x6_2).f0.f0) == a1_4 && (((rd_T36 l0 x6_2).f0.f1) == a1_5)) = false := by simpa using c29))
            (try (have c29b3 : ¬ (((rd_T36 l0 x6_2).f0.f0) = a1_4 && (((rd_T36 l0 x6_2).f0.f1) == a1_5)) := by simpa using c29))
            clear c29
            have H' := Aside0.mk H
            clear H
            have p202 : 0 ≤ (x6_2 : Int) := sqD
            have q202 : x6_2 < (l0.length : Int) := sqD
            obtain ⟨ad202, e202, hx202_0, hx202_1, hx202_2⟩ := at_T36 HR0.out x6_2 p202 q202
            cases e202
            replace hx202_0 := sqH HB hx202_0
            replace hx202_1 := sqH HB hx202_1
            replace hx202_2 := sqH HB hx202_2
            replace p202 := eq_true p202
            replace q202 := eq_true q202
            go_wp2_with (first | ((with_reducible refine gate_dst (N := 7) rfl ?_); refine sqX (N := 7) (cs := #[.int .i64 0, .int .i64 0, .int .i64 0]) (t := 36) ?_; intro gb203 hg w57 hbox hb; replace HO_5 := Aside0.mk (Kd.R_below (Kd.R_elderB (sqR HO_5) gb203 (Nat.le_of_eq hg.symm)) hb); have BK203 := Aside0.mk (hbox); have GW203 := sqG hg; have GE203 := sqG hg; have NB191_203 := sqN BK191 hg; have NB203_191 := sqM BK191 hg; replace BK191 := sqL BK191 hb; replace HB := sqS hb; clear hb hbox hg; have hnb58 := NB203_191.out; have hnc58 := NB191_203.out; obtain ⟨hcz59_0, hcz59_1, hcz59_2, hfz59_0, hfz59_1, hfz59_2⟩ := sqC3 BK203; obtain ⟨hcz60_0, hcz60_1, hcz60_2, hcz60_3, hcz60_4, hcz60_5, hcz60_6, hcz60_7, hcz60_8, hcz60_9, hfz60_0, hfz60_1, hfz60_2, hfz60_3, hfz60_4, hfz60_5, hfz60_6, hfz60_7, hfz60_8, hfz60_9⟩ := sqC10 BK191))
            go_roundg k2
            case measure => have := HJ16.out; have := HK2.out; omega
            case rel => exact ⟨(x5_2), (wrap64 (x6_2 + 1)), (by first | rfl | (simp; done) | (simp [*]; done)), H', ⟨by have := HJ16.out; have := HK2.out; omega⟩, ⟨by (with_reducible repeat (first | apply Kd.R_alloc | apply Kd.R_drewN | apply Kd.R_drew)); exact Kd.R_mono (Kd.R_far (p := ⟨gb203, 2, none⟩) (Kd.R_far (p := ⟨gb203, 1, none⟩) (Kd.R_far (p := ⟨gb203, 0, none⟩) (Kd.R_mono HO_5.out (fun k_ hk => (⟨hk, hk.2⟩ : _ ∧ k_ ≠ gb203))) (fun _ hk => hk.2) (.int .i64 ((rd_T36 l0 x6_2).f0.f0))) (fun _ hk => hk.2) (.int .i64 ((rd_T36 l0 x6_2).f0.f1))) (fun _ hk => hk.2) (.int .i64 ((rd_T36 l0 x6_2).f1))) (fun _ hk => trivial)⟩, ⟨sqW BK191⟩, ⟨sqB⟩⟩
          ·rw [if_neg c28] at H
           exact absurd H (by simp)
         ·rw [if_neg c27] at H
          have c27b0 : decide (x6_2 < (l0.length : Int)) = false := decide_eq_false c27
          clear c27
          obtain rfl := Option.some.inj H
          go_wp2
          go_ret
          exact ⟨_, sqE, sqR HO_5, sqB⟩
      ·replace c26 := Bool.eq_false_iff.mpr c26
       subst c26
       rw [if_neg (show ¬ (false = true) by decide)] at H
       by_cases c61 : a1_0 = 3
       ·rw [if_pos c61] at H
        have c61b0 : (a1_0 == 3) = true := beq_iff_eq.mpr c61
        have c61b1 : (a1_0 != 3) = false := bne_eq_false_iff_eq.mpr c61
        clear c61
        have H' := Aside0.mk H
        clear H
        go_wp2
        go_loopg [5, 8] kj16 (fun kq v5 v8 w' => ∃ (x5_2 : List (S36)) (x8_2 : Int), v8 = .int .i64 x8_2 ∧ Aside0 (spec_Follows.l1 kq l0 x5_2 x8_2 a1_0 a1_1 a1_2 a1_3 a1_4 a1_5 a1_6 a1_7 a1_8 a1_9 = some r) ∧ Aside0 (kq ≤ kj16) ∧ Aside0 (Kd.R k36 36 w' w.heap.size (fun _ => True) v5 x5_2) ∧ Aside0 (w'.heap[gb191]? = some (.cells #[.int .i64 a1_0, .int .i64 a1_1, .int .i64 a1_2, .int .i64 a1_3, .int .i64 a1_4, .int .i64 a1_5, .int .i64 a1_6, .int .i64 a1_7, .int .i64 a1_8, .int .i64 a1_9] 29 (0, 0))) ∧ Aside0 (Below w.heap.size w w'))
        case atStart => exact ⟨(y195), (0), (by first | rfl | (simp; done) | (simp [*]; done)), H', ⟨Nat.le_refl _⟩, ⟨sqR HO_5⟩, ⟨sqK BK191⟩, ⟨sqB⟩⟩
        case round =>
         clear H'
         try clear c2
         try clear p2
         try clear q2
         try clear hx2
         try clear c3
         try clear c4
         try clear c5
         try clear c6
         try clear c6b0
         try clear c6b1
         try clear p6
         try clear p20
         try clear q20
         try clear hx20
         try clear c25
         try clear c25b0
         try clear c25b1
         try clear c26
         try clear c27
         try clear c27b0
         try clear c28
         try clear c28b0
         try clear c29
         try clear c29b0
         try clear c29b1
         try clear c29b2
         try clear c30
         try clear c30b0
         try clear c30b1
         try clear c33
         try clear c40
         try clear c41
         try clear c44
         try clear c53
         try clear c58
         try clear c61
         try clear c61b0
         try clear c61b1
         try clear hcz12_0 hcz12_1 hcz12_2 hcz12_3 hcz12_4 hcz12_5 hcz12_6 hcz12_7 hcz12_8 hcz12_9
         try clear hcz14_0 hcz14_1 hcz14_2 hcz14_3 hcz14_4 hcz14_5 hcz14_6 hcz14_7 hcz14_8 hcz14_9
         try clear hcz22_0 hcz22_1 hcz22_2 hcz22_3 hcz22_4 hcz22_5 hcz22_6 hcz22_7 hcz22_8 hcz22_9
         try clear hcz24_0 hcz24_1 hcz24_2 hcz24_3 hcz24_4 hcz24_5 hcz24_6 hcz24_7 hcz24_8 hcz24_9
         try clear hcz34_0 hcz34_1 hcz34_2
         try clear hcz36_0 hcz36_1 hcz36_2
         try clear hcz37_0 hcz37_1 hcz37_2 hcz37_3 hcz37_4 hcz37_5 hcz37_6 hcz37_7 hcz37_8 hcz37_9
         try clear hcz45_0 hcz45_1 hcz45_2
         try clear hcz46_0 hcz46_1 hcz46_2 hcz46_3 hcz46_4 hcz46_5 hcz46_6 hcz46_7 hcz46_8 hcz46_9
         try clear hcz48_0 hcz48_1 hcz48_2 hcz48_3 hcz48_4 hcz48_5 hcz48_6 hcz48_7 hcz48_8 hcz48_9
         try clear hcz49_0 hcz49_1 hcz49_2
         try clear hcz54_0 hcz54_1 hcz54_2
         try clear hcz55_0 hcz55_1 hcz55_2 hcz55_3 hcz55_4 hcz55_5 hcz55_6 hcz55_7 hcz55_8 hcz55_9
         try clear hcz59_0 hcz59_1 hcz59_2
         try clear hcz60_0 hcz60_1 hcz60_2 hcz60_3 hcz60_4 hcz60_5 hcz60_6 hcz60_7 hcz60_8 hcz60_9
         try clear hfz12_0
         try clear hfz12_1
         try clear hfz12_2
         try clear hfz12_3
         try clear hfz12_4
         try clear hfz12_5
         try clear hfz12_6
         try clear hfz12_7
         try clear hfz12_8
         try clear hfz12_9
         try clear hfz14_0
         try clear hfz14_1
         try clear hfz14_2
         try clear hfz14_3
         try clear hfz14_4
         try clear hfz14_5
         try clear hfz14_6
         try clear hfz14_7
         try clear hfz14_8
         try clear hfz14_9
         try clear hfz22_0
         try clear hfz22_1
         try clear hfz22_2
         try clear hfz22_3
         try clear hfz22_4
         try clear hfz22_5
         try clear hfz22_6
         try clear hfz22_7
         try clear hfz22_8
         try clear hfz22_9
         try clear hfz24_0
         try clear hfz24_1
         try clear hfz24_2
         try clear hfz24_3
         try clear hfz24_4
         try clear hfz24_5
         try clear hfz24_6
         try clear hfz24_7
         try clear hfz24_8
         try clear hfz24_9
         try clear hfz34_0
         try clear hfz34_1
         try clear hfz34_2
         try clear hfz36_0
         try clear hfz36_1
         try clear hfz36_2
         try clear hfz37_0
         try clear hfz37_1
         try clear hfz37_2
         try clear hfz37_3
         try clear hfz37_4
         try clear hfz37_5
         try clear hfz37_6
         try clear hfz37_7
         try clear hfz37_8
         try clear hfz37_9
         try clear hfz45_0
         try clear hfz45_1
         try clear hfz45_2
         try clear hfz46_0
         try clear hfz46_1
         try clear hfz46_2
         try clear hfz46_3
         try clear hfz46_4
         try clear hfz46_5
         try clear hfz46_6
         try clear hfz46_7
         try clear hfz46_8
         try clear hfz46_9
         try clear hfz48_0
         try clear hfz48_1
         try clear hfz48_2
         try clear hfz48_3
         try clear hfz48_4
         try clear hfz48_5
         try clear hfz48_6
         try clear hfz48_7
         try clear hfz48_8
         try clear hfz48_9
         try clear hfz49_0
         try clear hfz49_1
         try clear hfz49_2
         try clear hfz54_0
         try clear hfz54_1
         try clear hfz54_2
         try clear hfz55_0
         try clear hfz55_1
         try clear hfz55_2
         try clear hfz55_3
         try clear hfz55_4
         try clear hfz55_5
         try clear hfz55_6
         try clear hfz55_7
         try clear hfz55_8
         try clear hfz55_9
         try clear hfz59_0
         try clear hfz59_1
         try clear hfz59_2
         try clear hfz60_0
         try clear hfz60_1
         try clear hfz60_2
         try clear hfz60_3
         try clear hfz60_4
         try clear hfz60_5
         try clear hfz60_6
         try clear hfz60_7
         try clear hfz60_8
         try clear hfz60_9
         try clear hx202_0
         try clear hx202_1
         try clear hx202_2
         try clear p2
         try clear p202
         try clear q202
         obtain ⟨x5_2, x8_2, rfl, HA, HK2, HO_5, BK191, HB⟩ := hrel
         cases gk with
         | zero => exact absurd HA.out (by simp [spec_Follows.l1])
         | succ k2 =>
          have H := HA.out
          clear HA
          simp only [spec_Follows.l1] at H
          by_cases c62 : x8_2 < (l0.length : Int)
          ·rw [if_pos c62] at H
           have c62b0 : decide (x8_2 < (l0.length : Int)) = true := decide_eq_true c62
           clear c62
           by_cases c63 : 0 ≤ x8_2
           ·rw [if_pos c63] at H
            have c63b0 : decide (0 ≤ x8_2) = true := decide_eq_true c63
            clear c63
            by_cases c64 : (!(((rd_T36 l0 x8_2).f0.f0) == a1_4) || (!(((rd_T36 l0 x8_2).f0.f1) == a1_5))) = true
            ·rw [if_pos c64] at H
             have c64b0 : (!(((rd_T36 l0 x8_2).f0.f0) == a1_4) || (!(((rd_T36 l0 x8_2).f0.f1) == a1_5))) = true := c64
             clear c64
             have H' := Aside0.mk H
             clear H
             try go_wp2
             replace HO_5 := Aside0.mk (Kd.R_drew HO_5.out); replace BK191 := Aside0.mk (blk_drew BK191.out); replace HB := Aside0.mk (below_drew1 HB.out)
             have p211 : 0 ≤ (x8_2 : Int) := sqD
             have q211 : x8_2 < (l0.length : Int) := sqD
             obtain ⟨ad211, e211, hx211_0, hx211_1, hx211_2⟩ := at_T36 HR0.out x8_2 p211 q211
             have hw211_2 := hx211_2
             have hw211_1 := hx211_1
             have hw211_0 := hx211_0
             cases e211
             replace hx211_0 := sqH HB hx211_0
             replace hx211_1 := sqH HB hx211_1
             replace hx211_2 := sqH HB hx211_2
             replace p211 := eq_true p211
             replace q211 := eq_true q211
             refine start_ (n := 8) (S := fun w' => w'.cell? ⟨gb191, 0, none⟩ = some (.int .i64 a1_0) ∧ w'.cell? ⟨gb191, 1, none⟩ = some (.int .i64 a1_1) ∧ w'.cell? ⟨gb191, 2, none⟩ = some (.int .i64 a1_2) ∧ w'.cell? ⟨gb191, 3, none⟩ = some (.int .i64 a1_3) ∧ w'.cell? ⟨gb191, 4, none⟩ = some (.int .i64 a1_4) ∧ w'.cell? ⟨gb191, 5, none⟩ = some (.int .i64 a1_5) ∧ w'.cell? ⟨gb191, 6, none⟩ = some (.int .i64 a1_6) ∧ w'.cell? ⟨gb191, 7, none⟩ = some (.int .i64 a1_7) ∧ w'.cell? ⟨gb191, 8, none⟩ = some (.int .i64 a1_8) ∧ w'.cell? ⟨gb191, 9, none⟩ = some (.int .i64 a1_9) ∧ w'.cell? (ad211.add ((x8_2).toNat * 3)) = some (.int .i64 ((rd_T36 l0 x8_2).f0.f0)) ∧ w'.cell? ⟨(ad211.add ((x8_2).toNat * 3)).block, (ad211.add ((x8_2).toNat * 3)).off + 1, none⟩ = some (.int .i64 ((rd_T36 l0 x8_2).f0.f1)) ∧ w'.cell? ⟨(ad211.add ((x8_2).toNat * 3)).block, (ad211.add ((x8_2).toNat * 3)).off + 2, none⟩ = some (.int .i64 ((rd_T36 l0 x8_2).f1))) (ds := []) (sqb 0 8) (by kernel_rfl) rfl rfl ⟨(blk_cell BK191.out 0).trans rfl, (blk_cell BK191.out 1).trans rfl, (blk_cell BK191.out 2).trans rfl, (blk_cell BK191.out 3).trans rfl, (blk_cell BK191.out 4).trans rfl, (blk_cell BK191.out 5).trans rfl, (blk_cell BK191.out 6).trans rfl, (blk_cell BK191.out 7).trans rfl, (blk_cell BK191.out 8).trans rfl, (blk_cell BK191.out 9).trans rfl, ((HB.out.cell (World.block_lt_of_cell? w _ hw211_0)).trans hw211_0), ((HB.out.cell (World.block_lt_of_cell? w _ hw211_1)).trans hw211_1), ((HB.out.cell (World.block_lt_of_cell? w _ hw211_2)).trans hw211_2)⟩ (fun hHeld => ?_); refine with_tabW spec_Follows.tab19 spec_Follows.bits19 (fun HT_ HW_ => ?_)
             generalize wr.drew = w65 at HO_5 BK191 HB hx211_0 hx211_1 hx211_2 hHeld ⊢
             refine sqP (i := 0) (N := some 76) (sqb 1 7) rfl rfl (any_of HT_.out (by kernel_rfl)) ?_
             refine sqP (i := 1) (N := some 77) (sqb 2 6) rfl rfl (any_of HT_.out (by kernel_rfl)) ?_
             refine sqP (i := 2) (N := some 78) (sqb 3 5) rfl rfl (any_of HT_.out (by kernel_rfl)) ?_
             refine sqP (i := 3) (N := some 79) (sqb 4 4) rfl rfl (any_of HT_.out (by kernel_rfl)) ?_
             refine sqP (i := 5) (N := some 81) (sqr [4, 1, 1, 2]) rfl rfl (any_of HT_.out (by kernel_rfl)) ?_
             refine sqTk (i := 4) (N := some 80) (sqb 6 2) rfl rfl (take_ofW HT_.out HW_.out (by kernel_rfl)) hHeld ?_
             refine sqTk (i := 6) (N := some 82) (sqb 7 1) rfl rfl (take_ofW HT_.out HW_.out (by kernel_rfl)) hHeld ?_
             refine sqP (i := 7) (N := some 83) (sqb 8 0) rfl rfl (any_of HT_.out (by kernel_rfl)) ?_
             refine done_ (done_of HT_.out (by kernel_rfl)) ?_
             try go_wp2
             go_roundg k2
             case measure => have := HJ16.out; have := HK2.out; omega
             case rel => exact ⟨(x5_2), (wrap64 (x8_2 + 1)), (by first | rfl | (simp; done) | (simp [*]; done)), H', ⟨by have := HJ16.out; have := HK2.out; omega⟩, ⟨sqR HO_5⟩, ⟨sqK BK191⟩, ⟨sqB⟩⟩
            ·rw [if_neg c64] at H
             have c64b0 : (!(((rd_T36 l0 x8_2).f0.f0) == a1_4) || (!(((rd_T36 l0 x8_2).f0.f1) == a1_5))) = false := by simpa using c64
             clear c64
             have H' := Aside0.mk H
             clear H
             try go_wp2
             replace HO_5 := Aside0.mk (Kd.R_drew HO_5.out); replace BK191 := Aside0.mk (blk_drew BK191.out); replace HB := Aside0.mk (below_drew1 HB.out)
             have p211 : 0 ≤ (x8_2 : Int) := sqD
             have q211 : x8_2 < (l0.length : Int) := sqD
             obtain ⟨ad211, e211, hx211_0, hx211_1, hx211_2⟩ := at_T36 HR0.out x8_2 p211 q211
             have hw211_2 := hx211_2
             have hw211_1 := hx211_1
             have hw211_0 := hx211_0
             cases e211
             replace hx211_0 := sqH HB hx211_0
             replace hx211_1 := sqH HB hx211_1
             replace hx211_2 := sqH HB hx211_2
             replace p211 := eq_true p211
             replace q211 := eq_true q211
             refine start_ (n := 8) (S := fun w' => w'.cell? ⟨gb191, 0, none⟩ = some (.int .i64 a1_0) ∧ w'.cell? ⟨gb191, 1, none⟩ = some (.int .i64 a1_1) ∧ w'.cell? ⟨gb191, 2, none⟩ = some (.int .i64 a1_2) ∧ w'.cell? ⟨gb191, 3, none⟩ = some (.int .i64 a1_3) ∧ w'.cell? ⟨gb191, 4, none⟩ = some (.int .i64 a1_4) ∧ w'.cell? ⟨gb191, 5, none⟩ = some (.int .i64 a1_5) ∧ w'.cell? ⟨gb191, 6, none⟩ = some (.int .i64 a1_6) ∧ w'.cell? ⟨gb191, 7, none⟩ = some (.int .i64 a1_7) ∧ w'.cell? ⟨gb191, 8, none⟩ = some (.int .i64 a1_8) ∧ w'.cell? ⟨gb191, 9, none⟩ = some (.int .i64 a1_9) ∧ w'.cell? (ad211.add ((x8_2).toNat * 3)) = some (.int .i64 ((rd_T36 l0 x8_2).f0.f0)) ∧ w'.cell? ⟨(ad211.add ((x8_2).toNat * 3)).block, (ad211.add ((x8_2).toNat * 3)).off + 1, none⟩ = some (.int .i64 ((rd_T36 l0 x8_2).f0.f1)) ∧ w'.cell? ⟨(ad211.add ((x8_2).toNat * 3)).block, (ad211.add ((x8_2).toNat * 3)).off + 2, none⟩ = some (.int .i64 ((rd_T36 l0 x8_2).f1))) (ds := []) (sqb 0 8) (by kernel_rfl) rfl rfl ⟨(blk_cell BK191.out 0).trans rfl, (blk_cell BK191.out 1).trans rfl, (blk_cell BK191.out 2).trans rfl, (blk_cell BK191.out 3).trans rfl, (blk_cell BK191.out 4).trans rfl, (blk_cell BK191.out 5).trans rfl, (blk_cell BK191.out 6).trans rfl, (blk_cell BK191.out 7).trans rfl, (blk_cell BK191.out 8).trans rfl, (blk_cell BK191.out 9).trans rfl, ((HB.out.cell (World.block_lt_of_cell? w _ hw211_0)).trans hw211_0), ((HB.out.cell (World.block_lt_of_cell? w _ hw211_1)).trans hw211_1), ((HB.out.cell (World.block_lt_of_cell? w _ hw211_2)).trans hw211_2)⟩ (fun hHeld => ?_); refine with_tabW spec_Follows.tab19 spec_Follows.bits19 (fun HT_ HW_ => ?_)
             generalize wr.drew = w66 at HO_5 BK191 HB hx211_0 hx211_1 hx211_2 hHeld ⊢
             refine sqP (i := 0) (N := some 76) (sqb 1 7) rfl rfl (any_of HT_.out (by kernel_rfl)) ?_
             refine sqP (i := 1) (N := some 77) (sqb 2 6) rfl rfl (any_of HT_.out (by kernel_rfl)) ?_
             refine sqP (i := 2) (N := some 78) (sqb 3 5) rfl rfl (any_of HT_.out (by kernel_rfl)) ?_
             refine sqP (i := 3) (N := some 79) (sqb 4 4) rfl rfl (any_of HT_.out (by kernel_rfl)) ?_
             refine sqP (i := 5) (N := some 81) (sqr [4, 1, 1, 2]) rfl rfl (any_of HT_.out (by kernel_rfl)) ?_
             refine sqTk (i := 4) (N := some 80) (sqb 6 2) rfl rfl (take_ofW HT_.out HW_.out (by kernel_rfl)) hHeld ?_
             refine sqTk (i := 6) (N := some 82) (sqb 7 1) rfl rfl (take_ofW HT_.out HW_.out (by kernel_rfl)) hHeld ?_
             refine sqP (i := 7) (N := some 83) (sqb 8 0) rfl rfl (any_of HT_.out (by kernel_rfl)) ?_
             refine done_ (done_of HT_.out (by kernel_rfl)) ?_
             try go_wp2
             replace HO_5 := Aside0.mk (Kd.R_drew HO_5.out); replace BK191 := Aside0.mk (blk_drew BK191.out); replace HB := Aside0.mk (below_drew1 HB.out)
             have p212 : 0 ≤ (x8_2 : Int) := sqD
             have q212 : x8_2 < (l0.length : Int) := sqD
             obtain ⟨ad212, e212, hx212_0, hx212_1, hx212_2⟩ := at_T36 HR0.out x8_2 p212 q212
             have hw212_2 := hx212_2
             have hw212_1 := hx212_1
             have hw212_0 := hx212_0
             obtain rfl : ad211 = ad212 := (by injection e212)
             replace hx212_0 := sqH HB hx212_0
             replace hx212_1 := sqH HB hx212_1
             replace hx212_2 := sqH HB hx212_2
             replace p212 := eq_true p212
             replace q212 := eq_true q212
             refine start_ (n := 11) (S := fun w' => w'.cell? ⟨gb191, 0, none⟩ = some (.int .i64 a1_0) ∧ w'.cell? ⟨gb191, 1, none⟩ = some (.int .i64 a1_1) ∧ w'.cell? ⟨gb191, 2, none⟩ = some (.int .i64 a1_2) ∧ w'.cell? ⟨gb191, 3, none⟩ = some (.int .i64 a1_3) ∧ w'.cell? ⟨gb191, 4, none⟩ = some (.int .i64 a1_4) ∧ w'.cell? ⟨gb191, 5, none⟩ = some (.int .i64 a1_5) ∧ w'.cell? ⟨gb191, 6, none⟩ = some (.int .i64 a1_6) ∧ w'.cell? ⟨gb191, 7, none⟩ = some (.int .i64 a1_7) ∧ w'.cell? ⟨gb191, 8, none⟩ = some (.int .i64 a1_8) ∧ w'.cell? ⟨gb191, 9, none⟩ = some (.int .i64 a1_9) ∧ w'.cell? (ad211.add ((x8_2).toNat * 3)) = some (.int .i64 ((rd_T36 l0 x8_2).f0.f0)) ∧ w'.cell? ⟨(ad211.add ((x8_2).toNat * 3)).block, (ad211.add ((x8_2).toNat * 3)).off + 1, none⟩ = some (.int .i64 ((rd_T36 l0 x8_2).f0.f1)) ∧ w'.cell? ⟨(ad211.add ((x8_2).toNat * 3)).block, (ad211.add ((x8_2).toNat * 3)).off + 2, none⟩ = some (.int .i64 ((rd_T36 l0 x8_2).f1))) (ds := []) (sqb 0 11) (by kernel_rfl) rfl rfl ⟨(blk_cell BK191.out 0).trans rfl, (blk_cell BK191.out 1).trans rfl, (blk_cell BK191.out 2).trans rfl, (blk_cell BK191.out 3).trans rfl, (blk_cell BK191.out 4).trans rfl, (blk_cell BK191.out 5).trans rfl, (blk_cell BK191.out 6).trans rfl, (blk_cell BK191.out 7).trans rfl, (blk_cell BK191.out 8).trans rfl, (blk_cell BK191.out 9).trans rfl, ((HB.out.cell (World.block_lt_of_cell? w _ hw212_0)).trans hw212_0), ((HB.out.cell (World.block_lt_of_cell? w _ hw212_1)).trans hw212_1), ((HB.out.cell (World.block_lt_of_cell? w _ hw212_2)).trans hw212_2)⟩ (fun hHeld => ?_); refine with_tabW spec_Follows.tab20 spec_Follows.bits20 (fun HT_ HW_ => ?_)
             generalize w66.drew = w67 at HO_5 BK191 HB hx212_0 hx212_1 hx212_2 hHeld ⊢
             refine sqP (i := 0) (N := some 84) (sqb 1 10) rfl rfl (any_of HT_.out (by kernel_rfl)) ?_
             refine sqP (i := 1) (N := some 85) (sqb 2 9) rfl rfl (any_of HT_.out (by kernel_rfl)) ?_
             refine sqP (i := 2) (N := some 86) (sqb 3 8) rfl rfl (any_of HT_.out (by kernel_rfl)) ?_
             refine sqP (i := 3) (N := some 87) (sqb 4 7) rfl rfl (any_of HT_.out (by kernel_rfl)) ?_
             refine sqP (i := 5) (N := some 89) (sqr [4, 1, 1, 5]) rfl rfl (any_of HT_.out (by kernel_rfl)) ?_
             refine sqP (i := 6) (N := some 90) (sqr [4, 1, 2, 4]) rfl rfl (any_of HT_.out (by kernel_rfl)) ?_
             refine sqTk (i := 4) (N := some 88) (sqb 7 4) rfl rfl (take_ofW HT_.out HW_.out (by kernel_rfl)) hHeld ?_
             refine sqTk (i := 7) (N := some 91) (sqb 8 3) rfl rfl (take_ofW HT_.out HW_.out (by kernel_rfl)) hHeld ?_
             refine sqP (i := 8) (N := some 92) (sqb 9 2) rfl rfl (any_of HT_.out (by kernel_rfl)) ?_
             refine one_ (i := 9) (N := some 9) (sqb 10 1) rfl rfl (one_of HT_.out (by kernel_rfl)) (by decide) (fun K hK => ?_)
             refine box_step ?hg (N := 9) ?hd (cs := #[.int .i64 0, .int .i64 0]) (t := 27) ?hr ?_; (case hd => rfl); (case hg => rfl); (case hr => first | (go_simp; done) | (go_simp; rfl))
             intro gb213 hg w68 hbox hb
             replace HO_5 := Aside0.mk (Kd.R_below (sqR HO_5) hb); have BK213 := Aside0.mk (hbox); have GW213 := sqG hg; have GE213 := sqG hg; have NB191_213 := sqN BK191 hg; have NB213_191 := sqM BK191 hg; replace BK191 := sqL BK191 hb; replace HB := sqS hb
             clear hb hbox hg
             refine hK.out _ _ ⟨(blk_cell BK191.out 0).trans rfl, (blk_cell BK191.out 1).trans rfl, (blk_cell BK191.out 2).trans rfl, (blk_cell BK191.out 3).trans rfl, (blk_cell BK191.out 4).trans rfl, (blk_cell BK191.out 5).trans rfl, (blk_cell BK191.out 6).trans rfl, (blk_cell BK191.out 7).trans rfl, (blk_cell BK191.out 8).trans rfl, (blk_cell BK191.out 9).trans rfl, ((HB.out.cell (World.block_lt_of_cell? w _ hw212_0)).trans hw212_0), ((HB.out.cell (World.block_lt_of_cell? w _ hw212_1)).trans hw212_1), ((HB.out.cell (World.block_lt_of_cell? w _ hw212_2)).trans hw212_2)⟩ (fun hHeld => ?_)
             clear hK K
             refine sqV (N := some 9) ?_
             refine one_ (i := 10) (N := none) (sqb 11 0) rfl rfl (one_of HT_.out (by kernel_rfl)) (by decide) (fun K hK => ?_)
             have hs69 : w68.cell? ⟨gb213, 0, none⟩ = some (.int .i64 0) := (blk_cell BK213.out 0).trans rfl
             have hfs69 := blk_frozen BK213.out 0
             have hns69_0 := NB191_213.out
             have hms69_0 := NB213_191.out
             have hs70 : w68.cell? ⟨gb213, 1, none⟩ = some (.int .i64 0) := (blk_cell BK213.out 1).trans rfl
             have hfs70 := blk_frozen BK213.out 1
             have hns70_0 := NB191_213.out
             have hms70_0 := NB213_191.out
             refine skip_ (w1 := ?_) (by rfl) rfl ?_ ?_
             rotate_left
             ·go_simp
              rfl
             refine hK.out _ _ ⟨((cell_far (p := ⟨gb213, _, none⟩) NB191_213.out _).trans (((cell_far (p := ⟨gb213, _, none⟩) NB191_213.out _).trans (hHeld.1)))), ((cell_far (p := ⟨gb213, _, none⟩) NB191_213.out _).trans (((cell_far (p := ⟨gb213, _, none⟩) NB191_213.out _).trans (hHeld.2.1)))), ((cell_far (p := ⟨gb213, _, none⟩) NB191_213.out _).trans (((cell_far (p := ⟨gb213, _, none⟩) NB191_213.out _).trans (hHeld.2.2.1)))), ((cell_far (p := ⟨gb213, _, none⟩) NB191_213.out _).trans (((cell_far (p := ⟨gb213, _, none⟩) NB191_213.out _).trans (hHeld.2.2.2.1)))), ((cell_far (p := ⟨gb213, _, none⟩) NB191_213.out _).trans (((cell_far (p := ⟨gb213, _, none⟩) NB191_213.out _).trans (hHeld.2.2.2.2.1)))), ((cell_far (p := ⟨gb213, _, none⟩) NB191_213.out _).trans (((cell_far (p := ⟨gb213, _, none⟩) NB191_213.out _).trans (hHeld.2.2.2.2.2.1)))), ((cell_far (p := ⟨gb213, _, none⟩) NB191_213.out _).trans (((cell_far (p := ⟨gb213, _, none⟩) NB191_213.out _).trans (hHeld.2.2.2.2.2.2.1)))), ((cell_far (p := ⟨gb213, _, none⟩) NB191_213.out _).trans (((cell_far (p := ⟨gb213, _, none⟩) NB191_213.out _).trans (hHeld.2.2.2.2.2.2.2.1)))), ((cell_far (p := ⟨gb213, _, none⟩) NB191_213.out _).trans (((cell_far (p := ⟨gb213, _, none⟩) NB191_213.out _).trans (hHeld.2.2.2.2.2.2.2.2.1)))), ((cell_far (p := ⟨gb213, _, none⟩) NB191_213.out _).trans (((cell_far (p := ⟨gb213, _, none⟩) NB191_213.out _).trans (hHeld.2.2.2.2.2.2.2.2.2.1)))), ((cell_far (p := ⟨gb213, _, none⟩) (by first | exact Nat.ne_of_lt (Nat.lt_of_lt_of_le (by have := World.block_lt_of_cell? _ _ hw212_0; first | rwa [add_block] at this | exact this) GW213.out) | (rw [add_block]; exact Nat.ne_of_lt (Nat.lt_of_lt_of_le (by have := World.block_lt_of_cell? _ _ hw212_0; first | rwa [add_block] at this | exact this) GW213.out)) | (show (Addr.add _ _).block ≠ _; rw [add_block]; exact Nat.ne_of_lt (Nat.lt_of_lt_of_le (by have := World.block_lt_of_cell? _ _ hw212_0; first | rwa [add_block] at this | exact this) GW213.out)) | (dsimp only; exact Nat.ne_of_lt (Nat.lt_of_lt_of_le (by have := World.block_lt_of_cell? _ _ hw212_0; first | rwa [add_block] at this | exact this) GW213.out))) _).trans (((cell_far (p := ⟨gb213, _, none⟩) (by first | exact Nat.ne_of_lt (Nat.lt_of_lt_of_le (by have := World.block_lt_of_cell? _ _ hw212_0; first | rwa [add_block] at this | exact this) GW213.out) | (rw [add_block]; exact Nat.ne_of_lt (Nat.lt_of_lt_of_le (by have := World.block_lt_of_cell? _ _ hw212_0; first | rwa [add_block] at this | exact this) GW213.out)) | (show (Addr.add _ _).block ≠ _; rw [add_block]; exact Nat.ne_of_lt (Nat.lt_of_lt_of_le (by have := World.block_lt_of_cell? _ _ hw212_0; first | rwa [add_block] at this | exact this) GW213.out)) | (dsimp only; exact Nat.ne_of_lt (Nat.lt_of_lt_of_le (by have := World.block_lt_of_cell? _ _ hw212_0; first | rwa [add_block] at this | exact this) GW213.out))) _).trans (hHeld.2.2.2.2.2.2.2.2.2.2.1)))), ((cell_far (p := ⟨gb213, _, none⟩) (by first | exact Nat.ne_of_lt (Nat.lt_of_lt_of_le (by have := World.block_lt_of_cell? _ _ hw212_1; first | rwa [add_block] at this | exact this) GW213.out) | (rw [add_block]; exact Nat.ne_of_lt (Nat.lt_of_lt_of_le (by have := World.block_lt_of_cell? _ _ hw212_1; first | rwa [add_block] at this | exact this) GW213.out)) | (show (Addr.add _ _).block ≠ _; rw [add_block]; exact Nat.ne_of_lt (Nat.lt_of_lt_of_le (by have := World.block_lt_of_cell? _ _ hw212_1; first | rwa [add_block] at this | exact this) GW213.out)) | (dsimp only; exact Nat.ne_of_lt (Nat.lt_of_lt_of_le (by have := World.block_lt_of_cell? _ _ hw212_1; first | rwa [add_block] at this | exact this) GW213.out))) _).trans (((cell_far (p := ⟨gb213, _, none⟩) (by first | exact Nat.ne_of_lt (Nat.lt_of_lt_of_le (by have := World.block_lt_of_cell? _ _ hw212_1; first | rwa [add_block] at this | exact this) GW213.out) | (rw [add_block]; exact Nat.ne_of_lt (Nat.lt_of_lt_of_le (by have := World.block_lt_of_cell? _ _ hw212_1; first | rwa [add_block] at this | exact this) GW213.out)) | (show (Addr.add _ _).block ≠ _; rw [add_block]; exact Nat.ne_of_lt (Nat.lt_of_lt_of_le (by have := World.block_lt_of_cell? _ _ hw212_1; first | rwa [add_block] at this | exact this) GW213.out)) | (dsimp only; exact Nat.ne_of_lt (Nat.lt_of_lt_of_le (by have := World.block_lt_of_cell? _ _ hw212_1; first | rwa [add_block] at this | exact this) GW213.out))) _).trans (hHeld.2.2.2.2.2.2.2.2.2.2.2.1)))), ((cell_far (p := ⟨gb213, _, none⟩) (by first | exact Nat.ne_of_lt (Nat.lt_of_lt_of_le (by have := World.block_lt_of_cell? _ _ hw212_2; first | rwa [add_block] at this | exact this) GW213.out) | (rw [add_block]; exact Nat.ne_of_lt (Nat.lt_of_lt_of_le (by have := World.block_lt_of_cell? _ _ hw212_2; first | rwa [add_block] at this | exact this) GW213.out)) | (show (Addr.add _ _).block ≠ _; rw [add_block]; exact Nat.ne_of_lt (Nat.lt_of_lt_of_le (by have := World.block_lt_of_cell? _ _ hw212_2; first | rwa [add_block] at this | exact this) GW213.out)) | (dsimp only; exact Nat.ne_of_lt (Nat.lt_of_lt_of_le (by have := World.block_lt_of_cell? _ _ hw212_2; first | rwa [add_block] at this | exact this) GW213.out))) _).trans (((cell_far (p := ⟨gb213, _, none⟩) (by first | exact Nat.ne_of_lt (Nat.lt_of_lt_of_le (by have := World.block_lt_of_cell? _ _ hw212_2; first | rwa [add_block] at this | exact this) GW213.out) | (rw [add_block]; exact Nat.ne_of_lt (Nat.lt_of_lt_of_le (by have := World.block_lt_of_cell? _ _ hw212_2; first | rwa [add_block] at this | exact this) GW213.out)) | (show (Addr.add _ _).block ≠ _; rw [add_block]; exact Nat.ne_of_lt (Nat.lt_of_lt_of_le (by have := World.block_lt_of_cell? _ _ hw212_2; first | rwa [add_block] at this | exact this) GW213.out)) | (dsimp only; exact Nat.ne_of_lt (Nat.lt_of_lt_of_le (by have := World.block_lt_of_cell? _ _ hw212_2; first | rwa [add_block] at this | exact this) GW213.out))) _).trans (hHeld.2.2.2.2.2.2.2.2.2.2.2.2))))⟩ (fun hHeld => ?_)
             clear hK K
             refine done_ (done_of HT_.out (by kernel_rfl)) ?_
             try go_wp2
             go_loopg [5, 10] k2 (fun kq v5 v10 w' => ∃ (x5_3 : List (S36)) (x10_3 : Int), v10 = .int .i64 x10_3 ∧ Aside0 (spec_Follows.l2 kq l0 x5_3 x8_2 x10_3 a1_0 a1_1 a1_2 a1_3 a1_4 a1_5 a1_6 a1_7 a1_8 a1_9 ((rd_T36 l0 x8_2).f1) a1_7 = some r) ∧ Aside0 (kq ≤ k2) ∧ Aside0 (Kd.R k36 36 w' w.heap.size (fun _ => True) v5 x5_3) ∧ Aside0 (w'.heap[gb191]? = some (.cells #[.int .i64 a1_0, .int .i64 a1_1, .int .i64 a1_2, .int .i64 a1_3, .int .i64 a1_4, .int .i64 a1_5, .int .i64 a1_6, .int .i64 a1_7, .int .i64 a1_8, .int .i64 a1_9] 29 (0, 0))) ∧ Aside0 (w'.heap[gb213]? = some (.cells #[.int .i64 ((rd_T36 l0 x8_2).f1), .int .i64 a1_7] 27 (0, 0))) ∧ Aside0 (Below w.heap.size w w'))
             case atStart => exact ⟨(x5_2), (0), (by first | rfl | (simp; done) | (simp [*]; done)), H', ⟨Nat.le_refl _⟩, ⟨by (with_reducible repeat (first | apply Kd.R_alloc | apply Kd.R_drewN | apply Kd.R_drew)); exact Kd.R_mono (Kd.R_far (p := ⟨gb213, 1, none⟩) (Kd.R_far (p := ⟨gb213, 0, none⟩) (Kd.R_types HO_5.out BK213.out (by decide)) (fun _ hk => hk.2) (.int .i64 ((rd_T36 l0 x8_2).f1))) (fun _ hk => hk.2) (.int .i64 a1_7)) (fun _ hk => trivial)⟩, ⟨sqW BK191⟩, ⟨sqW BK213⟩, ⟨sqB⟩⟩
             case round =>
              clear H'
              try clear c2
              try clear p2
              try clear q2
              try clear hx2
              try clear c3
              try clear c4
              try clear c5
              try clear c6
              try clear p6
              try clear p20
              try clear q20
              try clear hx20
              try clear p21
              try clear q21
              try clear hx21
              try clear c27
              try clear c27b0
              try clear c28
              try clear c28b0
              try clear c29
              try clear c29b0
              try clear c29b1
              try clear c29b2
              try clear c30
              try clear c30b0
              try clear c30b1
              try clear c33
              try clear c40
              try clear c41
              try clear c44
              try clear c53
              try clear c58
              try clear c61
              try clear c61b0
              try clear c61b1
              try clear c62
              try clear c62b0
              try clear c63
              try clear c63b0
              try clear c64
              try clear c64b0
              try clear p64
              try clear hcz12_0 hcz12_1 hcz12_2 hcz12_3 hcz12_4 hcz12_5 hcz12_6 hcz12_7 hcz12_8 hcz12_9
              try clear hcz14_0 hcz14_1 hcz14_2 hcz14_3 hcz14_4 hcz14_5 hcz14_6 hcz14_7 hcz14_8 hcz14_9
              try clear hcz22_0 hcz22_1 hcz22_2 hcz22_3 hcz22_4 hcz22_5 hcz22_6 hcz22_7 hcz22_8 hcz22_9
              try clear hcz24_0 hcz24_1 hcz24_2 hcz24_3 hcz24_4 hcz24_5 hcz24_6 hcz24_7 hcz24_8 hcz24_9
              try clear hcz34_0 hcz34_1 hcz34_2
              try clear hcz36_0 hcz36_1 hcz36_2
              try clear hcz37_0 hcz37_1 hcz37_2 hcz37_3 hcz37_4 hcz37_5 hcz37_6 hcz37_7 hcz37_8 hcz37_9
              try clear hcz45_0 hcz45_1 hcz45_2
              try clear hcz46_0 hcz46_1 hcz46_2 hcz46_3 hcz46_4 hcz46_5 hcz46_6 hcz46_7 hcz46_8 hcz46_9
              try clear hcz48_0 hcz48_1 hcz48_2 hcz48_3 hcz48_4 hcz48_5 hcz48_6 hcz48_7 hcz48_8 hcz48_9
              try clear hcz49_0 hcz49_1 hcz49_2
              try clear hcz54_0 hcz54_1 hcz54_2
              try clear hcz55_0 hcz55_1 hcz55_2 hcz55_3 hcz55_4 hcz55_5 hcz55_6 hcz55_7 hcz55_8 hcz55_9
              try clear hcz59_0 hcz59_1 hcz59_2
              try clear hcz60_0 hcz60_1 hcz60_2 hcz60_3 hcz60_4 hcz60_5 hcz60_6 hcz60_7 hcz60_8 hcz60_9
              try clear hfz12_0
              try clear hfz12_1
              try clear hfz12_2
              try clear hfz12_3
              try clear hfz12_4
              try clear hfz12_5
              try clear hfz12_6
              try clear hfz12_7
              try clear hfz12_8
              try clear hfz12_9
              try clear hfz14_0
              try clear hfz14_1
              try clear hfz14_2
              try clear hfz14_3
              try clear hfz14_4
              try clear hfz14_5
              try clear hfz14_6
              try clear hfz14_7
              try clear hfz14_8
              try clear hfz14_9
              try clear hfz22_0
              try clear hfz22_1
              try clear hfz22_2
              try clear hfz22_3
              try clear hfz22_4
              try clear hfz22_5
              try clear hfz22_6
              try clear hfz22_7
              try clear hfz22_8
              try clear hfz22_9
              try clear hfz24_0
              try clear hfz24_1
              try clear hfz24_2
              try clear hfz24_3
              try clear hfz24_4
              try clear hfz24_5
              try clear hfz24_6
              try clear hfz24_7
              try clear hfz24_8
              try clear hfz24_9
              try clear hfz34_0
              try clear hfz34_1
              try clear hfz34_2
              try clear hfz36_0
              try clear hfz36_1
              try clear hfz36_2
              try clear hfz37_0
              try clear hfz37_1
              try clear hfz37_2
              try clear hfz37_3
              try clear hfz37_4
              try clear hfz37_5
              try clear hfz37_6
              try clear hfz37_7
              try clear hfz37_8
              try clear hfz37_9
              try clear hfz45_0
              try clear hfz45_1
              try clear hfz45_2
              try clear hfz46_0
              try clear hfz46_1
              try clear hfz46_2
              try clear hfz46_3
              try clear hfz46_4
              try clear hfz46_5
              try clear hfz46_6
              try clear hfz46_7
              try clear hfz46_8
              try clear hfz46_9
              try clear hfz48_0
              try clear hfz48_1
              try clear hfz48_2
              try clear hfz48_3
              try clear hfz48_4
              try clear hfz48_5
              try clear hfz48_6
              try clear hfz48_7
              try clear hfz48_8
              try clear hfz48_9
              try clear hfz49_0
              try clear hfz49_1
              try clear hfz49_2
              try clear hfz54_0
              try clear hfz54_1
              try clear hfz54_2
              try clear hfz55_0
              try clear hfz55_1
              try clear hfz55_2
              try clear hfz55_3
              try clear hfz55_4
              try clear hfz55_5
              try clear hfz55_6
              try clear hfz55_7
              try clear hfz55_8
              try clear hfz55_9
              try clear hfz59_0
              try clear hfz59_1
              try clear hfz59_2
              try clear hfz60_0
              try clear hfz60_1
              try clear hfz60_2
              try clear hfz60_3
              try clear hfz60_4
              try clear hfz60_5
              try clear hfz60_6
              try clear hfz60_7
              try clear hfz60_8
              try clear hfz60_9
              try clear hx202_0
              try clear hx202_1
              try clear hx202_2
              try clear hx211_0
              try clear hx211_1
              try clear hx211_2
              try clear hx212_0
              try clear hx212_1
              try clear hx212_2
              try clear p2
              try clear p202
              try clear p211
              try clear p212
              try clear q202
              try clear q211
              try clear q212
              obtain ⟨x5_3, x10_3, rfl, HA, HK3, HO_5, BK191, BK213, HB⟩ := hrel
              cases gk with
              | zero => exact absurd HA.out (by simp [spec_Follows.l2])
              | succ k3 =>
               have H := HA.out
               clear HA
               simp only [spec_Follows.l2] at H
               by_cases c71 : x10_3 < (l0.length : Int)
               ·rw [if_pos c71] at H
                have c71b0 : decide (x10_3 < (l0.length : Int)) = true := decide_eq_true c71
                clear c71
                by_cases c72 : 0 ≤ x10_3
                ·rw [if_pos c72] at H
                 have c72b0 : decide (0 ≤ x10_3) = true := decide_eq_true c72
                 clear c72
                 by_cases c73 : (((rd_T36 l0 x10_3).f0.f0) == ((rd_T36 l0 x8_2).f1) && (((rd_T36 l0 x10_3).f0.f1) == a1_7)) = true
                 ·rw [if_pos c73] at H
                  have c73b0 : (((rd_T36 l0 x10_3).f0.f0) == ((rd_T36 l0 x8_2).f1) && (((rd_T36 l0 x10_3).f0.f1) == a1_7)) = true := c73
                  (try (have c73b1 : decide (((rd_T36 l0 x10_3).f0.f0) = ((rd_T36 l0 x8_2).f1) && (((rd_T36 l0 x10_3).f0.f1) == a1_7)) = true := by simpa using c73))
                  (try (have c73b2 : (((rd_T36 l0 x10_3).f0.f0) == ((rd_T36 l0 x8_2).f1) && (((rd_T36 l0 x10_3).f0.f1) == a1_7)) = true := by simpa using c73))
                  clear c73
                  replace H := Option.bind_eq_some_iff.mp H
                  obtain ⟨t216, A740, H⟩ := H
                  try dsimp only at H
                  have A74 := Aside0.mk A740
                  clear A740
                  have H' := Aside0.mk H
                  clear H
                  try go_wp2
                  replace HO_5 := Aside0.mk (Kd.R_drew HO_5.out); replace BK191 := Aside0.mk (blk_drew BK191.out); replace BK213 := Aside0.mk (blk_drew BK213.out); replace HB := Aside0.mk (below_drew1 HB.out)
                  have p214 : 0 ≤ (x10_3 : Int) := sqD
                  have q214 : x10_3 < (l0.length : Int) := sqD
                  obtain ⟨ad214, e214, hx214_0, hx214_1, hx214_2⟩ := at_T36 HR0.out x10_3 p214 q214
                  have hw214_2 := hx214_2
                  have hw214_1 := hx214_1
                  have hw214_0 := hx214_0
                  obtain rfl : ad211 = ad214 := (by injection e214)
                  replace hx214_0 := sqH HB hx214_0
                  replace hx214_1 := sqH HB hx214_1
                  replace hx214_2 := sqH HB hx214_2
                  replace p214 := eq_true p214
                  replace q214 := eq_true q214
                  refine start_ (n := 7) (S := fun w' => w'.cell? ⟨gb213, 0, none⟩ = some (.int .i64 ((rd_T36 l0 x8_2).f1)) ∧ w'.cell? ⟨gb213, 1, none⟩ = some (.int .i64 a1_7) ∧ w'.cell? (ad211.add ((x10_3).toNat * 3)) = some (.int .i64 ((rd_T36 l0 x10_3).f0.f0)) ∧ w'.cell? ⟨(ad211.add ((x10_3).toNat * 3)).block, (ad211.add ((x10_3).toNat * 3)).off + 1, none⟩ = some (.int .i64 ((rd_T36 l0 x10_3).f0.f1)) ∧ w'.cell? ⟨(ad211.add ((x10_3).toNat * 3)).block, (ad211.add ((x10_3).toNat * 3)).off + 2, none⟩ = some (.int .i64 ((rd_T36 l0 x10_3).f1))) (ds := []) #[false, false, false, false, false, false, false] (by kernel_rfl) rfl rfl ⟨(blk_cell BK213.out 0).trans rfl, (blk_cell BK213.out 1).trans rfl, ((HB.out.cell (World.block_lt_of_cell? w _ hw214_0)).trans hw214_0), ((HB.out.cell (World.block_lt_of_cell? w _ hw214_1)).trans hw214_1), ((HB.out.cell (World.block_lt_of_cell? w _ hw214_2)).trans hw214_2)⟩ (fun hHeld => ?_)
                  generalize wr.drew = w75 at HO_5 BK191 BK213 HB hx214_0 hx214_1 hx214_2 hHeld ⊢
                  refine sqP (i := 0) (N := some 99) #[true, false, false, false, false, false, false] rfl rfl (by kernel_rfl) ?_
                  refine sqP (i := 1) (N := some 100) #[true, true, false, false, false, false, false] rfl rfl (by kernel_rfl) ?_
                  refine sqP (i := 2) (N := some 101) #[true, true, true, false, false, false, false] rfl rfl (by kernel_rfl) ?_
                  refine sqP (i := 3) (N := some 102) #[true, true, true, true, false, false, false] rfl rfl (by kernel_rfl) ?_
                  refine sqTk (i := 4) (N := some 103) #[true, true, true, true, true, false, false] rfl rfl (by kernel_rfl) hHeld ?_
                  refine sqTk (i := 5) (N := some 104) #[true, true, true, true, true, true, false] rfl rfl (by kernel_rfl) hHeld ?_
                  refine sqP (i := 6) (N := some 105) #[true, true, true, true, true, true, true] rfl rfl (by kernel_rfl) ?_
                  refine done_ (by kernel_rfl) ?_
                  try go_wp2
                  replace HO_5 := Aside0.mk (Kd.R_drew HO_5.out); replace BK191 := Aside0.mk (blk_drew BK191.out); replace BK213 := Aside0.mk (blk_drew BK213.out); replace HB := Aside0.mk (below_drew1 HB.out)
                  have p215 : 0 ≤ (x10_3 : Int) := sqD
                  have q215 : x10_3 < (l0.length : Int) := sqD
                  obtain ⟨ad215, e215, hx215_0, hx215_1, hx215_2⟩ := at_T36 HR0.out x10_3 p215 q215
                  have hw215_2 := hx215_2
                  have hw215_1 := hx215_1
                  have hw215_0 := hx215_0
                  obtain rfl : ad211 = ad215 := (by injection e215)
                  replace hx215_0 := sqH HB hx215_0
                  replace hx215_1 := sqH HB hx215_1
                  replace hx215_2 := sqH HB hx215_2
                  replace p215 := eq_true p215
                  replace q215 := eq_true q215
                  obtain ⟨Ao77, co77, eo77⟩ := Kd.R_slice HO_5.out
                  (first | subst eo77 | (injection eo77 with f1_ f2_ f3_; have f4_ := f1_.symm; have f5_ := f3_.symm; clear f1_ f2_ f3_; subst f4_; subst f5_))
                  refine start_ (n := 11) (S := fun w' => w'.cell? ⟨gb191, 0, none⟩ = some (.int .i64 a1_0) ∧ w'.cell? ⟨gb191, 1, none⟩ = some (.int .i64 a1_1) ∧ w'.cell? ⟨gb191, 2, none⟩ = some (.int .i64 a1_2) ∧ w'.cell? ⟨gb191, 3, none⟩ = some (.int .i64 a1_3) ∧ w'.cell? ⟨gb191, 4, none⟩ = some (.int .i64 a1_4) ∧ w'.cell? ⟨gb191, 5, none⟩ = some (.int .i64 a1_5) ∧ w'.cell? ⟨gb191, 6, none⟩ = some (.int .i64 a1_6) ∧ w'.cell? ⟨gb191, 7, none⟩ = some (.int .i64 a1_7) ∧ w'.cell? ⟨gb191, 8, none⟩ = some (.int .i64 a1_8) ∧ w'.cell? ⟨gb191, 9, none⟩ = some (.int .i64 a1_9) ∧ w'.cell? (ad211.add ((x10_3).toNat * 3)) = some (.int .i64 ((rd_T36 l0 x10_3).f0.f0)) ∧ w'.cell? ⟨(ad211.add ((x10_3).toNat * 3)).block, (ad211.add ((x10_3).toNat * 3)).off + 1, none⟩ = some (.int .i64 ((rd_T36 l0 x10_3).f0.f1)) ∧ w'.cell? ⟨(ad211.add ((x10_3).toNat * 3)).block, (ad211.add ((x10_3).toNat * 3)).off + 2, none⟩ = some (.int .i64 ((rd_T36 l0 x10_3).f1))) (ds := []) (sqb 0 11) (by kernel_rfl) rfl rfl ⟨(blk_cell BK191.out 0).trans rfl, (blk_cell BK191.out 1).trans rfl, (blk_cell BK191.out 2).trans rfl, (blk_cell BK191.out 3).trans rfl, (blk_cell BK191.out 4).trans rfl, (blk_cell BK191.out 5).trans rfl, (blk_cell BK191.out 6).trans rfl, (blk_cell BK191.out 7).trans rfl, (blk_cell BK191.out 8).trans rfl, (blk_cell BK191.out 9).trans rfl, ((HB.out.cell (World.block_lt_of_cell? w _ hw215_0)).trans hw215_0), ((HB.out.cell (World.block_lt_of_cell? w _ hw215_1)).trans hw215_1), ((HB.out.cell (World.block_lt_of_cell? w _ hw215_2)).trans hw215_2)⟩ (fun hHeld => ?_); refine with_tabW spec_Follows.tab25 spec_Follows.bits25 (fun HT_ HW_ => ?_)
                  generalize w75.drew = w76 at HO_5 BK191 BK213 HB hx215_0 hx215_1 hx215_2 hHeld ⊢
                  refine sqP (i := 0) (N := some 106) (sqb 1 10) rfl rfl (any_of HT_.out (by kernel_rfl)) ?_
                  refine sqP (i := 1) (N := some 107) (sqb 2 9) rfl rfl (any_of HT_.out (by kernel_rfl)) ?_
                  refine sqP (i := 3) (N := some 109) (sqr [2, 1, 1, 7]) rfl rfl (any_of HT_.out (by kernel_rfl)) ?_
                  refine sqP (i := 4) (N := some 110) (sqr [2, 1, 2, 6]) rfl rfl (any_of HT_.out (by kernel_rfl)) ?_
                  refine sqP (i := 5) (N := some 111) (sqr [2, 1, 3, 5]) rfl rfl (any_of HT_.out (by kernel_rfl)) ?_
                  refine sqP (i := 6) (N := some 112) (sqr [2, 1, 4, 4]) rfl rfl (any_of HT_.out (by kernel_rfl)) ?_
                  refine sqTk (i := 2) (N := some 108) (sqb 7 4) rfl rfl (take_ofW HT_.out HW_.out (by kernel_rfl)) hHeld ?_
                  refine sqTk (i := 7) (N := some 113) (sqb 8 3) rfl rfl (take_ofW HT_.out HW_.out (by kernel_rfl)) hHeld ?_
                  refine sqP (i := 8) (N := some 114) (sqb 9 2) rfl rfl (any_of HT_.out (by kernel_rfl)) ?_
                  refine one_ (i := 9) (N := some 115) (sqb 10 1) rfl rfl (one_of HT_.out (by kernel_rfl)) (by decide) (fun K hK => ?_)
                  refine goes_ Try.func67 (by kernel_rfl) rfl #[.slice Ao77 x5_3.length co77, .agg #[.int .i64 a1_1, .int .i64 a1_2, .int .i64 ((rd_T36 l0 x10_3).f1)]] (by rfl) rfl rfl sqA ?_
                  with_reducible refine (spec_l06Put.calls k3 (fun k_ => some k_ = (.slice Ao77 x5_3.length co77 : Value).ownBlock) (.slice Ao77 x5_3.length co77) x5_3 a1_1 a1_2 ((rd_T36 l0 x10_3).f1) t216 w _ ?side1 ?side2 A74.out).mono ?_
                  (case side1 => exact sqB)
                  (case side2 => exact Kd.R_tight rfl HO_5.out)
                  rintro e w78 ⟨v217, rfl, ho0, hb, hkp⟩
                  refine ⟨_, rfl, ?_⟩
                  have n0_ := Aside0.mk (blk_kept (sqK BK191) hkp (fun hs_ => (fun e_ => (Kd.R_ne HO_5.out BK191.out (by decide)) e_) hs_))
                  have n1_ := Aside0.mk (blk_kept (sqK BK213) hkp (fun hs_ => (fun e_ => (Kd.R_ne HO_5.out BK213.out (by decide)) e_) hs_))
                  have n2_ := Aside0.mk (Kd.R_mono (ok' := fun k_ => True) ho0 (fun k_ hk_ => trivial))
                  have n3_ := Aside0.mk (hb)
                  clear BK191
                  clear BK213
                  clear HB
                  clear HO_5
                  have BK191 := n0_
                  have BK213 := n1_
                  have HO218 := n2_
                  have HB := n3_
                  clear n0_ n1_ n2_ n3_
                  (try clear hb)
                  (try clear hkp)
                  (try clear ho0)
                  refine hK.out _ _ ⟨(blk_cell BK191.out 0).trans rfl, (blk_cell BK191.out 1).trans rfl, (blk_cell BK191.out 2).trans rfl, (blk_cell BK191.out 3).trans rfl, (blk_cell BK191.out 4).trans rfl, (blk_cell BK191.out 5).trans rfl, (blk_cell BK191.out 6).trans rfl, (blk_cell BK191.out 7).trans rfl, (blk_cell BK191.out 8).trans rfl, (blk_cell BK191.out 9).trans rfl, ((HB.out.cell (World.block_lt_of_cell? w _ hw215_0)).trans hw215_0), ((HB.out.cell (World.block_lt_of_cell? w _ hw215_1)).trans hw215_1), ((HB.out.cell (World.block_lt_of_cell? w _ hw215_2)).trans hw215_2)⟩ (fun hHeld => ?_)
                  clear hK K
                  refine sqV (N := some 115) ?_
                  refine sqP (i := 10) (N := some 5) (sqb 11 0) rfl rfl (any_of HT_.out (by kernel_rfl)) ?_
                  refine done_ (done_of HT_.out (by kernel_rfl)) ?_
                  try go_wp2
                  go_roundg k3
                  case measure => have := HJ16.out; have := HK2.out; have := HK3.out; omega
                  case rel => exact ⟨(t216), (wrap64 (x10_3 + 1)), (by first | rfl | (simp; done) | (simp [*]; done)), H', ⟨by have := HJ16.out; have := HK2.out; have := HK3.out; omega⟩, ⟨sqR HO218⟩, ⟨sqK BK191⟩, ⟨sqK BK213⟩, ⟨sqB⟩⟩
                 ·rw [if_neg c73] at H
                  have c73b0 : (((rd_T36 l0 x10_3).f0.f0) == ((rd_T36 l0 x8_2).f1) && (((rd_T36 l0 x10_3).f0.f1) == a1_7)) = false := by simpa using c73
                  (try (have c73b1 : decide (((rd_T36 l0 x10_3).f0.f0) = ((rd_T36 l0 x8_2).f1) && (((rd_T36 l0 x10_3).f0.f1) == a1_7)) = false := by simpa using c73))
                  (try (have c73b2 : (((rd_T36 l0 x10_3).f0.f0) == ((rd_T36 l0 x8_2).f1) && (((rd_T36 l0 x10_3).f0.f1) == a1_7)) = false := by simpa using c73))
                  (try (have c73b3 : ¬ (((rd_T36 l0 x10_3).f0.f0) = ((rd_T36 l0 x8_2).f1) && (((rd_T36 l0 x10_3).f0.f1) == a1_7)) := by simpa using c73))
                  clear c73
                  have H' := Aside0.mk H
                  clear H
                  try go_wp2
                  replace HO_5 := Aside0.mk (Kd.R_drew HO_5.out); replace BK191 := Aside0.mk (blk_drew BK191.out); replace BK213 := Aside0.mk (blk_drew BK213.out); replace HB := Aside0.mk (below_drew1 HB.out)
                  have p214 : 0 ≤ (x10_3 : Int) := sqD
                  have q214 : x10_3 < (l0.length : Int) := sqD
                  obtain ⟨ad214, e214, hx214_0, hx214_1, hx214_2⟩ := at_T36 HR0.out x10_3 p214 q214
                  have hw214_2 := hx214_2
                  have hw214_1 := hx214_1
                  have hw214_0 := hx214_0
                  obtain rfl : ad211 = ad214 := (by injection e214)
                  replace hx214_0 := sqH HB hx214_0
                  replace hx214_1 := sqH HB hx214_1
                  replace hx214_2 := sqH HB hx214_2
                  replace p214 := eq_true p214
                  replace q214 := eq_true q214
                  refine start_ (n := 7) (S := fun w' => w'.cell? ⟨gb213, 0, none⟩ = some (.int .i64 ((rd_T36 l0 x8_2).f1)) ∧ w'.cell? ⟨gb213, 1, none⟩ = some (.int .i64 a1_7) ∧ w'.cell? (ad211.add ((x10_3).toNat * 3)) = some (.int .i64 ((rd_T36 l0 x10_3).f0.f0)) ∧ w'.cell? ⟨(ad211.add ((x10_3).toNat * 3)).block, (ad211.add ((x10_3).toNat * 3)).off + 1, none⟩ = some (.int .i64 ((rd_T36 l0 x10_3).f0.f1)) ∧ w'.cell? ⟨(ad211.add ((x10_3).toNat * 3)).block, (ad211.add ((x10_3).toNat * 3)).off + 2, none⟩ = some (.int .i64 ((rd_T36 l0 x10_3).f1))) (ds := []) #[false, false, false, false, false, false, false] (by kernel_rfl) rfl rfl ⟨(blk_cell BK213.out 0).trans rfl, (blk_cell BK213.out 1).trans rfl, ((HB.out.cell (World.block_lt_of_cell? w _ hw214_0)).trans hw214_0), ((HB.out.cell (World.block_lt_of_cell? w _ hw214_1)).trans hw214_1), ((HB.out.cell (World.block_lt_of_cell? w _ hw214_2)).trans hw214_2)⟩ (fun hHeld => ?_)
                  generalize wr.drew = w79 at HO_5 BK191 BK213 HB hx214_0 hx214_1 hx214_2 hHeld ⊢
                  refine sqP (i := 0) (N := some 99) #[true, false, false, false, false, false, false] rfl rfl (by kernel_rfl) ?_
                  refine sqP (i := 1) (N := some 100) #[true, true, false, false, false, false, false] rfl rfl (by kernel_rfl) ?_
                  refine sqP (i := 2) (N := some 101) #[true, true, true, false, false, false, false] rfl rfl (by kernel_rfl) ?_
                  refine sqP (i := 3) (N := some 102) #[true, true, true, true, false, false, false] rfl rfl (by kernel_rfl) ?_
                  refine sqTk (i := 4) (N := some 103) #[true, true, true, true, true, false, false] rfl rfl (by kernel_rfl) hHeld ?_
                  refine sqTk (i := 5) (N := some 104) #[true, true, true, true, true, true, false] rfl rfl (by kernel_rfl) hHeld ?_
                  refine sqP (i := 6) (N := some 105) #[true, true, true, true, true, true, true] rfl rfl (by kernel_rfl) ?_
                  refine done_ (by kernel_rfl) ?_
                  try go_wp2
                  go_roundg k3
                  case measure => have := HJ16.out; have := HK2.out; have := HK3.out; omega
                  case rel => exact ⟨(x5_3), (wrap64 (x10_3 + 1)), (by first | rfl | (simp; done) | (simp [*]; done)), H', ⟨by have := HJ16.out; have := HK2.out; have := HK3.out; omega⟩, ⟨sqR HO_5⟩, ⟨sqK BK191⟩, ⟨sqK BK213⟩, ⟨sqB⟩⟩
                ·rw [if_neg c72] at H
                 exact absurd H (by simp)
               ·rw [if_neg c71] at H
                have c71b0 : decide (x10_3 < (l0.length : Int)) = false := decide_eq_false c71
                clear c71
                have H' := Aside0.mk H
                clear H
                go_wp2
                go_roundg k3
                case measure => have := HJ16.out; have := HK2.out; have := HK3.out; omega
                case rel => exact ⟨(x5_3), (wrap64 (x8_2 + 1)), (by first | rfl | (simp; done) | (simp [*]; done)), H', ⟨by have := HJ16.out; have := HK2.out; have := HK3.out; omega⟩, ⟨sqR HO_5⟩, ⟨sqK BK191⟩, ⟨sqB⟩⟩
           ·rw [if_neg c63] at H
            exact absurd H (by simp)
          ·rw [if_neg c62] at H
           have c62b0 : decide (x8_2 < (l0.length : Int)) = false := decide_eq_false c62
           clear c62
           obtain rfl := Option.some.inj H
           go_wp2
           go_ret
           exact ⟨_, sqE, sqR HO_5, sqB⟩
       ·rw [if_neg c61] at H
        have c61b0 : (a1_0 == 3) = false := beq_eq_false_iff_ne.mpr c61
        have c61b1 : (a1_0 != 3) = true := bne_iff_ne.mpr c61
        obtain rfl := Option.some.inj H
        go_wp2
        go_ret
        exact ⟨_, sqE, sqR HO_5, sqB⟩
  ·replace c5 := Bool.eq_false_iff.mpr c5
   subst c5
   rw [if_neg (show ¬ (false = true) by decide)] at H
   obtain rfl := Option.some.inj H
   go_enter Try.func40, Try.ntmps40
   go_wp2_with (first | ((with_reducible refine gate_dst (N := 3) rfl ?_); refine sqX (N := 3) (cs := #[.int .i64 a1_0, .int .i64 a1_1, .int .i64 a1_2, .int .i64 a1_3, .int .i64 a1_4, .int .i64 a1_5, .int .i64 a1_6, .int .i64 a1_7, .int .i64 a1_8, .int .i64 a1_9]) (t := 29) ?_; intro gb191 hg w80 hbox hb; have BK191 := Aside0.mk (hbox); have GW191 := sqG hg; have GE191 := sqG hg; replace HB := sqS hb; clear hb hbox hg) | ((with_reducible refine gate_dst (N := 11) rfl ?_); refine Kd.R_lit k36 _ 36 ?hg (N := 11) ?hd (xs := ([] : List (S36))) (inner := []) (ok := fun _ => True) (okp := fun _ => True) ?hr ?hp (fun _ hk => hk) trivial (Below.refl _ _) (Nat.le_refl _) (by simp) ?_; (case hd => rfl); (case hg => rfl); (case hr => first | (go_simp; done) | (go_simp; rfl)); (case hp => exact (Reps.none _ _)); intro v193 w81 ho82 hb hg_ hnew_; clear hg_ hnew_; (first | rw [← Ny192.out] at ho82 | (simp only [Int.reduceToNat] at ho82; rw [← Ny192.out] at ho82)); have HO194 := Aside0.mk (Kd.R_lower ho82 (below_size (sqB))); replace BK191 := sqL BK191 hb; replace HB := sqS hb; clear hb ho82) | ((with_reducible refine gate_builtin (b := .append) (xs := #[.tmp 11, .tmp 12]) rfl ?_); at_builtin; refine Kd.R_append_rows k36 (w0 := w) w.heap.size rfl (.tmp 11) (.tmp 12) 31 36 (.agg #[(.int .i64 0), (.int .i64 0), (.int .i64 0)]) 24 rfl Try.underlying31 info36 rfl (by decide) (by omega) v193 y192 l0 _ _ _ (fun _ => True) (fun _ => False) rfl rfl ?aO ?aR (fun _ _ h => h) (fun _ h => h.elim) ?aF ?aB ?aS ?aL ?_; (case aR => repeat (first | exact (Kd.C_below HR0.out HB.out) | (with_reducible refine Kd.C_alloc ?_ _) | (with_reducible refine Kd.C_drewN ?_ _) | (with_reducible refine Kd.C_drew ?_))); (case aB => exact (sqB)); (case aF => exact (fun _ _ => trivial)); (case aO => exact (sqR HO194)); (case aS => exact (below_size (sqB))); (case aL => have := LMc3.out; omega); intro v196 w83 ho hb hg hat; rw [← Ny195.out] at ho; have n0_ := Aside0.mk (blk_grown (g := gb191) (o := .cells #[.int .i64 a1_0, .int .i64 a1_1, .int .i64 a1_2, .int .i64 a1_3, .int .i64 a1_4, .int .i64 a1_5, .int .i64 a1_6, .int .i64 a1_7, .int .i64 a1_8, .int .i64 a1_9] 29 (0, 0)) (sqK BK191) hg (Kd.R_ne HO194.out BK191.out (by decide))); have n1_ := Aside0.mk (hb); have n2_ := Aside0.mk (ho); clear BK191; clear HB; clear HO194; have BK191 := n0_; have HB := n1_; have HO197 := n2_; clear n0_ n1_ n2_; clear ho hb hg hat; obtain ⟨hcz84_0, hcz84_1, hcz84_2, hcz84_3, hcz84_4, hcz84_5, hcz84_6, hcz84_7, hcz84_8, hcz84_9, hfz84_0, hfz84_1, hfz84_2, hfz84_3, hfz84_4, hfz84_5, hfz84_6, hfz84_7, hfz84_8, hfz84_9⟩ := sqC10 BK191) | ((with_reducible refine gate_callee (f := 66) rfl ?_); refine goesL_ (some 15) rfl rfl Try.func66 (by kernel_rfl) rfl #[.agg #[.int .i64 a1_0, .int .i64 a1_1, .int .i64 a1_2, .int .i64 a1_3, .int .i64 a1_4, .int .i64 a1_5, .int .i64 a1_6, .int .i64 a1_7, .int .i64 a1_8, .int .i64 a1_9]] rfl sqA ?_; (with_reducible refine (spec_CredOk.calls k a1_0 a1_1 a1_2 a1_3 a1_4 a1_5 a1_6 a1_7 a1_8 a1_9 false _ A4.out).mono ?_); rintro e w85 ⟨rfl, hb⟩; refine ⟨_, rfl, ?_⟩; replace HO197 := Aside0.mk (Kd.R_below (sqR HO197) hb); replace BK191 := sqL BK191 hb; replace HB := sqS hb; (try clear hb); (try clear hb2); (try clear hk); (try clear hi)))
   go_ret
   exact ⟨_, sqE, sqR HO197, sqB⟩
 ·rw [if_neg c3] at H
  exact absurd H (by simp)

end Go.Proofs.Ytnebbjcgkoaloaa.PFnMembersTold
