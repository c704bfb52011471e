/- What the code that one law of the given program reaches computes, function by function, each with its proof over the given translation.
Conditions: none of our own. (Laid by a program of this session, wip/xp/xp.py; some contracts are typed by hand.) -/
import Derived.Test.YtnebbjcgkoaloaaPFnExactMembersOfx0
import Derived.Test.YtnebbjcgkoaloaaPFnExactMembersOfx7
import Derived.Test.YtnebbjcgkoaloaaPFnExactMembersOfx8
import Derived.Test.YtnebbjcgkoaloaaPFnExactMembersOfx11
namespace Go.Proofs.Ytnebbjcgkoaloaa.PFnExactMembersOf
open Go.RowKit Go.Proofs.YtnebbjcgkoaloaaW.PrintWords Go.Proofs.YtnebbjcgkoaloaaW.PrintLast Go.Proofs.YtnebbjcgkoaloaaW.PrintMore
attribute [local go_sem] max2_int min2_int max_two min_two max_three min_three max_four min_four   -- for this text's walks alone
set_option linter.unusedVariables false
set_option linter.unusedSimpArgs false

/-! ### laws_FnExactMembersOf: function 6 -/
def laws_FnExactMembersOf.j0 : Nat → List (S85) → List Int → List Int → Bool → Int → Int → Option (Bool)
 | 0, _, _, _, _, _, _ => none
 | k + 1, x0, x6, x8, x48, x312000, x312001 => if x48 = true then (some false) else ((laws_markIntS.f k x8 1).bind fun bt337 => ((laws_heldIntS.f k bt337.2 1).bind fun t339 => (if t339 < 0 then (some false) else (if t339 = bt337.1 then ((laws_toCredS.f k x0).bind fun t340 => ((laws_toRole.f x312000 x312001).bind fun bt343 => ((impl_MembersOf.f k t340 bt343.1 bt343.2).bind fun t345 => ((laws_eqIntS.f k t345 x6).bind fun t348 => (if t348 = true then ((laws_heldIntS.f k bt337.2 1).bind fun t349 => (if t349 < 0 then (some false) else (if t349 = bt337.1 then (some true) else (some false)))) else (some false)))))) else (some false)))))
def laws_FnExactMembersOf.f (k : Nat) (l0 : List (S85)) (a1_0 : Int) (a1_1 : Int) : Option (Bool) := (laws_szCredS.f l0 1048576).bind fun t312 => (if t312 < 0 then (some true) else ((laws_toCredS.f k l0).bind fun t313 => ((laws_toRole.f a1_0 a1_1).bind fun bt316 => ((spec_MembersOf.f k t313 bt316.1 bt316.2).bind fun t318 => ((laws_toCredS.f k l0).bind fun t321 => ((laws_toRole.f a1_0 a1_1).bind fun bt324 => ((impl_MembersOf.f k t321 bt324.1 bt324.2).bind fun t326 => ((laws_eqIntS.f k t326 t318).bind fun t329 => (if t329 = true then ((laws_toCredS.f k l0).bind fun t330 => ((laws_eqCredS.f k t321 t330).bind fun t333 => (if t333 = true then ((laws_markCredS.f k t321 1).bind fun bt334 => (if bt334.1 < 0 then (laws_FnExactMembersOf.j0 k l0 t318 t326 true a1_0 a1_1) else ((laws_eqIntS.f k t326 t318).bind fun t336 => (laws_FnExactMembersOf.j0 k l0 t318 t326 (!t336) a1_0 a1_1)))) else (some false)))) else (some false))))))))))
theorem laws_FnExactMembersOf.mono_l : ∀ k, (∀ y0 y1 y2 y3 y4 y5, LeO (laws_FnExactMembersOf.j0 k y0 y1 y2 y3 y4 y5) (laws_FnExactMembersOf.j0 (k + 1) y0 y1 y2 y3 y4 y5))
 | 0 => fun _ _ _ _ _ _ r h => by simp [laws_FnExactMembersOf.j0] at h
 | k + 1 => by
  have ih0 := laws_FnExactMembersOf.mono_l k
  ·intro y0 y1 y2 y3 y4 y5
   unfold laws_FnExactMembersOf.j0
   repeat' first
   | (with_reducible exact ih0 _ _ _ _ _ _)
   | (with_reducible exact impl_MembersOf.mono _ _ _ _)
   | (with_reducible exact laws_eqCredS.mono _ _ _)
   | (with_reducible exact laws_eqIntS.mono _ _ _)
   | (with_reducible exact laws_heldIntS.mono _ _ _)
   | (with_reducible exact laws_markCredS.mono _ _ _)
   | (with_reducible exact laws_markIntS.mono _ _ _)
   | (with_reducible exact laws_toCredS.mono _ _)
   | (with_reducible exact spec_MembersOf.mono _ _ _ _)
   | (with_reducible exact LeO.refl _)
   | (with_reducible exact LeO.none _)
   | (with_reducible refine LeO.ite ?_ ?_)
   | (with_reducible refine LeO.bind ?_ (fun _ => ?_))
   | exact ih0 _ _ _ _ _ _
   | exact impl_MembersOf.mono _ _ _ _
   | exact laws_eqCredS.mono _ _ _
   | exact laws_eqIntS.mono _ _ _
   | exact laws_heldIntS.mono _ _ _
   | exact laws_markCredS.mono _ _ _
   | exact laws_markIntS.mono _ _ _
   | exact laws_toCredS.mono _ _
   | exact spec_MembersOf.mono _ _ _ _
   | exact LeO.none _
   | refine LeO.ite ?_ ?_
   | refine LeO.bind ?_ (fun _ => ?_)
theorem laws_FnExactMembersOf.mono : ∀ a0 a1 a2 k, LeO (laws_FnExactMembersOf.f k a0 a1 a2) (laws_FnExactMembersOf.f (k + 1) a0 a1 a2) := by
 intro a0 a1 a2 k
 have ih0 := laws_FnExactMembersOf.mono_l k
 unfold laws_FnExactMembersOf.f
 repeat' first
   | (with_reducible exact ih0 _ _ _ _ _ _)
   | (with_reducible exact impl_MembersOf.mono _ _ _ _)
   | (with_reducible exact laws_eqCredS.mono _ _ _)
   | (with_reducible exact laws_eqIntS.mono _ _ _)
   | (with_reducible exact laws_heldIntS.mono _ _ _)
   | (with_reducible exact laws_markCredS.mono _ _ _)
   | (with_reducible exact laws_markIntS.mono _ _ _)
   | (with_reducible exact laws_toCredS.mono _ _)
   | (with_reducible exact spec_MembersOf.mono _ _ _ _)
   | (with_reducible exact LeO.refl _)
   | (with_reducible exact LeO.none _)
   | (with_reducible refine LeO.ite ?_ ?_)
   | (with_reducible refine LeO.bind ?_ (fun _ => ?_))
   | exact ih0 _ _ _ _ _ _
   | exact impl_MembersOf.mono _ _ _ _
   | exact laws_eqCredS.mono _ _ _
   | exact laws_eqIntS.mono _ _ _
   | exact laws_heldIntS.mono _ _ _
   | exact laws_markCredS.mono _ _ _
   | exact laws_markIntS.mono _ _ _
   | exact laws_toCredS.mono _ _
   | exact spec_MembersOf.mono _ _ _ _
   | exact LeO.none _
   | refine LeO.ite ?_ ?_
   | refine LeO.bind ?_ (fun _ => ?_)
set_option maxHeartbeats 8000000 in
set_option maxRecDepth 100000 in
theorem laws_FnExactMembersOf.calls (k : Nat) (A0 : Option Addr) (c0 : Nat) (l0 : List (S85)) (a1_0 : Int) (a1_1 : Int) (r : Bool) (w : World) (hr0 : Kd.C k85 w A0 l0.length l0) (hc0 : l0.length ≤ c0) (h : laws_FnExactMembersOf.f k l0 a1_0 a1_1 = some r) (hrt : r = true) :
  Calls Try.prog 6 #[.slice A0 l0.length c0, .agg #[.int .i64 a1_0, .int .i64 a1_1]] w fun e w' => e = .returned (.bool r) ∧ Below w.heap.size w w' := by
 have HRT := Aside0.mk hrt
 clear hrt
 have hu43 := Try.underlying43
 have HR0 := Aside0.mk hr0
 have HC0 := Aside0.mk hc0
 clear hr0 hc0
 have HB := Aside0.mk (Below.refl w.heap.size w)
 have H : ((laws_szCredS.f l0 1048576).bind fun t312 => (if t312 < 0 then (some true) else ((laws_toCredS.f k l0).bind fun t313 => ((laws_toRole.f a1_0 a1_1).bind fun bt316 => ((spec_MembersOf.f k t313 bt316.1 bt316.2).bind fun t318 => ((laws_toCredS.f k l0).bind fun t321 => ((laws_toRole.f a1_0 a1_1).bind fun bt324 => ((impl_MembersOf.f k t321 bt324.1 bt324.2).bind fun t326 => ((laws_eqIntS.f k t326 t318).bind fun t329 => (if t329 = true then ((laws_toCredS.f k l0).bind fun t330 => ((laws_eqCredS.f k t321 t330).bind fun t333 => (if t333 = true then ((laws_markCredS.f k t321 1).bind fun bt334 => (if bt334.1 < 0 then (laws_FnExactMembersOf.j0 k l0 t318 t326 true a1_0 a1_1) else ((laws_eqIntS.f k t326 t318).bind fun t336 => (laws_FnExactMembersOf.j0 k l0 t318 t326 (!t336) a1_0 a1_1)))) else (some false)))) else (some false))))))))))) = some r := h
 clear h
 replace H := Option.bind_eq_some_iff.mp H
 obtain ⟨t312, A30, H⟩ := H
 replace H : (if t312 < 0 then (some true) else ((laws_toCredS.f k l0).bind fun t313 => ((laws_toRole.f a1_0 a1_1).bind fun bt316 => ((spec_MembersOf.f k t313 bt316.1 bt316.2).bind fun t318 => ((laws_toCredS.f k l0).bind fun t321 => ((laws_toRole.f a1_0 a1_1).bind fun bt324 => ((impl_MembersOf.f k t321 bt324.1 bt324.2).bind fun t326 => ((laws_eqIntS.f k t326 t318).bind fun t329 => (if t329 = true then ((laws_toCredS.f k l0).bind fun t330 => ((laws_eqCredS.f k t321 t330).bind fun t333 => (if t333 = true then ((laws_markCredS.f k t321 1).bind fun bt334 => (if bt334.1 < 0 then (laws_FnExactMembersOf.j0 k l0 t318 t326 true a1_0 a1_1) else ((laws_eqIntS.f k t326 t318).bind fun t336 => (laws_FnExactMembersOf.j0 k l0 t318 t326 (!t336) a1_0 a1_1)))) else (some false)))) else (some false)))))))))) = some r := H
 have A3 := Aside0.mk A30
 clear A30
 by_cases c4 : t312 < 0
 ·rw [if_pos c4] at H
  have c4b0 : decide (t312 < 0) = true := decide_eq_true c4
  clear c4
  obtain rfl := Option.some.inj H
  go_enter Try.func6, Try.ntmps6
  go_wp2_with (first | ((with_reducible refine gate_dst (N := 3) rfl ?_); refine sqX (N := 3) (cs := #[.int .i64 a1_0, .int .i64 a1_1]) (t := 43) ?_; intro gb311 hg w5 hbox hb; have BK311 := Aside0.mk (hbox); have GW311 := sqG hg; have GE311 := sqG hg; replace HB := sqS hb; clear hb hbox hg) | ((with_reducible refine gate_callee (f := 19) rfl ?_); refine goesL_ (some 15) rfl rfl Try.func19 (by kernel_rfl) rfl #[.slice A0 l0.length c0, .int .i64 1048576] rfl sqA ?_; (with_reducible refine (laws_szCredS.calls _ _ l0 1048576 t312 _ ?side1 ?side2 A3.out).mono ?_); (case side1 => repeat (first | exact (Kd.C_below HR0.out HB.out) | (with_reducible refine Kd.C_alloc ?_ _) | (with_reducible refine Kd.C_drewN ?_ _) | (with_reducible refine Kd.C_drew ?_))); (case side2 => exact HC0.out); rintro e w' ⟨rfl, ⟨nd, rfl⟩⟩; refine ⟨_, rfl, ?_⟩))
  go_ret
  exact ⟨sqE, sqB⟩
 ·rw [if_neg c4] at H
  have c4b0 : decide (t312 < 0) = false := decide_eq_false c4
  clear c4
  replace H := Option.bind_eq_some_iff.mp H
  obtain ⟨t313, A60, H⟩ := H
  replace H : ((laws_toRole.f a1_0 a1_1).bind fun bt316 => ((spec_MembersOf.f k t313 bt316.1 bt316.2).bind fun t318 => ((laws_toCredS.f k l0).bind fun t321 => ((laws_toRole.f a1_0 a1_1).bind fun bt324 => ((impl_MembersOf.f k t321 bt324.1 bt324.2).bind fun t326 => ((laws_eqIntS.f k t326 t318).bind fun t329 => (if t329 = true then ((laws_toCredS.f k l0).bind fun t330 => ((laws_eqCredS.f k t321 t330).bind fun t333 => (if t333 = true then ((laws_markCredS.f k t321 1).bind fun bt334 => (if bt334.1 < 0 then (laws_FnExactMembersOf.j0 k l0 t318 t326 true a1_0 a1_1) else ((laws_eqIntS.f k t326 t318).bind fun t336 => (laws_FnExactMembersOf.j0 k l0 t318 t326 (!t336) a1_0 a1_1)))) else (some false)))) else (some false)))))))) = some r := H
  have A6 := Aside0.mk A60
  clear A60
  replace H := Option.bind_eq_some_iff.mp H
  obtain ⟨⟨t316, t317⟩, A70, H⟩ := H
  replace H : ((spec_MembersOf.f k t313 t316 t317).bind fun t318 => ((laws_toCredS.f k l0).bind fun t321 => ((laws_toRole.f a1_0 a1_1).bind fun bt324 => ((impl_MembersOf.f k t321 bt324.1 bt324.2).bind fun t326 => ((laws_eqIntS.f k t326 t318).bind fun t329 => (if t329 = true then ((laws_toCredS.f k l0).bind fun t330 => ((laws_eqCredS.f k t321 t330).bind fun t333 => (if t333 = true then ((laws_markCredS.f k t321 1).bind fun bt334 => (if bt334.1 < 0 then (laws_FnExactMembersOf.j0 k l0 t318 t326 true a1_0 a1_1) else ((laws_eqIntS.f k t326 t318).bind fun t336 => (laws_FnExactMembersOf.j0 k l0 t318 t326 (!t336) a1_0 a1_1)))) else (some false)))) else (some false))))))) = some r := H
  have A7 := Aside0.mk A70
  clear A70
  replace H := Option.bind_eq_some_iff.mp H
  obtain ⟨t318, A80, H⟩ := H
  replace H : ((laws_toCredS.f k l0).bind fun t321 => ((laws_toRole.f a1_0 a1_1).bind fun bt324 => ((impl_MembersOf.f k t321 bt324.1 bt324.2).bind fun t326 => ((laws_eqIntS.f k t326 t318).bind fun t329 => (if t329 = true then ((laws_toCredS.f k l0).bind fun t330 => ((laws_eqCredS.f k t321 t330).bind fun t333 => (if t333 = true then ((laws_markCredS.f k t321 1).bind fun bt334 => (if bt334.1 < 0 then (laws_FnExactMembersOf.j0 k l0 t318 t326 true a1_0 a1_1) else ((laws_eqIntS.f k t326 t318).bind fun t336 => (laws_FnExactMembersOf.j0 k l0 t318 t326 (!t336) a1_0 a1_1)))) else (some false)))) else (some false)))))) = some r := H
  have A8 := Aside0.mk A80
  clear A80
  replace H := Option.bind_eq_some_iff.mp H
  obtain ⟨t321, A90, H⟩ := H
  replace H : ((laws_toRole.f a1_0 a1_1).bind fun bt324 => ((impl_MembersOf.f k t321 bt324.1 bt324.2).bind fun t326 => ((laws_eqIntS.f k t326 t318).bind fun t329 => (if t329 = true then ((laws_toCredS.f k l0).bind fun t330 => ((laws_eqCredS.f k t321 t330).bind fun t333 => (if t333 = true then ((laws_markCredS.f k t321 1).bind fun bt334 => (if bt334.1 < 0 then (laws_FnExactMembersOf.j0 k l0 t318 t326 true a1_0 a1_1) else ((laws_eqIntS.f k t326 t318).bind fun t336 => (laws_FnExactMembersOf.j0 k l0 t318 t326 (!t336) a1_0 a1_1)))) else (some false)))) else (some false))))) = some r := H
  have A9 := Aside0.mk A90
  clear A90
  replace H := Option.bind_eq_some_iff.mp H
  obtain ⟨⟨t324, t325⟩, A100, H⟩ := H
  replace H : ((impl_MembersOf.f k t321 t324 t325).bind fun t326 => ((laws_eqIntS.f k t326 t318).bind fun t329 => (if t329 = true then ((laws_toCredS.f k l0).bind fun t330 => ((laws_eqCredS.f k t321 t330).bind fun t333 => (if t333 = true then ((laws_markCredS.f k t321 1).bind fun bt334 => (if bt334.1 < 0 then (laws_FnExactMembersOf.j0 k l0 t318 t326 true a1_0 a1_1) else ((laws_eqIntS.f k t326 t318).bind fun t336 => (laws_FnExactMembersOf.j0 k l0 t318 t326 (!t336) a1_0 a1_1)))) else (some false)))) else (some false)))) = some r := H
  have A10 := Aside0.mk A100
  clear A100
  replace H := Option.bind_eq_some_iff.mp H
  obtain ⟨t326, A110, H⟩ := H
  replace H : ((laws_eqIntS.f k t326 t318).bind fun t329 => (if t329 = true then ((laws_toCredS.f k l0).bind fun t330 => ((laws_eqCredS.f k t321 t330).bind fun t333 => (if t333 = true then ((laws_markCredS.f k t321 1).bind fun bt334 => (if bt334.1 < 0 then (laws_FnExactMembersOf.j0 k l0 t318 t326 true a1_0 a1_1) else ((laws_eqIntS.f k t326 t318).bind fun t336 => (laws_FnExactMembersOf.j0 k l0 t318 t326 (!t336) a1_0 a1_1)))) else (some false)))) else (some false))) = some r := H
  have A11 := Aside0.mk A110
  clear A110
  replace H := Option.bind_eq_some_iff.mp H
  obtain ⟨t329, A120, H⟩ := H
  replace H : (if t329 = true then ((laws_toCredS.f k l0).bind fun t330 => ((laws_eqCredS.f k t321 t330).bind fun t333 => (if t333 = true then ((laws_markCredS.f k t321 1).bind fun bt334 => (if bt334.1 < 0 then (laws_FnExactMembersOf.j0 k l0 t318 t326 true a1_0 a1_1) else ((laws_eqIntS.f k t326 t318).bind fun t336 => (laws_FnExactMembersOf.j0 k l0 t318 t326 (!t336) a1_0 a1_1)))) else (some false)))) else (some false)) = some r := H
  have A12 := Aside0.mk A120
  clear A120
  by_cases c13 : t329 = true
  ·subst c13
   have H1 : ((laws_toCredS.f k l0).bind fun t330 => ((laws_eqCredS.f k t321 t330).bind fun t333 => (if t333 = true then ((laws_markCredS.f k t321 1).bind fun bt334 => (if bt334.1 < 0 then (laws_FnExactMembersOf.j0 k l0 t318 t326 true a1_0 a1_1) else ((laws_eqIntS.f k t326 t318).bind fun t336 => (laws_FnExactMembersOf.j0 k l0 t318 t326 (!t336) a1_0 a1_1)))) else (some false)))) = some r := by rw [if_pos rfl] at H; exact H
   clear H
   have H := H1
   clear H1
   replace H := Option.bind_eq_some_iff.mp H
   obtain ⟨t330, A140, H⟩ := H
   replace H : ((laws_eqCredS.f k t321 t330).bind fun t333 => (if t333 = true then ((laws_markCredS.f k t321 1).bind fun bt334 => (if bt334.1 < 0 then (laws_FnExactMembersOf.j0 k l0 t318 t326 true a1_0 a1_1) else ((laws_eqIntS.f k t326 t318).bind fun t336 => (laws_FnExactMembersOf.j0 k l0 t318 t326 (!t336) a1_0 a1_1)))) else (some false))) = some r := H
   have A14 := Aside0.mk A140
   clear A140
   replace H := Option.bind_eq_some_iff.mp H
   obtain ⟨t333, A150, H⟩ := H
   replace H : (if t333 = true then ((laws_markCredS.f k t321 1).bind fun bt334 => (if bt334.1 < 0 then (laws_FnExactMembersOf.j0 k l0 t318 t326 true a1_0 a1_1) else ((laws_eqIntS.f k t326 t318).bind fun t336 => (laws_FnExactMembersOf.j0 k l0 t318 t326 (!t336) a1_0 a1_1)))) else (some false)) = some r := H
   have A15 := Aside0.mk A150
   clear A150
   by_cases c16 : t333 = true
   ·subst c16
    have H1 : ((laws_markCredS.f k t321 1).bind fun bt334 => (if bt334.1 < 0 then (laws_FnExactMembersOf.j0 k l0 t318 t326 true a1_0 a1_1) else ((laws_eqIntS.f k t326 t318).bind fun t336 => (laws_FnExactMembersOf.j0 k l0 t318 t326 (!t336) a1_0 a1_1)))) = some r := by rw [if_pos rfl] at H; exact H
    clear H
    have H := H1
    clear H1
    replace H := Option.bind_eq_some_iff.mp H
    obtain ⟨⟨t334, t335⟩, A170, H⟩ := H
    replace H : (if t334 < 0 then (laws_FnExactMembersOf.j0 k l0 t318 t326 true a1_0 a1_1) else ((laws_eqIntS.f k t326 t318).bind fun t336 => (laws_FnExactMembersOf.j0 k l0 t318 t326 (!t336) a1_0 a1_1))) = some r := H
    have A17 := Aside0.mk A170
    clear A170
    have HC18 := Aside0.mk H
    clear H
    go_enter Try.func6, Try.ntmps6
    try go_wp2_with (first | ((with_reducible refine gate_dst (N := 3) rfl ?_); refine sqX (N := 3) (cs := #[.int .i64 a1_0, .int .i64 a1_1]) (t := 43) ?_; intro gb311 hg w19 hbox hb; have BK311 := Aside0.mk (hbox); have GW311 := sqG hg; have GE311 := sqG hg; replace HB := sqS hb; clear hb hbox hg) | ((with_reducible refine gate_callee (f := 19) rfl ?_); refine goesL_ (some 15) rfl rfl Try.func19 (by kernel_rfl) rfl #[.slice A0 l0.length c0, .int .i64 1048576] rfl sqA ?_; (with_reducible refine (laws_szCredS.calls _ _ l0 1048576 t312 _ ?side1 ?side2 A3.out).mono ?_); (case side1 => repeat (first | exact (Kd.C_below HR0.out HB.out) | (with_reducible refine Kd.C_alloc ?_ _) | (with_reducible refine Kd.C_drewN ?_ _) | (with_reducible refine Kd.C_drew ?_))); (case side2 => exact HC0.out); rintro e w' ⟨rfl, ⟨nd, rfl⟩⟩; refine ⟨_, rfl, ?_⟩))
    (try (rw [drewN_self w19]; generalize hq_ : World.drewN w19 _ = w19; have n0_ : Aside0 (w19.heap[gb311]? = some (.cells #[.int .i64 a1_0, .int .i64 a1_1] 43 (0, 0))) := ⟨by rw [← hq_]; exact (sqK BK311)⟩; have n1_ : Aside0 (Below w.heap.size w w19) := ⟨by rw [← hq_]; exact (sqB)⟩; clear BK311 HB hq_; have BK311 := n0_; have HB := n1_; clear n0_ n1_))
    have n0_ := Aside0.mk (blk_drew BK311.out)
    have n1_ := Aside0.mk (below_drew1 HB.out)
    clear BK311
    clear HB
    have BK311 := n0_
    have HB := n1_
    clear n0_ n1_
    refine start_ (n := 6) (S := fun w' => w'.cell? ⟨gb311, 0, none⟩ = some (.int .i64 a1_0) ∧ w'.cell? ⟨gb311, 1, none⟩ = some (.int .i64 a1_1)) (ds := []) #[false, false, false, false, false, false] (by kernel_rfl) rfl rfl ⟨(blk_cell BK311.out 0).trans rfl, (blk_cell BK311.out 1).trans rfl⟩ (fun hHeld => ?_)
    generalize w19.drew = w20 at BK311 HB hHeld ⊢
    refine sqP (i := 0) (N := some 18) #[true, false, false, false, false, false] rfl rfl (by kernel_rfl) ?_
    refine take_ (i := 2) (N := some 20) (v := ?_) (a' := ?_) #[true, false, true, false, false, false] rfl rfl (by kernel_rfl) (fun _ _ _ h => h) (Or.inl ⟨by rfl, ?_⟩) hHeld ?_ ?_
    rotate_left
    ·rintro w' ⟨s0, s1⟩
     go_simp
     with_reducible rfl
    rotate_left
    ·simp only [Act.put, List.setIfInBounds_toArray, List.set_cons_zero, List.set_cons_succ, i64_w, i32_w]
     rfl
    refine one_ (i := 1) (N := some 19) #[true, true, true, false, false, false] rfl rfl (by kernel_rfl) (by decide) (fun K hK => ?_)
    refine goes_ Try.func21 (by kernel_rfl) rfl #[.slice A0 l0.length c0] (by rfl) rfl rfl sqA ?_
    with_reducible refine (laws_toCredS.calls k _ _ l0 t313 _ ?side1 ?side2 A6.out).mono ?_
    (case side1 => repeat (first | exact (Kd.C_below HR0.out HB.out) | (with_reducible refine Kd.C_alloc ?_ _) | (with_reducible refine Kd.C_drewN ?_ _) | (with_reducible refine Kd.C_drew ?_)))
    (case side2 => exact HC0.out)
    rintro e w21 ⟨v314, rfl, ho0, hb⟩
    refine ⟨_, rfl, ?_⟩
    have n0_ := Aside0.mk (Kd.R_lower ho0 (below_size (sqB)))
    have n1_ := sqL BK311 hb
    have n2_ := sqS hb
    clear BK311
    clear HB
    have HO315 := n0_
    have BK311 := n1_
    have HB := n2_
    clear n0_ n1_ n2_
    (try clear hb)
    (try clear hb2)
    (try clear hk)
    (try clear hi)
    (try clear ho0)
    refine hK.out _ _ ⟨(blk_cell BK311.out 0).trans rfl, (blk_cell BK311.out 1).trans rfl⟩ (fun hHeld => ?_)
    clear hK K
    refine sqV (N := some 19) ?_
    refine one_ (i := 3) (N := some 21) #[true, true, true, true, false, false] rfl rfl (by kernel_rfl) (by decide) (fun K hK => ?_)
    refine goes_ Try.func22 (by kernel_rfl) rfl #[.agg #[.int .i64 a1_0, .int .i64 a1_1]] (by rfl) rfl rfl sqA ?_
    with_reducible refine (laws_toRole.calls a1_0 a1_1 t316 t317 _ A7.out).mono ?_
    rintro e w22 ⟨rfl, hb⟩
    refine ⟨_, rfl, ?_⟩
    have n0_ := Aside0.mk (Kd.R_below (sqR HO315) hb)
    have n1_ := sqL BK311 hb
    have n2_ := sqS hb
    clear HO315
    clear BK311
    clear HB
    have HO315 := n0_
    have BK311 := n1_
    have HB := n2_
    clear n0_ n1_ n2_
    (try clear hb)
    (try clear hb2)
    (try clear hk)
    (try clear hi)
    obtain ⟨Ao23, co23, eo23⟩ := Kd.R_slice HO315.out
    (first | subst eo23 | (injection eo23 with f1_ f2_ f3_; have f4_ := f1_.symm; have f5_ := f3_.symm; clear f1_ f2_ f3_; subst f4_; subst f5_))
    refine hK.out _ _ ⟨(blk_cell BK311.out 0).trans rfl, (blk_cell BK311.out 1).trans rfl⟩ (fun hHeld => ?_)
    clear hK K
    refine sqV (N := some 21) ?_
    refine one_ (i := 4) (N := some 22) #[true, true, true, true, true, false] rfl rfl (by kernel_rfl) (by decide) (fun K hK => ?_)
    refine goes_ Try.func28 (by kernel_rfl) rfl #[.slice Ao23 t313.length co23, .agg #[.int .i64 t316, .int .i64 t317]] (by rfl) rfl rfl sqA ?_
    with_reducible refine (spec_MembersOf.calls k _ _ t313 t316 t317 t318 _ ?side1 ?side2 A8.out).mono ?_
    (case side1 => repeat (first | exact (Kd.R_reads' HO315.out).2.2 | (with_reducible refine Kd.C_alloc ?_ _) | (with_reducible refine Kd.C_drewN ?_ _) | (with_reducible refine Kd.C_drew ?_)))
    (case side2 => exact (Kd.R_reads' HO315.out).2.1)
    rintro e w24 ⟨v319, rfl, ho0, hb⟩
    refine ⟨_, rfl, ?_⟩
    have n0_ := Aside0.mk (Kd.R_below (sqR HO315) hb)
    have n1_ := Aside0.mk (Kd.R_lower ho0 (below_size (sqB)))
    have n2_ := sqL BK311 hb
    have n3_ := sqS hb
    clear HO315
    clear BK311
    clear HB
    have HO315 := n0_
    have HO320 := n1_
    have BK311 := n2_
    have HB := n3_
    clear n0_ n1_ n2_ n3_
    (try clear hb)
    (try clear hb2)
    (try clear hk)
    (try clear hi)
    (try clear ho0)
    refine hK.out _ _ ⟨(blk_cell BK311.out 0).trans rfl, (blk_cell BK311.out 1).trans rfl⟩ (fun hHeld => ?_)
    clear hK K
    refine sqV (N := some 22) ?_
    refine sqP (i := 5) (N := some 6) #[true, true, true, true, true, true] rfl rfl (by kernel_rfl) ?_
    refine done_ (by kernel_rfl) ?_
    go_upto_region 14 with (first | ((with_reducible refine gate_callee (f := 21) rfl ?_); refine goesL_ (some 24) rfl rfl Try.func21 (by kernel_rfl) rfl #[.slice A0 l0.length c0] rfl sqA ?_; (with_reducible refine (laws_toCredS.calls k _ _ l0 t321 _ ?side1 ?side2 A9.out).mono ?_); (case side1 => repeat (first | exact (Kd.C_below HR0.out HB.out) | (with_reducible refine Kd.C_alloc ?_ _) | (with_reducible refine Kd.C_drewN ?_ _) | (with_reducible refine Kd.C_drew ?_))); (case side2 => exact HC0.out); rintro e w25 ⟨v322, rfl, ho0, hb⟩; refine ⟨_, rfl, ?_⟩; have n0_ := Aside0.mk (Kd.R_elder' (sqR HO315) (Kd.R_base ho0) hb); have n1_ := Aside0.mk (Kd.R_below (sqR HO320) hb); have n2_ := Aside0.mk (Kd.R_lower (Kd.R_new' ho0 (Kd.R_lt (sqR HO315))) (below_size (sqB))); have n3_ := sqL BK311 hb; have n4_ := sqS hb; clear HO315; clear HO320; clear BK311; clear HB; have HO315 := n0_; have HO320 := n1_; have HO323 := n2_; have BK311 := n3_; have HB := n4_; clear n0_ n1_ n2_ n3_ n4_; (try clear hb); (try clear hb2); (try clear hk); (try clear hi); (try clear ho0); obtain ⟨hcz26_0, hcz26_1, hfz26_0, hfz26_1⟩ := sqC2 BK311) | ((with_reducible refine gate_callee (f := 22) rfl ?_); refine goesL_ (some 27) rfl rfl Try.func22 (by kernel_rfl) rfl #[.agg #[.int .i64 a1_0, .int .i64 a1_1]] rfl sqA ?_; (with_reducible refine (laws_toRole.calls a1_0 a1_1 t324 t325 _ A10.out).mono ?_); rintro e w27 ⟨rfl, hb⟩; refine ⟨_, rfl, ?_⟩; replace HO315 := Aside0.mk (Kd.R_below (sqR HO315) hb); replace HO320 := Aside0.mk (Kd.R_below (sqR HO320) hb); replace HO323 := Aside0.mk (Kd.R_below (sqR HO323) hb); replace BK311 := sqL BK311 hb; replace HB := sqS hb; (try clear hb); (try clear hb2); (try clear hk); (try clear hi); obtain ⟨Ao28, co28, eo28⟩ := Kd.R_slice HO323.out; subst eo28) | ((with_reducible refine gate_callee (f := 18) rfl ?_); refine goesL_ (some 28) rfl rfl Try.func18 (by kernel_rfl) rfl #[.slice Ao28 t321.length co28, .agg #[.int .i64 t324, .int .i64 t325]] rfl sqA ?_; (with_reducible refine (impl_MembersOf.calls k _ _ t321 t324 t325 t326 _ ?side1 ?side2 A11.out).mono ?_); (case side1 => repeat (first | exact (Kd.R_reads' HO323.out).2.2 | (with_reducible refine Kd.C_alloc ?_ _) | (with_reducible refine Kd.C_drewN ?_ _) | (with_reducible refine Kd.C_drew ?_))); (case side2 => exact (Kd.R_reads' HO323.out).2.1); rintro e w29 ⟨v327, rfl, ho0, hb⟩; refine ⟨_, rfl, ?_⟩; have n0_ := Aside0.mk (Kd.R_below (sqR HO315) hb); have n1_ := Aside0.mk (Kd.R_elder' (sqR HO320) (Kd.R_base ho0) hb); have n2_ := Aside0.mk (Kd.R_below (sqR HO323) hb); have n3_ := Aside0.mk (Kd.R_lower (Kd.R_new' ho0 (Kd.R_lt (sqR HO320))) (below_size (sqB))); have n4_ := sqL BK311 hb; have n5_ := sqS hb; clear HO315; clear HO320; clear HO323; clear BK311; clear HB; have HO315 := n0_; have HO320 := n1_; have HO323 := n2_; have HO328 := n3_; have BK311 := n4_; have HB := n5_; clear n0_ n1_ n2_ n3_ n4_ n5_; (try clear hb); (try clear hb2); (try clear hk); (try clear hi); (try clear ho0); obtain ⟨Ao30, co30, eo30⟩ := Kd.R_slice HO328.out; subst eo30; obtain ⟨Ao31, co31, eo31⟩ := Kd.R_slice HO320.out; subst eo31) | ((with_reducible refine gate_callee (f := 29) rfl ?_); refine goesL_ (some 31) rfl rfl Try.func29 (by kernel_rfl) rfl #[.slice Ao30 t326.length co30, .slice Ao31 t318.length co31] rfl sqA ?_; (with_reducible refine (laws_eqIntS.calls k _ _ t326 _ _ t318 true _ ?side1 ?side2 ?side3 ?side4 A12.out).mono ?_); (case side1 => repeat (first | exact (Kd.R_reads' HO328.out).2.2 | (with_reducible refine Kd.C_alloc ?_ _) | (with_reducible refine Kd.C_drewN ?_ _) | (with_reducible refine Kd.C_drew ?_))); (case side2 => exact (Kd.R_reads' HO328.out).2.1); (case side3 => repeat (first | exact (Kd.R_reads' HO320.out).2.2 | (with_reducible refine Kd.C_alloc ?_ _) | (with_reducible refine Kd.C_drewN ?_ _) | (with_reducible refine Kd.C_drew ?_))); (case side4 => exact (Kd.R_reads' HO320.out).2.1); rintro e w' ⟨rfl, ⟨nd, rfl⟩⟩; refine ⟨_, rfl, ?_⟩) | ((with_reducible refine gate_callee (f := 21) rfl ?_); refine goesL_ (some 35) rfl rfl Try.func21 (by kernel_rfl) rfl #[.slice A0 l0.length c0] rfl sqA ?_; (with_reducible refine (laws_toCredS.calls k _ _ l0 t330 _ ?side1 ?side2 A14.out).mono ?_); (case side1 => repeat (first | exact (Kd.C_below HR0.out (sqB)) | (with_reducible refine Kd.C_alloc ?_ _) | (with_reducible refine Kd.C_drewN ?_ _) | (with_reducible refine Kd.C_drew ?_))); (case side2 => exact HC0.out); rintro e w32 ⟨v331, rfl, ho0, hb⟩; refine ⟨_, rfl, ?_⟩; have n0_ := Aside0.mk (Kd.R_elder' (sqR HO315) (Kd.R_base ho0) hb); have n1_ := Aside0.mk (Kd.R_below (sqR HO320) hb); have n2_ := Aside0.mk (Kd.R_elder' (sqR HO323) (Kd.R_base ho0) hb); have n3_ := Aside0.mk (Kd.R_below (sqR HO328) hb); have n4_ := Aside0.mk (Kd.R_lower (Kd.R_new' (Kd.R_new' ho0 (Kd.R_lt (sqR HO315))) (Kd.R_lt (sqR HO323))) (below_size (sqB))); have n5_ := sqL BK311 hb; have n6_ := sqS hb; clear HO315; clear HO320; clear HO323; clear HO328; clear BK311; clear HB; have HO315 := n0_; have HO320 := n1_; have HO323 := n2_; have HO328 := n3_; have HO332 := n4_; have BK311 := n5_; have HB := n6_; clear n0_ n1_ n2_ n3_ n4_ n5_ n6_; (try clear hb); (try clear hb2); (try clear hk); (try clear hi); (try clear ho0); obtain ⟨Ao33, co33, eo33⟩ := Kd.R_slice HO332.out; subst eo33) | ((with_reducible refine gate_callee (f := 23) rfl ?_); refine goesL_ (some 36) rfl rfl Try.func23 (by kernel_rfl) rfl #[.slice Ao28 t321.length co28, .slice Ao33 t330.length co33] rfl sqA ?_; (with_reducible refine (laws_eqCredS.calls k _ _ t321 _ _ t330 true _ ?side1 ?side2 ?side3 ?side4 A15.out rfl).mono ?_); (case side1 => repeat (first | exact (Kd.R_reads' HO323.out).2.2 | (with_reducible refine Kd.C_alloc ?_ _) | (with_reducible refine Kd.C_drewN ?_ _) | (with_reducible refine Kd.C_drew ?_))); (case side2 => exact (Kd.R_reads' HO323.out).2.1); (case side3 => repeat (first | exact (Kd.R_reads' HO332.out).2.2 | (with_reducible refine Kd.C_alloc ?_ _) | (with_reducible refine Kd.C_drewN ?_ _) | (with_reducible refine Kd.C_drew ?_))); (case side4 => exact (Kd.R_reads' HO332.out).2.1); rintro e w34 ⟨rfl, hb⟩; refine ⟨_, rfl, ?_⟩; replace HO315 := Aside0.mk (Kd.R_below (sqR HO315) hb); replace HO320 := Aside0.mk (Kd.R_below (sqR HO320) hb); replace HO323 := Aside0.mk (Kd.R_below (sqR HO323) hb); replace HO328 := Aside0.mk (Kd.R_below (sqR HO328) hb); replace HO332 := Aside0.mk (Kd.R_below (sqR HO332) hb); replace BK311 := sqL BK311 hb; replace HB := sqS hb; (try clear hb); (try clear hb2); (try clear hk); (try clear hi)) | ((with_reducible refine gate_callee (f := 25) rfl ?_); refine goesL_ (some 40) rfl rfl Try.func25 (by kernel_rfl) rfl #[.slice Ao28 t321.length co28, .int .i64 1] rfl sqA ?_; (with_reducible refine (laws_markCredS.calls k (fun k_ => some k_ = (.slice Ao28 t321.length co28 : Value).ownBlock) (.slice Ao28 t321.length co28) t321 1 t334 t335 w _ ?side1 ?side2 A17.out).mono ?_); (case side1 => repeat (first | (with_reducible first | exact HB.out | apply below_alloc | apply pw_below_drewN | apply below_drew1 | refine below_set ?_ GE311.out) | exact HB.out)); (case side2 => exact Kd.R_tight rfl HO323.out); rintro e w35 ⟨rfl, hy0, hb, hkp⟩; refine ⟨_, rfl, ?_⟩; have n0_ := Aside0.mk (blk_kept (sqK BK311) hkp (fun hs_ => (fun e_ => (Kd.R_ne HO323.out BK311.out (by decide)) e_) hs_)); have n1_ := Aside0.mk (Kd.R_mono (ok' := fun k_ => some k_ ≠ (.slice Ao28 t321.length co28 : Value).ownBlock ∧ some k_ ≠ (.slice Ao33 t330.length co33 : Value).ownBlock) (Kd.R_keptB (HO315.out) hkp (fun k_ hk_ hs_ => (hk_.1.2) hs_)) (fun k_ hk_ => ⟨hk_.1.1.2, hk_.1.2⟩)); have n2_ := Aside0.mk (Kd.R_mono (ok' := fun k_ => some k_ ≠ (.slice Ao30 t326.length co30 : Value).ownBlock) (Kd.R_keptB ((Kd.R_apart' HO320.out (Kd.R_typed HO323.out) (by decide))) hkp (fun k_ hk_ hs_ => (hk_.2) hs_)) (fun k_ hk_ => hk_.1.1.2)); have n3_ := Aside0.mk (Kd.R_reok rfl hy0 (fun k_ e_ => HO323.out.1 k_ e_)); have n4_ := Aside0.mk (Kd.R_mono (ok' := fun k_ => some k_ ≠ (.slice Ao31 t318.length co31 : Value).ownBlock) (Kd.R_keptB ((Kd.R_apart' HO328.out (Kd.R_typed HO323.out) (by decide))) hkp (fun k_ hk_ hs_ => (hk_.2) hs_)) (fun k_ hk_ => hk_.1.1.2)); have n5_ := Aside0.mk (Kd.R_mono (ok' := fun k_ => some k_ ≠ (.slice Ao23 t313.length co23 : Value).ownBlock ∧ some k_ ≠ (.slice Ao28 t321.length co28 : Value).ownBlock) (Kd.R_keptB (HO332.out) hkp (fun k_ hk_ hs_ => (hk_.2) hs_)) (fun k_ hk_ => ⟨hk_.1.1.2, hk_.1.2⟩)); have n6_ := Aside0.mk (hb); clear BK311; clear HO315; clear HO320; clear HO323; clear HO328; clear HO332; clear HB; have BK311 := n0_; have HO315 := n1_; have HO320 := n2_; have HO323 := n3_; have HO328 := n4_; have HO332 := n5_; have HB := n6_; clear n0_ n1_ n2_ n3_ n4_ n5_ n6_; (try clear hb); (try clear hkp); (try clear hy0)))
    (try simp only [Act.put, List.setIfInBounds_toArray, List.set_cons_zero, List.set_cons_succ])
    go_cut [48] (fun v48 wc => ∃ (kq : Nat) (x48_17 : Bool), v48 = .bool x48_17 ∧ Aside0 (laws_FnExactMembersOf.j0 kq l0 t318 t326 x48_17 a1_0 a1_1 = some r) ∧ Aside0 (kq ≤ k) ∧ Aside0 (Kd.R (Kd.int .i64) 3 wc w.heap.size (fun k_ => some k_ ≠ ((.slice Ao30 t326.length co30) : Value).ownBlock) (.slice Ao31 t318.length co31) t318) ∧ Aside0 (Kd.R (Kd.int .i64) 3 wc w.heap.size (fun k_ => some k_ ≠ ((.slice Ao31 t318.length co31) : Value).ownBlock) (.slice Ao30 t326.length co30) t326) ∧ Aside0 (wc.heap[gb311]? = some (.cells #[.int .i64 a1_0, .int .i64 a1_1] 43 (0, 0))) ∧ Aside0 (Below w.heap.size w wc))
    case first =>
     have H := HC18.out
     clear HC18
     by_cases c36 : t334 < 0
     ·rw [if_pos c36] at H
      have c36b0 : decide (t334 < 0) = true := decide_eq_true c36
      clear c36
      (first | rw [c36b0] | (simp only [i64_w, i32_w]; rw [c36b0]) | skip)
      have H' := Aside0.mk H
      clear H
      go_wp2
      go_meet
      case rel => exact ⟨_, (true), (by first | rfl | (simp; done) | (simp [*]; done)), H', ⟨by first | omega | exact Nat.le_refl _⟩, ⟨sqR HO320⟩, ⟨sqR HO328⟩, ⟨sqK BK311⟩, ⟨sqB⟩⟩
     ·rw [if_neg c36] at H
      have c36b0 : decide (t334 < 0) = false := decide_eq_false c36
      clear c36
      (first | rw [c36b0] | (simp only [i64_w, i32_w]; rw [c36b0]) | skip)
      replace H := Option.bind_eq_some_iff.mp H
      obtain ⟨t336, A370, H⟩ := H
      replace H : (laws_FnExactMembersOf.j0 k l0 t318 t326 (!t336) a1_0 a1_1) = some r := H
      have A37 := Aside0.mk A370
      clear A370
      have H' := Aside0.mk H
      clear H
      go_wp2_with (first | (go_at_call 29; (with_reducible refine (laws_eqIntS.calls k _ _ t326 _ _ t318 t336 _ ?side1 ?side2 ?side3 ?side4 A37.out).mono ?_); (case side1 => repeat (first | exact (Kd.R_reads' HO328.out).2.2 | (with_reducible refine Kd.C_alloc ?_ _) | (with_reducible refine Kd.C_drewN ?_ _) | (with_reducible refine Kd.C_drew ?_))); (case side2 => exact (Kd.R_reads' HO328.out).2.1); (case side3 => repeat (first | exact (Kd.R_reads' HO320.out).2.2 | (with_reducible refine Kd.C_alloc ?_ _) | (with_reducible refine Kd.C_drewN ?_ _) | (with_reducible refine Kd.C_drew ?_))); (case side4 => exact (Kd.R_reads' HO320.out).2.1); rintro e w' ⟨rfl, ⟨nd, rfl⟩⟩))
      go_meet
      case rel => exact ⟨_, (!t336), (by first | rfl | (simp; done) | (simp [*]; done)), H', ⟨by first | omega | exact Nat.le_refl _⟩, ⟨sqR HO320⟩, ⟨sqR HO328⟩, ⟨sqK BK311⟩, ⟨sqB⟩⟩
    case rest =>
     clear HC18
     try clear c1
     try clear c2
     try clear p2
     try clear c3
     try clear c4
     try clear c4b0
     try clear c6
     try clear c13
     try clear c16
     try clear c18
     try clear c19
     try clear c21
     try clear c22
     try clear c23
     try clear c25
     try clear c28
     try clear c29
     try clear c36
     try clear c36b0
     try clear hcz26_0 hcz26_1 hfz26_0 hfz26_1
     obtain ⟨kq, x48_17, rfl, HA, HJ17, HO_6, HO_8, BK311, HB⟩ := hcut
     cases kq with
     | zero => exact absurd HA.out (by simp [laws_FnExactMembersOf.j0])
     | succ kj17 =>
      have H := HA.out
      clear HA
      simp only [laws_FnExactMembersOf.j0] at H
      by_cases c38 : x48_17 = true
      ·subst c38
       have H1 : (some false) = some r := by rw [if_pos rfl] at H; exact H
       exact absurd ((Option.some.inj H1).trans HRT.out) (by decide)
      ·replace c38 := Bool.eq_false_iff.mpr c38
       subst c38
       have H1 : ((laws_markIntS.f kj17 t326 1).bind fun bt337 => ((laws_heldIntS.f kj17 bt337.2 1).bind fun t339 => (if t339 < 0 then (some false) else (if t339 = bt337.1 then ((laws_toCredS.f kj17 l0).bind fun t340 => ((laws_toRole.f a1_0 a1_1).bind fun bt343 => ((impl_MembersOf.f kj17 t340 bt343.1 bt343.2).bind fun t345 => ((laws_eqIntS.f kj17 t345 t318).bind fun t348 => (if t348 = true then ((laws_heldIntS.f kj17 bt337.2 1).bind fun t349 => (if t349 < 0 then (some false) else (if t349 = bt337.1 then (some true) else (some false)))) else (some false)))))) else (some false))))) = some r := by rw [if_neg (show ¬ (false = true) by decide)] at H; exact H
       clear H
       have H := H1
       clear H1
       replace H := Option.bind_eq_some_iff.mp H
       obtain ⟨⟨t337, t338⟩, A390, H⟩ := H
       replace H : ((laws_heldIntS.f kj17 t338 1).bind fun t339 => (if t339 < 0 then (some false) else (if t339 = t337 then ((laws_toCredS.f kj17 l0).bind fun t340 => ((laws_toRole.f a1_0 a1_1).bind fun bt343 => ((impl_MembersOf.f kj17 t340 bt343.1 bt343.2).bind fun t345 => ((laws_eqIntS.f kj17 t345 t318).bind fun t348 => (if t348 = true then ((laws_heldIntS.f kj17 t338 1).bind fun t349 => (if t349 < 0 then (some false) else (if t349 = t337 then (some true) else (some false)))) else (some false)))))) else (some false)))) = some r := H
       have A39 := Aside0.mk A390
       clear A390
       replace H := Option.bind_eq_some_iff.mp H
       obtain ⟨t339, A400, H⟩ := H
       replace H : (if t339 < 0 then (some false) else (if t339 = t337 then ((laws_toCredS.f kj17 l0).bind fun t340 => ((laws_toRole.f a1_0 a1_1).bind fun bt343 => ((impl_MembersOf.f kj17 t340 bt343.1 bt343.2).bind fun t345 => ((laws_eqIntS.f kj17 t345 t318).bind fun t348 => (if t348 = true then ((laws_heldIntS.f kj17 t338 1).bind fun t349 => (if t349 < 0 then (some false) else (if t349 = t337 then (some true) else (some false)))) else (some false)))))) else (some false))) = some r := H
       have A40 := Aside0.mk A400
       clear A400
       by_cases c41 : t339 < 0
       ·rw [if_pos c41] at H
        exact absurd ((Option.some.inj H).trans HRT.out) (by decide)
       ·rw [if_neg c41] at H
        have c41b0 : decide (t339 < 0) = false := decide_eq_false c41
        clear c41
        by_cases c43 : t339 = t337
        ·rw [if_pos c43] at H
         have c43b0 : (t339 == t337) = true := beq_iff_eq.mpr c43
         have c43b1 : (t339 != t337) = false := bne_eq_false_iff_eq.mpr c43
         clear c43
         replace H := Option.bind_eq_some_iff.mp H
         obtain ⟨t340, A440, H⟩ := H
         replace H : ((laws_toRole.f a1_0 a1_1).bind fun bt343 => ((impl_MembersOf.f kj17 t340 bt343.1 bt343.2).bind fun t345 => ((laws_eqIntS.f kj17 t345 t318).bind fun t348 => (if t348 = true then ((laws_heldIntS.f kj17 t338 1).bind fun t349 => (if t349 < 0 then (some false) else (if t349 = t337 then (some true) else (some false)))) else (some false))))) = some r := H
         have A44 := Aside0.mk A440
         clear A440
         replace H := Option.bind_eq_some_iff.mp H
         obtain ⟨⟨t343, t344⟩, A450, H⟩ := H
         replace H : ((impl_MembersOf.f kj17 t340 t343 t344).bind fun t345 => ((laws_eqIntS.f kj17 t345 t318).bind fun t348 => (if t348 = true then ((laws_heldIntS.f kj17 t338 1).bind fun t349 => (if t349 < 0 then (some false) else (if t349 = t337 then (some true) else (some false)))) else (some false)))) = some r := H
         have A45 := Aside0.mk A450
         clear A450
         replace H := Option.bind_eq_some_iff.mp H
         obtain ⟨t345, A460, H⟩ := H
         replace H : ((laws_eqIntS.f kj17 t345 t318).bind fun t348 => (if t348 = true then ((laws_heldIntS.f kj17 t338 1).bind fun t349 => (if t349 < 0 then (some false) else (if t349 = t337 then (some true) else (some false)))) else (some false))) = some r := H
         have A46 := Aside0.mk A460
         clear A460
         replace H := Option.bind_eq_some_iff.mp H
         obtain ⟨t348, A470, H⟩ := H
         replace H : (if t348 = true then ((laws_heldIntS.f kj17 t338 1).bind fun t349 => (if t349 < 0 then (some false) else (if t349 = t337 then (some true) else (some false)))) else (some false)) = some r := H
         have A47 := Aside0.mk A470
         clear A470
         by_cases c48 : t348 = true
         ·subst c48
          have H1 : ((laws_heldIntS.f kj17 t338 1).bind fun t349 => (if t349 < 0 then (some false) else (if t349 = t337 then (some true) else (some false)))) = some r := by rw [if_pos rfl] at H; exact H
          clear H
          have H := H1
          clear H1
          replace H := Option.bind_eq_some_iff.mp H
          obtain ⟨t349, A490, H⟩ := H
          replace H : (if t349 < 0 then (some false) else (if t349 = t337 then (some true) else (some false))) = some r := H
          have A49 := Aside0.mk A490
          clear A490
          by_cases c50 : t349 < 0
          ·rw [if_pos c50] at H
           exact absurd ((Option.some.inj H).trans HRT.out) (by decide)
          ·rw [if_neg c50] at H
           have c50b0 : decide (t349 < 0) = false := decide_eq_false c50
           clear c50
           by_cases c58 : t349 = t337
           ·rw [if_pos c58] at H
            have c58b0 : (t349 == t337) = true := beq_iff_eq.mpr c58
            have c58b1 : (t349 != t337) = false := bne_eq_false_iff_eq.mpr c58
            clear c58
            obtain rfl := Option.some.inj H
            try go_wp2_with (first | ((with_reducible refine gate_callee (f := 30) rfl ?_); refine goesL_ (some 51) rfl rfl Try.func30 (by kernel_rfl) rfl #[.slice Ao30 t326.length co30, .int .i64 1] rfl sqA ?_; (with_reducible refine (laws_markIntS.calls kj17 (fun k_ => some k_ = (.slice Ao30 t326.length co30 : Value).ownBlock) (.slice Ao30 t326.length co30) t326 1 t337 t338 w _ ?side1 ?side2 A39.out).mono ?_); (case side1 => repeat (first | (with_reducible first | exact HB.out | apply below_alloc | apply pw_below_drewN | apply below_drew1 | refine below_set ?_ GE311.out) | exact HB.out)); (case side2 => exact Kd.R_tight rfl HO_8.out); rintro e w59 ⟨rfl, hy0, hb, hkp⟩; refine ⟨_, rfl, ?_⟩; have n0_ := Aside0.mk (Kd.R_mono (ok' := fun k_ => some k_ ≠ (.slice Ao30 t326.length co30 : Value).ownBlock) (Kd.R_keptB (HO_6.out) hkp (fun k_ hk_ hs_ => (hk_) hs_)) (fun k_ hk_ => hk_.1)); have n1_ := Aside0.mk (Kd.R_reok rfl hy0 (fun k_ e_ => HO_8.out.1 k_ e_)); have n2_ := Aside0.mk (blk_kept (sqK BK311) hkp (fun hs_ => (fun e_ => (Kd.R_ne HO_8.out BK311.out (by decide)) e_) hs_)); have n3_ := Aside0.mk (hb); clear HO_6; clear HO_8; clear BK311; clear HB; have HO_6 := n0_; have HO_8 := n1_; have BK311 := n2_; have HB := n3_; clear n0_ n1_ n2_ n3_; (try clear hb); (try clear hkp); (try clear hy0)) | ((with_reducible refine gate_callee (f := 31) rfl ?_); refine goesL_ (some 54) rfl rfl Try.func31 (by kernel_rfl) rfl #[.slice Ao30 t338.length co30, .int .i64 1] rfl (by (try simp only [List.map_toArray, List.map_cons, List.map_nil]); first | done | (rw [show t338.length = t326.length from (Kd.R_reads' HO_8.out).1.symm] <;> rfl) | rfl | (simp only [List.length_drop, List.length_take]; rfl)) ?_; (with_reducible refine (laws_heldIntS.calls kj17 _ _ t338 1 t339 _ ?side1 ?side2 A40.out).mono ?_); (case side1 => repeat (first | exact (Kd.R_reads' HO_8.out).2.2 | (with_reducible refine Kd.C_alloc ?_ _) | (with_reducible refine Kd.C_drewN ?_ _) | (with_reducible refine Kd.C_drew ?_))); (case side2 => rw [show t338.length = t326.length from (Kd.R_reads' HO_8.out).1.symm]; exact (Kd.R_reads' HO_8.out).2.1); rintro e w' ⟨rfl, ⟨nd, rfl⟩⟩; refine ⟨_, rfl, ?_⟩))
            (try (rw [drewN_self w59]; generalize hq_ : World.drewN w59 _ = w59; have n0_ : Aside0 (Kd.R (Kd.int .i64) 3 w59 w.heap.size (fun k_ => some k_ ≠ (.slice Ao30 t326.length co30 : Value).ownBlock) (.slice Ao31 t318.length co31) t318) := ⟨by rw [← hq_]; exact (sqR HO_6)⟩; have n1_ : Aside0 (Kd.R (Kd.int .i64) 3 w59 w.heap.size (fun k_ => some k_ ≠ (.slice Ao31 t318.length co31 : Value).ownBlock) (.slice Ao30 t326.length co30) t338) := ⟨by rw [← hq_]; exact (sqR HO_8)⟩; have n2_ : Aside0 (w59.heap[gb311]? = some (.cells #[.int .i64 a1_0, .int .i64 a1_1] 43 (0, 0))) := ⟨by rw [← hq_]; exact (sqK BK311)⟩; have n3_ : Aside0 (Below w.heap.size w w59) := ⟨by rw [← hq_]; exact (sqB)⟩; clear HO_6 HO_8 BK311 HB hq_; have HO_6 := n0_; have HO_8 := n1_; have BK311 := n2_; have HB := n3_; clear n0_ n1_ n2_ n3_))
            have n0_ := Aside0.mk (Kd.R_drew HO_6.out)
            have n1_ := Aside0.mk (Kd.R_drew HO_8.out)
            have n2_ := Aside0.mk (blk_drew BK311.out)
            have n3_ := Aside0.mk (below_drew1 HB.out)
            clear HO_6
            clear HO_8
            clear BK311
            clear HB
            have HO_6 := n0_
            have HO_8 := n1_
            have BK311 := n2_
            have HB := n3_
            clear n0_ n1_ n2_ n3_
            refine start_ (n := 6) (S := fun w' => w'.cell? ⟨gb311, 0, none⟩ = some (.int .i64 a1_0) ∧ w'.cell? ⟨gb311, 1, none⟩ = some (.int .i64 a1_1)) (ds := []) #[false, false, false, false, false, false] (by kernel_rfl) rfl rfl ⟨(blk_cell BK311.out 0).trans rfl, (blk_cell BK311.out 1).trans rfl⟩ (fun hHeld => ?_)
            generalize w59.drew = w60 at HO_6 HO_8 BK311 HB hHeld ⊢
            refine sqP (i := 0) (N := some 60) #[true, false, false, false, false, false] rfl rfl (by kernel_rfl) ?_
            refine take_ (i := 2) (N := some 62) (v := ?_) (a' := ?_) #[true, false, true, false, false, false] rfl rfl (by kernel_rfl) (fun _ _ _ h => h) (Or.inl ⟨by rfl, ?_⟩) hHeld ?_ ?_
            rotate_left
            ·rintro w' ⟨s0, s1⟩
             go_simp
             with_reducible rfl
            rotate_left
            ·simp only [Act.put, List.setIfInBounds_toArray, List.set_cons_zero, List.set_cons_succ, i64_w, i32_w]
             rfl
            refine one_ (i := 1) (N := some 61) #[true, true, true, false, false, false] rfl rfl (by kernel_rfl) (by decide) (fun K hK => ?_)
            refine goes_ Try.func21 (by kernel_rfl) rfl #[.slice A0 l0.length c0] (by rfl) rfl rfl sqA ?_
            with_reducible refine (laws_toCredS.calls kj17 _ _ l0 t340 _ ?side1 ?side2 A44.out).mono ?_
            (case side1 => repeat (first | exact (Kd.C_below HR0.out HB.out) | (with_reducible refine Kd.C_alloc ?_ _) | (with_reducible refine Kd.C_drewN ?_ _) | (with_reducible refine Kd.C_drew ?_)))
            (case side2 => exact HC0.out)
            rintro e w61 ⟨v341, rfl, ho0, hb⟩
            refine ⟨_, rfl, ?_⟩
            have n0_ := Aside0.mk (Kd.R_below (sqR HO_6) hb)
            have n1_ := Aside0.mk (Kd.R_below (sqR HO_8) hb)
            have n2_ := Aside0.mk (Kd.R_lower ho0 (below_size (sqB)))
            have n3_ := sqL BK311 hb
            have n4_ := sqS hb
            clear HO_6
            clear HO_8
            clear BK311
            clear HB
            have HO_6 := n0_
            have HO_8 := n1_
            have HO342 := n2_
            have BK311 := n3_
            have HB := n4_
            clear n0_ n1_ n2_ n3_ n4_
            (try clear hb)
            (try clear hb2)
            (try clear hk)
            (try clear hi)
            (try clear ho0)
            refine hK.out _ _ ⟨(blk_cell BK311.out 0).trans rfl, (blk_cell BK311.out 1).trans rfl⟩ (fun hHeld => ?_)
            clear hK K
            refine sqV (N := some 61) ?_
            refine one_ (i := 3) (N := some 63) #[true, true, true, true, false, false] rfl rfl (by kernel_rfl) (by decide) (fun K hK => ?_)
            refine goes_ Try.func22 (by kernel_rfl) rfl #[.agg #[.int .i64 a1_0, .int .i64 a1_1]] (by rfl) rfl rfl sqA ?_
            with_reducible refine (laws_toRole.calls a1_0 a1_1 t343 t344 _ A45.out).mono ?_
            rintro e w62 ⟨rfl, hb⟩
            refine ⟨_, rfl, ?_⟩
            have n0_ := Aside0.mk (Kd.R_below (sqR HO_6) hb)
            have n1_ := Aside0.mk (Kd.R_below (sqR HO_8) hb)
            have n2_ := Aside0.mk (Kd.R_below (sqR HO342) hb)
            have n3_ := sqL BK311 hb
            have n4_ := sqS hb
            clear HO_6
            clear HO_8
            clear HO342
            clear BK311
            clear HB
            have HO_6 := n0_
            have HO_8 := n1_
            have HO342 := n2_
            have BK311 := n3_
            have HB := n4_
            clear n0_ n1_ n2_ n3_ n4_
            (try clear hb)
            (try clear hb2)
            (try clear hk)
            (try clear hi)
            obtain ⟨Ao63, co63, eo63⟩ := Kd.R_slice HO342.out
            (first | subst eo63 | (injection eo63 with f1_ f2_ f3_; have f4_ := f1_.symm; have f5_ := f3_.symm; clear f1_ f2_ f3_; subst f4_; subst f5_))
            refine hK.out _ _ ⟨(blk_cell BK311.out 0).trans rfl, (blk_cell BK311.out 1).trans rfl⟩ (fun hHeld => ?_)
            clear hK K
            refine sqV (N := some 63) ?_
            refine one_ (i := 4) (N := some 64) #[true, true, true, true, true, false] rfl rfl (by kernel_rfl) (by decide) (fun K hK => ?_)
            refine goes_ Try.func18 (by kernel_rfl) rfl #[.slice Ao63 t340.length co63, .agg #[.int .i64 t343, .int .i64 t344]] (by rfl) rfl rfl sqA ?_
            with_reducible refine (impl_MembersOf.calls kj17 _ _ t340 t343 t344 t345 _ ?side1 ?side2 A46.out).mono ?_
            (case side1 => repeat (first | exact (Kd.R_reads' HO342.out).2.2 | (with_reducible refine Kd.C_alloc ?_ _) | (with_reducible refine Kd.C_drewN ?_ _) | (with_reducible refine Kd.C_drew ?_)))
            (case side2 => exact (Kd.R_reads' HO342.out).2.1)
            rintro e w64 ⟨v346, rfl, ho0, hb⟩
            refine ⟨_, rfl, ?_⟩
            have n0_ := Aside0.mk (Kd.R_elder' (sqR HO_6) (Kd.R_base ho0) hb)
            have n1_ := Aside0.mk (Kd.R_elder' (sqR HO_8) (Kd.R_base ho0) hb)
            have n2_ := Aside0.mk (Kd.R_below (sqR HO342) hb)
            have n3_ := Aside0.mk (Kd.R_lower (Kd.R_new' (Kd.R_new' ho0 (Kd.R_lt (sqR HO_6))) (Kd.R_lt (sqR HO_8))) (below_size (sqB)))
            have n4_ := sqL BK311 hb
            have n5_ := sqS hb
            clear HO_6
            clear HO_8
            clear HO342
            clear BK311
            clear HB
            have HO_6 := n0_
            have HO_8 := n1_
            have HO342 := n2_
            have HO347 := n3_
            have BK311 := n4_
            have HB := n5_
            clear n0_ n1_ n2_ n3_ n4_ n5_
            (try clear hb)
            (try clear hb2)
            (try clear hk)
            (try clear hi)
            (try clear ho0)
            refine hK.out _ _ ⟨(blk_cell BK311.out 0).trans rfl, (blk_cell BK311.out 1).trans rfl⟩ (fun hHeld => ?_)
            clear hK K
            refine sqV (N := some 64) ?_
            refine sqP (i := 5) (N := some 12) #[true, true, true, true, true, true] rfl rfl (by kernel_rfl) ?_
            refine done_ (by kernel_rfl) ?_
            obtain ⟨Ao65, co65, eo65⟩ := Kd.R_slice HO347.out
            subst eo65
            try go_wp2_with (first | ((with_reducible refine gate_callee (f := 29) rfl ?_); refine goesL_ (some 67) rfl rfl Try.func29 (by kernel_rfl) rfl #[.slice Ao65 t345.length co65, .slice Ao31 t318.length co31] rfl sqA ?_; (with_reducible refine (laws_eqIntS.calls kj17 _ _ t345 _ _ t318 true _ ?side1 ?side2 ?side3 ?side4 A47.out).mono ?_); (case side1 => repeat (first | exact (Kd.R_reads' HO347.out).2.2 | (with_reducible refine Kd.C_alloc ?_ _) | (with_reducible refine Kd.C_drewN ?_ _) | (with_reducible refine Kd.C_drew ?_))); (case side2 => exact (Kd.R_reads' HO347.out).2.1); (case side3 => repeat (first | exact (Kd.R_reads' HO_6.out).2.2 | (with_reducible refine Kd.C_alloc ?_ _) | (with_reducible refine Kd.C_drewN ?_ _) | (with_reducible refine Kd.C_drew ?_))); (case side4 => exact (Kd.R_reads' HO_6.out).2.1); rintro e w' ⟨rfl, ⟨nd, rfl⟩⟩; refine ⟨_, rfl, ?_⟩) | ((with_reducible refine gate_callee (f := 31) rfl ?_); refine goesL_ (some 71) rfl rfl Try.func31 (by kernel_rfl) rfl #[.slice Ao30 t338.length co30, .int .i64 1] rfl (by (try simp only [List.map_toArray, List.map_cons, List.map_nil]); first | done | (rw [show t338.length = t326.length from (Kd.R_reads' HO_8.out).1.symm] <;> rfl) | rfl | (simp only [List.length_drop, List.length_take]; rfl)) ?_; (with_reducible refine (laws_heldIntS.calls kj17 _ _ t338 1 t349 _ ?side1 ?side2 A49.out).mono ?_); (case side1 => repeat (first | exact (Kd.R_reads' HO_8.out).2.2 | (with_reducible refine Kd.C_alloc ?_ _) | (with_reducible refine Kd.C_drewN ?_ _) | (with_reducible refine Kd.C_drew ?_))); (case side2 => rw [show t338.length = t326.length from (Kd.R_reads' HO_8.out).1.symm]; exact (Kd.R_reads' HO_8.out).2.1); rintro e w' ⟨rfl, ⟨nd, rfl⟩⟩; refine ⟨_, rfl, ?_⟩))
            go_ret
            exact ⟨sqE, sqB⟩
           ·rw [if_neg c58] at H
            exact absurd ((Option.some.inj H).trans HRT.out) (by decide)
         ·replace c48 := Bool.eq_false_iff.mpr c48
          subst c48
          have H1 : (some false) = some r := by rw [if_neg (show ¬ (false = true) by decide)] at H; exact H
          exact absurd ((Option.some.inj H1).trans HRT.out) (by decide)
        ·rw [if_neg c43] at H
         exact absurd ((Option.some.inj H).trans HRT.out) (by decide)
   ·replace c16 := Bool.eq_false_iff.mpr c16
    subst c16
    have H1 : (some false) = some r := by rw [if_neg (show ¬ (false = true) by decide)] at H; exact H
    exact absurd ((Option.some.inj H1).trans HRT.out) (by decide)
  ·replace c13 := Bool.eq_false_iff.mpr c13
   subst c13
   have H1 : (some false) = some r := by rw [if_neg (show ¬ (false = true) by decide)] at H; exact H
   exact absurd ((Option.some.inj H1).trans HRT.out) (by decide)

/-- THE ONE PURE STATEMENT of laws_FnExactMembersOf: yours. -/
def laws_FnExactMembersOf.Pure : Prop := ∀ (l0 : List (S85)) (a1_0 : Int) (a1_1 : Int), l0.length ≤ maxLen → (Lit.int .i64 a1_0).wf = true → (Lit.int .i64 a1_1).wf = true → ∃ k, laws_FnExactMembersOf.f k l0 a1_0 a1_1 = some true
theorem laws_FnExactMembersOf.walk (P : laws_FnExactMembersOf.Pure) (A0 : Option Addr) (c0 : Nat) (l0 : List (S85)) (a1_0 : Int) (a1_1 : Int) (w : World) (hr0 : Kd.C k85 w A0 l0.length l0) (hc0 : l0.length ≤ c0) (hm0 : l0.length ≤ maxLen) (w1_0 : (Lit.int .i64 a1_0).wf = true) (w1_1 : (Lit.int .i64 a1_1).wf = true) :
  Calls Try.prog 6 #[.slice A0 l0.length c0, .agg #[.int .i64 a1_0, .int .i64 a1_1]] w fun e w' => e = .returned (.bool true) ∧ Below w.heap.size w w' := by
 obtain ⟨k, h⟩ := P l0 a1_0 a1_1 hm0 w1_0 w1_1
 refine (laws_FnExactMembersOf.calls k A0 c0 l0 a1_0 a1_1 true w hr0 hc0 h rfl).mono ?_
 rintro e w' ⟨rfl, hd⟩
 exact ⟨rfl, hd⟩

end Go.Proofs.Ytnebbjcgkoaloaa.PFnExactMembersOf
