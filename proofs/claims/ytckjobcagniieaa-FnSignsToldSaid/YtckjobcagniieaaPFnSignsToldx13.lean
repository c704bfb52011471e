/- What the code that one law of the given program reaches computes, function by function, each with its proof over the given translation.
Conditions: none of our own. (Laid by a program of this session, wip/xp/xp.py; some contracts are typed by hand.) -/
import Derived.Test.YtckjobcagniieaaPFnSignsToldx0
import Derived.Test.YtckjobcagniieaaPFnSignsToldx1
import Derived.Test.YtckjobcagniieaaPFnSignsToldx4
import Derived.Test.YtckjobcagniieaaPFnSignsToldx5
import Derived.Test.YtckjobcagniieaaPFnSignsToldx6
import Derived.Test.YtckjobcagniieaaPFnSignsToldx7
import Derived.Test.YtckjobcagniieaaPFnSignsToldx8
import Derived.Test.YtckjobcagniieaaPFnSignsToldx9
import Derived.Test.YtckjobcagniieaaPFnSignsToldx10
import Derived.Test.YtckjobcagniieaaPFnSignsToldx12
namespace Go.Proofs.Ytckjobcagniieaa.PFnSignsTold
open Go.RowKit Go.Proofs.YtckjobcagniieaaW.PrintWords Go.Proofs.YtckjobcagniieaaW.PrintLast Go.Proofs.YtckjobcagniieaaW.PrintMore
attribute [local go_sem] max2_int min2_int max_two min_two max_three min_three max_four min_four   -- for this text's walks alone
set_option linter.unusedVariables false
set_option linter.unusedSimpArgs false

/-! ### laws_FnSignsTold: function 7 -/
def laws_FnSignsTold.f (k : Nat) (l0 : List Int) : Option (Bool) := (laws_big.f l0).bind fun t490 => (if t490 = true then (some true) else ((spec_DrawSignText.f k l0).bind fun bt491 => ((impl_SignText.f k bt491.1 bt491.2.1 bt491.2.2).bind fun bt494 => ((spec_SignText.f k bt491.1 bt491.2.1 bt491.2.2).bind fun bt503 => ((spec_DrawSignedBy.f k l0).bind fun bt512 => ((spec_DrawChainOf.f k l0).bind fun bt522 => ((spec_DrawSecretOf.f k l0).bind fun bt524 => (if (bt494.2.2.2 == bt503.2.2.2) = true then ((laws_sameSign.f k bt494.1 bt494.2.1 bt494.2.2.1 bt503.1 bt503.2.1 bt503.2.2.1).bind fun t527 => (if t527 = true then ((impl_SignedBy.f k bt512.1 bt512.2.1 bt512.2.2.1 bt512.2.2.2.1 bt512.2.2.2.2).bind fun t528 => ((spec_SignedBy.f k bt512.1 bt512.2.1 bt512.2.2.1 bt512.2.2.2.1 bt512.2.2.2.2).bind fun t529 => (if (t528 == t529) = true then ((impl_ChainOf.f k bt522.1 bt522.2).bind fun t530 => ((spec_ChainOf.f k bt522.1 bt522.2).bind fun t531 => (if t530.toList = t531.toList then ((impl_SecretOf.f k bt524.1 bt524.2.1 bt524.2.2).bind fun t532 => ((spec_SecretOf.f k bt524.1 bt524.2.1 bt524.2.2).bind fun t533 => (if t532.toList = t533.toList then ((impl_QuadsOf.f k bt512.2.1).bind fun t534 => ((spec_QuadsOf.f k bt512.2.1).bind fun t537 => ((laws_sameInts.f k t534 t537).bind fun t540 => (if t540 = true then ((impl_ChainOf.f k bt522.1 1).bind fun t541 => ((impl_ChainOf.f k t541 2).bind fun t542 => ((impl_ChainOf.f k bt522.1 3).bind fun t543 => (some (t542.toList == t543.toList))))) else (some false))))) else (some false)))) else (some false)))) else (some false)))) else (some false))) else (some false)))))))))
theorem laws_FnSignsTold.mono : ∀ a0 k, LeO (laws_FnSignsTold.f k a0) (laws_FnSignsTold.f (k + 1) a0) := by
 intro a0 k
 unfold laws_FnSignsTold.f
 repeat' first
   | (with_reducible exact impl_ChainOf.mono _ _ _)
   | (with_reducible exact impl_QuadsOf.mono _ _)
   | (with_reducible exact impl_SecretOf.mono _ _ _ _)
   | (with_reducible exact impl_SignText.mono _ _ _ _)
   | (with_reducible exact impl_SignedBy.mono _ _ _ _ _ _)
   | (with_reducible exact laws_sameInts.mono _ _ _)
   | (with_reducible exact laws_sameSign.mono _ _ _ _ _ _ _)
   | (with_reducible exact spec_ChainOf.mono _ _ _)
   | (with_reducible exact spec_DrawChainOf.mono _ _)
   | (with_reducible exact spec_DrawSecretOf.mono _ _)
   | (with_reducible exact spec_DrawSignText.mono _ _)
   | (with_reducible exact spec_DrawSignedBy.mono _ _)
   | (with_reducible exact spec_QuadsOf.mono _ _)
   | (with_reducible exact spec_SecretOf.mono _ _ _ _)
   | (with_reducible exact spec_SignText.mono _ _ _ _)
   | (with_reducible exact spec_SignedBy.mono _ _ _ _ _ _)
   | (with_reducible exact LeO.refl _)
   | (with_reducible exact LeO.none _)
   | (with_reducible refine LeO.ite ?_ ?_)
   | (with_reducible refine LeO.bind ?_ (fun _ => ?_))
   | exact impl_ChainOf.mono _ _ _
   | exact impl_QuadsOf.mono _ _
   | exact impl_SecretOf.mono _ _ _ _
   | exact impl_SignText.mono _ _ _ _
   | exact impl_SignedBy.mono _ _ _ _ _ _
   | exact laws_sameInts.mono _ _ _
   | exact laws_sameSign.mono _ _ _ _ _ _ _
   | exact spec_ChainOf.mono _ _ _
   | exact spec_DrawChainOf.mono _ _
   | exact spec_DrawSecretOf.mono _ _
   | exact spec_DrawSignText.mono _ _
   | exact spec_DrawSignedBy.mono _ _
   | exact spec_QuadsOf.mono _ _
   | exact spec_SecretOf.mono _ _ _ _
   | exact spec_SignText.mono _ _ _ _
   | exact spec_SignedBy.mono _ _ _ _ _ _
   | exact LeO.none _
   | refine LeO.ite ?_ ?_
   | refine LeO.bind ?_ (fun _ => ?_)
def laws_FnSignsTold.T9 : Bool × List (List Nat × List Nat) := (true, [([], []), ([], []), ([0, 1], [0, 1]), ([2], [2]), ([3], [3]), ([3], [3]), ([4, 5, 3, 3], [3, 4, 5]), ([3, 6], [3, 6]), ([7, 6], [7]), ([8], [8]), ([8], [8]), ([8], [8]), ([9, 10, 11, 8, 8], [8, 9, 10, 11]), ([8], [8]), ([8], [8]), ([8], [8]), ([13, 14, 15, 12, 8], [8, 13, 14, 15]), ([12, 16, 8], [8, 12, 16]), ([8, 17], [8, 17]), ([18, 16], [18]), ([19], [19]), ([19], [19]), ([20, 21, 19, 19], [19, 20, 21]), ([19], [19]), ([19], [19]), ([23, 24, 22, 19], [19, 23, 24]), ([22, 25, 19], [19, 22, 25]), ([19, 26], [19, 26]), ([27, 25], [27]), ([28], [28]), ([28], [28]), ([28], [28]), ([29, 30, 31, 28, 28], [28, 29, 30, 31]), ([28], [28]), ([28], [28]), ([28], [28]), ([33, 34, 35, 32, 28], [28, 33, 34, 35]), ([32, 36, 28], [28, 32, 36]), ([28, 37], [28, 37]), ([38, 36], [38]), ([39], [39]), ([40, 39, 39], [39, 40]), ([39], [39]), ([42, 41, 39], [39, 42]), ([41, 43, 43, 39], [39, 41, 43]), ([39, 44], [39, 44]), ([45, 44], [45]), ([46], [46]), ([47, 46, 46], [46, 47]), ([48, 48, 46], [46, 48]), ([46], [46]), ([50, 49, 46], [46, 50]), ([49, 51, 46], [46, 49, 51]), ([46, 52], [46, 52]), ([53, 51, 0, 1, 2, 3, 4, 5, 6, 7, 8, 9, 10, 11, 12, 13, 14, 15, 16, 17, 18, 19, 20, 21, 22, 23, 24, 25, 26, 27, 28, 29, 30, 31, 32, 33, 34, 35, 36, 37, 38, 39, 40, 41, 42, 43, 44, 45, 46, 47, 48, 49, 50, 51, 52, 53], [53])])
def laws_FnSignsTold.B9 : List Nat := [0, 0, 3, 7, 15, 15, 63, 127, 255, 511, 511, 511, 4095, 511, 511, 511, 65535, 131071, 262143, 524287, 1048575, 1048575, 4194303, 1048575, 1048575, 33554431, 67108863, 134217727, 268435455, 536870911, 536870911, 536870911, 4294967295, 536870911, 536870911, 536870911, 68719476735, 137438953471, 274877906943, 549755813887, 1099511627775, 2199023255551, 1099511627775, 8796093022207, 17592186044415, 35184372088831, 70368744177663, 140737488355327, 281474976710655, 562949953421311, 140737488355327, 2251799813685247, 4503599627370495, 9007199254740991, 18014398509481983]
theorem laws_FnSignsTold.tab9 : rtab .any (opsOf Try.f7 9) = laws_FnSignsTold.T9 := by kernel_rfl
theorem laws_FnSignsTold.bits9 : waitsOk laws_FnSignsTold.T9.2 laws_FnSignsTold.B9 = true := by kernel_rfl
set_option maxHeartbeats 8000000 in
set_option maxRecDepth 100000 in
theorem laws_FnSignsTold.calls (k : Nat) (A0 : Option Addr) (c0 : Nat) (l0 : List Int) (r : Bool) (w : World) (hr0 : Kd.C (Kd.int .u8) w A0 l0.length l0) (hc0 : l0.length ≤ c0) (h : laws_FnSignsTold.f k l0 = some r) (hrt : r = true) :
  Calls Try.prog 7 #[.slice A0 l0.length c0] w fun e w' => e = .returned (.bool r) ∧ Below w.heap.size w w' := by
 have HRT := Aside0.mk hrt
 clear hrt
 have hu29 := Try.underlying29
 have HR0 := Aside0.mk hr0
 have HC0 := Aside0.mk hc0
 clear hr0 hc0
 have HB := Aside0.mk (Below.refl w.heap.size w)
 have H : ((laws_big.f l0).bind fun t490 => (if t490 = true then (some true) else ((spec_DrawSignText.f k l0).bind fun bt491 => ((impl_SignText.f k bt491.1 bt491.2.1 bt491.2.2).bind fun bt494 => ((spec_SignText.f k bt491.1 bt491.2.1 bt491.2.2).bind fun bt503 => ((spec_DrawSignedBy.f k l0).bind fun bt512 => ((spec_DrawChainOf.f k l0).bind fun bt522 => ((spec_DrawSecretOf.f k l0).bind fun bt524 => (if (bt494.2.2.2 == bt503.2.2.2) = true then ((laws_sameSign.f k bt494.1 bt494.2.1 bt494.2.2.1 bt503.1 bt503.2.1 bt503.2.2.1).bind fun t527 => (if t527 = true then ((impl_SignedBy.f k bt512.1 bt512.2.1 bt512.2.2.1 bt512.2.2.2.1 bt512.2.2.2.2).bind fun t528 => ((spec_SignedBy.f k bt512.1 bt512.2.1 bt512.2.2.1 bt512.2.2.2.1 bt512.2.2.2.2).bind fun t529 => (if (t528 == t529) = true then ((impl_ChainOf.f k bt522.1 bt522.2).bind fun t530 => ((spec_ChainOf.f k bt522.1 bt522.2).bind fun t531 => (if t530.toList = t531.toList then ((impl_SecretOf.f k bt524.1 bt524.2.1 bt524.2.2).bind fun t532 => ((spec_SecretOf.f k bt524.1 bt524.2.1 bt524.2.2).bind fun t533 => (if t532.toList = t533.toList then ((impl_QuadsOf.f k bt512.2.1).bind fun t534 => ((spec_QuadsOf.f k bt512.2.1).bind fun t537 => ((laws_sameInts.f k t534 t537).bind fun t540 => (if t540 = true then ((impl_ChainOf.f k bt522.1 1).bind fun t541 => ((impl_ChainOf.f k t541 2).bind fun t542 => ((impl_ChainOf.f k bt522.1 3).bind fun t543 => (some (t542.toList == t543.toList))))) else (some false))))) else (some false)))) else (some false)))) else (some false)))) else (some false))) else (some false)))))))))) = some r := h
 clear h
 replace H := Option.bind_eq_some_iff.mp H
 obtain ⟨t490, A20, H⟩ := H
 try dsimp only at H
 have A2 := Aside0.mk A20
 clear A20
 by_cases c3 : t490 = true
 ·subst c3
  rw [if_pos rfl] at H
  obtain rfl := Option.some.inj H
  go_enter Try.func7, Try.ntmps7
  go_wp2_with (first | ((with_reducible refine gate_callee (f := 8) rfl ?_); refine goesL_ (some 19) rfl rfl Try.func8 (by kernel_rfl) rfl #[.slice A0 l0.length c0] rfl sqA ?_; (with_reducible refine (laws_big.calls _ _ l0 true _ ?side1 ?side2 A2.out).mono ?_); (case side1 => repeat (first | exact HR0.out | (with_reducible refine Kd.C_alloc ?_ _) | (with_reducible refine Kd.C_drewN ?_ _) | (with_reducible refine Kd.C_drew ?_))); (case side2 => exact HC0.out); rintro e w' ⟨rfl, ⟨nd, rfl⟩⟩; refine ⟨_, rfl, ?_⟩))
  go_ret
  exact ⟨sqE, sqB⟩
 ·replace c3 := Bool.eq_false_iff.mpr c3
  subst c3
  rw [if_neg (show ¬ (false = true) by decide)] at H
  replace H := Option.bind_eq_some_iff.mp H
  obtain ⟨⟨t491, t492, t493⟩, A40, H⟩ := H
  try dsimp only at H
  have A4 := Aside0.mk A40
  clear A40
  replace H := Option.bind_eq_some_iff.mp H
  obtain ⟨⟨t494, t495, t498, t501⟩, A50, H⟩ := H
  try dsimp only at H
  have A5 := Aside0.mk A50
  clear A50
  replace H := Option.bind_eq_some_iff.mp H
  obtain ⟨⟨t503, t504, t507, t510⟩, A60, H⟩ := H
  try dsimp only at H
  have A6 := Aside0.mk A60
  clear A60
  replace H := Option.bind_eq_some_iff.mp H
  obtain ⟨⟨t512, t513, t514, t515, t518⟩, A70, H⟩ := H
  try dsimp only at H
  have A7 := Aside0.mk A70
  clear A70
  replace H := Option.bind_eq_some_iff.mp H
  obtain ⟨⟨t522, t523⟩, A80, H⟩ := H
  try dsimp only at H
  have A8 := Aside0.mk A80
  clear A80
  replace H := Option.bind_eq_some_iff.mp H
  obtain ⟨⟨t524, t525, t526⟩, A90, H⟩ := H
  try dsimp only at H
  have A9 := Aside0.mk A90
  clear A90
  by_cases c10 : (t501 == t510) = true
  ·rw [if_pos c10] at H
   have c10b0 : (t501 == t510) = true := c10
   (try (have c10b1 : decide (t501 = t510) = true := by simpa using c10))
   (try (have c10b2 : (t501 == t510) = true := by simpa using c10))
   clear c10
   replace H := Option.bind_eq_some_iff.mp H
   obtain ⟨t527, A110, H⟩ := H
   try dsimp only at H
   have A11 := Aside0.mk A110
   clear A110
   by_cases c12 : t527 = true
   ·subst c12
    rw [if_pos rfl] at H
    replace H := Option.bind_eq_some_iff.mp H
    obtain ⟨t528, A130, H⟩ := H
    try dsimp only at H
    have A13 := Aside0.mk A130
    clear A130
    replace H := Option.bind_eq_some_iff.mp H
    obtain ⟨t529, A140, H⟩ := H
    try dsimp only at H
    have A14 := Aside0.mk A140
    clear A140
    by_cases c15 : (t528 == t529) = true
    ·rw [if_pos c15] at H
     have c15b0 : (t528 == t529) = true := c15
     (try (have c15b1 : decide (t528 = t529) = true := by simpa using c15))
     (try (have c15b2 : (t528 == t529) = true := by simpa using c15))
     clear c15
     replace H := Option.bind_eq_some_iff.mp H
     obtain ⟨t530, A160, H⟩ := H
     try dsimp only at H
     have A16 := Aside0.mk A160
     clear A160
     replace H := Option.bind_eq_some_iff.mp H
     obtain ⟨t531, A170, H⟩ := H
     try dsimp only at H
     have A17 := Aside0.mk A170
     clear A170
     by_cases c18 : t530.toList = t531.toList
     ·rw [if_pos c18] at H
      have c18b0 : (t530.toList == t531.toList) = true := beq_iff_eq.mpr c18
      have c18b1 : (t530.toList != t531.toList) = false := bne_eq_false_iff_eq.mpr c18
      clear c18
      replace H := Option.bind_eq_some_iff.mp H
      obtain ⟨t532, A190, H⟩ := H
      try dsimp only at H
      have A19 := Aside0.mk A190
      clear A190
      replace H := Option.bind_eq_some_iff.mp H
      obtain ⟨t533, A200, H⟩ := H
      try dsimp only at H
      have A20 := Aside0.mk A200
      clear A200
      by_cases c21 : t532.toList = t533.toList
      ·rw [if_pos c21] at H
       have c21b0 : (t532.toList == t533.toList) = true := beq_iff_eq.mpr c21
       have c21b1 : (t532.toList != t533.toList) = false := bne_eq_false_iff_eq.mpr c21
       clear c21
       replace H := Option.bind_eq_some_iff.mp H
       obtain ⟨t534, A220, H⟩ := H
       try dsimp only at H
       have A22 := Aside0.mk A220
       clear A220
       replace H := Option.bind_eq_some_iff.mp H
       obtain ⟨t537, A230, H⟩ := H
       try dsimp only at H
       have A23 := Aside0.mk A230
       clear A230
       replace H := Option.bind_eq_some_iff.mp H
       obtain ⟨t540, A240, H⟩ := H
       try dsimp only at H
       have A24 := Aside0.mk A240
       clear A240
       by_cases c25 : t540 = true
       ·subst c25
        rw [if_pos rfl] at H
        replace H := Option.bind_eq_some_iff.mp H
        obtain ⟨t541, A260, H⟩ := H
        try dsimp only at H
        have A26 := Aside0.mk A260
        clear A260
        replace H := Option.bind_eq_some_iff.mp H
        obtain ⟨t542, A270, H⟩ := H
        try dsimp only at H
        have A27 := Aside0.mk A270
        clear A270
        replace H := Option.bind_eq_some_iff.mp H
        obtain ⟨t543, A280, H⟩ := H
        try dsimp only at H
        have A28 := Aside0.mk A280
        clear A280
        obtain rfl := Option.some.inj H
        go_enter Try.func7, Try.ntmps7
        try go_wp2_with (first | ((with_reducible refine gate_callee (f := 8) rfl ?_); refine goesL_ (some 19) rfl rfl Try.func8 (by kernel_rfl) rfl #[.slice A0 l0.length c0] rfl sqA ?_; (with_reducible refine (laws_big.calls _ _ l0 false _ ?side1 ?side2 A2.out).mono ?_); (case side1 => repeat (first | exact HR0.out | (with_reducible refine Kd.C_alloc ?_ _) | (with_reducible refine Kd.C_drewN ?_ _) | (with_reducible refine Kd.C_drew ?_))); (case side2 => exact HC0.out); rintro e w' ⟨rfl, ⟨nd, rfl⟩⟩; refine ⟨_, rfl, ?_⟩) | ((with_reducible refine gate_callee (f := 27) rfl ?_); refine goesL_ (some 22) rfl rfl Try.func27 (by kernel_rfl) rfl #[.slice A0 l0.length c0] rfl sqA ?_; (with_reducible refine (spec_DrawSignText.calls k _ _ l0 t491 t492 t493 _ ?side1 ?side2 A4.out).mono ?_); (case side1 => repeat (first | exact HR0.out | (with_reducible refine Kd.C_alloc ?_ _) | (with_reducible refine Kd.C_drewN ?_ _) | (with_reducible refine Kd.C_drew ?_))); (case side2 => exact HC0.out); rintro e w29 ⟨rfl, hb⟩; refine ⟨_, rfl, ?_⟩; replace HB := sqS hb; (try clear hb); (try clear hb2); (try clear hk); (try clear hi)) | ((with_reducible refine gate_callee (f := 11) rfl ?_); refine goesL_ (some 30) rfl rfl Try.func11 (by kernel_rfl) rfl #[.int .i64 t491, .int .i64 t492, .string t493] rfl sqA ?_; (with_reducible refine (impl_SignText.calls k t491 t492 t493 t494 t495 t498 t501 _ A5.out).mono ?_); rintro e w30 ⟨v496, v499, rfl, ho0, ho1, hb⟩; refine ⟨_, rfl, ?_⟩; have HO497 := Aside0.mk (Kd.R_lower ho0 (below_size (sqB))); have HO500 := Aside0.mk (Kd.R_lower ho1 (below_size (sqB))); replace HB := sqS hb; (try clear hb); (try clear hb2); (try clear hk); (try clear hi); (try clear ho0); (try clear ho1)) | ((with_reducible refine gate_dst (N := 6) rfl ?_); refine sqX (N := 6) (cs := #[.int .i64 0, .slice none 0 0, .slice none 0 0]) (t := 29) ?_; intro gb502 hg w31 hbox hb; replace HO497 := Aside0.mk (Kd.R_below (sqR HO497) hb); replace HO500 := Aside0.mk (Kd.R_below (sqR HO500) hb); have BK502 := Aside0.mk (hbox); have GW502 := sqG hg; have GE502 := sqG hg; replace HB := sqS hb; clear hb hbox hg; obtain ⟨hcz32_0, hcz32_1, hcz32_2, hfz32_0, hfz32_1, hfz32_2⟩ := sqC3 BK502; obtain ⟨Ao33, co33, eo33⟩ := Kd.R_slice HO497.out; subst eo33; obtain ⟨Ao34, co34, eo34⟩ := Kd.R_slice HO500.out; subst eo34) | ((with_reducible refine gate_callee (f := 24) rfl ?_); refine goesL_ (some 37) rfl rfl Try.func24 (by kernel_rfl) rfl #[.int .i64 t491, .int .i64 t492, .string t493] rfl sqA ?_; (with_reducible refine (spec_SignText.calls k t491 t492 t493 t503 t504 t507 t510 _ A6.out).mono ?_); rintro e w35 ⟨v505, v508, rfl, ho0, ho1, hb⟩; refine ⟨_, rfl, ?_⟩; have n0_ := Aside0.mk (Kd.R_mono (Kd.R_told (Kd.R_told (Kd.R_old (by (with_reducible repeat (first | apply Kd.R_alloc | apply Kd.R_drewN | apply Kd.R_drew)); exact (Kd.R_mono (Kd.R_far (p := ⟨gb502, 2, none⟩) (Kd.R_far (p := ⟨gb502, 1, none⟩) (Kd.R_far (p := ⟨gb502, 0, none⟩) (Kd.R_types HO497.out BK502.out (by decide)) (fun _ hk => hk.2) (.int .i64 t494)) (fun _ hk => hk.2) (.slice Ao33 t495.length co33)) (fun _ hk => hk.2) (.slice Ao34 t498.length co34)) (fun _ h_ => h_.1))) hb) (Kd.R_base ho0)) (Kd.R_base ho1)) (fun _ h_ => h_.1)); have n1_ := Aside0.mk (Kd.R_mono (Kd.R_told (Kd.R_told (Kd.R_old (by (with_reducible repeat (first | apply Kd.R_alloc | apply Kd.R_drewN | apply Kd.R_drew)); exact (Kd.R_mono (Kd.R_far (p := ⟨gb502, 2, none⟩) (Kd.R_far (p := ⟨gb502, 1, none⟩) (Kd.R_far (p := ⟨gb502, 0, none⟩) (Kd.R_types HO500.out BK502.out (by decide)) (fun _ hk => hk.2) (.int .i64 t494)) (fun _ hk => hk.2) (.slice Ao33 t495.length co33)) (fun _ hk => hk.2) (.slice Ao34 t498.length co34)) (fun _ h_ => h_.1))) hb) (Kd.R_base ho0)) (Kd.R_base ho1)) (fun _ h_ => h_.1)); have n2_ := Aside0.mk (Kd.R_lower (Kd.R_new' (Kd.R_new' ho0 (Kd.R_lt (by (with_reducible repeat (first | apply Kd.R_alloc | apply Kd.R_drewN | apply Kd.R_drew)); exact (Kd.R_mono (Kd.R_far (p := ⟨gb502, 2, none⟩) (Kd.R_far (p := ⟨gb502, 1, none⟩) (Kd.R_far (p := ⟨gb502, 0, none⟩) (Kd.R_types HO497.out BK502.out (by decide)) (fun _ hk => hk.2) (.int .i64 t494)) (fun _ hk => hk.2) (.slice Ao33 t495.length co33)) (fun _ hk => hk.2) (.slice Ao34 t498.length co34)) (fun _ h_ => h_.1))))) (Kd.R_lt (by (with_reducible repeat (first | apply Kd.R_alloc | apply Kd.R_drewN | apply Kd.R_drew)); exact (Kd.R_mono (Kd.R_far (p := ⟨gb502, 2, none⟩) (Kd.R_far (p := ⟨gb502, 1, none⟩) (Kd.R_far (p := ⟨gb502, 0, none⟩) (Kd.R_types HO500.out BK502.out (by decide)) (fun _ hk => hk.2) (.int .i64 t494)) (fun _ hk => hk.2) (.slice Ao33 t495.length co33)) (fun _ hk => hk.2) (.slice Ao34 t498.length co34)) (fun _ h_ => h_.1))))) (below_size (sqB))); have n3_ := Aside0.mk (Kd.R_lower (Kd.R_new' (Kd.R_new' ho1 (Kd.R_lt (by (with_reducible repeat (first | apply Kd.R_alloc | apply Kd.R_drewN | apply Kd.R_drew)); exact (Kd.R_mono (Kd.R_far (p := ⟨gb502, 2, none⟩) (Kd.R_far (p := ⟨gb502, 1, none⟩) (Kd.R_far (p := ⟨gb502, 0, none⟩) (Kd.R_types HO497.out BK502.out (by decide)) (fun _ hk => hk.2) (.int .i64 t494)) (fun _ hk => hk.2) (.slice Ao33 t495.length co33)) (fun _ hk => hk.2) (.slice Ao34 t498.length co34)) (fun _ h_ => h_.1))))) (Kd.R_lt (by (with_reducible repeat (first | apply Kd.R_alloc | apply Kd.R_drewN | apply Kd.R_drew)); exact (Kd.R_mono (Kd.R_far (p := ⟨gb502, 2, none⟩) (Kd.R_far (p := ⟨gb502, 1, none⟩) (Kd.R_far (p := ⟨gb502, 0, none⟩) (Kd.R_types HO500.out BK502.out (by decide)) (fun _ hk => hk.2) (.int .i64 t494)) (fun _ hk => hk.2) (.slice Ao33 t495.length co33)) (fun _ hk => hk.2) (.slice Ao34 t498.length co34)) (fun _ h_ => h_.1))))) (below_size (sqB))); have n4_ := Aside0.mk (blk_below (g := gb502) (o := .cells #[.int .i64 t494, .slice Ao33 t495.length co33, .slice Ao34 t498.length co34] 29 (0, 0)) (by (with_reducible repeat (first | refine blk_drewN ?_ _ | refine blk_drew ?_ | refine blk_alloc ?_ _)); refine blk_put (cs := #[.int .i64 t494, .slice Ao33 t495.length co33, .slice none 0 0]) ?_ 2 _ rfl; (with_reducible repeat (first | refine blk_drewN ?_ _ | refine blk_drew ?_ | refine blk_alloc ?_ _)); refine blk_put (cs := #[.int .i64 t494, .slice none 0 0, .slice none 0 0]) ?_ 1 _ rfl; (with_reducible repeat (first | refine blk_drewN ?_ _ | refine blk_drew ?_ | refine blk_alloc ?_ _)); refine blk_put (cs := #[.int .i64 0, .slice none 0 0, .slice none 0 0]) ?_ 0 _ rfl; (with_reducible repeat (first | refine blk_drewN ?_ _ | refine blk_drew ?_ | refine blk_alloc ?_ _)); exact BK502.out) hb); have n5_ := sqS hb; clear HO497; clear HO500; clear BK502; clear HB; have HO497 := n0_; have HO500 := n1_; have HO506 := n2_; have HO509 := n3_; have BK502 := n4_; have HB := n5_; clear n0_ n1_ n2_ n3_ n4_ n5_; (try clear hb); (try clear hb2); (try clear hk); (try clear hi); (try clear ho0); (try clear ho1)) | ((with_reducible refine gate_dst (N := 8) rfl ?_); refine sqX (N := 8) (cs := #[.int .i64 0, .slice none 0 0, .slice none 0 0]) (t := 29) ?_; intro gb511 hg w36 hbox hb; replace HO497 := Aside0.mk (Kd.R_below (sqR HO497) hb); replace HO500 := Aside0.mk (Kd.R_below (sqR HO500) hb); replace HO506 := Aside0.mk (Kd.R_below (sqR HO506) hb); replace HO509 := Aside0.mk (Kd.R_below (sqR HO509) hb); have BK511 := Aside0.mk (hbox); have GW511 := sqG hg; have GE511 := sqG hg; have NB502_511 := sqN BK502 hg; have NB511_502 := sqM BK502 hg; replace BK502 := sqL BK502 hb; replace HB := sqS hb; clear hb hbox hg; have hnb37 := NB511_502.out; have hnc37 := NB502_511.out; obtain ⟨hcz38_0, hcz38_1, hcz38_2, hfz38_0, hfz38_1, hfz38_2⟩ := sqC3 BK511; obtain ⟨Ao39, co39, eo39⟩ := Kd.R_slice HO506.out; subst eo39; obtain ⟨Ao40, co40, eo40⟩ := Kd.R_slice HO509.out; subst eo40) | ((with_reducible refine gate_callee (f := 28) rfl ?_); refine goesL_ (some 42) rfl rfl Try.func28 (by kernel_rfl) rfl #[.slice A0 l0.length c0] rfl sqA ?_; (with_reducible refine (spec_DrawSignedBy.calls k _ _ l0 t512 t513 t514 t515 t518 _ ?side1 ?side2 A7.out).mono ?_); (case side1 => exact Kd.C_below HR0.out (sqB)); (case side2 => exact HC0.out); rintro e w41 ⟨v516, v519, rfl, ho0, ho1, hb⟩; refine ⟨_, rfl, ?_⟩; have n0_ := Aside0.mk (Kd.R_mono (Kd.R_told (Kd.R_told (Kd.R_old (by (with_reducible repeat (first | apply Kd.R_alloc | apply Kd.R_drewN | apply Kd.R_drew)); exact (Kd.R_mono (Kd.R_far (p := ⟨gb511, 2, none⟩) (Kd.R_far (p := ⟨gb511, 1, none⟩) (Kd.R_far (p := ⟨gb511, 0, none⟩) (Kd.R_types HO497.out BK511.out (by decide)) (fun _ hk => hk.2) (.int .i64 t503)) (fun _ hk => hk.2) (.slice Ao39 t504.length co39)) (fun _ hk => hk.2) (.slice Ao40 t507.length co40)) (fun _ h_ => h_.1))) hb) (Kd.R_base ho0)) (Kd.Q_base ho1)) (fun _ h_ => h_.1)); have n1_ := Aside0.mk (Kd.R_mono (Kd.R_told (Kd.R_told (Kd.R_old (by (with_reducible repeat (first | apply Kd.R_alloc | apply Kd.R_drewN | apply Kd.R_drew)); exact (Kd.R_mono (Kd.R_far (p := ⟨gb511, 2, none⟩) (Kd.R_far (p := ⟨gb511, 1, none⟩) (Kd.R_far (p := ⟨gb511, 0, none⟩) (Kd.R_types HO500.out BK511.out (by decide)) (fun _ hk => hk.2) (.int .i64 t503)) (fun _ hk => hk.2) (.slice Ao39 t504.length co39)) (fun _ hk => hk.2) (.slice Ao40 t507.length co40)) (fun _ h_ => h_.1))) hb) (Kd.R_base ho0)) (Kd.Q_base ho1)) (fun _ h_ => h_.1)); have n2_ := Aside0.mk (Kd.R_mono (Kd.R_told (Kd.R_told (Kd.R_old (by (with_reducible repeat (first | apply Kd.R_alloc | apply Kd.R_drewN | apply Kd.R_drew)); exact (Kd.R_mono (Kd.R_far (p := ⟨gb511, 2, none⟩) (Kd.R_far (p := ⟨gb511, 1, none⟩) (Kd.R_far (p := ⟨gb511, 0, none⟩) (Kd.R_types HO506.out BK511.out (by decide)) (fun _ hk => hk.2) (.int .i64 t503)) (fun _ hk => hk.2) (.slice Ao39 t504.length co39)) (fun _ hk => hk.2) (.slice Ao40 t507.length co40)) (fun _ h_ => h_.1))) hb) (Kd.R_base ho0)) (Kd.Q_base ho1)) (fun _ h_ => h_.1)); have n3_ := Aside0.mk (Kd.R_mono (Kd.R_told (Kd.R_told (Kd.R_old (by (with_reducible repeat (first | apply Kd.R_alloc | apply Kd.R_drewN | apply Kd.R_drew)); exact (Kd.R_mono (Kd.R_far (p := ⟨gb511, 2, none⟩) (Kd.R_far (p := ⟨gb511, 1, none⟩) (Kd.R_far (p := ⟨gb511, 0, none⟩) (Kd.R_types HO509.out BK511.out (by decide)) (fun _ hk => hk.2) (.int .i64 t503)) (fun _ hk => hk.2) (.slice Ao39 t504.length co39)) (fun _ hk => hk.2) (.slice Ao40 t507.length co40)) (fun _ h_ => h_.1))) hb) (Kd.R_base ho0)) (Kd.Q_base ho1)) (fun _ h_ => h_.1)); have n4_ := Aside0.mk (Kd.R_lower (Kd.R_new' (Kd.R_new' (Kd.R_new' (Kd.R_new' ho0 (Kd.R_lt (by (with_reducible repeat (first | apply Kd.R_alloc | apply Kd.R_drewN | apply Kd.R_drew)); exact (Kd.R_mono (Kd.R_far (p := ⟨gb511, 2, none⟩) (Kd.R_far (p := ⟨gb511, 1, none⟩) (Kd.R_far (p := ⟨gb511, 0, none⟩) (Kd.R_types HO497.out BK511.out (by decide)) (fun _ hk => hk.2) (.int .i64 t503)) (fun _ hk => hk.2) (.slice Ao39 t504.length co39)) (fun _ hk => hk.2) (.slice Ao40 t507.length co40)) (fun _ h_ => h_.1))))) (Kd.R_lt (by (with_reducible repeat (first | apply Kd.R_alloc | apply Kd.R_drewN | apply Kd.R_drew)); exact (Kd.R_mono (Kd.R_far (p := ⟨gb511, 2, none⟩) (Kd.R_far (p := ⟨gb511, 1, none⟩) (Kd.R_far (p := ⟨gb511, 0, none⟩) (Kd.R_types HO500.out BK511.out (by decide)) (fun _ hk => hk.2) (.int .i64 t503)) (fun _ hk => hk.2) (.slice Ao39 t504.length co39)) (fun _ hk => hk.2) (.slice Ao40 t507.length co40)) (fun _ h_ => h_.1))))) (Kd.R_lt (by (with_reducible repeat (first | apply Kd.R_alloc | apply Kd.R_drewN | apply Kd.R_drew)); exact (Kd.R_mono (Kd.R_far (p := ⟨gb511, 2, none⟩) (Kd.R_far (p := ⟨gb511, 1, none⟩) (Kd.R_far (p := ⟨gb511, 0, none⟩) (Kd.R_types HO506.out BK511.out (by decide)) (fun _ hk => hk.2) (.int .i64 t503)) (fun _ hk => hk.2) (.slice Ao39 t504.length co39)) (fun _ hk => hk.2) (.slice Ao40 t507.length co40)) (fun _ h_ => h_.1))))) (Kd.R_lt (by (with_reducible repeat (first | apply Kd.R_alloc | apply Kd.R_drewN | apply Kd.R_drew)); exact (Kd.R_mono (Kd.R_far (p := ⟨gb511, 2, none⟩) (Kd.R_far (p := ⟨gb511, 1, none⟩) (Kd.R_far (p := ⟨gb511, 0, none⟩) (Kd.R_types HO509.out BK511.out (by decide)) (fun _ hk => hk.2) (.int .i64 t503)) (fun _ hk => hk.2) (.slice Ao39 t504.length co39)) (fun _ hk => hk.2) (.slice Ao40 t507.length co40)) (fun _ h_ => h_.1))))) (below_size (sqB))); have n5_ := Aside0.mk (Kd.Q_lower (Kd.Q_new' (Kd.Q_new' (Kd.Q_new' (Kd.Q_new' ho1 (Kd.R_lt (by (with_reducible repeat (first | apply Kd.R_alloc | apply Kd.R_drewN | apply Kd.R_drew)); exact (Kd.R_mono (Kd.R_far (p := ⟨gb511, 2, none⟩) (Kd.R_far (p := ⟨gb511, 1, none⟩) (Kd.R_far (p := ⟨gb511, 0, none⟩) (Kd.R_types HO497.out BK511.out (by decide)) (fun _ hk => hk.2) (.int .i64 t503)) (fun _ hk => hk.2) (.slice Ao39 t504.length co39)) (fun _ hk => hk.2) (.slice Ao40 t507.length co40)) (fun _ h_ => h_.1))))) (Kd.R_lt (by (with_reducible repeat (first | apply Kd.R_alloc | apply Kd.R_drewN | apply Kd.R_drew)); exact (Kd.R_mono (Kd.R_far (p := ⟨gb511, 2, none⟩) (Kd.R_far (p := ⟨gb511, 1, none⟩) (Kd.R_far (p := ⟨gb511, 0, none⟩) (Kd.R_types HO500.out BK511.out (by decide)) (fun _ hk => hk.2) (.int .i64 t503)) (fun _ hk => hk.2) (.slice Ao39 t504.length co39)) (fun _ hk => hk.2) (.slice Ao40 t507.length co40)) (fun _ h_ => h_.1))))) (Kd.R_lt (by (with_reducible repeat (first | apply Kd.R_alloc | apply Kd.R_drewN | apply Kd.R_drew)); exact (Kd.R_mono (Kd.R_far (p := ⟨gb511, 2, none⟩) (Kd.R_far (p := ⟨gb511, 1, none⟩) (Kd.R_far (p := ⟨gb511, 0, none⟩) (Kd.R_types HO506.out BK511.out (by decide)) (fun _ hk => hk.2) (.int .i64 t503)) (fun _ hk => hk.2) (.slice Ao39 t504.length co39)) (fun _ hk => hk.2) (.slice Ao40 t507.length co40)) (fun _ h_ => h_.1))))) (Kd.R_lt (by (with_reducible repeat (first | apply Kd.R_alloc | apply Kd.R_drewN | apply Kd.R_drew)); exact (Kd.R_mono (Kd.R_far (p := ⟨gb511, 2, none⟩) (Kd.R_far (p := ⟨gb511, 1, none⟩) (Kd.R_far (p := ⟨gb511, 0, none⟩) (Kd.R_types HO509.out BK511.out (by decide)) (fun _ hk => hk.2) (.int .i64 t503)) (fun _ hk => hk.2) (.slice Ao39 t504.length co39)) (fun _ hk => hk.2) (.slice Ao40 t507.length co40)) (fun _ h_ => h_.1))))) (below_size (sqB))); have n6_ := sqLW (o' := .cells #[.int .i64 t494, .slice Ao33 t495.length co33, .slice Ao34 t498.length co34] 29 (0, 0)) BK502 hb; have n7_ := Aside0.mk (blk_below (g := gb511) (o := .cells #[.int .i64 t503, .slice Ao39 t504.length co39, .slice Ao40 t507.length co40] 29 (0, 0)) (by (with_reducible repeat (first | refine blk_drewN ?_ _ | refine blk_drew ?_ | refine blk_alloc ?_ _)); refine blk_put (cs := #[.int .i64 t503, .slice Ao39 t504.length co39, .slice none 0 0]) ?_ 2 _ rfl; (with_reducible repeat (first | refine blk_drewN ?_ _ | refine blk_drew ?_ | refine blk_alloc ?_ _)); refine blk_put (cs := #[.int .i64 t503, .slice none 0 0, .slice none 0 0]) ?_ 1 _ rfl; (with_reducible repeat (first | refine blk_drewN ?_ _ | refine blk_drew ?_ | refine blk_alloc ?_ _)); refine blk_put (cs := #[.int .i64 0, .slice none 0 0, .slice none 0 0]) ?_ 0 _ rfl; (with_reducible repeat (first | refine blk_drewN ?_ _ | refine blk_drew ?_ | refine blk_alloc ?_ _)); exact BK511.out) hb); have n8_ := sqS hb; clear HO497; clear HO500; clear HO506; clear HO509; clear BK502; clear BK511; clear HB; have HO497 := n0_; have HO500 := n1_; have HO506 := n2_; have HO509 := n3_; have HO517 := n4_; have HO520 := n5_; have BK502 := n6_; have BK511 := n7_; have HB := n8_; clear n0_ n1_ n2_ n3_ n4_ n5_ n6_ n7_ n8_; (try clear hb); (try clear hb2); (try clear hk); (try clear hi); (try clear ho0); (try clear ho1)) | ((with_reducible refine gate_dst (N := 12) rfl ?_); refine sqX (N := 12) (cs := #[.int .i64 0, .slice none 0 0, .slice none 0 0]) (t := 29) ?_; intro gb521 hg w42 hbox hb; replace HO497 := Aside0.mk (Kd.R_below (sqR HO497) hb); replace HO500 := Aside0.mk (Kd.R_below (sqR HO500) hb); replace HO506 := Aside0.mk (Kd.R_below (sqR HO506) hb); replace HO509 := Aside0.mk (Kd.R_below (sqR HO509) hb); replace HO517 := Aside0.mk (Kd.R_below (sqR HO517) hb); replace HO520 := Aside0.mk (Kd.Q_below (by (with_reducible repeat (first | apply Kd.Q_alloc | apply Kd.Q_drewN | apply Kd.Q_drew)); exact HO520.out) hb); have BK521 := Aside0.mk (hbox); have GW521 := sqG hg; have GE521 := sqG hg; have NB502_521 := sqN BK502 hg; have NB521_502 := sqM BK502 hg; replace BK502 := sqL BK502 hb; have NB511_521 := sqN BK511 hg; have NB521_511 := sqM BK511 hg; replace BK511 := sqL BK511 hb; replace HB := sqS hb; clear hb hbox hg; have hnb43 := NB521_502.out; have hnc43 := NB502_521.out; have hnb44 := NB521_511.out; have hnc44 := NB511_521.out; obtain ⟨hcz45_0, hcz45_1, hcz45_2, hfz45_0, hfz45_1, hfz45_2⟩ := sqC3 BK521; obtain ⟨Ao46, co46, eo46⟩ := Kd.R_slice HO517.out; subst eo46; obtain ⟨Ao47, co47, eo47, _⟩ := Kd.Q_slice HO520.out; subst eo47) | ((with_reducible refine gate_callee (f := 29) rfl ?_); refine goesL_ (some 48) rfl rfl Try.func29 (by kernel_rfl) rfl #[.slice A0 l0.length c0] rfl sqA ?_; (with_reducible refine (spec_DrawChainOf.calls k _ _ l0 t522 t523 _ ?side1 ?side2 A8.out).mono ?_); (case side1 => exact Kd.C_below HR0.out (sqB)); (case side2 => exact HC0.out); rintro e w48 ⟨rfl, hb⟩; refine ⟨_, rfl, ?_⟩; have n0_ := Aside0.mk (Kd.R_below (by (with_reducible repeat (first | apply Kd.R_alloc | apply Kd.R_drewN | apply Kd.R_drew)); exact (Kd.R_mono (Kd.R_far (p := ⟨gb521, 2, none⟩) (Kd.R_far (p := ⟨gb521, 1, none⟩) (Kd.R_far (p := ⟨gb521, 0, none⟩) (Kd.R_types HO497.out BK521.out (by decide)) (fun _ hk => hk.2) (.int .i64 t514)) (fun _ hk => hk.2) (.slice Ao46 t515.length co46)) (fun _ hk => hk.2) (.slice Ao47 t518.length co47)) (fun _ h_ => h_.1))) hb); have n1_ := Aside0.mk (Kd.R_below (by (with_reducible repeat (first | apply Kd.R_alloc | apply Kd.R_drewN | apply Kd.R_drew)); exact (Kd.R_mono (Kd.R_far (p := ⟨gb521, 2, none⟩) (Kd.R_far (p := ⟨gb521, 1, none⟩) (Kd.R_far (p := ⟨gb521, 0, none⟩) (Kd.R_types HO500.out BK521.out (by decide)) (fun _ hk => hk.2) (.int .i64 t514)) (fun _ hk => hk.2) (.slice Ao46 t515.length co46)) (fun _ hk => hk.2) (.slice Ao47 t518.length co47)) (fun _ h_ => h_.1))) hb); have n2_ := Aside0.mk (Kd.R_below (by (with_reducible repeat (first | apply Kd.R_alloc | apply Kd.R_drewN | apply Kd.R_drew)); exact (Kd.R_mono (Kd.R_far (p := ⟨gb521, 2, none⟩) (Kd.R_far (p := ⟨gb521, 1, none⟩) (Kd.R_far (p := ⟨gb521, 0, none⟩) (Kd.R_types HO506.out BK521.out (by decide)) (fun _ hk => hk.2) (.int .i64 t514)) (fun _ hk => hk.2) (.slice Ao46 t515.length co46)) (fun _ hk => hk.2) (.slice Ao47 t518.length co47)) (fun _ h_ => h_.1))) hb); have n3_ := Aside0.mk (Kd.R_below (by (with_reducible repeat (first | apply Kd.R_alloc | apply Kd.R_drewN | apply Kd.R_drew)); exact (Kd.R_mono (Kd.R_far (p := ⟨gb521, 2, none⟩) (Kd.R_far (p := ⟨gb521, 1, none⟩) (Kd.R_far (p := ⟨gb521, 0, none⟩) (Kd.R_types HO509.out BK521.out (by decide)) (fun _ hk => hk.2) (.int .i64 t514)) (fun _ hk => hk.2) (.slice Ao46 t515.length co46)) (fun _ hk => hk.2) (.slice Ao47 t518.length co47)) (fun _ h_ => h_.1))) hb); have n4_ := Aside0.mk (Kd.R_below (by (with_reducible repeat (first | apply Kd.R_alloc | apply Kd.R_drewN | apply Kd.R_drew)); exact (Kd.R_mono (Kd.R_far (p := ⟨gb521, 2, none⟩) (Kd.R_far (p := ⟨gb521, 1, none⟩) (Kd.R_far (p := ⟨gb521, 0, none⟩) (Kd.R_types HO517.out BK521.out (by decide)) (fun _ hk => hk.2) (.int .i64 t514)) (fun _ hk => hk.2) (.slice Ao46 t515.length co46)) (fun _ hk => hk.2) (.slice Ao47 t518.length co47)) (fun _ h_ => h_.1))) hb); have n5_ := Aside0.mk (Kd.Q_below (by (with_reducible repeat (first | apply Kd.Q_alloc | apply Kd.Q_drewN | apply Kd.Q_drew)); exact (Kd.Q_mono (Kd.Q_far (p := ⟨gb521, 2, none⟩) (Kd.Q_far (p := ⟨gb521, 1, none⟩) (Kd.Q_far (p := ⟨gb521, 0, none⟩) (Kd.Q_types HO520.out BK521.out (by decide)) (fun _ hk => hk.2) (.int .i64 t514)) (fun _ hk => hk.2) (.slice Ao46 t515.length co46)) (fun _ hk => hk.2) (.slice Ao47 t518.length co47)) (fun _ h_ => h_.1))) hb); have n6_ := sqLW (o' := .cells #[.int .i64 t494, .slice Ao33 t495.length co33, .slice Ao34 t498.length co34] 29 (0, 0)) BK502 hb; have n7_ := sqLW (o' := .cells #[.int .i64 t503, .slice Ao39 t504.length co39, .slice Ao40 t507.length co40] 29 (0, 0)) BK511 hb; have n8_ := Aside0.mk (blk_below (g := gb521) (o := .cells #[.int .i64 t514, .slice Ao46 t515.length co46, .slice Ao47 t518.length co47] 29 (0, 0)) (by (with_reducible repeat (first | refine blk_drewN ?_ _ | refine blk_drew ?_ | refine blk_alloc ?_ _)); refine blk_put (cs := #[.int .i64 t514, .slice Ao46 t515.length co46, .slice none 0 0]) ?_ 2 _ rfl; (with_reducible repeat (first | refine blk_drewN ?_ _ | refine blk_drew ?_ | refine blk_alloc ?_ _)); refine blk_put (cs := #[.int .i64 t514, .slice none 0 0, .slice none 0 0]) ?_ 1 _ rfl; (with_reducible repeat (first | refine blk_drewN ?_ _ | refine blk_drew ?_ | refine blk_alloc ?_ _)); refine blk_put (cs := #[.int .i64 0, .slice none 0 0, .slice none 0 0]) ?_ 0 _ rfl; (with_reducible repeat (first | refine blk_drewN ?_ _ | refine blk_drew ?_ | refine blk_alloc ?_ _)); exact BK521.out) hb); have n9_ := sqS hb; clear HO497; clear HO500; clear HO506; clear HO509; clear HO517; clear HO520; clear BK502; clear BK511; clear BK521; clear HB; have HO497 := n0_; have HO500 := n1_; have HO506 := n2_; have HO509 := n3_; have HO517 := n4_; have HO520 := n5_; have BK502 := n6_; have BK511 := n7_; have BK521 := n8_; have HB := n9_; clear n0_ n1_ n2_ n3_ n4_ n5_ n6_ n7_ n8_ n9_; (try clear hb); (try clear hb2); (try clear hk); (try clear hi)) | ((with_reducible refine gate_callee (f := 30) rfl ?_); refine goesL_ (some 53) rfl rfl Try.func30 (by kernel_rfl) rfl #[.slice A0 l0.length c0] rfl sqA ?_; (with_reducible refine (spec_DrawSecretOf.calls k _ _ l0 t524 t525 t526 _ ?side1 ?side2 A9.out).mono ?_); (case side1 => repeat (first | exact (Kd.C_below HR0.out HB.out) | (with_reducible refine Kd.C_alloc ?_ _) | (with_reducible refine Kd.C_drewN ?_ _) | (with_reducible refine Kd.C_drew ?_))); (case side2 => exact HC0.out); rintro e w49 ⟨rfl, hb⟩; refine ⟨_, rfl, ?_⟩; replace HO497 := Aside0.mk (Kd.R_below (sqR HO497) hb); replace HO500 := Aside0.mk (Kd.R_below (sqR HO500) hb); replace HO506 := Aside0.mk (Kd.R_below (sqR HO506) hb); replace HO509 := Aside0.mk (Kd.R_below (sqR HO509) hb); replace HO517 := Aside0.mk (Kd.R_below (sqR HO517) hb); replace HO520 := Aside0.mk (Kd.Q_below (by (with_reducible repeat (first | apply Kd.Q_alloc | apply Kd.Q_drewN | apply Kd.Q_drew)); exact HO520.out) hb); replace BK502 := sqL BK502 hb; replace BK511 := sqL BK511 hb; replace BK521 := sqL BK521 hb; replace HB := sqS hb; (try clear hb); (try clear hb2); (try clear hk); (try clear hi)))
        replace HO497 := Aside0.mk (Kd.R_drew HO497.out); replace HO500 := Aside0.mk (Kd.R_drew HO500.out); replace HO506 := Aside0.mk (Kd.R_drew HO506.out); replace HO509 := Aside0.mk (Kd.R_drew HO509.out); replace HO517 := Aside0.mk (Kd.R_drew HO517.out); replace HO520 := Aside0.mk (Kd.Q_drew HO520.out); replace BK502 := Aside0.mk (blk_drew BK502.out); replace BK511 := Aside0.mk (blk_drew BK511.out); replace BK521 := Aside0.mk (blk_drew BK521.out); replace HB := Aside0.mk (below_drew1 HB.out)
        refine start_ (n := 55) (S := fun w' => w'.cell? ⟨gb502, 0, none⟩ = some (.int .i64 t494) ∧ w'.cell? ⟨gb502, 1, none⟩ = some (.slice Ao33 t495.length co33) ∧ w'.cell? ⟨gb502, 2, none⟩ = some (.slice Ao34 t498.length co34) ∧ w'.cell? ⟨gb511, 0, none⟩ = some (.int .i64 t503) ∧ w'.cell? ⟨gb511, 1, none⟩ = some (.slice Ao39 t504.length co39) ∧ w'.cell? ⟨gb511, 2, none⟩ = some (.slice Ao40 t507.length co40) ∧ w'.cell? ⟨gb521, 0, none⟩ = some (.int .i64 t514) ∧ w'.cell? ⟨gb521, 1, none⟩ = some (.slice Ao46 t515.length co46) ∧ w'.cell? ⟨gb521, 2, none⟩ = some (.slice Ao47 t518.length co47)) (ds := []) (sqb 0 55) (by kernel_rfl) rfl rfl sqF (fun hHeld => ?_); refine with_tabW laws_FnSignsTold.tab9 laws_FnSignsTold.bits9 (fun HT_ HW_ => ?_)
        generalize w49.drew = w50 at HO497 HO500 HO506 HO509 HO517 HO520 BK502 BK511 BK521 HB hHeld ⊢
        refine sqP (i := 0) (N := some 57) (sqb 1 54) rfl rfl (any_of HT_.out (by kernel_rfl)) ?_
        refine sqP (i := 1) (N := some 58) (sqb 2 53) rfl rfl (any_of HT_.out (by kernel_rfl)) ?_
        refine sqP (i := 2) (N := some 59) (sqb 3 52) rfl rfl (any_of HT_.out (by kernel_rfl)) ?_
        refine sqP (i := 3) (N := some 60) (sqb 4 51) rfl rfl (any_of HT_.out (by kernel_rfl)) ?_
        refine sqTk (i := 4) (N := some 61) (sqb 5 50) rfl rfl (take_ofW HT_.out HW_.out (by kernel_rfl)) hHeld ?_
        refine sqTk (i := 5) (N := some 62) (sqb 6 49) rfl rfl (take_ofW HT_.out HW_.out (by kernel_rfl)) hHeld ?_
        refine one_ (i := 6) (N := some 63) (sqb 7 48) rfl rfl (one_of HT_.out (by kernel_rfl)) (by decide) (fun K hK => ?_)
        refine goes_ Try.func31 (by kernel_rfl) rfl #[.agg #[.int .i64 t494, .slice Ao33 t495.length co33, .slice Ao34 t498.length co34], .agg #[.int .i64 t503, .slice Ao39 t504.length co39, .slice Ao40 t507.length co40]] (by rfl) rfl rfl sqA ?_
        with_reducible refine (laws_sameSign.calls k t494 _ _ t495 _ _ t498 t503 _ _ t504 _ _ t507 true _ ?side1 ?side2 ?side3 ?side4 ?side5 ?side6 ?side7 ?side8 A11.out).mono ?_
        (case side1 => repeat (first | exact (Kd.R_reads' HO497.out).2.2 | (with_reducible refine Kd.C_alloc ?_ _) | (with_reducible refine Kd.C_drewN ?_ _) | (with_reducible refine Kd.C_drew ?_)))
        (case side2 => exact (Kd.R_reads' HO497.out).2.1)
        (case side3 => repeat (first | exact (Kd.R_reads' HO500.out).2.2 | (with_reducible refine Kd.C_alloc ?_ _) | (with_reducible refine Kd.C_drewN ?_ _) | (with_reducible refine Kd.C_drew ?_)))
        (case side4 => exact (Kd.R_reads' HO500.out).2.1)
        (case side5 => repeat (first | exact (Kd.R_reads' HO506.out).2.2 | (with_reducible refine Kd.C_alloc ?_ _) | (with_reducible refine Kd.C_drewN ?_ _) | (with_reducible refine Kd.C_drew ?_)))
        (case side6 => exact (Kd.R_reads' HO506.out).2.1)
        (case side7 => repeat (first | exact (Kd.R_reads' HO509.out).2.2 | (with_reducible refine Kd.C_alloc ?_ _) | (with_reducible refine Kd.C_drewN ?_ _) | (with_reducible refine Kd.C_drew ?_)))
        (case side8 => exact (Kd.R_reads' HO509.out).2.1)
        rintro e w51 ⟨rfl, hb⟩
        refine ⟨_, rfl, ?_⟩
        replace HO497 := Aside0.mk (Kd.R_below (sqR HO497) hb); replace HO500 := Aside0.mk (Kd.R_below (sqR HO500) hb); replace HO506 := Aside0.mk (Kd.R_below (sqR HO506) hb); replace HO509 := Aside0.mk (Kd.R_below (sqR HO509) hb); replace HO517 := Aside0.mk (Kd.R_below (sqR HO517) hb); replace HO520 := Aside0.mk (Kd.Q_below (by (with_reducible repeat (first | apply Kd.Q_alloc | apply Kd.Q_drewN | apply Kd.Q_drew)); exact HO520.out) hb); replace BK502 := sqL BK502 hb; replace BK511 := sqL BK511 hb; replace BK521 := sqL BK521 hb; replace HB := sqS hb
        (try clear hb)
        (try clear hb2)
        (try clear hk)
        (try clear hi)
        refine hK.out _ _ sqF (fun hHeld => ?_)
        clear hK K
        refine sqV (N := some 63) ?_
        refine sqP (i := 7) (N := some 64) (sqb 8 47) rfl rfl (any_of HT_.out (by kernel_rfl)) ?_
        refine sqP (i := 8) (N := some 65) (sqb 9 46) rfl rfl (any_of HT_.out (by kernel_rfl)) ?_
        refine sqP (i := 9) (N := some 66) (sqb 10 45) rfl rfl (any_of HT_.out (by kernel_rfl)) ?_
        refine sqP (i := 10) (N := some 67) (sqb 11 44) rfl rfl (any_of HT_.out (by kernel_rfl)) ?_
        refine sqP (i := 13) (N := some 70) (sqr [11, 2, 1, 41]) rfl rfl (any_of HT_.out (by kernel_rfl)) ?_
        refine sqP (i := 14) (N := some 71) (sqr [11, 2, 2, 40]) rfl rfl (any_of HT_.out (by kernel_rfl)) ?_
        refine sqTk (i := 11) (N := some 68) (sqr [12, 1, 2, 40]) rfl rfl (take_ofW HT_.out HW_.out (by kernel_rfl)) hHeld ?_
        refine sqTk (i := 15) (N := some 72) (sqr [12, 1, 3, 39]) rfl rfl (take_ofW HT_.out HW_.out (by kernel_rfl)) hHeld ?_
        refine one_ (i := 12) (N := some 69) (sqb 16 39) rfl rfl (one_of HT_.out (by kernel_rfl)) (by decide) (fun K hK => ?_)
        refine goes_ Try.func15 (by kernel_rfl) rfl #[.string t512, .string t513, .agg #[.int .i64 t514, .slice Ao46 t515.length co46, .slice Ao47 t518.length co47]] (by rfl) rfl rfl sqA ?_
        with_reducible refine (impl_SignedBy.calls k t512 t513 t514 _ _ t515 _ _ t518 t528 _ ?side1 ?side2 ?side3 ?side4 A13.out).mono ?_
        (case side1 => repeat (first | exact (Kd.R_reads' HO517.out).2.2 | (with_reducible refine Kd.C_alloc ?_ _) | (with_reducible refine Kd.C_drewN ?_ _) | (with_reducible refine Kd.C_drew ?_)))
        (case side2 => exact (Kd.R_reads' HO517.out).2.1)
        (case side3 => repeat (first | exact (Kd.Q_reads' HO520.out).2.2 | (with_reducible refine Kd.C_alloc ?_ _) | (with_reducible refine Kd.C_drewN ?_ _) | (with_reducible refine Kd.C_drew ?_)))
        (case side4 => exact (Kd.Q_reads' HO520.out).2.1)
        rintro e w52 ⟨rfl, hb⟩
        refine ⟨_, rfl, ?_⟩
        replace HO497 := Aside0.mk (Kd.R_below (sqR HO497) hb); replace HO500 := Aside0.mk (Kd.R_below (sqR HO500) hb); replace HO506 := Aside0.mk (Kd.R_below (sqR HO506) hb); replace HO509 := Aside0.mk (Kd.R_below (sqR HO509) hb); replace HO517 := Aside0.mk (Kd.R_below (sqR HO517) hb); replace HO520 := Aside0.mk (Kd.Q_below (by (with_reducible repeat (first | apply Kd.Q_alloc | apply Kd.Q_drewN | apply Kd.Q_drew)); exact HO520.out) hb); replace BK502 := sqL BK502 hb; replace BK511 := sqL BK511 hb; replace BK521 := sqL BK521 hb; replace HB := sqS hb
        (try clear hb)
        (try clear hb2)
        (try clear hk)
        (try clear hi)
        refine hK.out _ _ sqF (fun hHeld => ?_)
        clear hK K
        refine sqV (N := some 69) ?_
        refine one_ (i := 16) (N := some 73) (sqb 17 38) rfl rfl (one_of HT_.out (by kernel_rfl)) (by decide) (fun K hK => ?_)
        refine goes_ Try.func21 (by kernel_rfl) rfl #[.string t512, .string t513, .agg #[.int .i64 t514, .slice Ao46 t515.length co46, .slice Ao47 t518.length co47]] (by rfl) rfl rfl sqA ?_
        with_reducible refine (spec_SignedBy.calls k t512 t513 t514 _ _ t515 _ _ t518 t529 _ ?side1 ?side2 ?side3 ?side4 A14.out).mono ?_
        (case side1 => repeat (first | exact (Kd.R_reads' HO517.out).2.2 | (with_reducible refine Kd.C_alloc ?_ _) | (with_reducible refine Kd.C_drewN ?_ _) | (with_reducible refine Kd.C_drew ?_)))
        (case side2 => exact (Kd.R_reads' HO517.out).2.1)
        (case side3 => repeat (first | exact (Kd.Q_reads' HO520.out).2.2 | (with_reducible refine Kd.C_alloc ?_ _) | (with_reducible refine Kd.C_drewN ?_ _) | (with_reducible refine Kd.C_drew ?_)))
        (case side4 => exact (Kd.Q_reads' HO520.out).2.1)
        rintro e w53 ⟨rfl, hb⟩
        refine ⟨_, rfl, ?_⟩
        replace HO497 := Aside0.mk (Kd.R_below (sqR HO497) hb); replace HO500 := Aside0.mk (Kd.R_below (sqR HO500) hb); replace HO506 := Aside0.mk (Kd.R_below (sqR HO506) hb); replace HO509 := Aside0.mk (Kd.R_below (sqR HO509) hb); replace HO517 := Aside0.mk (Kd.R_below (sqR HO517) hb); replace HO520 := Aside0.mk (Kd.Q_below (by (with_reducible repeat (first | apply Kd.Q_alloc | apply Kd.Q_drewN | apply Kd.Q_drew)); exact HO520.out) hb); replace BK502 := sqL BK502 hb; replace BK511 := sqL BK511 hb; replace BK521 := sqL BK521 hb; replace HB := sqS hb
        (try clear hb)
        (try clear hb2)
        (try clear hk)
        (try clear hi)
        refine hK.out _ _ sqF (fun hHeld => ?_)
        clear hK K
        refine sqV (N := some 73) ?_
        refine sqP (i := 17) (N := some 74) (sqb 18 37) rfl rfl (any_of HT_.out (by kernel_rfl)) ?_
        refine sqP (i := 18) (N := some 75) (sqb 19 36) rfl rfl (any_of HT_.out (by kernel_rfl)) ?_
        refine sqP (i := 19) (N := some 76) (sqb 20 35) rfl rfl (any_of HT_.out (by kernel_rfl)) ?_
        refine sqP (i := 20) (N := some 77) (sqb 21 34) rfl rfl (any_of HT_.out (by kernel_rfl)) ?_
        refine sqP (i := 21) (N := some 78) (sqb 22 33) rfl rfl (any_of HT_.out (by kernel_rfl)) ?_
        refine sqP (i := 23) (N := some 80) (sqr [22, 1, 1, 31]) rfl rfl (any_of HT_.out (by kernel_rfl)) ?_
        refine sqP (i := 24) (N := some 81) (sqr [22, 1, 2, 30]) rfl rfl (any_of HT_.out (by kernel_rfl)) ?_
        refine one_ (i := 22) (N := some 79) (sqb 25 30) rfl rfl (one_of HT_.out (by kernel_rfl)) (by decide) (fun K hK => ?_)
        refine goes_ Try.func32 (by kernel_rfl) rfl #[.string t522, .int .i64 t523] (by rfl) rfl rfl sqA ?_
        with_reducible refine (impl_ChainOf.calls k t522 t523 t530 _ A16.out).mono ?_
        rintro e w54 ⟨rfl, hb⟩
        refine ⟨_, rfl, ?_⟩
        replace HO497 := Aside0.mk (Kd.R_below (sqR HO497) hb); replace HO500 := Aside0.mk (Kd.R_below (sqR HO500) hb); replace HO506 := Aside0.mk (Kd.R_below (sqR HO506) hb); replace HO509 := Aside0.mk (Kd.R_below (sqR HO509) hb); replace HO517 := Aside0.mk (Kd.R_below (sqR HO517) hb); replace HO520 := Aside0.mk (Kd.Q_below (by (with_reducible repeat (first | apply Kd.Q_alloc | apply Kd.Q_drewN | apply Kd.Q_drew)); exact HO520.out) hb); replace BK502 := sqL BK502 hb; replace BK511 := sqL BK511 hb; replace BK521 := sqL BK521 hb; replace HB := sqS hb
        (try clear hb)
        (try clear hb2)
        (try clear hk)
        (try clear hi)
        refine hK.out _ _ sqF (fun hHeld => ?_)
        clear hK K
        refine sqV (N := some 79) ?_
        refine one_ (i := 25) (N := some 82) (sqb 26 29) rfl rfl (one_of HT_.out (by kernel_rfl)) (by decide) (fun K hK => ?_)
        refine goes_ Try.func13 (by kernel_rfl) rfl #[.string t522, .int .i64 t523] (by rfl) rfl rfl sqA ?_
        with_reducible refine (spec_ChainOf.calls k t522 t523 t531 _ A17.out).mono ?_
        rintro e w55 ⟨rfl, hb⟩
        refine ⟨_, rfl, ?_⟩
        replace HO497 := Aside0.mk (Kd.R_below (sqR HO497) hb); replace HO500 := Aside0.mk (Kd.R_below (sqR HO500) hb); replace HO506 := Aside0.mk (Kd.R_below (sqR HO506) hb); replace HO509 := Aside0.mk (Kd.R_below (sqR HO509) hb); replace HO517 := Aside0.mk (Kd.R_below (sqR HO517) hb); replace HO520 := Aside0.mk (Kd.Q_below (by (with_reducible repeat (first | apply Kd.Q_alloc | apply Kd.Q_drewN | apply Kd.Q_drew)); exact HO520.out) hb); replace BK502 := sqL BK502 hb; replace BK511 := sqL BK511 hb; replace BK521 := sqL BK521 hb; replace HB := sqS hb
        (try clear hb)
        (try clear hb2)
        (try clear hk)
        (try clear hi)
        refine hK.out _ _ sqF (fun hHeld => ?_)
        clear hK K
        refine sqV (N := some 82) ?_
        refine sqP (i := 26) (N := some 83) (sqb 27 28) rfl rfl (any_of HT_.out (by kernel_rfl)) ?_
        refine sqP (i := 27) (N := some 84) (sqb 28 27) rfl rfl (any_of HT_.out (by kernel_rfl)) ?_
        refine sqP (i := 28) (N := some 85) (sqb 29 26) rfl rfl (any_of HT_.out (by kernel_rfl)) ?_
        refine sqP (i := 29) (N := some 86) (sqb 30 25) rfl rfl (any_of HT_.out (by kernel_rfl)) ?_
        refine sqP (i := 30) (N := some 87) (sqb 31 24) rfl rfl (any_of HT_.out (by kernel_rfl)) ?_
        refine sqP (i := 31) (N := some 88) (sqb 32 23) rfl rfl (any_of HT_.out (by kernel_rfl)) ?_
        refine sqP (i := 33) (N := some 90) (sqr [32, 1, 1, 21]) rfl rfl (any_of HT_.out (by kernel_rfl)) ?_
        refine sqP (i := 34) (N := some 91) (sqr [32, 1, 2, 20]) rfl rfl (any_of HT_.out (by kernel_rfl)) ?_
        refine sqP (i := 35) (N := some 92) (sqr [32, 1, 3, 19]) rfl rfl (any_of HT_.out (by kernel_rfl)) ?_
        refine one_ (i := 32) (N := some 89) (sqb 36 19) rfl rfl (one_of HT_.out (by kernel_rfl)) (by decide) (fun K hK => ?_)
        refine goes_ Try.func14 (by kernel_rfl) rfl #[.int .i64 t524, .int .i64 t525, .int .i64 t526] (by rfl) rfl rfl sqA ?_
        with_reducible refine (impl_SecretOf.calls k t524 t525 t526 t532 _ A19.out).mono ?_
        rintro e w56 ⟨rfl, hb⟩
        refine ⟨_, rfl, ?_⟩
        replace HO497 := Aside0.mk (Kd.R_below (sqR HO497) hb); replace HO500 := Aside0.mk (Kd.R_below (sqR HO500) hb); replace HO506 := Aside0.mk (Kd.R_below (sqR HO506) hb); replace HO509 := Aside0.mk (Kd.R_below (sqR HO509) hb); replace HO517 := Aside0.mk (Kd.R_below (sqR HO517) hb); replace HO520 := Aside0.mk (Kd.Q_below (by (with_reducible repeat (first | apply Kd.Q_alloc | apply Kd.Q_drewN | apply Kd.Q_drew)); exact HO520.out) hb); replace BK502 := sqL BK502 hb; replace BK511 := sqL BK511 hb; replace BK521 := sqL BK521 hb; replace HB := sqS hb
        (try clear hb)
        (try clear hb2)
        (try clear hk)
        (try clear hi)
        refine hK.out _ _ sqF (fun hHeld => ?_)
        clear hK K
        refine sqV (N := some 89) ?_
        refine one_ (i := 36) (N := some 93) (sqb 37 18) rfl rfl (one_of HT_.out (by kernel_rfl)) (by decide) (fun K hK => ?_)
        refine goes_ Try.func33 (by kernel_rfl) rfl #[.int .i64 t524, .int .i64 t525, .int .i64 t526] (by rfl) rfl rfl sqA ?_
        with_reducible refine (spec_SecretOf.calls k t524 t525 t526 t533 _ A20.out).mono ?_
        rintro e w57 ⟨rfl, hb⟩
        refine ⟨_, rfl, ?_⟩
        replace HO497 := Aside0.mk (Kd.R_below (sqR HO497) hb); replace HO500 := Aside0.mk (Kd.R_below (sqR HO500) hb); replace HO506 := Aside0.mk (Kd.R_below (sqR HO506) hb); replace HO509 := Aside0.mk (Kd.R_below (sqR HO509) hb); replace HO517 := Aside0.mk (Kd.R_below (sqR HO517) hb); replace HO520 := Aside0.mk (Kd.Q_below (by (with_reducible repeat (first | apply Kd.Q_alloc | apply Kd.Q_drewN | apply Kd.Q_drew)); exact HO520.out) hb); replace BK502 := sqL BK502 hb; replace BK511 := sqL BK511 hb; replace BK521 := sqL BK521 hb; replace HB := sqS hb
        (try clear hb)
        (try clear hb2)
        (try clear hk)
        (try clear hi)
        refine hK.out _ _ sqF (fun hHeld => ?_)
        clear hK K
        refine sqV (N := some 93) ?_
        refine sqP (i := 37) (N := some 94) (sqb 38 17) rfl rfl (any_of HT_.out (by kernel_rfl)) ?_
        refine sqP (i := 38) (N := some 95) (sqb 39 16) rfl rfl (any_of HT_.out (by kernel_rfl)) ?_
        refine sqP (i := 39) (N := some 96) (sqb 40 15) rfl rfl (any_of HT_.out (by kernel_rfl)) ?_
        refine sqP (i := 40) (N := some 97) (sqb 41 14) rfl rfl (any_of HT_.out (by kernel_rfl)) ?_
        refine sqP (i := 42) (N := some 99) (sqr [41, 1, 1, 12]) rfl rfl (any_of HT_.out (by kernel_rfl)) ?_
        refine one_ (i := 41) (N := some 98) (sqb 43 12) rfl rfl (one_of HT_.out (by kernel_rfl)) (by decide) (fun K hK => ?_)
        refine goes_ Try.func12 (by kernel_rfl) rfl #[.string t513] (by rfl) rfl rfl sqA ?_
        with_reducible refine (impl_QuadsOf.calls k t513 t534 _ A22.out).mono ?_
        rintro e w58 ⟨v535, rfl, ho0, hb⟩
        refine ⟨_, rfl, ?_⟩
        replace HO497 := Aside0.mk (Kd.R_below (sqR HO497) hb); replace HO500 := Aside0.mk (Kd.R_below (sqR HO500) hb); replace HO506 := Aside0.mk (Kd.R_below (sqR HO506) hb); replace HO509 := Aside0.mk (Kd.R_below (sqR HO509) hb); replace HO517 := Aside0.mk (Kd.R_below (sqR HO517) hb); replace HO520 := Aside0.mk (Kd.Q_below (by (with_reducible repeat (first | apply Kd.Q_alloc | apply Kd.Q_drewN | apply Kd.Q_drew)); exact HO520.out) hb); have HO536 := Aside0.mk (Kd.R_lower ho0 (below_size (sqB))); replace BK502 := sqL BK502 hb; replace BK511 := sqL BK511 hb; replace BK521 := sqL BK521 hb; replace HB := sqS hb
        (try clear hb)
        (try clear hb2)
        (try clear hk)
        (try clear hi)
        (try clear ho0)
        refine hK.out _ _ sqF (fun hHeld => ?_)
        clear hK K
        refine sqV (N := some 98) ?_
        refine one_ (i := 43) (N := some 100) (sqb 44 11) rfl rfl (one_of HT_.out (by kernel_rfl)) (by decide) (fun K hK => ?_)
        refine goes_ Try.func35 (by kernel_rfl) rfl #[.string t513] (by rfl) rfl rfl sqA ?_
        with_reducible refine (spec_QuadsOf.calls k t513 t537 _ A23.out).mono ?_
        rintro e w59 ⟨v538, rfl, ho0, hb⟩
        refine ⟨_, rfl, ?_⟩
        replace HO497 := Aside0.mk (Kd.R_below (sqR HO497) hb); replace HO500 := Aside0.mk (Kd.R_below (sqR HO500) hb); replace HO506 := Aside0.mk (Kd.R_below (sqR HO506) hb); replace HO509 := Aside0.mk (Kd.R_below (sqR HO509) hb); replace HO517 := Aside0.mk (Kd.R_below (sqR HO517) hb); replace HO520 := Aside0.mk (Kd.Q_below (by (with_reducible repeat (first | apply Kd.Q_alloc | apply Kd.Q_drewN | apply Kd.Q_drew)); exact HO520.out) hb); have HO539 := Aside0.mk (Kd.R_lower (Kd.R_new' ho0 (Kd.R_lt (sqR HO536))) (below_size (sqB))); replace HO536 := Aside0.mk (Kd.R_elder' (sqR HO536) (Kd.R_base ho0) hb); replace BK502 := sqL BK502 hb; replace BK511 := sqL BK511 hb; replace BK521 := sqL BK521 hb; replace HB := sqS hb
        (try clear hb)
        (try clear hb2)
        (try clear hk)
        (try clear hi)
        (try clear ho0)
        obtain ⟨Ao60, co60, eo60⟩ := Kd.R_slice HO536.out
        (first | subst eo60 | (injection eo60 with f1_ f2_ f3_; have f4_ := f1_.symm; have f5_ := f3_.symm; clear f1_ f2_ f3_; subst f4_; subst f5_))
        obtain ⟨Ao61, co61, eo61⟩ := Kd.R_slice HO539.out
        (first | subst eo61 | (injection eo61 with f1_ f2_ f3_; have f4_ := f1_.symm; have f5_ := f3_.symm; clear f1_ f2_ f3_; subst f4_; subst f5_))
        refine hK.out _ _ sqF (fun hHeld => ?_)
        clear hK K
        refine sqV (N := some 100) ?_
        refine one_ (i := 44) (N := some 101) (sqb 45 10) rfl rfl (one_of HT_.out (by kernel_rfl)) (by decide) (fun K hK => ?_)
        refine goes_ Try.func34 (by kernel_rfl) rfl #[.slice Ao60 t534.length co60, .slice Ao61 t537.length co61] (by rfl) rfl rfl sqA ?_
        with_reducible refine (laws_sameInts.calls k _ _ t534 _ _ t537 true _ ?side1 ?side2 ?side3 ?side4 A24.out).mono ?_
        (case side1 => repeat (first | exact (Kd.R_reads' HO536.out).2.2 | (with_reducible refine Kd.C_alloc ?_ _) | (with_reducible refine Kd.C_drewN ?_ _) | (with_reducible refine Kd.C_drew ?_)))
        (case side2 => exact (Kd.R_reads' HO536.out).2.1)
        (case side3 => repeat (first | exact (Kd.R_reads' HO539.out).2.2 | (with_reducible refine Kd.C_alloc ?_ _) | (with_reducible refine Kd.C_drewN ?_ _) | (with_reducible refine Kd.C_drew ?_)))
        (case side4 => exact (Kd.R_reads' HO539.out).2.1)
        rintro e w' ⟨rfl, ⟨nd, rfl⟩⟩
        refine ⟨_, rfl, ?_⟩
        refine hK.out _ _ sqF (fun hHeld => ?_)
        clear hK K
        refine sqV (N := some 101) ?_
        refine sqP (i := 45) (N := some 102) (sqb 46 9) rfl rfl (any_of HT_.out (by kernel_rfl)) ?_
        refine sqP (i := 46) (N := some 103) (sqb 47 8) rfl rfl (any_of HT_.out (by kernel_rfl)) ?_
        refine sqP (i := 47) (N := some 104) (sqb 48 7) rfl rfl (any_of HT_.out (by kernel_rfl)) ?_
        refine sqP (i := 50) (N := some 107) (sqr [48, 2, 1, 4]) rfl rfl (any_of HT_.out (by kernel_rfl)) ?_
        refine one_ (i := 48) (N := some 105) (sqr [49, 1, 1, 4]) rfl rfl (one_of HT_.out (by kernel_rfl)) (by decide) (fun K hK => ?_)
        refine goes_ Try.func32 (by kernel_rfl) rfl #[.string t522, .int .i64 1] (by rfl) rfl rfl sqA ?_
        with_reducible refine (impl_ChainOf.calls k t522 1 t541 _ A26.out).mono ?_
        rintro e w62 ⟨rfl, hb⟩
        refine ⟨_, rfl, ?_⟩
        replace HO497 := Aside0.mk (Kd.R_below (sqR HO497) hb); replace HO500 := Aside0.mk (Kd.R_below (sqR HO500) hb); replace HO506 := Aside0.mk (Kd.R_below (sqR HO506) hb); replace HO509 := Aside0.mk (Kd.R_below (sqR HO509) hb); replace HO517 := Aside0.mk (Kd.R_below (sqR HO517) hb); replace HO520 := Aside0.mk (Kd.Q_below (by (with_reducible repeat (first | apply Kd.Q_alloc | apply Kd.Q_drewN | apply Kd.Q_drew)); exact HO520.out) hb); replace HO536 := Aside0.mk (Kd.R_below (sqR HO536) hb); replace HO539 := Aside0.mk (Kd.R_below (sqR HO539) hb); replace BK502 := sqL BK502 hb; replace BK511 := sqL BK511 hb; replace BK521 := sqL BK521 hb; replace HB := sqS hb
        (try clear hb)
        (try clear hb2)
        (try clear hk)
        (try clear hi)
        refine hK.out _ _ sqF (fun hHeld => ?_)
        clear hK K
        refine sqV (N := some 105) ?_
        refine one_ (i := 49) (N := some 106) (sqb 51 4) rfl rfl (one_of HT_.out (by kernel_rfl)) (by decide) (fun K hK => ?_)
        refine goes_ Try.func32 (by kernel_rfl) rfl #[.string t541, .int .i64 2] (by rfl) rfl rfl sqA ?_
        with_reducible refine (impl_ChainOf.calls k t541 2 t542 _ A27.out).mono ?_
        rintro e w63 ⟨rfl, hb⟩
        refine ⟨_, rfl, ?_⟩
        replace HO497 := Aside0.mk (Kd.R_below (sqR HO497) hb); replace HO500 := Aside0.mk (Kd.R_below (sqR HO500) hb); replace HO506 := Aside0.mk (Kd.R_below (sqR HO506) hb); replace HO509 := Aside0.mk (Kd.R_below (sqR HO509) hb); replace HO517 := Aside0.mk (Kd.R_below (sqR HO517) hb); replace HO520 := Aside0.mk (Kd.Q_below (by (with_reducible repeat (first | apply Kd.Q_alloc | apply Kd.Q_drewN | apply Kd.Q_drew)); exact HO520.out) hb); replace HO536 := Aside0.mk (Kd.R_below (sqR HO536) hb); replace HO539 := Aside0.mk (Kd.R_below (sqR HO539) hb); replace BK502 := sqL BK502 hb; replace BK511 := sqL BK511 hb; replace BK521 := sqL BK521 hb; replace HB := sqS hb
        (try clear hb)
        (try clear hb2)
        (try clear hk)
        (try clear hi)
        refine hK.out _ _ sqF (fun hHeld => ?_)
        clear hK K
        refine sqV (N := some 106) ?_
        refine one_ (i := 51) (N := some 108) (sqb 52 3) rfl rfl (one_of HT_.out (by kernel_rfl)) (by decide) (fun K hK => ?_)
        refine goes_ Try.func32 (by kernel_rfl) rfl #[.string t522, .int .i64 3] (by rfl) rfl rfl sqA ?_
        with_reducible refine (impl_ChainOf.calls k t522 3 t543 _ A28.out).mono ?_
        rintro e w64 ⟨rfl, hb⟩
        refine ⟨_, rfl, ?_⟩
        replace HO497 := Aside0.mk (Kd.R_below (sqR HO497) hb); replace HO500 := Aside0.mk (Kd.R_below (sqR HO500) hb); replace HO506 := Aside0.mk (Kd.R_below (sqR HO506) hb); replace HO509 := Aside0.mk (Kd.R_below (sqR HO509) hb); replace HO517 := Aside0.mk (Kd.R_below (sqR HO517) hb); replace HO520 := Aside0.mk (Kd.Q_below (by (with_reducible repeat (first | apply Kd.Q_alloc | apply Kd.Q_drewN | apply Kd.Q_drew)); exact HO520.out) hb); replace HO536 := Aside0.mk (Kd.R_below (sqR HO536) hb); replace HO539 := Aside0.mk (Kd.R_below (sqR HO539) hb); replace BK502 := sqL BK502 hb; replace BK511 := sqL BK511 hb; replace BK521 := sqL BK521 hb; replace HB := sqS hb
        (try clear hb)
        (try clear hb2)
        (try clear hk)
        (try clear hi)
        refine hK.out _ _ sqF (fun hHeld => ?_)
        clear hK K
        refine sqV (N := some 108) ?_
        refine sqP (i := 52) (N := some 109) (sqb 53 2) rfl rfl (any_of HT_.out (by kernel_rfl)) ?_
        refine sqP (i := 53) (N := some 110) (sqb 54 1) rfl rfl (any_of HT_.out (by kernel_rfl)) ?_
        refine sqP (i := 54) (N := some 2) (sqb 55 0) rfl rfl (any_of HT_.out (by kernel_rfl)) ?_
        refine done_ (done_of HT_.out (by kernel_rfl)) ?_
        try go_wp2
        go_ret
        exact ⟨sqE, sqB⟩
       ·replace c25 := Bool.eq_false_iff.mpr c25
        subst c25
        have H1 : (some false) = some r := by rw [if_neg (show ¬ (false = true) by decide)] at H; exact H
        exact absurd ((Option.some.inj H1).trans HRT.out) (by decide)
      ·rw [if_neg c21] at H
       exact absurd ((Option.some.inj H).trans HRT.out) (by decide)
     ·rw [if_neg c18] at H
      exact absurd ((Option.some.inj H).trans HRT.out) (by decide)
    ·rw [if_neg c15] at H
     exact absurd ((Option.some.inj H).trans HRT.out) (by decide)
   ·replace c12 := Bool.eq_false_iff.mpr c12
    subst c12
    have H1 : (some false) = some r := by rw [if_neg (show ¬ (false = true) by decide)] at H; exact H
    exact absurd ((Option.some.inj H1).trans HRT.out) (by decide)
  ·rw [if_neg c10] at H
   exact absurd ((Option.some.inj H).trans HRT.out) (by decide)

/-- THE ONE PURE STATEMENT of laws_FnSignsTold: yours. -/
def laws_FnSignsTold.Pure : Prop := ∀ (l0 : List Int), l0.length ≤ maxLen → l0.length * 1 ≤ 140737488351232 → (∀ x ∈ l0, (Lit.int .u8 x).wf = true) → ∃ k, laws_FnSignsTold.f k l0 = some true
theorem laws_FnSignsTold.walk (P : laws_FnSignsTold.Pure) (a0 : Option Addr) (len0 cap0 : Nat) (z0 : List Int) (w : World) (w0 : (a0 = none ∧ len0 = 0 ∧ cap0 = 0 ∧ z0 = []) ∨ ∃ x, a0 = some x ∧ len0 ≤ cap0 ∧ cap0 ≤ maxLen ∧ z0.length = cap0 ∧ (∀ i, i < z0.length → w.cell? (x.add i) = some (.int .u8 (z0.getD i 0))) ∧ ∀ n ∈ z0, (Lit.int .u8 n).wf = true) (y0 : len0 * 1 ≤ 140737488351232) :
  Calls Try.prog 7 #[.slice a0 len0 cap0] w fun e w' => e = .returned (.bool true) ∧ Below w.heap.size w w' := by
 obtain ⟨l0, rfl, hr0, hm0, hw0, hc0⟩ := ReadsInt.ofRowC w0
 obtain ⟨k, h⟩ := P l0 hm0 y0 hw0
 refine (laws_FnSignsTold.calls k _ _ l0 true w (Kd.C_of_reads (d := (0 : Int)) (h1 := fun _ => rfl) hr0) hc0 h rfl).mono ?_
 rintro e w' ⟨rfl, hd⟩
 exact ⟨rfl, hd⟩

end Go.Proofs.Ytckjobcagniieaa.PFnSignsTold
