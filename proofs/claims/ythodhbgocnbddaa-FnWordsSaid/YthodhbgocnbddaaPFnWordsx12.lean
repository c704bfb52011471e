/- What the code that one law of the given program reaches computes, function by function, each with its proof over the given translation.
Conditions: none of our own. (Laid by a program of this session, wip/xp/xp.py; some contracts are typed by hand.) -/
import Derived.Test.YthodhbgocnbddaaPFnWordsx0
import Derived.Test.YthodhbgocnbddaaPFnWordsx3
import Derived.Test.YthodhbgocnbddaaPFnWordsx8
namespace Go.Proofs.Ythodhbgocnbddaa.PFnWords
open Go.RowKit Go.Proofs.YthodhbgocnbddaaW.PrintWords Go.Proofs.YthodhbgocnbddaaW.PrintLast Go.Proofs.YthodhbgocnbddaaW.PrintMore
attribute [local go_sem] max2_int min2_int max_two min_two max_three min_three max_four min_four   -- for this text's walks alone
set_option linter.unusedVariables false
set_option linter.unusedSimpArgs false

/-! ### spec_DrawCredOk: function 10 -/
def spec_DrawCredOk.f (k : Nat) (l0 : List Int) : Option (Int × Int × Int × Int × Int × Int × Int × Int × Int × Int) := (spec_l01New.f k l0).bind fun bt385 => ((spec_l05Any.f bt385.1 bt385.2.1 bt385.2.2).bind fun bt389 => (some (bt389.1, bt389.2.1, bt389.2.2.1, bt389.2.2.2.1, bt389.2.2.2.2.1, bt389.2.2.2.2.2.1, bt389.2.2.2.2.2.2.1, bt389.2.2.2.2.2.2.2.1, bt389.2.2.2.2.2.2.2.2.1, bt389.2.2.2.2.2.2.2.2.2.1)))
theorem spec_DrawCredOk.mono : ∀ a0 k, LeO (spec_DrawCredOk.f k a0) (spec_DrawCredOk.f (k + 1) a0) := by
 intro a0 k
 unfold spec_DrawCredOk.f
 repeat' first
   | (with_reducible exact spec_l01New.mono _ _)
   | (with_reducible exact LeO.refl _)
   | (with_reducible exact LeO.none _)
   | (with_reducible refine LeO.ite ?_ ?_)
   | (with_reducible refine LeO.bind ?_ (fun _ => ?_))
   | exact spec_l01New.mono _ _
   | exact LeO.none _
   | refine LeO.ite ?_ ?_
   | refine LeO.bind ?_ (fun _ => ?_)
set_option maxHeartbeats 8000000 in
set_option maxRecDepth 100000 in
theorem spec_DrawCredOk.calls (k : Nat) (A0 : Option Addr) (c0 : Nat) (l0 : List Int) (r1 : Int) (r2 : Int) (r3 : Int) (r4 : Int) (r5 : Int) (r6 : Int) (r7 : Int) (r8 : Int) (r9 : Int) (r10 : Int) (w : World) (hr0 : Kd.C (Kd.int .u8) w A0 l0.length l0) (hc0 : l0.length ≤ c0) (h : spec_DrawCredOk.f k l0 = some (r1, r2, r3, r4, r5, r6, r7, r8, r9, r10)) :
  Calls Try.prog 10 #[.slice A0 l0.length c0] w fun e w' => e = .returned (.agg #[.int .i64 r1, .int .i64 r2, .int .i64 r3, .int .i64 r4, .int .i64 r5, .int .i64 r6, .int .i64 r7, .int .i64 r8, .int .i64 r9, .int .i64 r10]) ∧ Below w.heap.size w w' := by
 have hu27 := Try.underlying27
 have HR0 := Aside0.mk hr0
 have HC0 := Aside0.mk hc0
 clear hr0 hc0
 have HB := Aside0.mk (Below.refl w.heap.size w)
 have H : ((spec_l01New.f k l0).bind fun bt385 => ((spec_l05Any.f bt385.1 bt385.2.1 bt385.2.2).bind fun bt389 => (some (bt389.1, bt389.2.1, bt389.2.2.1, bt389.2.2.2.1, bt389.2.2.2.2.1, bt389.2.2.2.2.2.1, bt389.2.2.2.2.2.2.1, bt389.2.2.2.2.2.2.2.1, bt389.2.2.2.2.2.2.2.2.1, bt389.2.2.2.2.2.2.2.2.2.1)))) = some (r1, r2, r3, r4, r5, r6, r7, r8, r9, r10) := h
 clear h
 replace H := Option.bind_eq_some_iff.mp H
 obtain ⟨⟨t385, t386, t387⟩, A20, H⟩ := H
 try dsimp only at H
 have A2 := Aside0.mk A20
 clear A20
 replace H := Option.bind_eq_some_iff.mp H
 obtain ⟨⟨t389, t390, t391, t392, t393, t394, t395, t396, t397, t398, t399, t400⟩, A30, H⟩ := H
 try dsimp only at H
 have A3 := Aside0.mk A30
 clear A30
 simp only [Option.some.injEq, Prod.mk.injEq] at H
 obtain ⟨rfl, rfl, rfl, rfl, rfl, rfl, rfl, rfl, rfl, rfl⟩ := H
 go_enter Try.func10, Try.ntmps10
 go_wp2_with (first | ((with_reducible refine gate_dst (N := 2) rfl ?_); refine sqX (N := 2) (cs := #[.int .i64 0, .int .i64 0, .int .i64 0, .int .i64 0, .int .i64 0, .int .i64 0, .int .i64 0, .int .i64 0, .int .i64 0, .int .i64 0]) (t := 27) ?_; intro gb384 hg w4 hbox hb; have BK384 := Aside0.mk (hbox); have GW384 := sqG hg; have GE384 := sqG hg; replace HB := sqS hb; clear hb hbox hg) | ((with_reducible refine gate_callee (f := 23) rfl ?_); refine goesL_ (some 4) rfl rfl Try.func23 (by kernel_rfl) rfl #[.slice A0 l0.length c0] rfl sqA ?_; (with_reducible refine (spec_l01New.calls k _ _ l0 t385 t386 t387 w _ ?side1 ?side2 ?side3 A2.out).mono ?_); (case side1 => exact sqB); (case side2 => exact HR0.out); (case side3 => exact HC0.out); rintro e w5 ⟨g388, rfl, hi, hb, hb2⟩; refine ⟨_, rfl, ?_⟩; have HI388 := Aside0.mk (hi); have NB388_384 := Aside0.mk (IsS58.ne_blk hi (blk_below (g := gb384) (o := .cells #[.int .i64 0, .int .i64 0, .int .i64 0, .int .i64 0, .int .i64 0, .int .i64 0, .int .i64 0, .int .i64 0, .int .i64 0, .int .i64 0] 27 (0, 0)) (sqK BK384) hb2) (by decide)); have NB384_388 := Aside0.mk (Ne.symm (IsS58.ne_blk hi (blk_below (g := gb384) (o := .cells #[.int .i64 0, .int .i64 0, .int .i64 0, .int .i64 0, .int .i64 0, .int .i64 0, .int .i64 0, .int .i64 0, .int .i64 0, .int .i64 0] 27 (0, 0)) (sqK BK384) hb2) (by decide))); replace BK384 := Aside0.mk (blk_below (g := gb384) (o := .cells #[.int .i64 0, .int .i64 0, .int .i64 0, .int .i64 0, .int .i64 0, .int .i64 0, .int .i64 0, .int .i64 0, .int .i64 0, .int .i64 0] 27 (0, 0)) (sqK BK384) hb2); replace HB := Aside0.mk (hb); (try clear hb); (try clear hb2); (try clear hk); (try clear hi)) | ((with_reducible refine gate_callee (f := 26) rfl ?_); refine goesL_ (some 5) rfl rfl Try.func26 (by kernel_rfl) rfl #[.pointer (some ⟨g388, 0, none⟩)] rfl sqA ?_; (with_reducible refine (spec_l05Any.calls g388 t385 t386 t387 t389 t390 t391 t392 t393 t394 t395 t396 t397 t398 t399 t400 w _ ?side1 ?side2 A3.out).mono ?_); (case side1 => exact sqI58 HI388); (case side2 => exact sqB); rintro e w6 ⟨rfl, hi, hb, hk⟩; refine ⟨_, rfl, ?_⟩; replace BK384 := Aside0.mk (KeepBut.blk hk (g' := gb384) (o := .cells #[.int .i64 0, .int .i64 0, .int .i64 0, .int .i64 0, .int .i64 0, .int .i64 0, .int .i64 0, .int .i64 0, .int .i64 0, .int .i64 0] 27 (0, 0)) (sqK BK384) NB384_388.out (by simp)); replace HI388 := Aside0.mk (hi); replace HB := Aside0.mk (hb); (try clear hb); (try clear hb2); (try clear hk); (try clear hi); have hnb7 := NB384_388.out; have hnc7 := NB388_384.out; obtain ⟨hcz8_0, hcz8_1, hcz8_2, hcz8_3, hcz8_4, hcz8_5, hcz8_6, hcz8_7, hcz8_8, hcz8_9, hfz8_0, hfz8_1, hfz8_2, hfz8_3, hfz8_4, hfz8_5, hfz8_6, hfz8_7, hfz8_8, hfz8_9⟩ := sqC10 BK384))
 refine bodyPost_ret (results_cell_row rfl _ _ gb384 27 #[.int .i64 t389, .int .i64 t390, .int .i64 t391, .int .i64 t392, .int .i64 t393, .int .i64 t394, .int .i64 t395, .int .i64 t396, .int .i64 t397, .int .i64 t398] (0, 0) _ rfl (sqW BK384) Try.underlying27 rfl (by kernel_rfl)) rfl ?_
 exact ⟨sqE, sqB⟩

/-! ### spec_DrawCredLess: function 11 -/
def spec_DrawCredLess.f (k : Nat) (l0 : List Int) : Option (Int × Int × Int × Int × Int × Int × Int × Int × Int × Int × Int × Int × Int × Int × Int × Int × Int × Int × Int × Int) := (spec_l01New.f k l0).bind fun bt403 => ((spec_l05Any.f bt403.1 bt403.2.1 bt403.2.2).bind fun bt407 => ((spec_l05Any.f bt403.1 bt407.2.2.2.2.2.2.2.2.2.2.1 bt407.2.2.2.2.2.2.2.2.2.2.2).bind fun bt420 => (some (bt407.1, bt407.2.1, bt407.2.2.1, bt407.2.2.2.1, bt407.2.2.2.2.1, bt407.2.2.2.2.2.1, bt407.2.2.2.2.2.2.1, bt407.2.2.2.2.2.2.2.1, bt407.2.2.2.2.2.2.2.2.1, bt407.2.2.2.2.2.2.2.2.2.1, bt420.1, bt420.2.1, bt420.2.2.1, bt420.2.2.2.1, bt420.2.2.2.2.1, bt420.2.2.2.2.2.1, bt420.2.2.2.2.2.2.1, bt420.2.2.2.2.2.2.2.1, bt420.2.2.2.2.2.2.2.2.1, bt420.2.2.2.2.2.2.2.2.2.1))))
theorem spec_DrawCredLess.mono : ∀ a0 k, LeO (spec_DrawCredLess.f k a0) (spec_DrawCredLess.f (k + 1) a0) := by
 intro a0 k
 unfold spec_DrawCredLess.f
 repeat' first
   | (with_reducible exact spec_l01New.mono _ _)
   | (with_reducible exact LeO.refl _)
   | (with_reducible exact LeO.none _)
   | (with_reducible refine LeO.ite ?_ ?_)
   | (with_reducible refine LeO.bind ?_ (fun _ => ?_))
   | exact spec_l01New.mono _ _
   | exact LeO.none _
   | refine LeO.ite ?_ ?_
   | refine LeO.bind ?_ (fun _ => ?_)
set_option maxHeartbeats 8000000 in
set_option maxRecDepth 100000 in
theorem spec_DrawCredLess.calls (k : Nat) (A0 : Option Addr) (c0 : Nat) (l0 : List Int) (r1 : Int) (r2 : Int) (r3 : Int) (r4 : Int) (r5 : Int) (r6 : Int) (r7 : Int) (r8 : Int) (r9 : Int) (r10 : Int) (r11 : Int) (r12 : Int) (r13 : Int) (r14 : Int) (r15 : Int) (r16 : Int) (r17 : Int) (r18 : Int) (r19 : Int) (r20 : Int) (w : World) (hr0 : Kd.C (Kd.int .u8) w A0 l0.length l0) (hc0 : l0.length ≤ c0) (h : spec_DrawCredLess.f k l0 = some (r1, r2, r3, r4, r5, r6, r7, r8, r9, r10, r11, r12, r13, r14, r15, r16, r17, r18, r19, r20)) :
  Calls Try.prog 11 #[.slice A0 l0.length c0] w fun e w' => e = .returned (.tuple #[.agg #[.int .i64 r1, .int .i64 r2, .int .i64 r3, .int .i64 r4, .int .i64 r5, .int .i64 r6, .int .i64 r7, .int .i64 r8, .int .i64 r9, .int .i64 r10], .agg #[.int .i64 r11, .int .i64 r12, .int .i64 r13, .int .i64 r14, .int .i64 r15, .int .i64 r16, .int .i64 r17, .int .i64 r18, .int .i64 r19, .int .i64 r20]]) ∧ Below w.heap.size w w' := by
 have hu27 := Try.underlying27
 have HR0 := Aside0.mk hr0
 have HC0 := Aside0.mk hc0
 clear hr0 hc0
 have HB := Aside0.mk (Below.refl w.heap.size w)
 have H : ((spec_l01New.f k l0).bind fun bt403 => ((spec_l05Any.f bt403.1 bt403.2.1 bt403.2.2).bind fun bt407 => ((spec_l05Any.f bt403.1 bt407.2.2.2.2.2.2.2.2.2.2.1 bt407.2.2.2.2.2.2.2.2.2.2.2).bind fun bt420 => (some (bt407.1, bt407.2.1, bt407.2.2.1, bt407.2.2.2.1, bt407.2.2.2.2.1, bt407.2.2.2.2.2.1, bt407.2.2.2.2.2.2.1, bt407.2.2.2.2.2.2.2.1, bt407.2.2.2.2.2.2.2.2.1, bt407.2.2.2.2.2.2.2.2.2.1, bt420.1, bt420.2.1, bt420.2.2.1, bt420.2.2.2.1, bt420.2.2.2.2.1, bt420.2.2.2.2.2.1, bt420.2.2.2.2.2.2.1, bt420.2.2.2.2.2.2.2.1, bt420.2.2.2.2.2.2.2.2.1, bt420.2.2.2.2.2.2.2.2.2.1))))) = some (r1, r2, r3, r4, r5, r6, r7, r8, r9, r10, r11, r12, r13, r14, r15, r16, r17, r18, r19, r20) := h
 clear h
 replace H := Option.bind_eq_some_iff.mp H
 obtain ⟨⟨t403, t404, t405⟩, A20, H⟩ := H
 try dsimp only at H
 have A2 := Aside0.mk A20
 clear A20
 replace H := Option.bind_eq_some_iff.mp H
 obtain ⟨⟨t407, t408, t409, t410, t411, t412, t413, t414, t415, t416, t417, t418⟩, A30, H⟩ := H
 try dsimp only at H
 have A3 := Aside0.mk A30
 clear A30
 replace H := Option.bind_eq_some_iff.mp H
 obtain ⟨⟨t420, t421, t422, t423, t424, t425, t426, t427, t428, t429, t430, t431⟩, A40, H⟩ := H
 try dsimp only at H
 have A4 := Aside0.mk A40
 clear A40
 simp only [Option.some.injEq, Prod.mk.injEq] at H
 obtain ⟨rfl, rfl, rfl, rfl, rfl, rfl, rfl, rfl, rfl, rfl, rfl, rfl, rfl, rfl, rfl, rfl, rfl, rfl, rfl, rfl⟩ := H
 go_enter Try.func11, Try.ntmps11
 try go_wp2_with (first | ((with_reducible refine gate_dst (N := 2) rfl ?_); refine sqX (N := 2) (cs := #[.int .i64 0, .int .i64 0, .int .i64 0, .int .i64 0, .int .i64 0, .int .i64 0, .int .i64 0, .int .i64 0, .int .i64 0, .int .i64 0]) (t := 27) ?_; intro gb401 hg w5 hbox hb; have BK401 := Aside0.mk (hbox); have GW401 := sqG hg; have GE401 := sqG hg; replace HB := sqS hb; clear hb hbox hg) | ((with_reducible refine gate_dst (N := 3) rfl ?_); refine sqX (N := 3) (cs := #[.int .i64 0, .int .i64 0, .int .i64 0, .int .i64 0, .int .i64 0, .int .i64 0, .int .i64 0, .int .i64 0, .int .i64 0, .int .i64 0]) (t := 27) ?_; intro gb402 hg w6 hbox hb; have BK402 := Aside0.mk (hbox); have GW402 := sqG hg; have GE402 := sqG hg; have NB401_402 := sqN BK401 hg; have NB402_401 := sqM BK401 hg; replace BK401 := sqL BK401 hb; replace HB := sqS hb; clear hb hbox hg) | ((with_reducible refine gate_callee (f := 23) rfl ?_); refine goesL_ (some 7) rfl rfl Try.func23 (by kernel_rfl) rfl #[.slice A0 l0.length c0] rfl sqA ?_; (with_reducible refine (spec_l01New.calls k _ _ l0 t403 t404 t405 w _ ?side1 ?side2 ?side3 A2.out).mono ?_); (case side1 => exact sqB); (case side2 => exact HR0.out); (case side3 => exact HC0.out); rintro e w7 ⟨g406, rfl, hi, hb, hb2⟩; refine ⟨_, rfl, ?_⟩; have HI406 := Aside0.mk (hi); have NB406_401 := Aside0.mk (IsS58.ne_blk hi (blk_below (g := gb401) (o := .cells #[.int .i64 0, .int .i64 0, .int .i64 0, .int .i64 0, .int .i64 0, .int .i64 0, .int .i64 0, .int .i64 0, .int .i64 0, .int .i64 0] 27 (0, 0)) (sqK BK401) hb2) (by decide)); have NB401_406 := Aside0.mk (Ne.symm (IsS58.ne_blk hi (blk_below (g := gb401) (o := .cells #[.int .i64 0, .int .i64 0, .int .i64 0, .int .i64 0, .int .i64 0, .int .i64 0, .int .i64 0, .int .i64 0, .int .i64 0, .int .i64 0] 27 (0, 0)) (sqK BK401) hb2) (by decide))); replace BK401 := Aside0.mk (blk_below (g := gb401) (o := .cells #[.int .i64 0, .int .i64 0, .int .i64 0, .int .i64 0, .int .i64 0, .int .i64 0, .int .i64 0, .int .i64 0, .int .i64 0, .int .i64 0] 27 (0, 0)) (sqK BK401) hb2); have NB406_402 := Aside0.mk (IsS58.ne_blk hi (blk_below (g := gb402) (o := .cells #[.int .i64 0, .int .i64 0, .int .i64 0, .int .i64 0, .int .i64 0, .int .i64 0, .int .i64 0, .int .i64 0, .int .i64 0, .int .i64 0] 27 (0, 0)) (sqK BK402) hb2) (by decide)); have NB402_406 := Aside0.mk (Ne.symm (IsS58.ne_blk hi (blk_below (g := gb402) (o := .cells #[.int .i64 0, .int .i64 0, .int .i64 0, .int .i64 0, .int .i64 0, .int .i64 0, .int .i64 0, .int .i64 0, .int .i64 0, .int .i64 0] 27 (0, 0)) (sqK BK402) hb2) (by decide))); replace BK402 := Aside0.mk (blk_below (g := gb402) (o := .cells #[.int .i64 0, .int .i64 0, .int .i64 0, .int .i64 0, .int .i64 0, .int .i64 0, .int .i64 0, .int .i64 0, .int .i64 0, .int .i64 0] 27 (0, 0)) (sqK BK402) hb2); replace HB := Aside0.mk (hb); (try clear hb); (try clear hb2); (try clear hk); (try clear hi)) | ((with_reducible refine gate_callee (f := 26) rfl ?_); refine goesL_ (some 9) rfl rfl Try.func26 (by kernel_rfl) rfl #[.pointer (some ⟨g406, 0, none⟩)] rfl sqA ?_; (with_reducible refine (spec_l05Any.calls g406 t403 t404 t405 t407 t408 t409 t410 t411 t412 t413 t414 t415 t416 t417 t418 w _ ?side1 ?side2 A3.out).mono ?_); (case side1 => exact sqI58 HI406); (case side2 => exact sqB); rintro e w8 ⟨rfl, hi, hb, hk⟩; refine ⟨_, rfl, ?_⟩; replace BK401 := Aside0.mk (KeepBut.blk hk (g' := gb401) (o := .cells #[.int .i64 0, .int .i64 0, .int .i64 0, .int .i64 0, .int .i64 0, .int .i64 0, .int .i64 0, .int .i64 0, .int .i64 0, .int .i64 0] 27 (0, 0)) (sqK BK401) NB401_406.out (by simp)); replace BK402 := Aside0.mk (KeepBut.blk hk (g' := gb402) (o := .cells #[.int .i64 0, .int .i64 0, .int .i64 0, .int .i64 0, .int .i64 0, .int .i64 0, .int .i64 0, .int .i64 0, .int .i64 0, .int .i64 0] 27 (0, 0)) (sqK BK402) NB402_406.out (by simp)); replace HI406 := Aside0.mk (hi); replace HB := Aside0.mk (hb); (try clear hb); (try clear hb2); (try clear hk); (try clear hi)) | ((with_reducible refine gate_dst (N := 5) rfl ?_); refine sqX (N := 5) (cs := #[.int .i64 0, .int .i64 0, .int .i64 0, .int .i64 0, .int .i64 0, .int .i64 0, .int .i64 0, .int .i64 0, .int .i64 0, .int .i64 0]) (t := 27) ?_; intro gb419 hg w9 hbox hb; have BK419 := Aside0.mk (hbox); have GW419 := sqG hg; have GE419 := sqG hg; have NB401_419 := sqN BK401 hg; have NB419_401 := sqM BK401 hg; replace BK401 := sqL BK401 hb; have NB402_419 := sqN BK402 hg; have NB419_402 := sqM BK402 hg; replace BK402 := sqL BK402 hb; have NB406_419 := Aside0.mk ((by rw [hg]; exact Nat.ne_of_lt (IsS58.lt (show IsS58 w _ g406 t403 t417 t418 from sqI58 HI406)) : g406 ≠ gb419)); have NB419_406 := Aside0.mk ((by rw [hg]; exact Nat.ne_of_gt (IsS58.lt (show IsS58 w _ g406 t403 t417 t418 from sqI58 HI406)) : gb419 ≠ g406)); replace HI406 := Aside0.mk (IsS58.below (sqI58 HI406) hb); replace HB := sqS hb; clear hb hbox hg; have hnb10 := NB419_401.out; have hnc10 := NB401_419.out; have hnb11 := NB419_402.out; have hnc11 := NB402_419.out; have hnb12 := NB419_406.out; have hnc12 := NB406_419.out; obtain ⟨hcz13_0, hcz13_1, hcz13_2, hcz13_3, hcz13_4, hcz13_5, hcz13_6, hcz13_7, hcz13_8, hcz13_9, hfz13_0, hfz13_1, hfz13_2, hfz13_3, hfz13_4, hfz13_5, hfz13_6, hfz13_7, hfz13_8, hfz13_9⟩ := sqC10 BK419))
 have n0_ : Aside0 (((((((((((w9.setCell ⟨gb419, 0, none⟩ (.int .i64 t407)).setCell ⟨gb419, 1, none⟩ (.int .i64 t408)).setCell ⟨gb419, 2, none⟩ (.int .i64 t409)).setCell ⟨gb419, 3, none⟩ (.int .i64 t410)).setCell ⟨gb419, 4, none⟩ (.int .i64 t411)).setCell ⟨gb419, 5, none⟩ (.int .i64 t412)).setCell ⟨gb419, 6, none⟩ (.int .i64 t413)).setCell ⟨gb419, 7, none⟩ (.int .i64 t414)).setCell ⟨gb419, 8, none⟩ (.int .i64 t415)).setCell ⟨gb419, 9, none⟩ (.int .i64 t416)).heap[gb401]? = some (.cells #[.int .i64 0, .int .i64 0, .int .i64 0, .int .i64 0, .int .i64 0, .int .i64 0, .int .i64 0, .int .i64 0, .int .i64 0, .int .i64 0] 27 (0, 0))) := ⟨sqW BK401⟩
 have n1_ : Aside0 (((((((((((w9.setCell ⟨gb419, 0, none⟩ (.int .i64 t407)).setCell ⟨gb419, 1, none⟩ (.int .i64 t408)).setCell ⟨gb419, 2, none⟩ (.int .i64 t409)).setCell ⟨gb419, 3, none⟩ (.int .i64 t410)).setCell ⟨gb419, 4, none⟩ (.int .i64 t411)).setCell ⟨gb419, 5, none⟩ (.int .i64 t412)).setCell ⟨gb419, 6, none⟩ (.int .i64 t413)).setCell ⟨gb419, 7, none⟩ (.int .i64 t414)).setCell ⟨gb419, 8, none⟩ (.int .i64 t415)).setCell ⟨gb419, 9, none⟩ (.int .i64 t416)).heap[gb402]? = some (.cells #[.int .i64 0, .int .i64 0, .int .i64 0, .int .i64 0, .int .i64 0, .int .i64 0, .int .i64 0, .int .i64 0, .int .i64 0, .int .i64 0] 27 (0, 0))) := ⟨sqW BK402⟩
 have n2_ : Aside0 (((((((((((w9.setCell ⟨gb419, 0, none⟩ (.int .i64 t407)).setCell ⟨gb419, 1, none⟩ (.int .i64 t408)).setCell ⟨gb419, 2, none⟩ (.int .i64 t409)).setCell ⟨gb419, 3, none⟩ (.int .i64 t410)).setCell ⟨gb419, 4, none⟩ (.int .i64 t411)).setCell ⟨gb419, 5, none⟩ (.int .i64 t412)).setCell ⟨gb419, 6, none⟩ (.int .i64 t413)).setCell ⟨gb419, 7, none⟩ (.int .i64 t414)).setCell ⟨gb419, 8, none⟩ (.int .i64 t415)).setCell ⟨gb419, 9, none⟩ (.int .i64 t416)).heap[gb419]? = some (.cells #[.int .i64 t407, .int .i64 t408, .int .i64 t409, .int .i64 t410, .int .i64 t411, .int .i64 t412, .int .i64 t413, .int .i64 t414, .int .i64 t415, .int .i64 t416] 27 (0, 0))) := ⟨sqW BK419⟩
 have n3_ : Aside0 (IsS58 w ((((((((((w9.setCell ⟨gb419, 0, none⟩ (.int .i64 t407)).setCell ⟨gb419, 1, none⟩ (.int .i64 t408)).setCell ⟨gb419, 2, none⟩ (.int .i64 t409)).setCell ⟨gb419, 3, none⟩ (.int .i64 t410)).setCell ⟨gb419, 4, none⟩ (.int .i64 t411)).setCell ⟨gb419, 5, none⟩ (.int .i64 t412)).setCell ⟨gb419, 6, none⟩ (.int .i64 t413)).setCell ⟨gb419, 7, none⟩ (.int .i64 t414)).setCell ⟨gb419, 8, none⟩ (.int .i64 t415)).setCell ⟨gb419, 9, none⟩ (.int .i64 t416)) g406 t403 t417 t418) := ⟨sqI58 HI406⟩
 have n4_ : Aside0 (Below w.heap.size w ((((((((((w9.setCell ⟨gb419, 0, none⟩ (.int .i64 t407)).setCell ⟨gb419, 1, none⟩ (.int .i64 t408)).setCell ⟨gb419, 2, none⟩ (.int .i64 t409)).setCell ⟨gb419, 3, none⟩ (.int .i64 t410)).setCell ⟨gb419, 4, none⟩ (.int .i64 t411)).setCell ⟨gb419, 5, none⟩ (.int .i64 t412)).setCell ⟨gb419, 6, none⟩ (.int .i64 t413)).setCell ⟨gb419, 7, none⟩ (.int .i64 t414)).setCell ⟨gb419, 8, none⟩ (.int .i64 t415)).setCell ⟨gb419, 9, none⟩ (.int .i64 t416))) := ⟨sqB⟩
 (try clear BK401)
 (try clear BK402)
 (try clear BK419)
 (try clear HI406)
 (try clear HB)
 generalize ((((((((((w9.setCell ⟨gb419, 0, none⟩ (.int .i64 t407)).setCell ⟨gb419, 1, none⟩ (.int .i64 t408)).setCell ⟨gb419, 2, none⟩ (.int .i64 t409)).setCell ⟨gb419, 3, none⟩ (.int .i64 t410)).setCell ⟨gb419, 4, none⟩ (.int .i64 t411)).setCell ⟨gb419, 5, none⟩ (.int .i64 t412)).setCell ⟨gb419, 6, none⟩ (.int .i64 t413)).setCell ⟨gb419, 7, none⟩ (.int .i64 t414)).setCell ⟨gb419, 8, none⟩ (.int .i64 t415)).setCell ⟨gb419, 9, none⟩ (.int .i64 t416)) = w14 at n0_ n1_ n2_ n3_ n4_ ⊢
 have BK401 := n0_
 have BK402 := n1_
 have BK419 := n2_
 have HI406 := n3_
 have HB := n4_
 clear n0_ n1_ n2_ n3_ n4_
 replace BK401 := Aside0.mk (blk_drew BK401.out); replace BK402 := Aside0.mk (blk_drew BK402.out); replace BK419 := Aside0.mk (blk_drew BK419.out); replace HI406 := Aside0.mk (IsS58.drew HI406.out); replace HB := Aside0.mk (below_drew1 HB.out)
 refine start_ (n := 5) (S := fun w' => w'.cell? ⟨gb419, 0, none⟩ = some (.int .i64 t407) ∧ w'.cell? ⟨gb419, 1, none⟩ = some (.int .i64 t408) ∧ w'.cell? ⟨gb419, 2, none⟩ = some (.int .i64 t409) ∧ w'.cell? ⟨gb419, 3, none⟩ = some (.int .i64 t410) ∧ w'.cell? ⟨gb419, 4, none⟩ = some (.int .i64 t411) ∧ w'.cell? ⟨gb419, 5, none⟩ = some (.int .i64 t412) ∧ w'.cell? ⟨gb419, 6, none⟩ = some (.int .i64 t413) ∧ w'.cell? ⟨gb419, 7, none⟩ = some (.int .i64 t414) ∧ w'.cell? ⟨gb419, 8, none⟩ = some (.int .i64 t415) ∧ w'.cell? ⟨gb419, 9, none⟩ = some (.int .i64 t416)) (ds := []) #[false, false, false, false, false] (by kernel_rfl) rfl rfl sqF (fun hHeld => ?_)
 generalize w14.drew = w15 at BK401 BK402 BK419 HI406 HB hHeld ⊢
 refine sqP (i := 1) (N := some 11) #[false, true, false, false, false] rfl rfl (by kernel_rfl) ?_
 refine sqTk (i := 0) (N := some 10) #[true, true, false, false, false] rfl rfl (by kernel_rfl) hHeld ?_
 refine one_ (i := 2) (N := some 12) #[true, true, true, false, false] rfl rfl (by kernel_rfl) (by decide) (fun K hK => ?_)
 refine goes_ Try.func26 (by kernel_rfl) rfl #[.pointer (some ⟨g406, 0, none⟩)] (by rfl) rfl rfl sqA ?_
 with_reducible refine (spec_l05Any.calls g406 t403 t417 t418 t420 t421 t422 t423 t424 t425 t426 t427 t428 t429 t430 t431 w _ ?side1 ?side2 A4.out).mono ?_
 (case side1 => exact sqI58 HI406)
 (case side2 => exact sqB)
 rintro e w16 ⟨rfl, hi, hb, hk⟩
 refine ⟨_, rfl, ?_⟩
 replace BK401 := Aside0.mk (KeepBut.blk hk (g' := gb401) (o := .cells #[.int .i64 0, .int .i64 0, .int .i64 0, .int .i64 0, .int .i64 0, .int .i64 0, .int .i64 0, .int .i64 0, .int .i64 0, .int .i64 0] 27 (0, 0)) (sqK BK401) NB401_406.out (by simp)); replace BK402 := Aside0.mk (KeepBut.blk hk (g' := gb402) (o := .cells #[.int .i64 0, .int .i64 0, .int .i64 0, .int .i64 0, .int .i64 0, .int .i64 0, .int .i64 0, .int .i64 0, .int .i64 0, .int .i64 0] 27 (0, 0)) (sqK BK402) NB402_406.out (by simp)); replace BK419 := Aside0.mk (KeepBut.blk hk (g' := gb419) (o := .cells #[.int .i64 t407, .int .i64 t408, .int .i64 t409, .int .i64 t410, .int .i64 t411, .int .i64 t412, .int .i64 t413, .int .i64 t414, .int .i64 t415, .int .i64 t416] 27 (0, 0)) (sqK BK419) NB419_406.out (by simp)); replace HI406 := Aside0.mk (hi); replace HB := Aside0.mk (hb)
 (try clear hb)
 (try clear hb2)
 (try clear hk)
 (try clear hi)
 refine hK.out _ _ sqF (fun hHeld => ?_)
 clear hK K
 refine sqV (N := some 12) ?_
 refine one_ (i := 3) (N := none) #[true, true, true, true, false] rfl rfl (by kernel_rfl) (by decide) (fun K hK => ?_)
 have hs17 : w16.cell? ⟨gb401, 0, none⟩ = some (.int .i64 0) := (blk_cell BK401.out 0).trans rfl
 have hfs17 := blk_frozen BK401.out 0
 have hns17_1 := NB402_401.out
 have hns17_2 := NB419_401.out
 have hms17_1 := NB401_402.out
 have hms17_2 := NB401_419.out
 have hs18 : w16.cell? ⟨gb401, 1, none⟩ = some (.int .i64 0) := (blk_cell BK401.out 1).trans rfl
 have hfs18 := blk_frozen BK401.out 1
 have hns18_1 := NB402_401.out
 have hns18_2 := NB419_401.out
 have hms18_1 := NB401_402.out
 have hms18_2 := NB401_419.out
 have hs19 : w16.cell? ⟨gb401, 2, none⟩ = some (.int .i64 0) := (blk_cell BK401.out 2).trans rfl
 have hfs19 := blk_frozen BK401.out 2
 have hns19_1 := NB402_401.out
 have hns19_2 := NB419_401.out
 have hms19_1 := NB401_402.out
 have hms19_2 := NB401_419.out
 have hs20 : w16.cell? ⟨gb401, 3, none⟩ = some (.int .i64 0) := (blk_cell BK401.out 3).trans rfl
 have hfs20 := blk_frozen BK401.out 3
 have hns20_1 := NB402_401.out
 have hns20_2 := NB419_401.out
 have hms20_1 := NB401_402.out
 have hms20_2 := NB401_419.out
 have hs21 : w16.cell? ⟨gb401, 4, none⟩ = some (.int .i64 0) := (blk_cell BK401.out 4).trans rfl
 have hfs21 := blk_frozen BK401.out 4
 have hns21_1 := NB402_401.out
 have hns21_2 := NB419_401.out
 have hms21_1 := NB401_402.out
 have hms21_2 := NB401_419.out
 have hs22 : w16.cell? ⟨gb401, 5, none⟩ = some (.int .i64 0) := (blk_cell BK401.out 5).trans rfl
 have hfs22 := blk_frozen BK401.out 5
 have hns22_1 := NB402_401.out
 have hns22_2 := NB419_401.out
 have hms22_1 := NB401_402.out
 have hms22_2 := NB401_419.out
 have hs23 : w16.cell? ⟨gb401, 6, none⟩ = some (.int .i64 0) := (blk_cell BK401.out 6).trans rfl
 have hfs23 := blk_frozen BK401.out 6
 have hns23_1 := NB402_401.out
 have hns23_2 := NB419_401.out
 have hms23_1 := NB401_402.out
 have hms23_2 := NB401_419.out
 have hs24 : w16.cell? ⟨gb401, 7, none⟩ = some (.int .i64 0) := (blk_cell BK401.out 7).trans rfl
 have hfs24 := blk_frozen BK401.out 7
 have hns24_1 := NB402_401.out
 have hns24_2 := NB419_401.out
 have hms24_1 := NB401_402.out
 have hms24_2 := NB401_419.out
 have hs25 : w16.cell? ⟨gb401, 8, none⟩ = some (.int .i64 0) := (blk_cell BK401.out 8).trans rfl
 have hfs25 := blk_frozen BK401.out 8
 have hns25_1 := NB402_401.out
 have hns25_2 := NB419_401.out
 have hms25_1 := NB401_402.out
 have hms25_2 := NB401_419.out
 have hs26 : w16.cell? ⟨gb401, 9, none⟩ = some (.int .i64 0) := (blk_cell BK401.out 9).trans rfl
 have hfs26 := blk_frozen BK401.out 9
 have hns26_1 := NB402_401.out
 have hns26_2 := NB419_401.out
 have hms26_1 := NB401_402.out
 have hms26_2 := NB401_419.out
 refine skip_ (w1 := ?_) (by rfl) rfl ?_ ?_
 rotate_left
 ·go_simp
  rfl
 refine hK.out _ _ ⟨((cell_far (p := ⟨gb401, _, none⟩) NB419_401.out _).trans (((cell_far (p := ⟨gb401, _, none⟩) NB419_401.out _).trans (((cell_far (p := ⟨gb401, _, none⟩) NB419_401.out _).trans (((cell_far (p := ⟨gb401, _, none⟩) NB419_401.out _).trans (((cell_far (p := ⟨gb401, _, none⟩) NB419_401.out _).trans (((cell_far (p := ⟨gb401, _, none⟩) NB419_401.out _).trans (((cell_far (p := ⟨gb401, _, none⟩) NB419_401.out _).trans (((cell_far (p := ⟨gb401, _, none⟩) NB419_401.out _).trans (((cell_far (p := ⟨gb401, _, none⟩) NB419_401.out _).trans (((cell_far (p := ⟨gb401, _, none⟩) NB419_401.out _).trans (hHeld.1)))))))))))))))))))), ((cell_far (p := ⟨gb401, _, none⟩) NB419_401.out _).trans (((cell_far (p := ⟨gb401, _, none⟩) NB419_401.out _).trans (((cell_far (p := ⟨gb401, _, none⟩) NB419_401.out _).trans (((cell_far (p := ⟨gb401, _, none⟩) NB419_401.out _).trans (((cell_far (p := ⟨gb401, _, none⟩) NB419_401.out _).trans (((cell_far (p := ⟨gb401, _, none⟩) NB419_401.out _).trans (((cell_far (p := ⟨gb401, _, none⟩) NB419_401.out _).trans (((cell_far (p := ⟨gb401, _, none⟩) NB419_401.out _).trans (((cell_far (p := ⟨gb401, _, none⟩) NB419_401.out _).trans (((cell_far (p := ⟨gb401, _, none⟩) NB419_401.out _).trans (hHeld.2.1)))))))))))))))))))), ((cell_far (p := ⟨gb401, _, none⟩) NB419_401.out _).trans (((cell_far (p := ⟨gb401, _, none⟩) NB419_401.out _).trans (((cell_far (p := ⟨gb401, _, none⟩) NB419_401.out _).trans (((cell_far (p := ⟨gb401, _, none⟩) NB419_401.out _).trans (((cell_far (p := ⟨gb401, _, none⟩) NB419_401.out _).trans (((cell_far (p := ⟨gb401, _, none⟩) NB419_401.out _).trans (((cell_far (p := ⟨gb401, _, none⟩) NB419_401.out _).trans (((cell_far (p := ⟨gb401, _, none⟩) NB419_401.out _).trans (((cell_far (p := ⟨gb401, _, none⟩) NB419_401.out _).trans (((cell_far (p := ⟨gb401, _, none⟩) NB419_401.out _).trans (hHeld.2.2.1)))))))))))))))))))), ((cell_far (p := ⟨gb401, _, none⟩) NB419_401.out _).trans (((cell_far (p := ⟨gb401, _, none⟩) NB419_401.out _).trans (((cell_far (p := ⟨gb401, _, none⟩) NB419_401.out _).trans (((cell_far (p := ⟨gb401, _, none⟩) NB419_401.out _).trans (((cell_far (p := ⟨gb401, _, none⟩) NB419_401.out _).trans (((cell_far (p := ⟨gb401, _, none⟩) NB419_401.out _).trans (((cell_far (p := ⟨gb401, _, none⟩) NB419_401.out _).trans (((cell_far (p := ⟨gb401, _, none⟩) NB419_401.out _).trans (((cell_far (p := ⟨gb401, _, none⟩) NB419_401.out _).trans (((cell_far (p := ⟨gb401, _, none⟩) NB419_401.out _).trans (hHeld.2.2.2.1)))))))))))))))))))), ((cell_far (p := ⟨gb401, _, none⟩) NB419_401.out _).trans (((cell_far (p := ⟨gb401, _, none⟩) NB419_401.out _).trans (((cell_far (p := ⟨gb401, _, none⟩) NB419_401.out _).trans (((cell_far (p := ⟨gb401, _, none⟩) NB419_401.out _).trans (((cell_far (p := ⟨gb401, _, none⟩) NB419_401.out _).trans (((cell_far (p := ⟨gb401, _, none⟩) NB419_401.out _).trans (((cell_far (p := ⟨gb401, _, none⟩) NB419_401.out _).trans (((cell_far (p := ⟨gb401, _, none⟩) NB419_401.out _).trans (((cell_far (p := ⟨gb401, _, none⟩) NB419_401.out _).trans (((cell_far (p := ⟨gb401, _, none⟩) NB419_401.out _).trans (hHeld.2.2.2.2.1)))))))))))))))))))), ((cell_far (p := ⟨gb401, _, none⟩) NB419_401.out _).trans (((cell_far (p := ⟨gb401, _, none⟩) NB419_401.out _).trans (((cell_far (p := ⟨gb401, _, none⟩) NB419_401.out _).trans (((cell_far (p := ⟨gb401, _, none⟩) NB419_401.out _).trans (((cell_far (p := ⟨gb401, _, none⟩) NB419_401.out _).trans (((cell_far (p := ⟨gb401, _, none⟩) NB419_401.out _).trans (((cell_far (p := ⟨gb401, _, none⟩) NB419_401.out _).trans (((cell_far (p := ⟨gb401, _, none⟩) NB419_401.out _).trans (((cell_far (p := ⟨gb401, _, none⟩) NB419_401.out _).trans (((cell_far (p := ⟨gb401, _, none⟩) NB419_401.out _).trans (hHeld.2.2.2.2.2.1)))))))))))))))))))), ((cell_far (p := ⟨gb401, _, none⟩) NB419_401.out _).trans (((cell_far (p := ⟨gb401, _, none⟩) NB419_401.out _).trans (((cell_far (p := ⟨gb401, _, none⟩) NB419_401.out _).trans (((cell_far (p := ⟨gb401, _, none⟩) NB419_401.out _).trans (((cell_far (p := ⟨gb401, _, none⟩) NB419_401.out _).trans (((cell_far (p := ⟨gb401, _, none⟩) NB419_401.out _).trans (((cell_far (p := ⟨gb401, _, none⟩) NB419_401.out _).trans (((cell_far (p := ⟨gb401, _, none⟩) NB419_401.out _).trans (((cell_far (p := ⟨gb401, _, none⟩) NB419_401.out _).trans (((cell_far (p := ⟨gb401, _, none⟩) NB419_401.out _).trans (hHeld.2.2.2.2.2.2.1)))))))))))))))))))), ((cell_far (p := ⟨gb401, _, none⟩) NB419_401.out _).trans (((cell_far (p := ⟨gb401, _, none⟩) NB419_401.out _).trans (((cell_far (p := ⟨gb401, _, none⟩) NB419_401.out _).trans (((cell_far (p := ⟨gb401, _, none⟩) NB419_401.out _).trans (((cell_far (p := ⟨gb401, _, none⟩) NB419_401.out _).trans (((cell_far (p := ⟨gb401, _, none⟩) NB419_401.out _).trans (((cell_far (p := ⟨gb401, _, none⟩) NB419_401.out _).trans (((cell_far (p := ⟨gb401, _, none⟩) NB419_401.out _).trans (((cell_far (p := ⟨gb401, _, none⟩) NB419_401.out _).trans (((cell_far (p := ⟨gb401, _, none⟩) NB419_401.out _).trans (hHeld.2.2.2.2.2.2.2.1)))))))))))))))))))), ((cell_far (p := ⟨gb401, _, none⟩) NB419_401.out _).trans (((cell_far (p := ⟨gb401, _, none⟩) NB419_401.out _).trans (((cell_far (p := ⟨gb401, _, none⟩) NB419_401.out _).trans (((cell_far (p := ⟨gb401, _, none⟩) NB419_401.out _).trans (((cell_far (p := ⟨gb401, _, none⟩) NB419_401.out _).trans (((cell_far (p := ⟨gb401, _, none⟩) NB419_401.out _).trans (((cell_far (p := ⟨gb401, _, none⟩) NB419_401.out _).trans (((cell_far (p := ⟨gb401, _, none⟩) NB419_401.out _).trans (((cell_far (p := ⟨gb401, _, none⟩) NB419_401.out _).trans (((cell_far (p := ⟨gb401, _, none⟩) NB419_401.out _).trans (hHeld.2.2.2.2.2.2.2.2.1)))))))))))))))))))), ((cell_far (p := ⟨gb401, _, none⟩) NB419_401.out _).trans (((cell_far (p := ⟨gb401, _, none⟩) NB419_401.out _).trans (((cell_far (p := ⟨gb401, _, none⟩) NB419_401.out _).trans (((cell_far (p := ⟨gb401, _, none⟩) NB419_401.out _).trans (((cell_far (p := ⟨gb401, _, none⟩) NB419_401.out _).trans (((cell_far (p := ⟨gb401, _, none⟩) NB419_401.out _).trans (((cell_far (p := ⟨gb401, _, none⟩) NB419_401.out _).trans (((cell_far (p := ⟨gb401, _, none⟩) NB419_401.out _).trans (((cell_far (p := ⟨gb401, _, none⟩) NB419_401.out _).trans (((cell_far (p := ⟨gb401, _, none⟩) NB419_401.out _).trans (hHeld.2.2.2.2.2.2.2.2.2))))))))))))))))))))⟩ (fun hHeld => ?_)
 clear hK K
 have n0_ : Aside0 (((((((((((w16.setCell ⟨gb401, 0, none⟩ (.int .i64 t407)).setCell ⟨gb401, 1, none⟩ (.int .i64 t408)).setCell ⟨gb401, 2, none⟩ (.int .i64 t409)).setCell ⟨gb401, 3, none⟩ (.int .i64 t410)).setCell ⟨gb401, 4, none⟩ (.int .i64 t411)).setCell ⟨gb401, 5, none⟩ (.int .i64 t412)).setCell ⟨gb401, 6, none⟩ (.int .i64 t413)).setCell ⟨gb401, 7, none⟩ (.int .i64 t414)).setCell ⟨gb401, 8, none⟩ (.int .i64 t415)).setCell ⟨gb401, 9, none⟩ (.int .i64 t416)).heap[gb401]? = some (.cells #[.int .i64 t407, .int .i64 t408, .int .i64 t409, .int .i64 t410, .int .i64 t411, .int .i64 t412, .int .i64 t413, .int .i64 t414, .int .i64 t415, .int .i64 t416] 27 (0, 0))) := ⟨sqW BK401⟩
 have n1_ : Aside0 (((((((((((w16.setCell ⟨gb401, 0, none⟩ (.int .i64 t407)).setCell ⟨gb401, 1, none⟩ (.int .i64 t408)).setCell ⟨gb401, 2, none⟩ (.int .i64 t409)).setCell ⟨gb401, 3, none⟩ (.int .i64 t410)).setCell ⟨gb401, 4, none⟩ (.int .i64 t411)).setCell ⟨gb401, 5, none⟩ (.int .i64 t412)).setCell ⟨gb401, 6, none⟩ (.int .i64 t413)).setCell ⟨gb401, 7, none⟩ (.int .i64 t414)).setCell ⟨gb401, 8, none⟩ (.int .i64 t415)).setCell ⟨gb401, 9, none⟩ (.int .i64 t416)).heap[gb402]? = some (.cells #[.int .i64 0, .int .i64 0, .int .i64 0, .int .i64 0, .int .i64 0, .int .i64 0, .int .i64 0, .int .i64 0, .int .i64 0, .int .i64 0] 27 (0, 0))) := ⟨sqW BK402⟩
 have n2_ : Aside0 (((((((((((w16.setCell ⟨gb401, 0, none⟩ (.int .i64 t407)).setCell ⟨gb401, 1, none⟩ (.int .i64 t408)).setCell ⟨gb401, 2, none⟩ (.int .i64 t409)).setCell ⟨gb401, 3, none⟩ (.int .i64 t410)).setCell ⟨gb401, 4, none⟩ (.int .i64 t411)).setCell ⟨gb401, 5, none⟩ (.int .i64 t412)).setCell ⟨gb401, 6, none⟩ (.int .i64 t413)).setCell ⟨gb401, 7, none⟩ (.int .i64 t414)).setCell ⟨gb401, 8, none⟩ (.int .i64 t415)).setCell ⟨gb401, 9, none⟩ (.int .i64 t416)).heap[gb419]? = some (.cells #[.int .i64 t407, .int .i64 t408, .int .i64 t409, .int .i64 t410, .int .i64 t411, .int .i64 t412, .int .i64 t413, .int .i64 t414, .int .i64 t415, .int .i64 t416] 27 (0, 0))) := ⟨sqW BK419⟩
 have n3_ : Aside0 (IsS58 w ((((((((((w16.setCell ⟨gb401, 0, none⟩ (.int .i64 t407)).setCell ⟨gb401, 1, none⟩ (.int .i64 t408)).setCell ⟨gb401, 2, none⟩ (.int .i64 t409)).setCell ⟨gb401, 3, none⟩ (.int .i64 t410)).setCell ⟨gb401, 4, none⟩ (.int .i64 t411)).setCell ⟨gb401, 5, none⟩ (.int .i64 t412)).setCell ⟨gb401, 6, none⟩ (.int .i64 t413)).setCell ⟨gb401, 7, none⟩ (.int .i64 t414)).setCell ⟨gb401, 8, none⟩ (.int .i64 t415)).setCell ⟨gb401, 9, none⟩ (.int .i64 t416)) g406 t403 t430 t431) := ⟨sqI58 HI406⟩
 have n4_ : Aside0 (Below w.heap.size w ((((((((((w16.setCell ⟨gb401, 0, none⟩ (.int .i64 t407)).setCell ⟨gb401, 1, none⟩ (.int .i64 t408)).setCell ⟨gb401, 2, none⟩ (.int .i64 t409)).setCell ⟨gb401, 3, none⟩ (.int .i64 t410)).setCell ⟨gb401, 4, none⟩ (.int .i64 t411)).setCell ⟨gb401, 5, none⟩ (.int .i64 t412)).setCell ⟨gb401, 6, none⟩ (.int .i64 t413)).setCell ⟨gb401, 7, none⟩ (.int .i64 t414)).setCell ⟨gb401, 8, none⟩ (.int .i64 t415)).setCell ⟨gb401, 9, none⟩ (.int .i64 t416))) := ⟨sqB⟩
 clear BK401
 clear BK402
 clear BK419
 clear HI406
 clear HB
 generalize ((((((((((w16.setCell ⟨gb401, 0, none⟩ (.int .i64 t407)).setCell ⟨gb401, 1, none⟩ (.int .i64 t408)).setCell ⟨gb401, 2, none⟩ (.int .i64 t409)).setCell ⟨gb401, 3, none⟩ (.int .i64 t410)).setCell ⟨gb401, 4, none⟩ (.int .i64 t411)).setCell ⟨gb401, 5, none⟩ (.int .i64 t412)).setCell ⟨gb401, 6, none⟩ (.int .i64 t413)).setCell ⟨gb401, 7, none⟩ (.int .i64 t414)).setCell ⟨gb401, 8, none⟩ (.int .i64 t415)).setCell ⟨gb401, 9, none⟩ (.int .i64 t416)) = w99 at n0_ n1_ n2_ n3_ n4_ hHeld ⊢
 have BK401 := n0_
 have BK402 := n1_
 have BK419 := n2_
 have HI406 := n3_
 have HB := n4_
 clear n0_ n1_ n2_ n3_ n4_
 refine one_ (i := 4) (N := none) #[true, true, true, true, true] rfl rfl (by kernel_rfl) (by decide) (fun K hK => ?_)
 have hs27 : w99.cell? ⟨gb402, 0, none⟩ = some (.int .i64 0) := (blk_cell BK402.out 0).trans rfl
 have hfs27 := blk_frozen BK402.out 0
 have hns27_0 := NB401_402.out
 have hns27_2 := NB419_402.out
 have hms27_0 := NB402_401.out
 have hms27_2 := NB402_419.out
 have hs28 : w99.cell? ⟨gb402, 1, none⟩ = some (.int .i64 0) := (blk_cell BK402.out 1).trans rfl
 have hfs28 := blk_frozen BK402.out 1
 have hns28_0 := NB401_402.out
 have hns28_2 := NB419_402.out
 have hms28_0 := NB402_401.out
 have hms28_2 := NB402_419.out
 have hs29 : w99.cell? ⟨gb402, 2, none⟩ = some (.int .i64 0) := (blk_cell BK402.out 2).trans rfl
 have hfs29 := blk_frozen BK402.out 2
 have hns29_0 := NB401_402.out
 have hns29_2 := NB419_402.out
 have hms29_0 := NB402_401.out
 have hms29_2 := NB402_419.out
 have hs30 : w99.cell? ⟨gb402, 3, none⟩ = some (.int .i64 0) := (blk_cell BK402.out 3).trans rfl
 have hfs30 := blk_frozen BK402.out 3
 have hns30_0 := NB401_402.out
 have hns30_2 := NB419_402.out
 have hms30_0 := NB402_401.out
 have hms30_2 := NB402_419.out
 have hs31 : w99.cell? ⟨gb402, 4, none⟩ = some (.int .i64 0) := (blk_cell BK402.out 4).trans rfl
 have hfs31 := blk_frozen BK402.out 4
 have hns31_0 := NB401_402.out
 have hns31_2 := NB419_402.out
 have hms31_0 := NB402_401.out
 have hms31_2 := NB402_419.out
 have hs32 : w99.cell? ⟨gb402, 5, none⟩ = some (.int .i64 0) := (blk_cell BK402.out 5).trans rfl
 have hfs32 := blk_frozen BK402.out 5
 have hns32_0 := NB401_402.out
 have hns32_2 := NB419_402.out
 have hms32_0 := NB402_401.out
 have hms32_2 := NB402_419.out
 have hs33 : w99.cell? ⟨gb402, 6, none⟩ = some (.int .i64 0) := (blk_cell BK402.out 6).trans rfl
 have hfs33 := blk_frozen BK402.out 6
 have hns33_0 := NB401_402.out
 have hns33_2 := NB419_402.out
 have hms33_0 := NB402_401.out
 have hms33_2 := NB402_419.out
 have hs34 : w99.cell? ⟨gb402, 7, none⟩ = some (.int .i64 0) := (blk_cell BK402.out 7).trans rfl
 have hfs34 := blk_frozen BK402.out 7
 have hns34_0 := NB401_402.out
 have hns34_2 := NB419_402.out
 have hms34_0 := NB402_401.out
 have hms34_2 := NB402_419.out
 have hs35 : w99.cell? ⟨gb402, 8, none⟩ = some (.int .i64 0) := (blk_cell BK402.out 8).trans rfl
 have hfs35 := blk_frozen BK402.out 8
 have hns35_0 := NB401_402.out
 have hns35_2 := NB419_402.out
 have hms35_0 := NB402_401.out
 have hms35_2 := NB402_419.out
 have hs36 : w99.cell? ⟨gb402, 9, none⟩ = some (.int .i64 0) := (blk_cell BK402.out 9).trans rfl
 have hfs36 := blk_frozen BK402.out 9
 have hns36_0 := NB401_402.out
 have hns36_2 := NB419_402.out
 have hms36_0 := NB402_401.out
 have hms36_2 := NB402_419.out
 refine skip_ (w1 := ?_) (by rfl) rfl ?_ ?_
 rotate_left
 ·go_simp
  rfl
 refine hK.out _ _ ⟨((cell_far (p := ⟨gb402, _, none⟩) NB419_402.out _).trans (((cell_far (p := ⟨gb402, _, none⟩) NB419_402.out _).trans (((cell_far (p := ⟨gb402, _, none⟩) NB419_402.out _).trans (((cell_far (p := ⟨gb402, _, none⟩) NB419_402.out _).trans (((cell_far (p := ⟨gb402, _, none⟩) NB419_402.out _).trans (((cell_far (p := ⟨gb402, _, none⟩) NB419_402.out _).trans (((cell_far (p := ⟨gb402, _, none⟩) NB419_402.out _).trans (((cell_far (p := ⟨gb402, _, none⟩) NB419_402.out _).trans (((cell_far (p := ⟨gb402, _, none⟩) NB419_402.out _).trans (((cell_far (p := ⟨gb402, _, none⟩) NB419_402.out _).trans (hHeld.1)))))))))))))))))))), ((cell_far (p := ⟨gb402, _, none⟩) NB419_402.out _).trans (((cell_far (p := ⟨gb402, _, none⟩) NB419_402.out _).trans (((cell_far (p := ⟨gb402, _, none⟩) NB419_402.out _).trans (((cell_far (p := ⟨gb402, _, none⟩) NB419_402.out _).trans (((cell_far (p := ⟨gb402, _, none⟩) NB419_402.out _).trans (((cell_far (p := ⟨gb402, _, none⟩) NB419_402.out _).trans (((cell_far (p := ⟨gb402, _, none⟩) NB419_402.out _).trans (((cell_far (p := ⟨gb402, _, none⟩) NB419_402.out _).trans (((cell_far (p := ⟨gb402, _, none⟩) NB419_402.out _).trans (((cell_far (p := ⟨gb402, _, none⟩) NB419_402.out _).trans (hHeld.2.1)))))))))))))))))))), ((cell_far (p := ⟨gb402, _, none⟩) NB419_402.out _).trans (((cell_far (p := ⟨gb402, _, none⟩) NB419_402.out _).trans (((cell_far (p := ⟨gb402, _, none⟩) NB419_402.out _).trans (((cell_far (p := ⟨gb402, _, none⟩) NB419_402.out _).trans (((cell_far (p := ⟨gb402, _, none⟩) NB419_402.out _).trans (((cell_far (p := ⟨gb402, _, none⟩) NB419_402.out _).trans (((cell_far (p := ⟨gb402, _, none⟩) NB419_402.out _).trans (((cell_far (p := ⟨gb402, _, none⟩) NB419_402.out _).trans (((cell_far (p := ⟨gb402, _, none⟩) NB419_402.out _).trans (((cell_far (p := ⟨gb402, _, none⟩) NB419_402.out _).trans (hHeld.2.2.1)))))))))))))))))))), ((cell_far (p := ⟨gb402, _, none⟩) NB419_402.out _).trans (((cell_far (p := ⟨gb402, _, none⟩) NB419_402.out _).trans (((cell_far (p := ⟨gb402, _, none⟩) NB419_402.out _).trans (((cell_far (p := ⟨gb402, _, none⟩) NB419_402.out _).trans (((cell_far (p := ⟨gb402, _, none⟩) NB419_402.out _).trans (((cell_far (p := ⟨gb402, _, none⟩) NB419_402.out _).trans (((cell_far (p := ⟨gb402, _, none⟩) NB419_402.out _).trans (((cell_far (p := ⟨gb402, _, none⟩) NB419_402.out _).trans (((cell_far (p := ⟨gb402, _, none⟩) NB419_402.out _).trans (((cell_far (p := ⟨gb402, _, none⟩) NB419_402.out _).trans (hHeld.2.2.2.1)))))))))))))))))))), ((cell_far (p := ⟨gb402, _, none⟩) NB419_402.out _).trans (((cell_far (p := ⟨gb402, _, none⟩) NB419_402.out _).trans (((cell_far (p := ⟨gb402, _, none⟩) NB419_402.out _).trans (((cell_far (p := ⟨gb402, _, none⟩) NB419_402.out _).trans (((cell_far (p := ⟨gb402, _, none⟩) NB419_402.out _).trans (((cell_far (p := ⟨gb402, _, none⟩) NB419_402.out _).trans (((cell_far (p := ⟨gb402, _, none⟩) NB419_402.out _).trans (((cell_far (p := ⟨gb402, _, none⟩) NB419_402.out _).trans (((cell_far (p := ⟨gb402, _, none⟩) NB419_402.out _).trans (((cell_far (p := ⟨gb402, _, none⟩) NB419_402.out _).trans (hHeld.2.2.2.2.1)))))))))))))))))))), ((cell_far (p := ⟨gb402, _, none⟩) NB419_402.out _).trans (((cell_far (p := ⟨gb402, _, none⟩) NB419_402.out _).trans (((cell_far (p := ⟨gb402, _, none⟩) NB419_402.out _).trans (((cell_far (p := ⟨gb402, _, none⟩) NB419_402.out _).trans (((cell_far (p := ⟨gb402, _, none⟩) NB419_402.out _).trans (((cell_far (p := ⟨gb402, _, none⟩) NB419_402.out _).trans (((cell_far (p := ⟨gb402, _, none⟩) NB419_402.out _).trans (((cell_far (p := ⟨gb402, _, none⟩) NB419_402.out _).trans (((cell_far (p := ⟨gb402, _, none⟩) NB419_402.out _).trans (((cell_far (p := ⟨gb402, _, none⟩) NB419_402.out _).trans (hHeld.2.2.2.2.2.1)))))))))))))))))))), ((cell_far (p := ⟨gb402, _, none⟩) NB419_402.out _).trans (((cell_far (p := ⟨gb402, _, none⟩) NB419_402.out _).trans (((cell_far (p := ⟨gb402, _, none⟩) NB419_402.out _).trans (((cell_far (p := ⟨gb402, _, none⟩) NB419_402.out _).trans (((cell_far (p := ⟨gb402, _, none⟩) NB419_402.out _).trans (((cell_far (p := ⟨gb402, _, none⟩) NB419_402.out _).trans (((cell_far (p := ⟨gb402, _, none⟩) NB419_402.out _).trans (((cell_far (p := ⟨gb402, _, none⟩) NB419_402.out _).trans (((cell_far (p := ⟨gb402, _, none⟩) NB419_402.out _).trans (((cell_far (p := ⟨gb402, _, none⟩) NB419_402.out _).trans (hHeld.2.2.2.2.2.2.1)))))))))))))))))))), ((cell_far (p := ⟨gb402, _, none⟩) NB419_402.out _).trans (((cell_far (p := ⟨gb402, _, none⟩) NB419_402.out _).trans (((cell_far (p := ⟨gb402, _, none⟩) NB419_402.out _).trans (((cell_far (p := ⟨gb402, _, none⟩) NB419_402.out _).trans (((cell_far (p := ⟨gb402, _, none⟩) NB419_402.out _).trans (((cell_far (p := ⟨gb402, _, none⟩) NB419_402.out _).trans (((cell_far (p := ⟨gb402, _, none⟩) NB419_402.out _).trans (((cell_far (p := ⟨gb402, _, none⟩) NB419_402.out _).trans (((cell_far (p := ⟨gb402, _, none⟩) NB419_402.out _).trans (((cell_far (p := ⟨gb402, _, none⟩) NB419_402.out _).trans (hHeld.2.2.2.2.2.2.2.1)))))))))))))))))))), ((cell_far (p := ⟨gb402, _, none⟩) NB419_402.out _).trans (((cell_far (p := ⟨gb402, _, none⟩) NB419_402.out _).trans (((cell_far (p := ⟨gb402, _, none⟩) NB419_402.out _).trans (((cell_far (p := ⟨gb402, _, none⟩) NB419_402.out _).trans (((cell_far (p := ⟨gb402, _, none⟩) NB419_402.out _).trans (((cell_far (p := ⟨gb402, _, none⟩) NB419_402.out _).trans (((cell_far (p := ⟨gb402, _, none⟩) NB419_402.out _).trans (((cell_far (p := ⟨gb402, _, none⟩) NB419_402.out _).trans (((cell_far (p := ⟨gb402, _, none⟩) NB419_402.out _).trans (((cell_far (p := ⟨gb402, _, none⟩) NB419_402.out _).trans (hHeld.2.2.2.2.2.2.2.2.1)))))))))))))))))))), ((cell_far (p := ⟨gb402, _, none⟩) NB419_402.out _).trans (((cell_far (p := ⟨gb402, _, none⟩) NB419_402.out _).trans (((cell_far (p := ⟨gb402, _, none⟩) NB419_402.out _).trans (((cell_far (p := ⟨gb402, _, none⟩) NB419_402.out _).trans (((cell_far (p := ⟨gb402, _, none⟩) NB419_402.out _).trans (((cell_far (p := ⟨gb402, _, none⟩) NB419_402.out _).trans (((cell_far (p := ⟨gb402, _, none⟩) NB419_402.out _).trans (((cell_far (p := ⟨gb402, _, none⟩) NB419_402.out _).trans (((cell_far (p := ⟨gb402, _, none⟩) NB419_402.out _).trans (((cell_far (p := ⟨gb402, _, none⟩) NB419_402.out _).trans (hHeld.2.2.2.2.2.2.2.2.2))))))))))))))))))))⟩ (fun hHeld => ?_)
 clear hK K
 refine done_ (by kernel_rfl) ?_
 try go_wp2
 refine bodyPost_ret (results_cc rfl _ _ gb401 gb402 27 27 #[.int .i64 t407, .int .i64 t408, .int .i64 t409, .int .i64 t410, .int .i64 t411, .int .i64 t412, .int .i64 t413, .int .i64 t414, .int .i64 t415, .int .i64 t416] #[.int .i64 t420, .int .i64 t421, .int .i64 t422, .int .i64 t423, .int .i64 t424, .int .i64 t425, .int .i64 t426, .int .i64 t427, .int .i64 t428, .int .i64 t429] (0, 0) (0, 0) _ _ rfl (sqW BK401) Try.underlying27 rfl (by kernel_rfl) rfl (sqW BK402) Try.underlying27 rfl (by kernel_rfl)) rfl ?_
 exact ⟨sqE, sqB⟩

/-! ### spec_l05AnyRole: function 30 -/
def spec_l05AnyRole.f (s0_0 : List Int) (s0_1 : Int) (s0_2 : Int) : Option (Int × Int × Int × Int) := (spec_l05Role.f s0_0 s0_1 s0_2).bind fun bt433 => ((spec_l01Below.f s0_0 bt433.2.2.1 bt433.2.2.2 8).bind fun bt438 => (if bt438.1 = 0 then ((spec_l01PickInt.f s0_0 bt438.2.1 bt438.2.2 (([(-1), 6, 5] : List Int))).bind fun bt444 => (some (bt444.1, bt433.2.1, bt444.2.1, bt444.2.2))) else (if bt438.1 = 1 then ((spec_l01PickInt.f s0_0 bt438.2.1 bt438.2.2 (([(-1), 4, 3] : List Int))).bind fun bt450 => (some (bt433.1, bt450.1, bt450.2.1, bt450.2.2))) else (some (bt433.1, bt433.2.1, bt438.2.1, bt438.2.2)))))
set_option maxHeartbeats 8000000 in
set_option maxRecDepth 100000 in
theorem spec_l05AnyRole.calls (g : Nat) (s0_0 : List Int) (s0_1 : Int) (s0_2 : Int) (r1 : Int) (r2 : Int) (r3 : Int) (r4 : Int) (w0 w : World) (hI : IsS58 w0 w g s0_0 s0_1 s0_2) (hB : Below w0.heap.size w0 w) (h : spec_l05AnyRole.f s0_0 s0_1 s0_2 = some (r1, r2, r3, r4)) :
  Calls Try.prog 30 #[.pointer (some ⟨g, 0, none⟩)] w fun e w' => e = .returned (.agg #[.int .i64 r1, .int .i64 r2]) ∧ IsS58 w0 w' g s0_0 r3 r4 ∧ Below w0.heap.size w0 w' ∧ KeepBut w w' g none := by
 have hu25 := Try.underlying25
 have HI0 := Aside0.mk hI
 have HK := Aside0.mk (KeepBut.refl w g none)
 have HL := Aside0.mk hB.size
 clear hI
 have HW0 := Aside0.mk hB.size
 have HB := Aside0.mk hB
 clear hB
 have H : ((spec_l05Role.f s0_0 s0_1 s0_2).bind fun bt433 => ((spec_l01Below.f s0_0 bt433.2.2.1 bt433.2.2.2 8).bind fun bt438 => (if bt438.1 = 0 then ((spec_l01PickInt.f s0_0 bt438.2.1 bt438.2.2 (([(-1), 6, 5] : List Int))).bind fun bt444 => (some (bt444.1, bt433.2.1, bt444.2.1, bt444.2.2))) else (if bt438.1 = 1 then ((spec_l01PickInt.f s0_0 bt438.2.1 bt438.2.2 (([(-1), 4, 3] : List Int))).bind fun bt450 => (some (bt433.1, bt450.1, bt450.2.1, bt450.2.2))) else (some (bt433.1, bt433.2.1, bt438.2.1, bt438.2.2)))))) = some (r1, r2, r3, r4) := h
 clear h
 replace H := Option.bind_eq_some_iff.mp H
 obtain ⟨⟨t433, t434, t435, t436⟩, A20, H⟩ := H
 try dsimp only at H
 have A2 := Aside0.mk A20
 clear A20
 replace H := Option.bind_eq_some_iff.mp H
 obtain ⟨⟨t438, t439, t440⟩, A30, H⟩ := H
 try dsimp only at H
 have A3 := Aside0.mk A30
 clear A30
 by_cases c4 : t438 = 0
 ·rw [if_pos c4] at H
  have c4b0 : (t438 == 0) = true := beq_iff_eq.mpr c4
  have c4b1 : (t438 != 0) = false := bne_eq_false_iff_eq.mpr c4
  clear c4
  obtain ⟨y441, hy441⟩ : ∃ y_ : List Int, y_ = (([(-1), 6, 5] : List Int)) := ⟨_, rfl⟩
  replace H : ((spec_l01PickInt.f s0_0 t439 t440 y441).bind fun bt444 => (some (bt444.1, t434, bt444.2.1, bt444.2.2))) = some (r1, r2, r3, r4) := by first | (rw [hy441]; with_reducible exact H) | (have H2_ := (Option.bind_some _ _).symm.trans H; rw [hy441]; with_reducible exact H2_) | (have H2_ := (Option.bind_some _ _).symm.trans H; with_reducible exact H2_) | with_reducible exact H | (rw [hy441]; exact H) | exact H
  have Ny441 := Aside0.mk hy441
  clear hy441
  replace H := Option.bind_eq_some_iff.mp H
  obtain ⟨⟨t444, t445, t446⟩, A50, H⟩ := H
  try dsimp only at H
  have A5 := Aside0.mk A50
  clear A50
  simp only [Option.some.injEq, Prod.mk.injEq] at H
  obtain ⟨rfl, rfl, rfl, rfl⟩ := H
  go_enter Try.func30, Try.ntmps30
  go_wp2_with (first | ((with_reducible refine gate_dst (N := 2) rfl ?_); refine sqX (N := 2) (cs := #[.int .i64 0, .int .i64 0]) (t := 25) ?_; intro gb432 hg w6 hbox hb; have BK432 := Aside0.mk (hbox); have GW432 := sqU1 HK hg; have GE432 := sqU2 HW0 HK hg; replace HK := sqT HK hb; have NB0_432 := sqU3 hg (IsS58.lt (show IsS58 w0 _ g s0_0 s0_1 s0_2 from sqI58 HI0)); have NB432_0 := sqU4 hg (IsS58.lt (show IsS58 w0 _ g s0_0 s0_1 s0_2 from sqI58 HI0)); replace HI0 := Aside0.mk (IsS58.below (sqI58 HI0) hb); replace HB := sqS hb; clear hb hbox hg) | ((with_reducible refine gate_callee (f := 38) rfl ?_); refine goesL_ (some 5) rfl rfl Try.func38 (by kernel_rfl) rfl #[.pointer (some ⟨g, 0, none⟩)] rfl sqA ?_; (with_reducible refine (spec_l05Role.calls g s0_0 s0_1 s0_2 t433 t434 t435 t436 w0 _ ?side1 ?side2 A2.out).mono ?_); (case side1 => exact sqI58 HI0); (case side2 => exact sqB); rintro e w7 ⟨rfl, hi, hb, hk⟩; refine ⟨_, rfl, ?_⟩; replace BK432 := Aside0.mk (KeepBut.blk hk (g' := gb432) (o := .cells #[.int .i64 0, .int .i64 0] 25 (0, 0)) (sqK BK432) NB432_0.out (by simp)); replace HK := Aside0.mk (KeepBut.trans (sqQ HK) hk (.inl rfl)); replace HI0 := Aside0.mk (hi); replace HB := Aside0.mk (hb); (try clear hb); (try clear hb2); (try clear hk); (try clear hi)) | ((with_reducible refine gate_dst (N := 3) rfl ?_); refine sqX (N := 3) (cs := #[.int .i64 0, .int .i64 0]) (t := 25) ?_; intro gb437 hg w8 hbox hb; have BK437 := Aside0.mk (hbox); have GW437 := sqU1 HK hg; have GE437 := sqU2 HW0 HK hg; replace HK := sqT HK hb; have NB432_437 := sqN BK432 hg; have NB437_432 := sqM BK432 hg; replace BK432 := sqL BK432 hb; have NB0_437 := sqU3 hg (IsS58.lt (show IsS58 w0 _ g s0_0 t435 t436 from sqI58 HI0)); have NB437_0 := sqU4 hg (IsS58.lt (show IsS58 w0 _ g s0_0 t435 t436 from sqI58 HI0)); replace HI0 := Aside0.mk (IsS58.below (sqI58 HI0) hb); replace HB := sqS hb; clear hb hbox hg; have hnb9 := NB437_432.out; have hnc9 := NB432_437.out; have hnb10 := NB437_0.out; have hnc10 := NB0_437.out; obtain ⟨hcz11_0, hcz11_1, hfz11_0, hfz11_1⟩ := sqC2 BK437) | ((with_reducible refine gate_callee (f := 39) rfl ?_); refine goesL_ (some 7) rfl rfl Try.func39 (by kernel_rfl) rfl #[.pointer (some ⟨g, 0, none⟩), .int .i64 8] rfl sqA ?_; (with_reducible refine (spec_l01Below.calls g s0_0 t435 t436 8 t438 t439 t440 w0 _ ?side1 ?side2 A3.out).mono ?_); (case side1 => exact sqI58 HI0); (case side2 => exact sqB); rintro e w12 ⟨rfl, hi, hb, hk⟩; refine ⟨_, rfl, ?_⟩; replace BK432 := Aside0.mk (KeepBut.blk hk (g' := gb432) (o := .cells #[.int .i64 0, .int .i64 0] 25 (0, 0)) (sqW BK432) NB432_0.out (by simp)); replace BK437 := Aside0.mk (KeepBut.blk hk (g' := gb437) (o := .cells #[.int .i64 t433, .int .i64 t434] 25 (0, 0)) (sqW BK437) NB437_0.out (by simp)); replace HK := Aside0.mk (KeepBut.trans (sqQ HK) hk (.inl rfl)); replace HI0 := Aside0.mk (hi); replace HB := Aside0.mk (hb); (try clear hb); (try clear hb2); (try clear hk); (try clear hi)) | ((with_reducible refine gate_dst (N := 11) rfl ?_); refine Kd.R_lit (Kd.int .i64) _ 3 ?hg (N := 11) ?hd (xs := ([(-1), 6, 5] : List Int)) (inner := [.int .i64 (-1), .int .i64 6, .int .i64 5]) (ok := fun _ => True) (okp := fun _ => True) ?hr ?hp (fun _ hk => hk) trivial (Below.refl _ _) (Nat.le_refl _) (by simp) ?_; (case hd => rfl); (case hg => rfl); (case hr => first | (go_simp; done) | (go_simp; rfl)); (case hp => exact (Reps.one (show Kd.M (Kd.int .i64) _ _ _ (-1) [.int .i64 (-1)] from rfl) (Reps.one (show Kd.M (Kd.int .i64) _ _ _ 6 [.int .i64 6] from rfl) (Reps.one (show Kd.M (Kd.int .i64) _ _ _ 5 [.int .i64 5] from rfl) (Reps.none _ _))))); intro v442 w13 ho14 hb hg_ hnew_; clear hg_ hnew_; (first | rw [← Ny441.out] at ho14 | (simp only [Int.reduceToNat] at ho14; rw [← Ny441.out] at ho14)); have HO443 := Aside0.mk (Kd.R_lower ho14 (keep_size (w := w) (g := g) (row := none) (sqQ HK))); replace HI0 := Aside0.mk (IsS58.below (sqI58 HI0) hb); replace BK432 := sqL BK432 hb; replace BK437 := sqL BK437 hb; replace HK := sqT HK hb; replace HB := sqS hb; clear hb ho14; obtain ⟨Ao15, co15, eo15⟩ := Kd.R_slice HO443.out; subst eo15) | ((with_reducible refine gate_callee (f := 37) rfl ?_); refine goesL_ (some 12) rfl rfl Try.func37 (by kernel_rfl) rfl #[.pointer (some ⟨g, 0, none⟩), .slice Ao15 y441.length co15] rfl sqA ?_; (with_reducible refine (spec_l01PickInt.calls g s0_0 t439 t440 _ _ y441 t444 t445 t446 w0 _ ?side1 ?side2 ?side3 ?side4 ?side5 A5.out).mono ?_); (case side1 => exact sqI58 HI0); (case side2 => exact sqB); (case side3 => repeat (first | exact (Kd.R_reads' HO443.out).2.2 | (with_reducible refine Kd.C_alloc ?_ _) | (with_reducible refine Kd.C_drewN ?_ _) | (with_reducible refine Kd.C_drew ?_))); (case side4 => exact (Kd.R_reads' HO443.out).2.1); (case side5 => exact far_slice (IsS58.own_ne HI0.out HO443.out (by decide))); rintro e w16 ⟨rfl, hi, hb, hk⟩; refine ⟨_, rfl, ?_⟩; replace BK432 := Aside0.mk (KeepBut.blk hk (g' := gb432) (o := .cells #[.int .i64 0, .int .i64 0] 25 (0, 0)) (sqK BK432) NB432_0.out (by simp)); replace BK437 := Aside0.mk (KeepBut.blk hk (g' := gb437) (o := .cells #[.int .i64 t433, .int .i64 t434] 25 (0, 0)) (sqK BK437) NB437_0.out (by simp)); replace HO443 := Aside0.mk (Kd.R_mono (Kd.R_keep (IsS58.apart (show IsS58 w0 _ g s0_0 t439 t440 from sqI58 HI0) (sqR HO443) (by decide)) hk (fun _ h => h.2)) (fun _ h => h.1)); replace HK := Aside0.mk (KeepBut.trans (sqQ HK) hk (.inl rfl)); replace HI0 := Aside0.mk (hi); replace HB := Aside0.mk (hb); (try clear hb); (try clear hb2); (try clear hk); (try clear hi); obtain ⟨hcz17_0, hcz17_1, hfz17_0, hfz17_1⟩ := sqC2 BK437; have hnb18 := NB432_0.out; have hnc18 := NB0_432.out; obtain ⟨hcz19_0, hcz19_1, hfz19_0, hfz19_1⟩ := sqC2 BK432))
  refine bodyPost_ret (results_cell_row rfl _ _ gb432 25 #[.int .i64 t444, .int .i64 t434] (0, 0) _ rfl (sqW BK432) Try.underlying25 rfl (by kernel_rfl)) rfl ?_
  exact ⟨sqE, sqI58 HI0, sqB, sqQ HK⟩
 ·rw [if_neg c4] at H
  have c4b0 : (t438 == 0) = false := beq_eq_false_iff_ne.mpr c4
  have c4b1 : (t438 != 0) = true := bne_iff_ne.mpr c4
  by_cases c20 : t438 = 1
  ·rw [if_pos c20] at H
   have c20b0 : (t438 == 1) = true := beq_iff_eq.mpr c20
   have c20b1 : (t438 != 1) = false := bne_eq_false_iff_eq.mpr c20
   clear c20
   obtain ⟨y447, hy447⟩ : ∃ y_ : List Int, y_ = (([(-1), 4, 3] : List Int)) := ⟨_, rfl⟩
   replace H : ((spec_l01PickInt.f s0_0 t439 t440 y447).bind fun bt450 => (some (t433, bt450.1, bt450.2.1, bt450.2.2))) = some (r1, r2, r3, r4) := by first | (rw [hy447]; with_reducible exact H) | (have H2_ := (Option.bind_some _ _).symm.trans H; rw [hy447]; with_reducible exact H2_) | (have H2_ := (Option.bind_some _ _).symm.trans H; with_reducible exact H2_) | with_reducible exact H | (rw [hy447]; exact H) | exact H
   have Ny447 := Aside0.mk hy447
   clear hy447
   replace H := Option.bind_eq_some_iff.mp H
   obtain ⟨⟨t450, t451, t452⟩, A210, H⟩ := H
   try dsimp only at H
   have A21 := Aside0.mk A210
   clear A210
   simp only [Option.some.injEq, Prod.mk.injEq] at H
   obtain ⟨rfl, rfl, rfl, rfl⟩ := H
   go_enter Try.func30, Try.ntmps30
   go_wp2_with (first | ((with_reducible refine gate_dst (N := 2) rfl ?_); refine sqX (N := 2) (cs := #[.int .i64 0, .int .i64 0]) (t := 25) ?_; intro gb432 hg w22 hbox hb; have BK432 := Aside0.mk (hbox); have GW432 := sqU1 HK hg; have GE432 := sqU2 HW0 HK hg; replace HK := sqT HK hb; have NB0_432 := sqU3 hg (IsS58.lt (show IsS58 w0 _ g s0_0 s0_1 s0_2 from sqI58 HI0)); have NB432_0 := sqU4 hg (IsS58.lt (show IsS58 w0 _ g s0_0 s0_1 s0_2 from sqI58 HI0)); replace HI0 := Aside0.mk (IsS58.below (sqI58 HI0) hb); replace HB := sqS hb; clear hb hbox hg) | ((with_reducible refine gate_callee (f := 38) rfl ?_); refine goesL_ (some 5) rfl rfl Try.func38 (by kernel_rfl) rfl #[.pointer (some ⟨g, 0, none⟩)] rfl sqA ?_; (with_reducible refine (spec_l05Role.calls g s0_0 s0_1 s0_2 t433 t434 t435 t436 w0 _ ?side1 ?side2 A2.out).mono ?_); (case side1 => exact sqI58 HI0); (case side2 => exact sqB); rintro e w23 ⟨rfl, hi, hb, hk⟩; refine ⟨_, rfl, ?_⟩; replace BK432 := Aside0.mk (KeepBut.blk hk (g' := gb432) (o := .cells #[.int .i64 0, .int .i64 0] 25 (0, 0)) (sqK BK432) NB432_0.out (by simp)); replace HK := Aside0.mk (KeepBut.trans (sqQ HK) hk (.inl rfl)); replace HI0 := Aside0.mk (hi); replace HB := Aside0.mk (hb); (try clear hb); (try clear hb2); (try clear hk); (try clear hi)) | ((with_reducible refine gate_dst (N := 3) rfl ?_); refine sqX (N := 3) (cs := #[.int .i64 0, .int .i64 0]) (t := 25) ?_; intro gb437 hg w24 hbox hb; have BK437 := Aside0.mk (hbox); have GW437 := sqU1 HK hg; have GE437 := sqU2 HW0 HK hg; replace HK := sqT HK hb; have NB432_437 := sqN BK432 hg; have NB437_432 := sqM BK432 hg; replace BK432 := sqL BK432 hb; have NB0_437 := sqU3 hg (IsS58.lt (show IsS58 w0 _ g s0_0 t435 t436 from sqI58 HI0)); have NB437_0 := sqU4 hg (IsS58.lt (show IsS58 w0 _ g s0_0 t435 t436 from sqI58 HI0)); replace HI0 := Aside0.mk (IsS58.below (sqI58 HI0) hb); replace HB := sqS hb; clear hb hbox hg; have hnb25 := NB437_432.out; have hnc25 := NB432_437.out; have hnb26 := NB437_0.out; have hnc26 := NB0_437.out; obtain ⟨hcz27_0, hcz27_1, hfz27_0, hfz27_1⟩ := sqC2 BK437) | ((with_reducible refine gate_callee (f := 39) rfl ?_); refine goesL_ (some 7) rfl rfl Try.func39 (by kernel_rfl) rfl #[.pointer (some ⟨g, 0, none⟩), .int .i64 8] rfl sqA ?_; (with_reducible refine (spec_l01Below.calls g s0_0 t435 t436 8 t438 t439 t440 w0 _ ?side1 ?side2 A3.out).mono ?_); (case side1 => exact sqI58 HI0); (case side2 => exact sqB); rintro e w28 ⟨rfl, hi, hb, hk⟩; refine ⟨_, rfl, ?_⟩; replace BK432 := Aside0.mk (KeepBut.blk hk (g' := gb432) (o := .cells #[.int .i64 0, .int .i64 0] 25 (0, 0)) (sqW BK432) NB432_0.out (by simp)); replace BK437 := Aside0.mk (KeepBut.blk hk (g' := gb437) (o := .cells #[.int .i64 t433, .int .i64 t434] 25 (0, 0)) (sqW BK437) NB437_0.out (by simp)); replace HK := Aside0.mk (KeepBut.trans (sqQ HK) hk (.inl rfl)); replace HI0 := Aside0.mk (hi); replace HB := Aside0.mk (hb); (try clear hb); (try clear hb2); (try clear hk); (try clear hi)) | ((with_reducible refine gate_dst (N := 17) rfl ?_); refine Kd.R_lit (Kd.int .i64) _ 3 ?hg (N := 17) ?hd (xs := ([(-1), 4, 3] : List Int)) (inner := [.int .i64 (-1), .int .i64 4, .int .i64 3]) (ok := fun _ => True) (okp := fun _ => True) ?hr ?hp (fun _ hk => hk) trivial (Below.refl _ _) (Nat.le_refl _) (by simp) ?_; (case hd => rfl); (case hg => rfl); (case hr => first | (go_simp; done) | (go_simp; rfl)); (case hp => exact (Reps.one (show Kd.M (Kd.int .i64) _ _ _ (-1) [.int .i64 (-1)] from rfl) (Reps.one (show Kd.M (Kd.int .i64) _ _ _ 4 [.int .i64 4] from rfl) (Reps.one (show Kd.M (Kd.int .i64) _ _ _ 3 [.int .i64 3] from rfl) (Reps.none _ _))))); intro v448 w29 ho30 hb hg_ hnew_; clear hg_ hnew_; (first | rw [← Ny447.out] at ho30 | (simp only [Int.reduceToNat] at ho30; rw [← Ny447.out] at ho30)); have HO449 := Aside0.mk (Kd.R_lower ho30 (keep_size (w := w) (g := g) (row := none) (sqQ HK))); replace HI0 := Aside0.mk (IsS58.below (sqI58 HI0) hb); replace BK432 := sqL BK432 hb; replace BK437 := sqL BK437 hb; replace HK := sqT HK hb; replace HB := sqS hb; clear hb ho30; obtain ⟨Ao31, co31, eo31⟩ := Kd.R_slice HO449.out; subst eo31) | ((with_reducible refine gate_callee (f := 37) rfl ?_); refine goesL_ (some 18) rfl rfl Try.func37 (by kernel_rfl) rfl #[.pointer (some ⟨g, 0, none⟩), .slice Ao31 y447.length co31] rfl sqA ?_; (with_reducible refine (spec_l01PickInt.calls g s0_0 t439 t440 _ _ y447 t450 t451 t452 w0 _ ?side1 ?side2 ?side3 ?side4 ?side5 A21.out).mono ?_); (case side1 => exact sqI58 HI0); (case side2 => exact sqB); (case side3 => repeat (first | exact (Kd.R_reads' HO449.out).2.2 | (with_reducible refine Kd.C_alloc ?_ _) | (with_reducible refine Kd.C_drewN ?_ _) | (with_reducible refine Kd.C_drew ?_))); (case side4 => exact (Kd.R_reads' HO449.out).2.1); (case side5 => exact far_slice (IsS58.own_ne HI0.out HO449.out (by decide))); rintro e w32 ⟨rfl, hi, hb, hk⟩; refine ⟨_, rfl, ?_⟩; replace BK432 := Aside0.mk (KeepBut.blk hk (g' := gb432) (o := .cells #[.int .i64 0, .int .i64 0] 25 (0, 0)) (sqK BK432) NB432_0.out (by simp)); replace BK437 := Aside0.mk (KeepBut.blk hk (g' := gb437) (o := .cells #[.int .i64 t433, .int .i64 t434] 25 (0, 0)) (sqK BK437) NB437_0.out (by simp)); replace HO449 := Aside0.mk (Kd.R_mono (Kd.R_keep (IsS58.apart (show IsS58 w0 _ g s0_0 t439 t440 from sqI58 HI0) (sqR HO449) (by decide)) hk (fun _ h => h.2)) (fun _ h => h.1)); replace HK := Aside0.mk (KeepBut.trans (sqQ HK) hk (.inl rfl)); replace HI0 := Aside0.mk (hi); replace HB := Aside0.mk (hb); (try clear hb); (try clear hb2); (try clear hk); (try clear hi); obtain ⟨hcz33_0, hcz33_1, hfz33_0, hfz33_1⟩ := sqC2 BK437; have hnb34 := NB432_0.out; have hnc34 := NB0_432.out; obtain ⟨hcz35_0, hcz35_1, hfz35_0, hfz35_1⟩ := sqC2 BK432))
   refine bodyPost_ret (results_cell_row rfl _ _ gb432 25 #[.int .i64 t433, .int .i64 t450] (0, 0) _ rfl (sqW BK432) Try.underlying25 rfl (by kernel_rfl)) rfl ?_
   exact ⟨sqE, sqI58 HI0, sqB, sqQ HK⟩
  ·rw [if_neg c20] at H
   have c20b0 : (t438 == 1) = false := beq_eq_false_iff_ne.mpr c20
   have c20b1 : (t438 != 1) = true := bne_iff_ne.mpr c20
   simp only [Option.some.injEq, Prod.mk.injEq] at H
   obtain ⟨rfl, rfl, rfl, rfl⟩ := H
   go_enter Try.func30, Try.ntmps30
   go_wp2_with (first | ((with_reducible refine gate_dst (N := 2) rfl ?_); refine sqX (N := 2) (cs := #[.int .i64 0, .int .i64 0]) (t := 25) ?_; intro gb432 hg w36 hbox hb; have BK432 := Aside0.mk (hbox); have GW432 := sqU1 HK hg; have GE432 := sqU2 HW0 HK hg; replace HK := sqT HK hb; have NB0_432 := sqU3 hg (IsS58.lt (show IsS58 w0 _ g s0_0 s0_1 s0_2 from sqI58 HI0)); have NB432_0 := sqU4 hg (IsS58.lt (show IsS58 w0 _ g s0_0 s0_1 s0_2 from sqI58 HI0)); replace HI0 := Aside0.mk (IsS58.below (sqI58 HI0) hb); replace HB := sqS hb; clear hb hbox hg) | ((with_reducible refine gate_callee (f := 38) rfl ?_); refine goesL_ (some 5) rfl rfl Try.func38 (by kernel_rfl) rfl #[.pointer (some ⟨g, 0, none⟩)] rfl sqA ?_; (with_reducible refine (spec_l05Role.calls g s0_0 s0_1 s0_2 t433 t434 t435 t436 w0 _ ?side1 ?side2 A2.out).mono ?_); (case side1 => exact sqI58 HI0); (case side2 => exact sqB); rintro e w37 ⟨rfl, hi, hb, hk⟩; refine ⟨_, rfl, ?_⟩; replace BK432 := Aside0.mk (KeepBut.blk hk (g' := gb432) (o := .cells #[.int .i64 0, .int .i64 0] 25 (0, 0)) (sqK BK432) NB432_0.out (by simp)); replace HK := Aside0.mk (KeepBut.trans (sqQ HK) hk (.inl rfl)); replace HI0 := Aside0.mk (hi); replace HB := Aside0.mk (hb); (try clear hb); (try clear hb2); (try clear hk); (try clear hi)) | ((with_reducible refine gate_dst (N := 3) rfl ?_); refine sqX (N := 3) (cs := #[.int .i64 0, .int .i64 0]) (t := 25) ?_; intro gb437 hg w38 hbox hb; have BK437 := Aside0.mk (hbox); have GW437 := sqU1 HK hg; have GE437 := sqU2 HW0 HK hg; replace HK := sqT HK hb; have NB432_437 := sqN BK432 hg; have NB437_432 := sqM BK432 hg; replace BK432 := sqL BK432 hb; have NB0_437 := sqU3 hg (IsS58.lt (show IsS58 w0 _ g s0_0 t435 t436 from sqI58 HI0)); have NB437_0 := sqU4 hg (IsS58.lt (show IsS58 w0 _ g s0_0 t435 t436 from sqI58 HI0)); replace HI0 := Aside0.mk (IsS58.below (sqI58 HI0) hb); replace HB := sqS hb; clear hb hbox hg; have hnb39 := NB437_432.out; have hnc39 := NB432_437.out; have hnb40 := NB437_0.out; have hnc40 := NB0_437.out; obtain ⟨hcz41_0, hcz41_1, hfz41_0, hfz41_1⟩ := sqC2 BK437) | ((with_reducible refine gate_callee (f := 39) rfl ?_); refine goesL_ (some 7) rfl rfl Try.func39 (by kernel_rfl) rfl #[.pointer (some ⟨g, 0, none⟩), .int .i64 8] rfl sqA ?_; (with_reducible refine (spec_l01Below.calls g s0_0 t435 t436 8 t438 t439 t440 w0 _ ?side1 ?side2 A3.out).mono ?_); (case side1 => exact sqI58 HI0); (case side2 => exact sqB); rintro e w42 ⟨rfl, hi, hb, hk⟩; refine ⟨_, rfl, ?_⟩; replace BK432 := Aside0.mk (KeepBut.blk hk (g' := gb432) (o := .cells #[.int .i64 0, .int .i64 0] 25 (0, 0)) (sqW BK432) NB432_0.out (by simp)); replace BK437 := Aside0.mk (KeepBut.blk hk (g' := gb437) (o := .cells #[.int .i64 t433, .int .i64 t434] 25 (0, 0)) (sqW BK437) NB437_0.out (by simp)); replace HK := Aside0.mk (KeepBut.trans (sqQ HK) hk (.inl rfl)); replace HI0 := Aside0.mk (hi); replace HB := Aside0.mk (hb); (try clear hb); (try clear hb2); (try clear hk); (try clear hi); obtain ⟨hcz43_0, hcz43_1, hfz43_0, hfz43_1⟩ := sqC2 BK437; have hnb44 := NB432_0.out; have hnc44 := NB0_432.out; obtain ⟨hcz45_0, hcz45_1, hfz45_0, hfz45_1⟩ := sqC2 BK432))
   refine bodyPost_ret (results_cell_row rfl _ _ gb432 25 #[.int .i64 t433, .int .i64 t434] (0, 0) _ rfl (sqW BK432) Try.underlying25 rfl (by kernel_rfl)) rfl ?_
   exact ⟨sqE, sqI58 HI0, sqB, sqQ HK⟩

/-! ### spec_DrawRoleOk: function 12 -/
def spec_DrawRoleOk.f (k : Nat) (l0 : List Int) : Option (Int × Int) := (spec_l01New.f k l0).bind fun bt454 => ((spec_l05AnyRole.f bt454.1 bt454.2.1 bt454.2.2).bind fun bt458 => (some (bt458.1, bt458.2.1)))
theorem spec_DrawRoleOk.mono : ∀ a0 k, LeO (spec_DrawRoleOk.f k a0) (spec_DrawRoleOk.f (k + 1) a0) := by
 intro a0 k
 unfold spec_DrawRoleOk.f
 repeat' first
   | (with_reducible exact spec_l01New.mono _ _)
   | (with_reducible exact LeO.refl _)
   | (with_reducible exact LeO.none _)
   | (with_reducible refine LeO.ite ?_ ?_)
   | (with_reducible refine LeO.bind ?_ (fun _ => ?_))
   | exact spec_l01New.mono _ _
   | exact LeO.none _
   | refine LeO.ite ?_ ?_
   | refine LeO.bind ?_ (fun _ => ?_)
set_option maxHeartbeats 8000000 in
set_option maxRecDepth 100000 in
theorem spec_DrawRoleOk.calls (k : Nat) (A0 : Option Addr) (c0 : Nat) (l0 : List Int) (r1 : Int) (r2 : Int) (w : World) (hr0 : Kd.C (Kd.int .u8) w A0 l0.length l0) (hc0 : l0.length ≤ c0) (h : spec_DrawRoleOk.f k l0 = some (r1, r2)) :
  Calls Try.prog 12 #[.slice A0 l0.length c0] w fun e w' => e = .returned (.agg #[.int .i64 r1, .int .i64 r2]) ∧ Below w.heap.size w w' := by
 have hu25 := Try.underlying25
 have HR0 := Aside0.mk hr0
 have HC0 := Aside0.mk hc0
 clear hr0 hc0
 have HB := Aside0.mk (Below.refl w.heap.size w)
 have H : ((spec_l01New.f k l0).bind fun bt454 => ((spec_l05AnyRole.f bt454.1 bt454.2.1 bt454.2.2).bind fun bt458 => (some (bt458.1, bt458.2.1)))) = some (r1, r2) := h
 clear h
 replace H := Option.bind_eq_some_iff.mp H
 obtain ⟨⟨t454, t455, t456⟩, A20, H⟩ := H
 try dsimp only at H
 have A2 := Aside0.mk A20
 clear A20
 replace H := Option.bind_eq_some_iff.mp H
 obtain ⟨⟨t458, t459, t460, t461⟩, A30, H⟩ := H
 try dsimp only at H
 have A3 := Aside0.mk A30
 clear A30
 simp only [Option.some.injEq, Prod.mk.injEq] at H
 obtain ⟨rfl, rfl⟩ := H
 go_enter Try.func12, Try.ntmps12
 go_wp2_with (first | ((with_reducible refine gate_dst (N := 2) rfl ?_); refine sqX (N := 2) (cs := #[.int .i64 0, .int .i64 0]) (t := 25) ?_; intro gb453 hg w4 hbox hb; have BK453 := Aside0.mk (hbox); have GW453 := sqG hg; have GE453 := sqG hg; replace HB := sqS hb; clear hb hbox hg) | ((with_reducible refine gate_callee (f := 23) rfl ?_); refine goesL_ (some 4) rfl rfl Try.func23 (by kernel_rfl) rfl #[.slice A0 l0.length c0] rfl sqA ?_; (with_reducible refine (spec_l01New.calls k _ _ l0 t454 t455 t456 w _ ?side1 ?side2 ?side3 A2.out).mono ?_); (case side1 => exact sqB); (case side2 => exact HR0.out); (case side3 => exact HC0.out); rintro e w5 ⟨g457, rfl, hi, hb, hb2⟩; refine ⟨_, rfl, ?_⟩; have HI457 := Aside0.mk (hi); have NB457_453 := Aside0.mk (IsS58.ne_blk hi (blk_below (g := gb453) (o := .cells #[.int .i64 0, .int .i64 0] 25 (0, 0)) (sqK BK453) hb2) (by decide)); have NB453_457 := Aside0.mk (Ne.symm (IsS58.ne_blk hi (blk_below (g := gb453) (o := .cells #[.int .i64 0, .int .i64 0] 25 (0, 0)) (sqK BK453) hb2) (by decide))); replace BK453 := Aside0.mk (blk_below (g := gb453) (o := .cells #[.int .i64 0, .int .i64 0] 25 (0, 0)) (sqK BK453) hb2); replace HB := Aside0.mk (hb); (try clear hb); (try clear hb2); (try clear hk); (try clear hi)) | ((with_reducible refine gate_callee (f := 30) rfl ?_); refine goesL_ (some 5) rfl rfl Try.func30 (by kernel_rfl) rfl #[.pointer (some ⟨g457, 0, none⟩)] rfl sqA ?_; (with_reducible refine (spec_l05AnyRole.calls g457 t454 t455 t456 t458 t459 t460 t461 w _ ?side1 ?side2 A3.out).mono ?_); (case side1 => exact sqI58 HI457); (case side2 => exact sqB); rintro e w6 ⟨rfl, hi, hb, hk⟩; refine ⟨_, rfl, ?_⟩; replace BK453 := Aside0.mk (KeepBut.blk hk (g' := gb453) (o := .cells #[.int .i64 0, .int .i64 0] 25 (0, 0)) (sqK BK453) NB453_457.out (by simp)); replace HI457 := Aside0.mk (hi); replace HB := Aside0.mk (hb); (try clear hb); (try clear hb2); (try clear hk); (try clear hi); have hnb7 := NB453_457.out; have hnc7 := NB457_453.out; obtain ⟨hcz8_0, hcz8_1, hfz8_0, hfz8_1⟩ := sqC2 BK453))
 refine bodyPost_ret (results_cell_row rfl _ _ gb453 25 #[.int .i64 t458, .int .i64 t459] (0, 0) _ rfl (sqW BK453) Try.underlying25 rfl (by kernel_rfl)) rfl ?_
 exact ⟨sqE, sqB⟩

/-! ### impl_ShaStart: function 42 -/
def impl_ShaStart.f  : Option (List Int) := some (([1779033703, 3144134277, 1013904242, 2773480762, 1359893119, 2600822924, 528734635, 1541459225] : List Int))
set_option maxHeartbeats 8000000 in
set_option maxRecDepth 100000 in
theorem impl_ShaStart.calls  (r : List Int) (w : World) (h : impl_ShaStart.f  = some r) :
  Calls Try.prog 42 #[] w fun e w' => ∃ v0_ : Value, e = .returned (v0_) ∧ Kd.R (Kd.int .i64) 3 w' w.heap.size (fun _ => True) v0_ r ∧ Below w.heap.size w w' := by
 have HB := Aside0.mk (Below.refl w.heap.size w)
 have H : (some (([1779033703, 3144134277, 1013904242, 2773480762, 1359893119, 2600822924, 528734635, 1541459225] : List Int))) = some r := h
 clear h
 obtain ⟨y462, hy462⟩ : ∃ y_ : List Int, y_ = (([1779033703, 3144134277, 1013904242, 2773480762, 1359893119, 2600822924, 528734635, 1541459225] : List Int)) := ⟨_, rfl⟩
 replace H : (some y462) = some r := by first | (rw [hy462]; with_reducible exact H) | (have H2_ := (Option.bind_some _ _).symm.trans H; rw [hy462]; with_reducible exact H2_) | (have H2_ := (Option.bind_some _ _).symm.trans H; with_reducible exact H2_) | with_reducible exact H | (rw [hy462]; exact H) | exact H
 have Ny462 := Aside0.mk hy462
 clear hy462
 obtain rfl := Option.some.inj H
 go_enter Try.func42, Try.ntmps42
 go_wp2_with (first | ((with_reducible refine gate_dst (N := 1) rfl ?_); refine Kd.R_lit (Kd.int .i64) _ 3 ?hg (N := 1) ?hd (xs := ([1779033703, 3144134277, 1013904242, 2773480762, 1359893119, 2600822924, 528734635, 1541459225] : List Int)) (inner := [.int .i64 1779033703, .int .i64 3144134277, .int .i64 1013904242, .int .i64 2773480762, .int .i64 1359893119, .int .i64 2600822924, .int .i64 528734635, .int .i64 1541459225]) (ok := fun _ => True) (okp := fun _ => True) ?hr ?hp (fun _ hk => hk) trivial (Below.refl _ _) (Nat.le_refl _) (by simp) ?_; (case hd => rfl); (case hg => rfl); (case hr => first | (go_simp; done) | (go_simp; rfl)); (case hp => exact (Reps.one (show Kd.M (Kd.int .i64) _ _ _ 1779033703 [.int .i64 1779033703] from rfl) (Reps.one (show Kd.M (Kd.int .i64) _ _ _ 3144134277 [.int .i64 3144134277] from rfl) (Reps.one (show Kd.M (Kd.int .i64) _ _ _ 1013904242 [.int .i64 1013904242] from rfl) (Reps.one (show Kd.M (Kd.int .i64) _ _ _ 2773480762 [.int .i64 2773480762] from rfl) (Reps.one (show Kd.M (Kd.int .i64) _ _ _ 1359893119 [.int .i64 1359893119] from rfl) (Reps.one (show Kd.M (Kd.int .i64) _ _ _ 2600822924 [.int .i64 2600822924] from rfl) (Reps.one (show Kd.M (Kd.int .i64) _ _ _ 528734635 [.int .i64 528734635] from rfl) (Reps.one (show Kd.M (Kd.int .i64) _ _ _ 1541459225 [.int .i64 1541459225] from rfl) (Reps.none _ _)))))))))); intro v463 w1 ho2 hb hg_ hnew_; clear hg_ hnew_; (first | rw [← Ny462.out] at ho2 | (simp only [Int.reduceToNat] at ho2; rw [← Ny462.out] at ho2)); have HO464 := Aside0.mk (Kd.R_lower ho2 (below_size (sqB))); replace HB := sqS hb; clear hb ho2))
 go_ret
 exact ⟨_, sqE, sqR HO464, sqB⟩

/-! ### bits_Mul32: function 61 -/
def bits_Mul32.f (a0 : Int) (a1 : Int) : Option (Int × Int) := some (((IntKind.u64.wrap ((IntKind.u64.wrap (a0)) * (IntKind.u64.wrap (a1)))) / 4294967296) % 4294967296, (IntKind.u64.wrap ((IntKind.u64.wrap (a0)) * (IntKind.u64.wrap (a1)))) % 4294967296)
set_option maxHeartbeats 8000000 in
set_option maxRecDepth 100000 in
theorem bits_Mul32.calls (a0 : Int) (a1 : Int) (r1 : Int) (r2 : Int) (w : World) (h : bits_Mul32.f a0 a1 = some (r1, r2)) :
  Calls Try.prog 61 #[.int .u32 a0, .int .u32 a1] w fun e w' => e = .returned (.tuple #[.int .u32 r1, .int .u32 r2]) ∧ Drawn0 w w' := by
 have H : (some (((IntKind.u64.wrap ((IntKind.u64.wrap (a0)) * (IntKind.u64.wrap (a1)))) / 4294967296) % 4294967296, (IntKind.u64.wrap ((IntKind.u64.wrap (a0)) * (IntKind.u64.wrap (a1)))) % 4294967296)) = some (r1, r2) := h
 clear h
 simp only [Option.some.injEq, Prod.mk.injEq] at H
 obtain ⟨rfl, rfl⟩ := H
 go_enter Try.func61, Try.ntmps61
 go_wp2
 go_ret2
 exact ⟨by first | rfl | (simp; done) | (simp [*]; done), by repeat (first | exact Drawn0.refl _ | apply Drawn0.step)⟩

/-! ### bits_Mul64: function 62 -/
def bits_Mul64.f (a0 : Int) (a1 : Int) : Option (Int × Int) := some (IntKind.u64.wrap ((IntKind.u64.wrap ((IntKind.u64.wrap ((a0 / 4294967296) * (a1 / 4294967296))) + ((IntKind.u64.wrap ((IntKind.u64.wrap ((a0 / 4294967296) * (Go.bits .and .u64 a1 4294967295))) + ((IntKind.u64.wrap ((Go.bits .and .u64 a0 4294967295) * (Go.bits .and .u64 a1 4294967295))) / 4294967296))) / 4294967296))) + ((IntKind.u64.wrap ((Go.bits .and .u64 (IntKind.u64.wrap ((IntKind.u64.wrap ((a0 / 4294967296) * (Go.bits .and .u64 a1 4294967295))) + ((IntKind.u64.wrap ((Go.bits .and .u64 a0 4294967295) * (Go.bits .and .u64 a1 4294967295))) / 4294967296))) 4294967295) + (IntKind.u64.wrap ((Go.bits .and .u64 a0 4294967295) * (a1 / 4294967296))))) / 4294967296)), IntKind.u64.wrap (a0 * a1))
set_option maxHeartbeats 8000000 in
set_option maxRecDepth 100000 in
theorem bits_Mul64.calls (a0 : Int) (a1 : Int) (r1 : Int) (r2 : Int) (w : World) (h : bits_Mul64.f a0 a1 = some (r1, r2)) :
  Calls Try.prog 62 #[.int .u64 a0, .int .u64 a1] w fun e w' => e = .returned (.tuple #[.int .u64 r1, .int .u64 r2]) ∧ Drawn0 w w' := by
 have H : (some (IntKind.u64.wrap ((IntKind.u64.wrap ((IntKind.u64.wrap ((a0 / 4294967296) * (a1 / 4294967296))) + ((IntKind.u64.wrap ((IntKind.u64.wrap ((a0 / 4294967296) * (Go.bits .and .u64 a1 4294967295))) + ((IntKind.u64.wrap ((Go.bits .and .u64 a0 4294967295) * (Go.bits .and .u64 a1 4294967295))) / 4294967296))) / 4294967296))) + ((IntKind.u64.wrap ((Go.bits .and .u64 (IntKind.u64.wrap ((IntKind.u64.wrap ((a0 / 4294967296) * (Go.bits .and .u64 a1 4294967295))) + ((IntKind.u64.wrap ((Go.bits .and .u64 a0 4294967295) * (Go.bits .and .u64 a1 4294967295))) / 4294967296))) 4294967295) + (IntKind.u64.wrap ((Go.bits .and .u64 a0 4294967295) * (a1 / 4294967296))))) / 4294967296)), IntKind.u64.wrap (a0 * a1))) = some (r1, r2) := h
 clear h
 simp only [Option.some.injEq, Prod.mk.injEq] at H
 obtain ⟨rfl, rfl⟩ := H
 go_enter Try.func62, Try.ntmps62
 go_wp2
 go_ret2
 exact ⟨by first | rfl | (simp; done) | (simp [*]; done), by repeat (first | exact Drawn0.refl _ | apply Drawn0.step)⟩

/-! ### bits_Mul: function 55 -/
def bits_Mul.f (a0 : Int) (a1 : Int) : Option (Int × Int) := (bits_Mul64.f a0 a1).bind fun bt465 => (some (bt465.1, bt465.2))
set_option maxHeartbeats 8000000 in
set_option maxRecDepth 100000 in
theorem bits_Mul.calls (a0 : Int) (a1 : Int) (r1 : Int) (r2 : Int) (w : World) (h : bits_Mul.f a0 a1 = some (r1, r2)) :
  Calls Try.prog 55 #[.int .u64 a0, .int .u64 a1] w fun e w' => e = .returned (.tuple #[.int .u64 r1, .int .u64 r2]) ∧ Drawn0 w w' := by
 have H : ((bits_Mul64.f a0 a1).bind fun bt465 => (some (bt465.1, bt465.2))) = some (r1, r2) := h
 clear h
 replace H := Option.bind_eq_some_iff.mp H
 obtain ⟨⟨t465, t466⟩, A30, H⟩ := H
 try dsimp only at H
 have A3 := Aside0.mk A30
 clear A30
 simp only [Option.some.injEq, Prod.mk.injEq] at H
 obtain ⟨rfl, rfl⟩ := H
 go_enter Try.func55, Try.ntmps55
 go_wp2_with (first | ((with_reducible refine gate_callee (f := 62) rfl ?_); refine goesL_ (some 25) rfl rfl Try.func62 (by kernel_rfl) rfl #[.int .u64 a0, .int .u64 a1] rfl sqA ?_; (with_reducible refine (bits_Mul64.calls a0 a1 t465 t466 _ A3.out).mono ?_); rintro e w' ⟨rfl, ⟨nd, rfl⟩⟩; refine ⟨_, rfl, ?_⟩))
 go_ret2
 exact ⟨by first | rfl | (simp; done) | (simp [*]; done), by repeat (first | exact Drawn0.refl _ | apply Drawn0.step)⟩

/-! ### stringslite_HasPrefix: function 63 -/
def stringslite_HasPrefix.f (a0 : ByteArray) (a1 : ByteArray) : Option (Bool) := if (a0.size : Int) ≥ (a1.size : Int) then (if 0 ≤ (a1.size : Int) then (if (a1.size : Int) ≤ (a0.size : Int) then (some ((a0.extract 0 ((a1.size : Int) : Int).toNat).toList == a1.toList)) else (none)) else (none)) else (some false)
set_option maxHeartbeats 8000000 in
set_option maxRecDepth 100000 in
theorem stringslite_HasPrefix.calls (a0 : ByteArray) (a1 : ByteArray) (r : Bool) (w : World) (h : stringslite_HasPrefix.f a0 a1 = some r) :
  Calls Try.prog 63 #[.string a0, .string a1] w fun e w' => e = .returned (.bool r) ∧ Drawn0 w w' := by
 have H : (if (a0.size : Int) ≥ (a1.size : Int) then (if 0 ≤ (a1.size : Int) then (if (a1.size : Int) ≤ (a0.size : Int) then (some ((a0.extract 0 ((a1.size : Int) : Int).toNat).toList == a1.toList)) else (none)) else (none)) else (some false)) = some r := h
 clear h
 by_cases c3 : (a0.size : Int) ≥ (a1.size : Int)
 ·rw [if_pos c3] at H
  have c3b0 : decide ((a1.size : Int) ≤ (a0.size : Int)) = true := decide_eq_true c3
  have c3b1 : decide (a1.size ≤ a0.size) = true := decide_eq_true (Int.ofNat_le.mp c3)
  clear c3
  by_cases c4 : 0 ≤ (a1.size : Int)
  ·rw [if_pos c4] at H
   have c4b0 := eq_true c4
   have c4b1 : decide (0 ≤ (a1.size : Int)) = true := decide_eq_true c4
   clear c4
   by_cases c5 : (a1.size : Int) ≤ (a0.size : Int)
   ·rw [if_pos c5] at H
    have c5b0 := eq_true c5
    have c5b1 : decide ((a1.size : Int) ≤ (a0.size : Int)) = true := decide_eq_true c5
    clear c5
    obtain rfl := Option.some.inj H
    go_enter Try.func63, Try.ntmps63
    go_wp2
    go_ret
    exact ⟨by first | rfl | (simp; done) | (simp [*]; done), by repeat (first | exact Drawn0.refl _ | apply Drawn0.step)⟩
   ·rw [if_neg c5] at H
    exact absurd H (by simp)
  ·rw [if_neg c4] at H
   exact absurd H (by simp)
 ·rw [if_neg c3] at H
  have c3b0 : decide ((a1.size : Int) ≤ (a0.size : Int)) = false := decide_eq_false c3
  have c3b1 : decide (a1.size ≤ a0.size) = false := decide_eq_false (fun h => c3 (Int.ofNat_le.mpr h))
  clear c3
  obtain rfl := Option.some.inj H
  go_enter Try.func63, Try.ntmps63
  go_wp2
  go_ret
  exact ⟨by first | rfl | (simp; done) | (simp [*]; done), by repeat (first | exact Drawn0.refl _ | apply Drawn0.step)⟩

/-! ### strings_HasPrefix: function 56 -/
def strings_HasPrefix.f (a0 : ByteArray) (a1 : ByteArray) : Option (Bool) := (stringslite_HasPrefix.f a0 a1).bind fun t467 => (some t467)
set_option maxHeartbeats 8000000 in
set_option maxRecDepth 100000 in
theorem strings_HasPrefix.calls (a0 : ByteArray) (a1 : ByteArray) (r : Bool) (w : World) (h : strings_HasPrefix.f a0 a1 = some r) :
  Calls Try.prog 56 #[.string a0, .string a1] w fun e w' => e = .returned (.bool r) ∧ Drawn0 w w' := by
 have H : ((stringslite_HasPrefix.f a0 a1).bind fun t467 => (some t467)) = some r := h
 clear h
 replace H := Option.bind_eq_some_iff.mp H
 obtain ⟨t467, A30, H⟩ := H
 try dsimp only at H
 have A3 := Aside0.mk A30
 clear A30
 obtain rfl := Option.some.inj H
 go_enter Try.func56, Try.ntmps56
 go_wp2_with (first | ((with_reducible refine gate_callee (f := 63) rfl ?_); refine goesL_ (some 7) rfl rfl Try.func63 (by kernel_rfl) rfl #[.string a0, .string a1] rfl sqA ?_; (with_reducible refine (stringslite_HasPrefix.calls a0 a1 t467 _ A3.out).mono ?_); rintro e w' ⟨rfl, ⟨nd, rfl⟩⟩; refine ⟨_, rfl, ?_⟩))
 go_ret
 exact ⟨by first | rfl | (simp; done) | (simp [*]; done), by repeat (first | exact Drawn0.refl _ | apply Drawn0.step)⟩

-- NOT PRINTED: function 66 (abi_NoEscape)

-- NOT PRINTED: function 64 (strings_Builder_copyCheck)

-- NOT PRINTED: function 67 (bytealg_MakeNoZero)

-- NOT PRINTED: function 65 (strings_Builder_grow)

-- NOT PRINTED: function 57 (strings_Builder_Grow)

-- NOT PRINTED: function 58 (strings_Builder_WriteString)

-- NOT PRINTED: function 59 (strings_Builder_Len)

-- NOT PRINTED: function 60 (strings_Builder_String)

/-! ### strings_Repeat: function 50 -/
def strings_Repeat.f (a0 : ByteArray) (a1 : Int) : Option (ByteArray) := if 0 ≤ a1 ∧ a1 ≤ 1048576 ∧ (a0.size : Int) ≤ 1048576 then some ⟨(Lib.repeatL a0.data.toList a1.toNat).toArray⟩ else none
theorem strings_Repeat.calls (a0 : ByteArray) (a1 : Int) (r : ByteArray) (w : World) (h : strings_Repeat.f a0 a1 = some r) :
  Calls Try.prog 50 #[.string a0, .int .i64 a1] w fun e w' => e = .returned (.string r) ∧ Below w.heap.size w w' := by
 unfold strings_Repeat.f at h
 by_cases c : 0 ≤ a1 ∧ a1 ≤ 1048576 ∧ (a0.size : Int) ≤ 1048576
 ·rw [if_pos c] at h
  obtain rfl := Option.some.inj h
  obtain ⟨n, rfl⟩ := Int.eq_ofNat_of_zero_le c.1
  have hm : a0.size * n ≤ 1048576 * 1048576 := Nat.mul_le_mul (by omega) (by omega)
  exact Try.strings_Repeat a0 n w (by omega) (by omega)
 ·rw [if_neg c] at h
  exact absurd h (by simp)

/-! ### impl_PadText: function 43 -/
def impl_PadText.l0 : Nat → ByteArray → Int → List Int → Int → Option (ByteArray)
 | 0, _, _, _, _ => none
 | k + 1, x3, x5, x6, x7 => if x7 ≥ 0 then (if 0 ≤ x7 then (if x7 < (x6.length : Int) then (impl_PadText.l0 k x3 (x5 / 256) (x6.set (x7 : Int).toNat ((x5) % 256)) (wrap64 (x7 - 1))) else (none)) else (none)) else (if x3.size + (strOfNums x6).size ≤ 9223372036854775807 then (some (x3 ++ (strOfNums x6))) else (none))
def impl_PadText.f (k : Nat) (a0 : ByteArray) : Option (ByteArray) := if a0.size + 1 ≤ 9223372036854775807 then ((strings_Repeat.f (⟨#[0]⟩ : ByteArray) (((56 - (((a0 ++ (⟨#[128]⟩ : ByteArray)).size : Int) % 64)) + 64) % 64)).bind fun t468 => (if (a0 ++ (⟨#[128]⟩ : ByteArray)).size + t468.size ≤ 9223372036854775807 then (if 8 ≤ 281474976710656 then (impl_PadText.l0 k ((a0 ++ (⟨#[128]⟩ : ByteArray)) ++ t468) (wrap64 (8 * (a0.size : Int))) (List.replicate 8 0) 7) else (none)) else (none))) else (none)
theorem impl_PadText.mono_l : ∀ k, (∀ y0 y1 y2 y3, LeO (impl_PadText.l0 k y0 y1 y2 y3) (impl_PadText.l0 (k + 1) y0 y1 y2 y3))
 | 0 => fun _ _ _ _ r h => by simp [impl_PadText.l0] at h
 | k + 1 => by
  have ih0 := impl_PadText.mono_l k
  ·intro y0 y1 y2 y3
   unfold impl_PadText.l0
   repeat' first
   | (with_reducible exact ih0 _ _ _ _)
   | (with_reducible exact LeO.refl _)
   | (with_reducible exact LeO.none _)
   | (with_reducible refine LeO.ite ?_ ?_)
   | (with_reducible refine LeO.bind ?_ (fun _ => ?_))
   | exact ih0 _ _ _ _
   | exact LeO.none _
   | refine LeO.ite ?_ ?_
   | refine LeO.bind ?_ (fun _ => ?_)
theorem impl_PadText.mono : ∀ a0 k, LeO (impl_PadText.f k a0) (impl_PadText.f (k + 1) a0) := by
 intro a0 k
 have ih0 := impl_PadText.mono_l k
 unfold impl_PadText.f
 repeat' first
   | (with_reducible exact ih0 _ _ _ _)
   | (with_reducible exact LeO.refl _)
   | (with_reducible exact LeO.none _)
   | (with_reducible refine LeO.ite ?_ ?_)
   | (with_reducible refine LeO.bind ?_ (fun _ => ?_))
   | exact ih0 _ _ _ _
   | exact LeO.none _
   | refine LeO.ite ?_ ?_
   | refine LeO.bind ?_ (fun _ => ?_)
set_option maxHeartbeats 8000000 in
set_option maxRecDepth 100000 in
theorem impl_PadText.calls (k : Nat) (a0 : ByteArray) (r : ByteArray) (w : World) (h : impl_PadText.f k a0 = some r) :
  Calls Try.prog 43 #[.string a0] w fun e w' => e = .returned (.string r) ∧ Below w.heap.size w w' := by
 have HB := Aside0.mk (Below.refl w.heap.size w)
 have H : (if a0.size + 1 ≤ 9223372036854775807 then ((strings_Repeat.f (⟨#[0]⟩ : ByteArray) (((56 - (((a0 ++ (⟨#[128]⟩ : ByteArray)).size : Int) % 64)) + 64) % 64)).bind fun t468 => (if (a0 ++ (⟨#[128]⟩ : ByteArray)).size + t468.size ≤ 9223372036854775807 then (if 8 ≤ 281474976710656 then (impl_PadText.l0 k ((a0 ++ (⟨#[128]⟩ : ByteArray)) ++ t468) (wrap64 (8 * (a0.size : Int))) (List.replicate 8 0) 7) else (none)) else (none))) else (none)) = some r := h
 clear h
 by_cases c2 : a0.size + 1 ≤ 9223372036854775807
 ·rw [if_pos c2] at H
  have c2b0 := eq_true c2
  have c2b1 : decide (a0.size + 1 ≤ 9223372036854775807) = true := decide_eq_true c2
  try have c2b2 : (9223372036854775807 < a0.size + 1) = False := eq_false (Nat.not_lt.2 c2)
  replace H := Option.bind_eq_some_iff.mp H
  obtain ⟨t468, A30, H⟩ := H
  try dsimp only at H
  rw [show ((a0 ++ (⟨#[128]⟩ : ByteArray)).size : Int) = (a0.size : Int) + 1 by rw [ByteArray.size_append]; rfl] at A30
  have A3 := Aside0.mk A30
  clear A30
  by_cases c4 : (a0 ++ (⟨#[128]⟩ : ByteArray)).size + t468.size ≤ 9223372036854775807
  ·rw [if_pos c4] at H
   have c4b0 := eq_true c4
   have c4b1 : decide ((a0 ++ (⟨#[128]⟩ : ByteArray)).size + t468.size ≤ 9223372036854775807) = true := decide_eq_true c4
   try have c4b2 : (9223372036854775807 < (a0 ++ (⟨#[128]⟩ : ByteArray)).size + t468.size) = False := eq_false (Nat.not_lt.2 c4)
   by_cases c5 : 8 ≤ 281474976710656
   ·rw [if_pos c5] at H
    have c5b0 := eq_true c5
    have c5b1 : decide (8 ≤ 281474976710656) = true := decide_eq_true c5
    clear c5
    obtain ⟨y469, hy469⟩ : ∃ y_ : List Int, y_ = (List.replicate 8 0) := ⟨_, rfl⟩
    replace H : (impl_PadText.l0 k ((a0 ++ (⟨#[128]⟩ : ByteArray)) ++ t468) (wrap64 (8 * (a0.size : Int))) y469 7) = some r := by first | (rw [hy469]; with_reducible exact H) | (have H2_ := (Option.bind_some _ _).symm.trans H; rw [hy469]; with_reducible exact H2_) | (have H2_ := (Option.bind_some _ _).symm.trans H; with_reducible exact H2_) | with_reducible exact H | (rw [hy469]; exact H) | exact H
    have Ny469 := Aside0.mk hy469
    clear hy469
    have H' := Aside0.mk H
    clear H
    have cz_ : (a0 ++ (⟨#[128]⟩ : ByteArray)).size = a0.size + 1 := by rw [ByteArray.size_append]; rfl
    rw [cz_] at c4 c4b0 c4b1 c4b2
    clear cz_
    go_enter Try.func43, Try.ntmps43
    go_wp2_with (first | ((with_reducible refine gate_callee (f := 50) rfl ?_); refine goesL_ (some 18) rfl rfl Try.func50 (by kernel_rfl) rfl #[.string (⟨#[0]⟩ : ByteArray), .int .i64 (((56 - (((a0.size : Int) + 1) % 64)) + 64) % 64)] rfl sqA ?_; (with_reducible refine (strings_Repeat.calls (⟨#[0]⟩ : ByteArray) (((56 - (((a0.size : Int) + 1) % 64)) + 64) % 64) t468 _ A3.out).mono ?_); rintro e w6 ⟨rfl, hb⟩; refine ⟨_, rfl, ?_⟩; replace HB := sqS hb; (try clear hb); (try clear hb2); (try clear hk); (try clear hi)) | ((with_reducible refine gate_dst (N := 23) rfl ?_); refine Kd.R_make (Kd.int .u8) _ 5 rfl (N := 23) rfl 22 _ _ rfl 8 rfl rfl Try.underlying22 (.int .u8 0) 1 info5 rfl (by decide) (by omega) 0 (ok := fun _ => True) (okp := fun _ => True) rfl (fun _ hk => hk) trivial (by omega) (by omega) (Below.refl _ _) (Nat.le_refl _) ?_; intro v470 w7 ho8 hb hg_ hnew_; clear hg_ hnew_; (first | rw [← Ny469.out] at ho8 | (simp only [Int.reduceToNat] at ho8; rw [← Ny469.out] at ho8)); have HO471 := Aside0.mk (Kd.R_lower ho8 (below_size (sqB))); replace HB := sqS hb; clear hb ho8))
    go_loopg [5, 7] k (fun kq v5 v7 w' => ∃ (x5_1 : Int) (x6_1 : List Int) (x7_1 : Int), v5 = .int .i64 x5_1 ∧ v7 = .int .i64 x7_1 ∧ Aside0 (impl_PadText.l0 kq ((a0 ++ (⟨#[128]⟩ : ByteArray)) ++ t468) x5_1 x6_1 x7_1 = some r) ∧ Aside0 (kq ≤ k) ∧ Aside0 (Kd.R (Kd.int .u8) 5 w' w.heap.size (fun _ => True) v470 x6_1) ∧ Aside0 (Below w.heap.size w w'))
    case atStart => exact ⟨(wrap64 (8 * (a0.size : Int))), (y469), (7), (by first | rfl | (simp; done) | (simp [*]; done)), (by first | rfl | (simp; done) | (simp [*]; done)), H', ⟨Nat.le_refl _⟩, ⟨sqR HO471⟩, ⟨sqB⟩⟩
    case round =>
     clear H'
     try clear c2
     try clear c2b0
     try clear c2b1
     try clear c2b2
     try clear p2
     try clear c4
     try clear c4b0
     try clear c4b1
     try clear c4b2
     try clear c5
     try clear c5b0
     try clear c5b1
     try clear p6
     obtain ⟨x5_1, x6_1, x7_1, rfl, rfl, HA, HK1, HO_6, HB⟩ := hrel
     cases gk with
     | zero => exact absurd HA.out (by simp [impl_PadText.l0])
     | succ k1 =>
      have H := HA.out
      clear HA
      simp only [impl_PadText.l0] at H
      by_cases c9 : x7_1 ≥ 0
      ·rw [if_pos c9] at H
       have c9b0 : decide (0 ≤ x7_1) = true := decide_eq_true c9
       clear c9
       by_cases c10 : 0 ≤ x7_1
       ·rw [if_pos c10] at H
        have c10b0 : decide (0 ≤ x7_1) = true := decide_eq_true c10
        clear c10
        by_cases c11 : x7_1 < (x6_1.length : Int)
        ·rw [if_pos c11] at H
         have c11b0 : decide (x7_1 < (x6_1.length : Int)) = true := decide_eq_true c11
         clear c11
         obtain ⟨y472, hy472⟩ : ∃ y_ : List Int, y_ = (x6_1.set (x7_1 : Int).toNat ((x5_1) % 256)) := ⟨_, rfl⟩
         replace H : (impl_PadText.l0 k1 ((a0 ++ (⟨#[128]⟩ : ByteArray)) ++ t468) (x5_1 / 256) y472 (wrap64 (x7_1 - 1))) = some r := by first | (rw [hy472]; with_reducible exact H) | (have H2_ := (Option.bind_some _ _).symm.trans H; rw [hy472]; with_reducible exact H2_) | (have H2_ := (Option.bind_some _ _).symm.trans H; with_reducible exact H2_) | with_reducible exact H | (rw [hy472]; exact H) | exact H
         have Ny472 := Aside0.mk hy472
         clear hy472
         have H' := Aside0.mk H
         clear H
         have p12 : 0 ≤ (x7_1 : Int) := sqD
         have q12 : (x7_1 : Int) < ((x6_1.length : Int) : Int) := sqD
         obtain ⟨go12, co12, eo12, gb12, gl12, cl12, HG12⟩ := Kd.R_form HO_6.out (by omega)
         (first | cases eo12 | (injection eo12 with ea_ en_ ec_; (first | subst ea_ | (injection ea_ with ea_; subst ea_)); subst ec_; clear en_))
         have GB12 := Aside0.mk gb12
         have GG12 := Aside0.mk HG12
         clear gb12 gl12 HG12
         obtain ⟨hx12_0, hf12_0⟩ := Kd.R_celln 0 HO_6.out (x7_1 : Int) p12 q12
         replace p12 := eq_true p12
         replace q12 := eq_true q12
         have HP13 := Kd.R_putg HO_6.out (x7_1 : Int) ((x5_1) % 256)
         go_wp2_with (first | ((with_reducible refine gate_store (t := 5) (p := 32) rfl ?_); refine store_event (t := 5) (p := 32) (v := ?vo_w14) (w1 := (wr.setCell ⟨go12, (x7_1 : Int).toNat, none⟩ (.int .u8 ((x5_1) % 256)))) ?hg ?ho ?hn ?hr ?_; (case ho => rfl); (case hg => rfl); (case hn => rfl); (case hr => first | (go_simp; done) | (go_simp; rfl)); intro w14 hw; have hg : wr.grownBy w14 (some go12) := (by rw [hw]; exact HP13.2); have hp_ : Kd.R (Kd.int .u8) 5 w14 w.heap.size (fun _ => True) (.slice (some ⟨go12, 0, none⟩) x6_1.length co12) y472 := (by rw [hw, Ny472.out]; exact HP13.1); clear HP13; replace HO_6 := Aside0.mk (hp_); replace HB := Aside0.mk ((by rw [hw]; exact below_set (HB.out) GB12.out : Below w.heap.size w w14)); clear hg hw hp_))
         go_roundg k1
         case measure => have := HK1.out; omega
         case rel => exact ⟨(x5_1 / 256), (y472), (wrap64 (x7_1 - 1)), (by first | rfl | (simp; done) | (simp [*]; done)), (by first | rfl | (simp; done) | (simp [*]; done)), H', ⟨by have := HK1.out; omega⟩, ⟨sqR HO_6⟩, ⟨sqB⟩⟩
        ·rw [if_neg c11] at H
         exact absurd H (by simp)
       ·rw [if_neg c10] at H
        exact absurd H (by simp)
      ·rw [if_neg c9] at H
       have c9b0 : decide (0 ≤ x7_1) = false := decide_eq_false c9
       clear c9
       by_cases c15 : ((a0 ++ (⟨#[128]⟩ : ByteArray)) ++ t468).size + (strOfNums x6_1).size ≤ 9223372036854775807
       ·rw [if_pos c15] at H
        have c15b0 := eq_true c15
        have c15b1 : decide (((a0 ++ (⟨#[128]⟩ : ByteArray)) ++ t468).size + (strOfNums x6_1).size ≤ 9223372036854775807) = true := decide_eq_true c15
        try have c15b2 : (9223372036854775807 < ((a0 ++ (⟨#[128]⟩ : ByteArray)) ++ t468).size + (strOfNums x6_1).size) = False := eq_false (Nat.not_lt.2 c15)
        obtain rfl := Option.some.inj H
        have hcv16 := own_string (P := Try.prog) Try.underlying22 Try.underlying5 Try.underlying9 (Kd.own_of_R HO_6.out)
        go_wp2
        go_ret
        exact ⟨sqE, sqB⟩
       ·rw [if_neg c15] at H
        exact absurd H (by simp)
   ·rw [if_neg c5] at H
    exact absurd H (by simp)
  ·rw [if_neg c4] at H
   exact absurd H (by simp)
 ·rw [if_neg c2] at H
  exact absurd H (by simp)

/-! ### impl_rounds: function 51 -/
def impl_rounds.f  : Option (List Int) := some (([1116352408, 1899447441, 3049323471, 3921009573, 961987163, 1508970993, 2453635748, 2870763221, 3624381080, 310598401, 607225278, 1426881987, 1925078388, 2162078206, 2614888103, 3248222580, 3835390401, 4022224774, 264347078, 604807628, 770255983, 1249150122, 1555081692, 1996064986, 2554220882, 2821834349, 2952996808, 3210313671, 3336571891, 3584528711, 113926993, 338241895, 666307205, 773529912, 1294757372, 1396182291, 1695183700, 1986661051, 2177026350, 2456956037, 2730485921, 2820302411, 3259730800, 3345764771, 3516065817, 3600352804, 4094571909, 275423344, 430227734, 506948616, 659060556, 883997877, 958139571, 1322822218, 1537002063, 1747873779, 1955562222, 2024104815, 2227730452, 2361852424, 2428436474, 2756734187, 3204031479, 3329325298] : List Int))
set_option maxHeartbeats 8000000 in
set_option maxRecDepth 100000 in
theorem impl_rounds.calls  (r : List Int) (w : World) (h : impl_rounds.f  = some r) :
  Calls Try.prog 51 #[] w fun e w' => ∃ v0_ : Value, e = .returned (v0_) ∧ Kd.R (Kd.int .u32) 63 w' w.heap.size (fun _ => True) v0_ r ∧ Below w.heap.size w w' := by
 have HB := Aside0.mk (Below.refl w.heap.size w)
 have H : (some (([1116352408, 1899447441, 3049323471, 3921009573, 961987163, 1508970993, 2453635748, 2870763221, 3624381080, 310598401, 607225278, 1426881987, 1925078388, 2162078206, 2614888103, 3248222580, 3835390401, 4022224774, 264347078, 604807628, 770255983, 1249150122, 1555081692, 1996064986, 2554220882, 2821834349, 2952996808, 3210313671, 3336571891, 3584528711, 113926993, 338241895, 666307205, 773529912, 1294757372, 1396182291, 1695183700, 1986661051, 2177026350, 2456956037, 2730485921, 2820302411, 3259730800, 3345764771, 3516065817, 3600352804, 4094571909, 275423344, 430227734, 506948616, 659060556, 883997877, 958139571, 1322822218, 1537002063, 1747873779, 1955562222, 2024104815, 2227730452, 2361852424, 2428436474, 2756734187, 3204031479, 3329325298] : List Int))) = some r := h
 clear h
 obtain ⟨y473, hy473⟩ : ∃ y_ : List Int, y_ = (([1116352408, 1899447441, 3049323471, 3921009573, 961987163, 1508970993, 2453635748, 2870763221, 3624381080, 310598401, 607225278, 1426881987, 1925078388, 2162078206, 2614888103, 3248222580, 3835390401, 4022224774, 264347078, 604807628, 770255983, 1249150122, 1555081692, 1996064986, 2554220882, 2821834349, 2952996808, 3210313671, 3336571891, 3584528711, 113926993, 338241895, 666307205, 773529912, 1294757372, 1396182291, 1695183700, 1986661051, 2177026350, 2456956037, 2730485921, 2820302411, 3259730800, 3345764771, 3516065817, 3600352804, 4094571909, 275423344, 430227734, 506948616, 659060556, 883997877, 958139571, 1322822218, 1537002063, 1747873779, 1955562222, 2024104815, 2227730452, 2361852424, 2428436474, 2756734187, 3204031479, 3329325298] : List Int)) := ⟨_, rfl⟩
 replace H : (some y473) = some r := by first | (rw [hy473]; with_reducible exact H) | (have H2_ := (Option.bind_some _ _).symm.trans H; rw [hy473]; with_reducible exact H2_) | (have H2_ := (Option.bind_some _ _).symm.trans H; with_reducible exact H2_) | with_reducible exact H | (rw [hy473]; exact H) | exact H
 have Ny473 := Aside0.mk hy473
 clear hy473
 obtain rfl := Option.some.inj H
 go_enter Try.func51, Try.ntmps51
 go_wp2_with (first | ((with_reducible refine gate_dst (N := 1) rfl ?_); refine Kd.R_lit (Kd.int .u32) _ 63 ?hg (N := 1) ?hd (xs := ([1116352408, 1899447441, 3049323471, 3921009573, 961987163, 1508970993, 2453635748, 2870763221, 3624381080, 310598401, 607225278, 1426881987, 1925078388, 2162078206, 2614888103, 3248222580, 3835390401, 4022224774, 264347078, 604807628, 770255983, 1249150122, 1555081692, 1996064986, 2554220882, 2821834349, 2952996808, 3210313671, 3336571891, 3584528711, 113926993, 338241895, 666307205, 773529912, 1294757372, 1396182291, 1695183700, 1986661051, 2177026350, 2456956037, 2730485921, 2820302411, 3259730800, 3345764771, 3516065817, 3600352804, 4094571909, 275423344, 430227734, 506948616, 659060556, 883997877, 958139571, 1322822218, 1537002063, 1747873779, 1955562222, 2024104815, 2227730452, 2361852424, 2428436474, 2756734187, 3204031479, 3329325298] : List Int)) (inner := [.int .u32 1116352408, .int .u32 1899447441, .int .u32 3049323471, .int .u32 3921009573, .int .u32 961987163, .int .u32 1508970993, .int .u32 2453635748, .int .u32 2870763221, .int .u32 3624381080, .int .u32 310598401, .int .u32 607225278, .int .u32 1426881987, .int .u32 1925078388, .int .u32 2162078206, .int .u32 2614888103, .int .u32 3248222580, .int .u32 3835390401, .int .u32 4022224774, .int .u32 264347078, .int .u32 604807628, .int .u32 770255983, .int .u32 1249150122, .int .u32 1555081692, .int .u32 1996064986, .int .u32 2554220882, .int .u32 2821834349, .int .u32 2952996808, .int .u32 3210313671, .int .u32 3336571891, .int .u32 3584528711, .int .u32 113926993, .int .u32 338241895, .int .u32 666307205, .int .u32 773529912, .int .u32 1294757372, .int .u32 1396182291, .int .u32 1695183700, .int .u32 1986661051, .int .u32 2177026350, .int .u32 2456956037, .int .u32 2730485921, .int .u32 2820302411, .int .u32 3259730800, .int .u32 3345764771, .int .u32 3516065817, .int .u32 3600352804, .int .u32 4094571909, .int .u32 275423344, .int .u32 430227734, .int .u32 506948616, .int .u32 659060556, .int .u32 883997877, .int .u32 958139571, .int .u32 1322822218, .int .u32 1537002063, .int .u32 1747873779, .int .u32 1955562222, .int .u32 2024104815, .int .u32 2227730452, .int .u32 2361852424, .int .u32 2428436474, .int .u32 2756734187, .int .u32 3204031479, .int .u32 3329325298]) (ok := fun _ => True) (okp := fun _ => True) ?hr ?hp (fun _ hk => hk) trivial (Below.refl _ _) (Nat.le_refl _) (by simp) ?_; (case hd => rfl); (case hg => rfl); (case hr => first | (go_simp; done) | (go_simp; rfl)); (case hp => exact (Reps.one (show Kd.M (Kd.int .u32) _ _ _ 1116352408 [.int .u32 1116352408] from rfl) (Reps.one (show Kd.M (Kd.int .u32) _ _ _ 1899447441 [.int .u32 1899447441] from rfl) (Reps.one (show Kd.M (Kd.int .u32) _ _ _ 3049323471 [.int .u32 3049323471] from rfl) (Reps.one (show Kd.M (Kd.int .u32) _ _ _ 3921009573 [.int .u32 3921009573] from rfl) (Reps.one (show Kd.M (Kd.int .u32) _ _ _ 961987163 [.int .u32 961987163] from rfl) (Reps.one (show Kd.M (Kd.int .u32) _ _ _ 1508970993 [.int .u32 1508970993] from rfl) (Reps.one (show Kd.M (Kd.int .u32) _ _ _ 2453635748 [.int .u32 2453635748] from rfl) (Reps.one (show Kd.M (Kd.int .u32) _ _ _ 2870763221 [.int .u32 2870763221] from rfl) (Reps.one (show Kd.M (Kd.int .u32) _ _ _ 3624381080 [.int .u32 3624381080] from rfl) (Reps.one (show Kd.M (Kd.int .u32) _ _ _ 310598401 [.int .u32 310598401] from rfl) (Reps.one (show Kd.M (Kd.int .u32) _ _ _ 607225278 [.int .u32 607225278] from rfl) (Reps.one (show Kd.M (Kd.int .u32) _ _ _ 1426881987 [.int .u32 1426881987] from rfl) (Reps.one (show Kd.M (Kd.int .u32) _ _ _ 1925078388 [.int .u32 1925078388] from rfl) (Reps.one (show Kd.M (Kd.int .u32) _ _ _ 2162078206 [.int .u32 2162078206] from rfl) (Reps.one (show Kd.M (Kd.int .u32) _ _ _ 2614888103 [.int .u32 2614888103] from rfl) (Reps.one (show Kd.M (Kd.int .u32) _ _ _ 3248222580 [.int .u32 3248222580] from rfl) (Reps.one (show Kd.M (Kd.int .u32) _ _ _ 3835390401 [.int .u32 3835390401] from rfl) (Reps.one (show Kd.M (Kd.int .u32) _ _ _ 4022224774 [.int .u32 4022224774] from rfl) (Reps.one (show Kd.M (Kd.int .u32) _ _ _ 264347078 [.int .u32 264347078] from rfl) (Reps.one (show Kd.M (Kd.int .u32) _ _ _ 604807628 [.int .u32 604807628] from rfl) (Reps.one (show Kd.M (Kd.int .u32) _ _ _ 770255983 [.int .u32 770255983] from rfl) (Reps.one (show Kd.M (Kd.int .u32) _ _ _ 1249150122 [.int .u32 1249150122] from rfl) (Reps.one (show Kd.M (Kd.int .u32) _ _ _ 1555081692 [.int .u32 1555081692] from rfl) (Reps.one (show Kd.M (Kd.int .u32) _ _ _ 1996064986 [.int .u32 1996064986] from rfl) (Reps.one (show Kd.M (Kd.int .u32) _ _ _ 2554220882 [.int .u32 2554220882] from rfl) (Reps.one (show Kd.M (Kd.int .u32) _ _ _ 2821834349 [.int .u32 2821834349] from rfl) (Reps.one (show Kd.M (Kd.int .u32) _ _ _ 2952996808 [.int .u32 2952996808] from rfl) (Reps.one (show Kd.M (Kd.int .u32) _ _ _ 3210313671 [.int .u32 3210313671] from rfl) (Reps.one (show Kd.M (Kd.int .u32) _ _ _ 3336571891 [.int .u32 3336571891] from rfl) (Reps.one (show Kd.M (Kd.int .u32) _ _ _ 3584528711 [.int .u32 3584528711] from rfl) (Reps.one (show Kd.M (Kd.int .u32) _ _ _ 113926993 [.int .u32 113926993] from rfl) (Reps.one (show Kd.M (Kd.int .u32) _ _ _ 338241895 [.int .u32 338241895] from rfl) (Reps.one (show Kd.M (Kd.int .u32) _ _ _ 666307205 [.int .u32 666307205] from rfl) (Reps.one (show Kd.M (Kd.int .u32) _ _ _ 773529912 [.int .u32 773529912] from rfl) (Reps.one (show Kd.M (Kd.int .u32) _ _ _ 1294757372 [.int .u32 1294757372] from rfl) (Reps.one (show Kd.M (Kd.int .u32) _ _ _ 1396182291 [.int .u32 1396182291] from rfl) (Reps.one (show Kd.M (Kd.int .u32) _ _ _ 1695183700 [.int .u32 1695183700] from rfl) (Reps.one (show Kd.M (Kd.int .u32) _ _ _ 1986661051 [.int .u32 1986661051] from rfl) (Reps.one (show Kd.M (Kd.int .u32) _ _ _ 2177026350 [.int .u32 2177026350] from rfl) (Reps.one (show Kd.M (Kd.int .u32) _ _ _ 2456956037 [.int .u32 2456956037] from rfl) (Reps.one (show Kd.M (Kd.int .u32) _ _ _ 2730485921 [.int .u32 2730485921] from rfl) (Reps.one (show Kd.M (Kd.int .u32) _ _ _ 2820302411 [.int .u32 2820302411] from rfl) (Reps.one (show Kd.M (Kd.int .u32) _ _ _ 3259730800 [.int .u32 3259730800] from rfl) (Reps.one (show Kd.M (Kd.int .u32) _ _ _ 3345764771 [.int .u32 3345764771] from rfl) (Reps.one (show Kd.M (Kd.int .u32) _ _ _ 3516065817 [.int .u32 3516065817] from rfl) (Reps.one (show Kd.M (Kd.int .u32) _ _ _ 3600352804 [.int .u32 3600352804] from rfl) (Reps.one (show Kd.M (Kd.int .u32) _ _ _ 4094571909 [.int .u32 4094571909] from rfl) (Reps.one (show Kd.M (Kd.int .u32) _ _ _ 275423344 [.int .u32 275423344] from rfl) (Reps.one (show Kd.M (Kd.int .u32) _ _ _ 430227734 [.int .u32 430227734] from rfl) (Reps.one (show Kd.M (Kd.int .u32) _ _ _ 506948616 [.int .u32 506948616] from rfl) (Reps.one (show Kd.M (Kd.int .u32) _ _ _ 659060556 [.int .u32 659060556] from rfl) (Reps.one (show Kd.M (Kd.int .u32) _ _ _ 883997877 [.int .u32 883997877] from rfl) (Reps.one (show Kd.M (Kd.int .u32) _ _ _ 958139571 [.int .u32 958139571] from rfl) (Reps.one (show Kd.M (Kd.int .u32) _ _ _ 1322822218 [.int .u32 1322822218] from rfl) (Reps.one (show Kd.M (Kd.int .u32) _ _ _ 1537002063 [.int .u32 1537002063] from rfl) (Reps.one (show Kd.M (Kd.int .u32) _ _ _ 1747873779 [.int .u32 1747873779] from rfl) (Reps.one (show Kd.M (Kd.int .u32) _ _ _ 1955562222 [.int .u32 1955562222] from rfl) (Reps.one (show Kd.M (Kd.int .u32) _ _ _ 2024104815 [.int .u32 2024104815] from rfl) (Reps.one (show Kd.M (Kd.int .u32) _ _ _ 2227730452 [.int .u32 2227730452] from rfl) (Reps.one (show Kd.M (Kd.int .u32) _ _ _ 2361852424 [.int .u32 2361852424] from rfl) (Reps.one (show Kd.M (Kd.int .u32) _ _ _ 2428436474 [.int .u32 2428436474] from rfl) (Reps.one (show Kd.M (Kd.int .u32) _ _ _ 2756734187 [.int .u32 2756734187] from rfl) (Reps.one (show Kd.M (Kd.int .u32) _ _ _ 3204031479 [.int .u32 3204031479] from rfl) (Reps.one (show Kd.M (Kd.int .u32) _ _ _ 3329325298 [.int .u32 3329325298] from rfl) (Reps.none _ _)))))))))))))))))))))))))))))))))))))))))))))))))))))))))))))))))); intro v474 w1 ho2 hb hg_ hnew_; clear hg_ hnew_; (first | rw [← Ny473.out] at ho2 | (simp only [Int.reduceToNat] at ho2; rw [← Ny473.out] at ho2)); have HO475 := Aside0.mk (Kd.R_lower ho2 (below_size (sqB))); replace HB := sqS hb; clear hb ho2))
 go_ret
 exact ⟨_, sqE, sqR HO475, sqB⟩

/-! ### impl_turn: function 53 -/
def impl_turn.f (a0 : Int) (a1 : Int) : Option (Int) := if 0 ≤ a1 then (if 0 ≤ (wrap64 (32 - a1)) then (some (Go.bits .or .u32 (shr .u32 a0 a1) (shl .u32 a0 (wrap64 (32 - a1))))) else (none)) else (none)
set_option maxHeartbeats 8000000 in
set_option maxRecDepth 100000 in
theorem impl_turn.calls (a0 : Int) (a1 : Int) (r : Int) (w : World) (h : impl_turn.f a0 a1 = some r) :
  Calls Try.prog 53 #[.int .u32 a0, .int .i64 a1] w fun e w' => e = .returned (.int .u32 r) ∧ Drawn0 w w' := by
 have H : (if 0 ≤ a1 then (if 0 ≤ (wrap64 (32 - a1)) then (some (Go.bits .or .u32 (shr .u32 a0 a1) (shl .u32 a0 (wrap64 (32 - a1))))) else (none)) else (none)) = some r := h
 clear h
 by_cases c3 : 0 ≤ a1
 ·rw [if_pos c3] at H
  have c3b0 := eq_true c3
  have c3b1 : decide (0 ≤ a1) = true := decide_eq_true c3
  clear c3
  obtain ⟨ji4, hji4⟩ : ∃ j_ : Int, (shr .u32 a0 a1) = j_ := ⟨_, rfl⟩
  replace H : (if 0 ≤ (wrap64 (32 - a1)) then (some (Go.bits .or .u32 (ji4) (shl .u32 a0 (wrap64 (32 - a1))))) else (none)) = some r := by first | (rw [hji4] at H; exact H) | (simp only [hji4] at H ⊢; exact H)
  have hji4_ : (a0 / 2 ^ min a1.toNat 32) = ji4 := hji4
  have hji4z : a1 ≤ 32 → (a0 / 2 ^ a1.toNat) = ji4 := shr_small hji4
  obtain ⟨ji5, hji5⟩ : ∃ j_ : Int, (wrap64 (32 - a1)) = j_ := ⟨_, rfl⟩
  replace H : (if 0 ≤ (ji5) then (some (Go.bits .or .u32 (ji4) (shl .u32 a0 (ji5)))) else (none)) = some r := by first | (rw [hji5] at H; exact H) | (simp only [hji5] at H ⊢; exact H)
  have hji5w : (IntKind.i64.wrap (32 - a1)) = ji5 := (i64_w _).trans hji5
  by_cases c6 : 0 ≤ (ji5)
  ·rw [if_pos c6] at H
   have c6b0 := eq_true c6
   have c6b1 : decide (0 ≤ (ji5)) = true := decide_eq_true c6
   clear c6
   obtain ⟨ji7, hji7⟩ : ∃ j_ : Int, (shl .u32 a0 (ji5)) = j_ := ⟨_, rfl⟩
   replace H : (some (Go.bits .or .u32 (ji4) (ji7))) = some r := by first | (rw [hji7] at H; exact H) | (simp only [hji7] at H ⊢; exact H)
   have hji7_ : (IntKind.u32.wrap (a0 * 2 ^ min (ji5).toNat 32)) = ji7 := hji7
   have hji7z : (ji5) ≤ 32 → (IntKind.u32.wrap (a0 * 2 ^ (ji5).toNat)) = ji7 := shl_small hji7
   obtain rfl := Option.some.inj H
   go_enter Try.func53, Try.ntmps53
   go_wp2
   repeat (go_quiet (fail); try go_wp2)
   go_ret
   exact ⟨by first | rfl | (simp; done) | (simp only [← hji4, ← hji5, ← hji7] <;> (first | rfl | simp)) | (simp [*]; done), by repeat (first | exact Drawn0.refl _ | apply Drawn0.step)⟩
  ·rw [if_neg c6] at H
   exact absurd H (by simp)
 ·rw [if_neg c3] at H
  exact absurd H (by simp)

end Go.Proofs.Ythodhbgocnbddaa.PFnWords
