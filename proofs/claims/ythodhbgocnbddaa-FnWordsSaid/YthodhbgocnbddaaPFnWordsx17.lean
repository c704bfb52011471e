/- What the code that one law of the given program reaches computes, function by function, each with its proof over the given translation.
Conditions: none of our own. (Laid by a program of this session, wip/xp/xp.py; some contracts are typed by hand.) -/
import Derived.Test.YthodhbgocnbddaaPFnWordsx0
import Derived.Test.YthodhbgocnbddaaPFnWordsx2
import Derived.Test.YthodhbgocnbddaaPFnWordsx3
import Derived.Test.YthodhbgocnbddaaPFnWordsx4
import Derived.Test.YthodhbgocnbddaaPFnWordsx6
import Derived.Test.YthodhbgocnbddaaPFnWordsx7
import Derived.Test.YthodhbgocnbddaaPFnWordsx8
import Derived.Test.YthodhbgocnbddaaPFnWordsx9
import Derived.Test.YthodhbgocnbddaaPFnWordsx11
import Derived.Test.YthodhbgocnbddaaPFnWordsx12
import Derived.Test.YthodhbgocnbddaaPFnWordsx15
import Derived.Test.YthodhbgocnbddaaPFnWordsx16
namespace Go.Proofs.Ythodhbgocnbddaa.PFnWords
open Go.RowKit Go.Proofs.YthodhbgocnbddaaW.PrintWords Go.Proofs.YthodhbgocnbddaaW.PrintLast Go.Proofs.YthodhbgocnbddaaW.PrintMore
attribute [local go_sem] max2_int min2_int max_two min_two max_three min_three max_four min_four   -- for this text's walks alone
set_option linter.unusedVariables false
set_option linter.unusedSimpArgs false

attribute [local go_sem high] eqA27
/-! ### laws_FnWords: function 3 -/
def laws_FnWords.f (k : Nat) (l0 : List Int) : Option (Bool) := (laws_big.f l0).bind fun t576 => (if t576 = true then (some true) else ((spec_DrawWord.f k l0).bind fun bt577 => ((impl_CredText.f k bt577.1 bt577.2.1 bt577.2.2.1 bt577.2.2.2.1 bt577.2.2.2.2.1 bt577.2.2.2.2.2.1 bt577.2.2.2.2.2.2.1 bt577.2.2.2.2.2.2.2.1 bt577.2.2.2.2.2.2.2.2.1 bt577.2.2.2.2.2.2.2.2.2).bind fun t588 => ((impl_ReadCred.f k t588).bind fun bt589 => ((spec_DrawReadCred.f k l0).bind fun t601 => ((impl_ReadCred.f k t601).bind fun bt602 => ((spec_ReadCred.f k t601).bind fun bt614 => ((spec_DrawCredOk.f k l0).bind fun bt626 => ((spec_DrawCredLess.f k l0).bind fun bt637 => ((spec_DrawRoleOk.f k l0).bind fun bt659 => ((impl_PlaceOf.f k bt577.2.1 bt577.2.2.1).bind fun t662 => (if bt589.2.2.2.2.2.2.2.2.2.2 = true then (if (bt589.1 == bt577.1 && ((bt589.2.1 == bt577.2.1 && (bt589.2.2.1 == bt577.2.2.1)) && (bt589.2.2.2.1 == bt577.2.2.2.1 && ((bt589.2.2.2.2.1 == bt577.2.2.2.2.1 && (bt589.2.2.2.2.2.1 == bt577.2.2.2.2.2.1)) && ((bt589.2.2.2.2.2.2.1 == bt577.2.2.2.2.2.2.1 && (bt589.2.2.2.2.2.2.2.1 == bt577.2.2.2.2.2.2.2.1)) && (bt589.2.2.2.2.2.2.2.2.1 == bt577.2.2.2.2.2.2.2.2.1 && (bt589.2.2.2.2.2.2.2.2.2.1 == bt577.2.2.2.2.2.2.2.2.2))))))) = true then ((impl_CredOk.f k bt577.1 bt577.2.1 bt577.2.2.1 bt577.2.2.2.1 bt577.2.2.2.2.1 bt577.2.2.2.2.2.1 bt577.2.2.2.2.2.2.1 bt577.2.2.2.2.2.2.2.1 bt577.2.2.2.2.2.2.2.2.1 bt577.2.2.2.2.2.2.2.2.2).bind fun t663 => (if t663 = true then (if (bt602.2.2.2.2.2.2.2.2.2.2 == bt614.2.2.2.2.2.2.2.2.2.2) = true then (if (bt602.1 == bt614.1 && ((bt602.2.1 == bt614.2.1 && (bt602.2.2.1 == bt614.2.2.1)) && (bt602.2.2.2.1 == bt614.2.2.2.1 && ((bt602.2.2.2.2.1 == bt614.2.2.2.2.1 && (bt602.2.2.2.2.2.1 == bt614.2.2.2.2.2.1)) && ((bt602.2.2.2.2.2.2.1 == bt614.2.2.2.2.2.2.1 && (bt602.2.2.2.2.2.2.2.1 == bt614.2.2.2.2.2.2.2.1)) && (bt602.2.2.2.2.2.2.2.2.1 == bt614.2.2.2.2.2.2.2.2.1 && (bt602.2.2.2.2.2.2.2.2.2.1 == bt614.2.2.2.2.2.2.2.2.2.1))))))) = true then ((impl_CredOk.f k bt626.1 bt626.2.1 bt626.2.2.1 bt626.2.2.2.1 bt626.2.2.2.2.1 bt626.2.2.2.2.2.1 bt626.2.2.2.2.2.2.1 bt626.2.2.2.2.2.2.2.1 bt626.2.2.2.2.2.2.2.2.1 bt626.2.2.2.2.2.2.2.2.2).bind fun t664 => ((spec_CredOk.f k bt626.1 bt626.2.1 bt626.2.2.1 bt626.2.2.2.1 bt626.2.2.2.2.1 bt626.2.2.2.2.2.1 bt626.2.2.2.2.2.2.1 bt626.2.2.2.2.2.2.2.1 bt626.2.2.2.2.2.2.2.2.1 bt626.2.2.2.2.2.2.2.2.2).bind fun t665 => (if (t664 == t665) = true then ((impl_CredText.f k bt626.1 bt626.2.1 bt626.2.2.1 bt626.2.2.2.1 bt626.2.2.2.2.1 bt626.2.2.2.2.2.1 bt626.2.2.2.2.2.2.1 bt626.2.2.2.2.2.2.2.1 bt626.2.2.2.2.2.2.2.2.1 bt626.2.2.2.2.2.2.2.2.2).bind fun t666 => ((spec_CredText.f k bt626.1 bt626.2.1 bt626.2.2.1 bt626.2.2.2.1 bt626.2.2.2.2.1 bt626.2.2.2.2.2.1 bt626.2.2.2.2.2.2.1 bt626.2.2.2.2.2.2.2.1 bt626.2.2.2.2.2.2.2.2.1 bt626.2.2.2.2.2.2.2.2.2).bind fun t667 => (if t666.toList = t667.toList then ((impl_CredLess.f k bt637.1 bt637.2.1 bt637.2.2.1 bt637.2.2.2.1 bt637.2.2.2.2.1 bt637.2.2.2.2.2.1 bt637.2.2.2.2.2.2.1 bt637.2.2.2.2.2.2.2.1 bt637.2.2.2.2.2.2.2.2.1 bt637.2.2.2.2.2.2.2.2.2.1 bt637.2.2.2.2.2.2.2.2.2.2.1 bt637.2.2.2.2.2.2.2.2.2.2.2.1 bt637.2.2.2.2.2.2.2.2.2.2.2.2.1 bt637.2.2.2.2.2.2.2.2.2.2.2.2.2.1 bt637.2.2.2.2.2.2.2.2.2.2.2.2.2.2.1 bt637.2.2.2.2.2.2.2.2.2.2.2.2.2.2.2.1 bt637.2.2.2.2.2.2.2.2.2.2.2.2.2.2.2.2.1 bt637.2.2.2.2.2.2.2.2.2.2.2.2.2.2.2.2.2.1 bt637.2.2.2.2.2.2.2.2.2.2.2.2.2.2.2.2.2.2.1 bt637.2.2.2.2.2.2.2.2.2.2.2.2.2.2.2.2.2.2.2).bind fun t668 => ((spec_CredLess.f k bt637.1 bt637.2.1 bt637.2.2.1 bt637.2.2.2.1 bt637.2.2.2.2.1 bt637.2.2.2.2.2.1 bt637.2.2.2.2.2.2.1 bt637.2.2.2.2.2.2.2.1 bt637.2.2.2.2.2.2.2.2.1 bt637.2.2.2.2.2.2.2.2.2.1 bt637.2.2.2.2.2.2.2.2.2.2.1 bt637.2.2.2.2.2.2.2.2.2.2.2.1 bt637.2.2.2.2.2.2.2.2.2.2.2.2.1 bt637.2.2.2.2.2.2.2.2.2.2.2.2.2.1 bt637.2.2.2.2.2.2.2.2.2.2.2.2.2.2.1 bt637.2.2.2.2.2.2.2.2.2.2.2.2.2.2.2.1 bt637.2.2.2.2.2.2.2.2.2.2.2.2.2.2.2.2.1 bt637.2.2.2.2.2.2.2.2.2.2.2.2.2.2.2.2.2.1 bt637.2.2.2.2.2.2.2.2.2.2.2.2.2.2.2.2.2.2.1 bt637.2.2.2.2.2.2.2.2.2.2.2.2.2.2.2.2.2.2.2).bind fun t669 => (if (t668 == t669) = true then ((impl_CredLess.f k bt637.1 bt637.2.1 bt637.2.2.1 bt637.2.2.2.1 bt637.2.2.2.2.1 bt637.2.2.2.2.2.1 bt637.2.2.2.2.2.2.1 bt637.2.2.2.2.2.2.2.1 bt637.2.2.2.2.2.2.2.2.1 bt637.2.2.2.2.2.2.2.2.2.1 bt637.2.2.2.2.2.2.2.2.2.2.1 bt637.2.2.2.2.2.2.2.2.2.2.2.1 bt637.2.2.2.2.2.2.2.2.2.2.2.2.1 bt637.2.2.2.2.2.2.2.2.2.2.2.2.2.1 bt637.2.2.2.2.2.2.2.2.2.2.2.2.2.2.1 bt637.2.2.2.2.2.2.2.2.2.2.2.2.2.2.2.1 bt637.2.2.2.2.2.2.2.2.2.2.2.2.2.2.2.2.1 bt637.2.2.2.2.2.2.2.2.2.2.2.2.2.2.2.2.2.1 bt637.2.2.2.2.2.2.2.2.2.2.2.2.2.2.2.2.2.2.1 bt637.2.2.2.2.2.2.2.2.2.2.2.2.2.2.2.2.2.2.2).bind fun t670 => (if t670 = true then ((impl_CredLess.f k bt637.2.2.2.2.2.2.2.2.2.2.1 bt637.2.2.2.2.2.2.2.2.2.2.2.1 bt637.2.2.2.2.2.2.2.2.2.2.2.2.1 bt637.2.2.2.2.2.2.2.2.2.2.2.2.2.1 bt637.2.2.2.2.2.2.2.2.2.2.2.2.2.2.1 bt637.2.2.2.2.2.2.2.2.2.2.2.2.2.2.2.1 bt637.2.2.2.2.2.2.2.2.2.2.2.2.2.2.2.2.1 bt637.2.2.2.2.2.2.2.2.2.2.2.2.2.2.2.2.2.1 bt637.2.2.2.2.2.2.2.2.2.2.2.2.2.2.2.2.2.2.1 bt637.2.2.2.2.2.2.2.2.2.2.2.2.2.2.2.2.2.2.2 bt637.1 bt637.2.1 bt637.2.2.1 bt637.2.2.2.1 bt637.2.2.2.2.1 bt637.2.2.2.2.2.1 bt637.2.2.2.2.2.2.1 bt637.2.2.2.2.2.2.2.1 bt637.2.2.2.2.2.2.2.2.1 bt637.2.2.2.2.2.2.2.2.2.1).bind fun t671 => (if t671 = true then (some false) else ((impl_RoleOk.f bt659.1 bt659.2).bind fun t672 => ((spec_RoleOk.f bt659.1 bt659.2).bind fun t673 => (if (t672 == t673) = true then ((impl_PlaceOf.f k bt659.1 bt659.2).bind fun t674 => ((spec_PlaceOf.f k bt659.1 bt659.2).bind fun t675 => (if t674 = t675 then (if t662 ≥ 0 then (some (decide (t662 < 256))) else (some false)) else (some false)))) else (some false)))))) else ((impl_RoleOk.f bt659.1 bt659.2).bind fun t676 => ((spec_RoleOk.f bt659.1 bt659.2).bind fun t677 => (if (t676 == t677) = true then ((impl_PlaceOf.f k bt659.1 bt659.2).bind fun t678 => ((spec_PlaceOf.f k bt659.1 bt659.2).bind fun t679 => (if t678 = t679 then (if t662 ≥ 0 then (some (decide (t662 < 256))) else (some false)) else (some false)))) else (some false)))))) else (some false)))) else (some false)))) else (some false)))) else (some false)) else (some false)) else (some false))) else (some false)) else (some false)))))))))))))
theorem laws_FnWords.mono : ∀ a0 k, LeO (laws_FnWords.f k a0) (laws_FnWords.f (k + 1) a0) := by
 intro a0 k
 unfold laws_FnWords.f
 repeat' first
   | (with_reducible exact impl_CredLess.mono _ _ _ _ _ _ _ _ _ _ _ _ _ _ _ _ _ _ _ _ _)
   | (with_reducible exact impl_CredOk.mono _ _ _ _ _ _ _ _ _ _ _)
   | (with_reducible exact impl_CredText.mono _ _ _ _ _ _ _ _ _ _ _)
   | (with_reducible exact impl_PlaceOf.mono _ _ _)
   | (with_reducible exact impl_ReadCred.mono _ _)
   | (with_reducible exact spec_CredLess.mono _ _ _ _ _ _ _ _ _ _ _ _ _ _ _ _ _ _ _ _ _)
   | (with_reducible exact spec_CredOk.mono _ _ _ _ _ _ _ _ _ _ _)
   | (with_reducible exact spec_CredText.mono _ _ _ _ _ _ _ _ _ _ _)
   | (with_reducible exact spec_DrawCredLess.mono _ _)
   | (with_reducible exact spec_DrawCredOk.mono _ _)
   | (with_reducible exact spec_DrawReadCred.mono _ _)
   | (with_reducible exact spec_DrawRoleOk.mono _ _)
   | (with_reducible exact spec_DrawWord.mono _ _)
   | (with_reducible exact spec_PlaceOf.mono _ _ _)
   | (with_reducible exact spec_ReadCred.mono _ _)
   | (with_reducible exact LeO.refl _)
   | (with_reducible exact LeO.none _)
   | (with_reducible refine LeO.ite ?_ ?_)
   | (with_reducible refine LeO.bind ?_ (fun _ => ?_))
   | exact impl_CredLess.mono _ _ _ _ _ _ _ _ _ _ _ _ _ _ _ _ _ _ _ _ _
   | exact impl_CredOk.mono _ _ _ _ _ _ _ _ _ _ _
   | exact impl_CredText.mono _ _ _ _ _ _ _ _ _ _ _
   | exact impl_PlaceOf.mono _ _ _
   | exact impl_ReadCred.mono _ _
   | exact spec_CredLess.mono _ _ _ _ _ _ _ _ _ _ _ _ _ _ _ _ _ _ _ _ _
   | exact spec_CredOk.mono _ _ _ _ _ _ _ _ _ _ _
   | exact spec_CredText.mono _ _ _ _ _ _ _ _ _ _ _
   | exact spec_DrawCredLess.mono _ _
   | exact spec_DrawCredOk.mono _ _
   | exact spec_DrawReadCred.mono _ _
   | exact spec_DrawRoleOk.mono _ _
   | exact spec_DrawWord.mono _ _
   | exact spec_PlaceOf.mono _ _ _
   | exact spec_ReadCred.mono _ _
   | exact LeO.none _
   | refine LeO.ite ?_ ?_
   | refine LeO.bind ?_ (fun _ => ?_)
def laws_FnWords.T13 : Bool × List (List Nat × List Nat) := (true, [([], []), ([0], [0]), ([1], [1]), ([1], [1]), ([2, 3, 1], [1, 2, 3]), ([1, 4], [1, 4]), ([5, 1], [5]), ([6], [6]), ([7, 6, 6], [6, 7]), ([6, 8], [6, 8]), ([9, 8], [9]), ([10], [10]), ([10], [10]), ([11, 12, 10], [10, 11, 12]), ([10, 13], [10, 13]), ([14, 10], [14]), ([15], [15]), ([15], [15]), ([16, 17, 15], [15, 16, 17]), ([15, 18], [15, 18]), ([19, 15], [19]), ([20], [20]), ([21, 20, 20], [20, 21]), ([20], [20]), ([23, 22, 20], [20, 23]), ([22, 24, 20], [20, 22, 24]), ([20, 25], [20, 25]), ([26, 24], [26]), ([27], [27]), ([28, 27, 27], [27, 28]), ([27], [27]), ([30, 29, 27], [27, 30]), ([29, 31, 27], [27, 29, 31]), ([27, 32], [27, 32]), ([33, 31], [33]), ([34], [34]), ([34], [34]), ([35, 36, 34, 34], [34, 35, 36]), ([34], [34]), ([34], [34]), ([38, 39, 37, 34], [34, 38, 39]), ([37, 40, 34], [34, 37, 40]), ([34, 41], [34, 41]), ([42, 40], [42]), ([43], [43]), ([43], [43]), ([44, 45, 43, 43], [43, 44, 45]), ([46, 46, 43], [43, 46]), ([47], [47]), ([47], [47]), ([48, 49, 47, 47], [47, 48, 49]), ([47, 50, 43], [43, 47, 50]), ([51, 43], [43, 51]), ([43, 52], [43, 52]), ([53, 50], [53]), ([54], [54]), ([55, 54, 54], [54, 55]), ([54], [54]), ([57, 56, 54], [54, 57]), ([56, 58, 54], [54, 56, 58]), ([54, 59], [54, 59]), ([60, 58], [60]), ([61], [61]), ([62, 61, 61], [61, 62]), ([61], [61]), ([64, 63, 61], [61, 64]), ([63, 65, 61], [61, 63, 65]), ([61, 66], [61, 66]), ([67, 65], [67]), ([68], [68]), ([69, 68], [68, 69]), ([68, 70], [68, 70]), ([71, 68], [71]), ([72], [72]), ([73, 72], [72, 73]), ([72, 74], [72, 74]), ([75, 72, 0, 1, 2, 3, 4, 5, 6, 7, 8, 9, 10, 11, 12, 13, 14, 15, 16, 17, 18, 19, 20, 21, 22, 23, 24, 25, 26, 27, 28, 29, 30, 31, 32, 33, 34, 35, 36, 37, 38, 39, 40, 41, 42, 43, 44, 45, 46, 47, 48, 49, 50, 51, 52, 53, 54, 55, 56, 57, 58, 59, 60, 61, 62, 63, 64, 65, 66, 67, 68, 69, 70, 71, 72, 73, 74, 75], [75])])
def laws_FnWords.B13 : List Nat := [0, 1, 3, 3, 15, 31, 63, 127, 255, 511, 1023, 2047, 2047, 8191, 16383, 32767, 65535, 65535, 262143, 524287, 1048575, 2097151, 4194303, 2097151, 16777215, 33554431, 67108863, 134217727, 268435455, 536870911, 268435455, 2147483647, 4294967295, 8589934591, 17179869183, 34359738367, 34359738367, 137438953471, 34359738367, 34359738367, 1099511627775, 2199023255551, 4398046511103, 8796093022207, 17592186044415, 17592186044415, 70368744177663, 140737488355327, 281474976710655, 281474976710655, 1125899906842623, 2251799813685247, 4503599627370495, 9007199254740991, 18014398509481983, 36028797018963967, 72057594037927935, 36028797018963967, 288230376151711743, 576460752303423487, 1152921504606846975, 2305843009213693951, 4611686018427387903, 9223372036854775807, 4611686018427387903, 36893488147419103231, 73786976294838206463, 147573952589676412927, 295147905179352825855, 590295810358705651711, 1180591620717411303423, 2361183241434822606847, 4722366482869645213695, 9444732965739290427391, 18889465931478580854783, 37778931862957161709567, 75557863725914323419135]
theorem laws_FnWords.tab13 : rtab .any (opsOf Try.f3 13) = laws_FnWords.T13 := by kernel_rfl
theorem laws_FnWords.bits13 : waitsOk laws_FnWords.T13.2 laws_FnWords.B13 = true := by kernel_rfl
set_option maxHeartbeats 8000000 in
set_option maxRecDepth 100000 in
theorem laws_FnWords.calls (k : Nat) (A0 : Option Addr) (c0 : Nat) (l0 : List Int) (r : Bool) (w : World) (hr0 : Kd.C (Kd.int .u8) w A0 l0.length l0) (hc0 : l0.length ≤ c0) (h : laws_FnWords.f k l0 = some r) (hrt : r = true) :
  Calls Try.prog 3 #[.slice A0 l0.length c0] w fun e w' => e = .returned (.bool r) ∧ Below w.heap.size w w' := by
 have HRT := Aside0.mk hrt
 clear hrt
 have hu27 := Try.underlying27
 have hu25 := Try.underlying25
 have HR0 := Aside0.mk hr0
 have HC0 := Aside0.mk hc0
 clear hr0 hc0
 have HB := Aside0.mk (Below.refl w.heap.size w)
 have H : ((laws_big.f l0).bind fun t576 => (if t576 = true then (some true) else ((spec_DrawWord.f k l0).bind fun bt577 => ((impl_CredText.f k bt577.1 bt577.2.1 bt577.2.2.1 bt577.2.2.2.1 bt577.2.2.2.2.1 bt577.2.2.2.2.2.1 bt577.2.2.2.2.2.2.1 bt577.2.2.2.2.2.2.2.1 bt577.2.2.2.2.2.2.2.2.1 bt577.2.2.2.2.2.2.2.2.2).bind fun t588 => ((impl_ReadCred.f k t588).bind fun bt589 => ((spec_DrawReadCred.f k l0).bind fun t601 => ((impl_ReadCred.f k t601).bind fun bt602 => ((spec_ReadCred.f k t601).bind fun bt614 => ((spec_DrawCredOk.f k l0).bind fun bt626 => ((spec_DrawCredLess.f k l0).bind fun bt637 => ((spec_DrawRoleOk.f k l0).bind fun bt659 => ((impl_PlaceOf.f k bt577.2.1 bt577.2.2.1).bind fun t662 => (if bt589.2.2.2.2.2.2.2.2.2.2 = true then (if (bt589.1 == bt577.1 && ((bt589.2.1 == bt577.2.1 && (bt589.2.2.1 == bt577.2.2.1)) && (bt589.2.2.2.1 == bt577.2.2.2.1 && ((bt589.2.2.2.2.1 == bt577.2.2.2.2.1 && (bt589.2.2.2.2.2.1 == bt577.2.2.2.2.2.1)) && ((bt589.2.2.2.2.2.2.1 == bt577.2.2.2.2.2.2.1 && (bt589.2.2.2.2.2.2.2.1 == bt577.2.2.2.2.2.2.2.1)) && (bt589.2.2.2.2.2.2.2.2.1 == bt577.2.2.2.2.2.2.2.2.1 && (bt589.2.2.2.2.2.2.2.2.2.1 == bt577.2.2.2.2.2.2.2.2.2))))))) = true then ((impl_CredOk.f k bt577.1 bt577.2.1 bt577.2.2.1 bt577.2.2.2.1 bt577.2.2.2.2.1 bt577.2.2.2.2.2.1 bt577.2.2.2.2.2.2.1 bt577.2.2.2.2.2.2.2.1 bt577.2.2.2.2.2.2.2.2.1 bt577.2.2.2.2.2.2.2.2.2).bind fun t663 => (if t663 = true then (if (bt602.2.2.2.2.2.2.2.2.2.2 == bt614.2.2.2.2.2.2.2.2.2.2) = true then (if (bt602.1 == bt614.1 && ((bt602.2.1 == bt614.2.1 && (bt602.2.2.1 == bt614.2.2.1)) && (bt602.2.2.2.1 == bt614.2.2.2.1 && ((bt602.2.2.2.2.1 == bt614.2.2.2.2.1 && (bt602.2.2.2.2.2.1 == bt614.2.2.2.2.2.1)) && ((bt602.2.2.2.2.2.2.1 == bt614.2.2.2.2.2.2.1 && (bt602.2.2.2.2.2.2.2.1 == bt614.2.2.2.2.2.2.2.1)) && (bt602.2.2.2.2.2.2.2.2.1 == bt614.2.2.2.2.2.2.2.2.1 && (bt602.2.2.2.2.2.2.2.2.2.1 == bt614.2.2.2.2.2.2.2.2.2.1))))))) = true then ((impl_CredOk.f k bt626.1 bt626.2.1 bt626.2.2.1 bt626.2.2.2.1 bt626.2.2.2.2.1 bt626.2.2.2.2.2.1 bt626.2.2.2.2.2.2.1 bt626.2.2.2.2.2.2.2.1 bt626.2.2.2.2.2.2.2.2.1 bt626.2.2.2.2.2.2.2.2.2).bind fun t664 => ((spec_CredOk.f k bt626.1 bt626.2.1 bt626.2.2.1 bt626.2.2.2.1 bt626.2.2.2.2.1 bt626.2.2.2.2.2.1 bt626.2.2.2.2.2.2.1 bt626.2.2.2.2.2.2.2.1 bt626.2.2.2.2.2.2.2.2.1 bt626.2.2.2.2.2.2.2.2.2).bind fun t665 => (if (t664 == t665) = true then ((impl_CredText.f k bt626.1 bt626.2.1 bt626.2.2.1 bt626.2.2.2.1 bt626.2.2.2.2.1 bt626.2.2.2.2.2.1 bt626.2.2.2.2.2.2.1 bt626.2.2.2.2.2.2.2.1 bt626.2.2.2.2.2.2.2.2.1 bt626.2.2.2.2.2.2.2.2.2).bind fun t666 => ((spec_CredText.f k bt626.1 bt626.2.1 bt626.2.2.1 bt626.2.2.2.1 bt626.2.2.2.2.1 bt626.2.2.2.2.2.1 bt626.2.2.2.2.2.2.1 bt626.2.2.2.2.2.2.2.1 bt626.2.2.2.2.2.2.2.2.1 bt626.2.2.2.2.2.2.2.2.2).bind fun t667 => (if t666.toList = t667.toList then ((impl_CredLess.f k bt637.1 bt637.2.1 bt637.2.2.1 bt637.2.2.2.1 bt637.2.2.2.2.1 bt637.2.2.2.2.2.1 bt637.2.2.2.2.2.2.1 bt637.2.2.2.2.2.2.2.1 bt637.2.2.2.2.2.2.2.2.1 bt637.2.2.2.2.2.2.2.2.2.1 bt637.2.2.2.2.2.2.2.2.2.2.1 bt637.2.2.2.2.2.2.2.2.2.2.2.1 bt637.2.2.2.2.2.2.2.2.2.2.2.2.1 bt637.2.2.2.2.2.2.2.2.2.2.2.2.2.1 bt637.2.2.2.2.2.2.2.2.2.2.2.2.2.2.1 bt637.2.2.2.2.2.2.2.2.2.2.2.2.2.2.2.1 bt637.2.2.2.2.2.2.2.2.2.2.2.2.2.2.2.2.1 bt637.2.2.2.2.2.2.2.2.2.2.2.2.2.2.2.2.2.1 bt637.2.2.2.2.2.2.2.2.2.2.2.2.2.2.2.2.2.2.1 bt637.2.2.2.2.2.2.2.2.2.2.2.2.2.2.2.2.2.2.2).bind fun t668 => ((spec_CredLess.f k bt637.1 bt637.2.1 bt637.2.2.1 bt637.2.2.2.1 bt637.2.2.2.2.1 bt637.2.2.2.2.2.1 bt637.2.2.2.2.2.2.1 bt637.2.2.2.2.2.2.2.1 bt637.2.2.2.2.2.2.2.2.1 bt637.2.2.2.2.2.2.2.2.2.1 bt637.2.2.2.2.2.2.2.2.2.2.1 bt637.2.2.2.2.2.2.2.2.2.2.2.1 bt637.2.2.2.2.2.2.2.2.2.2.2.2.1 bt637.2.2.2.2.2.2.2.2.2.2.2.2.2.1 bt637.2.2.2.2.2.2.2.2.2.2.2.2.2.2.1 bt637.2.2.2.2.2.2.2.2.2.2.2.2.2.2.2.1 bt637.2.2.2.2.2.2.2.2.2.2.2.2.2.2.2.2.1 bt637.2.2.2.2.2.2.2.2.2.2.2.2.2.2.2.2.2.1 bt637.2.2.2.2.2.2.2.2.2.2.2.2.2.2.2.2.2.2.1 bt637.2.2.2.2.2.2.2.2.2.2.2.2.2.2.2.2.2.2.2).bind fun t669 => (if (t668 == t669) = true then ((impl_CredLess.f k bt637.1 bt637.2.1 bt637.2.2.1 bt637.2.2.2.1 bt637.2.2.2.2.1 bt637.2.2.2.2.2.1 bt637.2.2.2.2.2.2.1 bt637.2.2.2.2.2.2.2.1 bt637.2.2.2.2.2.2.2.2.1 bt637.2.2.2.2.2.2.2.2.2.1 bt637.2.2.2.2.2.2.2.2.2.2.1 bt637.2.2.2.2.2.2.2.2.2.2.2.1 bt637.2.2.2.2.2.2.2.2.2.2.2.2.1 bt637.2.2.2.2.2.2.2.2.2.2.2.2.2.1 bt637.2.2.2.2.2.2.2.2.2.2.2.2.2.2.1 bt637.2.2.2.2.2.2.2.2.2.2.2.2.2.2.2.1 bt637.2.2.2.2.2.2.2.2.2.2.2.2.2.2.2.2.1 bt637.2.2.2.2.2.2.2.2.2.2.2.2.2.2.2.2.2.1 bt637.2.2.2.2.2.2.2.2.2.2.2.2.2.2.2.2.2.2.1 bt637.2.2.2.2.2.2.2.2.2.2.2.2.2.2.2.2.2.2.2).bind fun t670 => (if t670 = true then ((impl_CredLess.f k bt637.2.2.2.2.2.2.2.2.2.2.1 bt637.2.2.2.2.2.2.2.2.2.2.2.1 bt637.2.2.2.2.2.2.2.2.2.2.2.2.1 bt637.2.2.2.2.2.2.2.2.2.2.2.2.2.1 bt637.2.2.2.2.2.2.2.2.2.2.2.2.2.2.1 bt637.2.2.2.2.2.2.2.2.2.2.2.2.2.2.2.1 bt637.2.2.2.2.2.2.2.2.2.2.2.2.2.2.2.2.1 bt637.2.2.2.2.2.2.2.2.2.2.2.2.2.2.2.2.2.1 bt637.2.2.2.2.2.2.2.2.2.2.2.2.2.2.2.2.2.2.1 bt637.2.2.2.2.2.2.2.2.2.2.2.2.2.2.2.2.2.2.2 bt637.1 bt637.2.1 bt637.2.2.1 bt637.2.2.2.1 bt637.2.2.2.2.1 bt637.2.2.2.2.2.1 bt637.2.2.2.2.2.2.1 bt637.2.2.2.2.2.2.2.1 bt637.2.2.2.2.2.2.2.2.1 bt637.2.2.2.2.2.2.2.2.2.1).bind fun t671 => (if t671 = true then (some false) else ((impl_RoleOk.f bt659.1 bt659.2).bind fun t672 => ((spec_RoleOk.f bt659.1 bt659.2).bind fun t673 => (if (t672 == t673) = true then ((impl_PlaceOf.f k bt659.1 bt659.2).bind fun t674 => ((spec_PlaceOf.f k bt659.1 bt659.2).bind fun t675 => (if t674 = t675 then (if t662 ≥ 0 then (some (decide (t662 < 256))) else (some false)) else (some false)))) else (some false)))))) else ((impl_RoleOk.f bt659.1 bt659.2).bind fun t676 => ((spec_RoleOk.f bt659.1 bt659.2).bind fun t677 => (if (t676 == t677) = true then ((impl_PlaceOf.f k bt659.1 bt659.2).bind fun t678 => ((spec_PlaceOf.f k bt659.1 bt659.2).bind fun t679 => (if t678 = t679 then (if t662 ≥ 0 then (some (decide (t662 < 256))) else (some false)) else (some false)))) else (some false)))))) else (some false)))) else (some false)))) else (some false)))) else (some false)) else (some false)) else (some false))) else (some false)) else (some false)))))))))))))) = some r := h
 clear h
 replace H := Option.bind_eq_some_iff.mp H
 obtain ⟨t576, A20, H⟩ := H
 try dsimp only at H
 have A2 := Aside0.mk A20
 clear A20
 by_cases c3 : t576 = true
 ·subst c3
  rw [if_pos rfl] at H
  obtain rfl := Option.some.inj H
  go_enter Try.func3, Try.ntmps3
  go_wp2_with (first | ((with_reducible refine gate_callee (f := 4) rfl ?_); refine goesL_ (some 18) rfl rfl Try.func4 (by kernel_rfl) rfl #[.slice A0 l0.length c0] rfl sqA ?_; (with_reducible refine (laws_big.calls _ _ l0 true _ ?side1 ?side2 A2.out).mono ?_); (case side1 => repeat (first | exact HR0.out | (with_reducible refine Kd.C_alloc ?_ _) | (with_reducible refine Kd.C_drewN ?_ _) | (with_reducible refine Kd.C_drew ?_))); (case side2 => exact HC0.out); rintro e w' ⟨rfl, ⟨nd, rfl⟩⟩; refine ⟨_, rfl, ?_⟩))
  go_ret
  exact ⟨sqE, sqB⟩
 ·replace c3 := Bool.eq_false_iff.mpr c3
  subst c3
  rw [if_neg (show ¬ (false = true) by decide)] at H
  replace H := Option.bind_eq_some_iff.mp H
  obtain ⟨⟨t577, t578, t579, t580, t581, t582, t583, t584, t585, t586⟩, A40, H⟩ := H
  try dsimp only at H
  have A4 := Aside0.mk A40
  clear A40
  replace H := Option.bind_eq_some_iff.mp H
  obtain ⟨t588, A50, H⟩ := H
  try dsimp only at H
  have A5 := Aside0.mk A50
  clear A50
  replace H := Option.bind_eq_some_iff.mp H
  obtain ⟨⟨t589, t590, t591, t592, t593, t594, t595, t596, t597, t598, t599⟩, A60, H⟩ := H
  try dsimp only at H
  have A6 := Aside0.mk A60
  clear A60
  replace H := Option.bind_eq_some_iff.mp H
  obtain ⟨t601, A70, H⟩ := H
  try dsimp only at H
  have A7 := Aside0.mk A70
  clear A70
  replace H := Option.bind_eq_some_iff.mp H
  obtain ⟨⟨t602, t603, t604, t605, t606, t607, t608, t609, t610, t611, t612⟩, A80, H⟩ := H
  try dsimp only at H
  have A8 := Aside0.mk A80
  clear A80
  replace H := Option.bind_eq_some_iff.mp H
  obtain ⟨⟨t614, t615, t616, t617, t618, t619, t620, t621, t622, t623, t624⟩, A90, H⟩ := H
  try dsimp only at H
  have A9 := Aside0.mk A90
  clear A90
  replace H := Option.bind_eq_some_iff.mp H
  obtain ⟨⟨t626, t627, t628, t629, t630, t631, t632, t633, t634, t635⟩, A100, H⟩ := H
  try dsimp only at H
  have A10 := Aside0.mk A100
  clear A100
  replace H := Option.bind_eq_some_iff.mp H
  obtain ⟨⟨t637, t638, t639, t640, t641, t642, t643, t644, t645, t646, t647, t648, t649, t650, t651, t652, t653, t654, t655, t656⟩, A110, H⟩ := H
  try dsimp only at H
  have A11 := Aside0.mk A110
  clear A110
  replace H := Option.bind_eq_some_iff.mp H
  obtain ⟨⟨t659, t660⟩, A120, H⟩ := H
  try dsimp only at H
  have A12 := Aside0.mk A120
  clear A120
  replace H := Option.bind_eq_some_iff.mp H
  obtain ⟨t662, A130, H⟩ := H
  try dsimp only at H
  have A13 := Aside0.mk A130
  clear A130
  by_cases c14 : t599 = true
  ·subst c14
   rw [if_pos rfl] at H
   by_cases c15 : (t589 == t577 && ((t590 == t578 && (t591 == t579)) && (t592 == t580 && ((t593 == t581 && (t594 == t582)) && ((t595 == t583 && (t596 == t584)) && (t597 == t585 && (t598 == t586))))))) = true
   ·rw [if_pos c15] at H
    have c15b0 : (t589 == t577 && ((t590 == t578 && (t591 == t579)) && (t592 == t580 && ((t593 == t581 && (t594 == t582)) && ((t595 == t583 && (t596 == t584)) && (t597 == t585 && (t598 == t586))))))) = true := c15
    (try (have c15b1 : decide (t589 = t577 && ((t590 == t578 && (t591 == t579)) && (t592 == t580 && ((t593 == t581 && (t594 == t582)) && ((t595 == t583 && (t596 == t584)) && (t597 == t585 && (t598 == t586))))))) = true := by simpa using c15))
    (try (have c15b2 : (t589 == t577 && ((t590 == t578 && (t591 == t579)) && (t592 == t580 && ((t593 == t581 && (t594 == t582)) && ((t595 == t583 && (t596 == t584)) && (t597 == t585 && (t598 == t586))))))) = true := by simpa using c15))
    clear c15
    replace H := Option.bind_eq_some_iff.mp H
    obtain ⟨t663, A160, H⟩ := H
    try dsimp only at H
    have A16 := Aside0.mk A160
    clear A160
    by_cases c17 : t663 = true
    ·subst c17
     rw [if_pos rfl] at H
     by_cases c18 : (t612 == t624) = true
     ·rw [if_pos c18] at H
      have c18b0 : (t612 == t624) = true := c18
      (try (have c18b1 : decide (t612 = t624) = true := by simpa using c18))
      (try (have c18b2 : (t612 == t624) = true := by simpa using c18))
      clear c18
      by_cases c19 : (t602 == t614 && ((t603 == t615 && (t604 == t616)) && (t605 == t617 && ((t606 == t618 && (t607 == t619)) && ((t608 == t620 && (t609 == t621)) && (t610 == t622 && (t611 == t623))))))) = true
      ·rw [if_pos c19] at H
       have c19b0 : (t602 == t614 && ((t603 == t615 && (t604 == t616)) && (t605 == t617 && ((t606 == t618 && (t607 == t619)) && ((t608 == t620 && (t609 == t621)) && (t610 == t622 && (t611 == t623))))))) = true := c19
       (try (have c19b1 : decide (t602 = t614 && ((t603 == t615 && (t604 == t616)) && (t605 == t617 && ((t606 == t618 && (t607 == t619)) && ((t608 == t620 && (t609 == t621)) && (t610 == t622 && (t611 == t623))))))) = true := by simpa using c19))
       (try (have c19b2 : (t602 == t614 && ((t603 == t615 && (t604 == t616)) && (t605 == t617 && ((t606 == t618 && (t607 == t619)) && ((t608 == t620 && (t609 == t621)) && (t610 == t622 && (t611 == t623))))))) = true := by simpa using c19))
       clear c19
       replace H := Option.bind_eq_some_iff.mp H
       obtain ⟨t664, A200, H⟩ := H
       try dsimp only at H
       have A20 := Aside0.mk A200
       clear A200
       replace H := Option.bind_eq_some_iff.mp H
       obtain ⟨t665, A210, H⟩ := H
       try dsimp only at H
       have A21 := Aside0.mk A210
       clear A210
       by_cases c22 : (t664 == t665) = true
       ·rw [if_pos c22] at H
        have c22b0 : (t664 == t665) = true := c22
        (try (have c22b1 : decide (t664 = t665) = true := by simpa using c22))
        (try (have c22b2 : (t664 == t665) = true := by simpa using c22))
        clear c22
        replace H := Option.bind_eq_some_iff.mp H
        obtain ⟨t666, A230, H⟩ := H
        try dsimp only at H
        have A23 := Aside0.mk A230
        clear A230
        replace H := Option.bind_eq_some_iff.mp H
        obtain ⟨t667, A240, H⟩ := H
        try dsimp only at H
        have A24 := Aside0.mk A240
        clear A240
        by_cases c25 : t666.toList = t667.toList
        ·rw [if_pos c25] at H
         have c25b0 : (t666.toList == t667.toList) = true := beq_iff_eq.mpr c25
         have c25b1 : (t666.toList != t667.toList) = false := bne_eq_false_iff_eq.mpr c25
         clear c25
         replace H := Option.bind_eq_some_iff.mp H
         obtain ⟨t668, A260, H⟩ := H
         try dsimp only at H
         have A26 := Aside0.mk A260
         clear A260
         replace H := Option.bind_eq_some_iff.mp H
         obtain ⟨t669, A270, H⟩ := H
         try dsimp only at H
         have A27 := Aside0.mk A270
         clear A270
         by_cases c28 : (t668 == t669) = true
         ·rw [if_pos c28] at H
          have c28b0 : (t668 == t669) = true := c28
          (try (have c28b1 : decide (t668 = t669) = true := by simpa using c28))
          (try (have c28b2 : (t668 == t669) = true := by simpa using c28))
          clear c28
          replace H := Option.bind_eq_some_iff.mp H
          obtain ⟨t670, A290, H⟩ := H
          try dsimp only at H
          have A29 := Aside0.mk A290
          clear A290
          by_cases c30 : t670 = true
          ·subst c30
           rw [if_pos rfl] at H
           replace H := Option.bind_eq_some_iff.mp H
           obtain ⟨t671, A310, H⟩ := H
           try dsimp only at H
           have A31 := Aside0.mk A310
           clear A310
           by_cases c32 : t671 = true
           ·subst c32
            have H1 : (some false) = some r := by rw [if_pos rfl] at H; exact H
            exact absurd ((Option.some.inj H1).trans HRT.out) (by decide)
           ·replace c32 := Bool.eq_false_iff.mpr c32
            subst c32
            rw [if_neg (show ¬ (false = true) by decide)] at H
            replace H := Option.bind_eq_some_iff.mp H
            obtain ⟨t672, A980, H⟩ := H
            try dsimp only at H
            have A98 := Aside0.mk A980
            clear A980
            replace H := Option.bind_eq_some_iff.mp H
            obtain ⟨t673, A990, H⟩ := H
            try dsimp only at H
            have A99 := Aside0.mk A990
            clear A990
            by_cases c100 : (t672 == t673) = true
            ·rw [if_pos c100] at H
             have c100b0 : (t672 == t673) = true := c100
             (try (have c100b1 : decide (t672 = t673) = true := by simpa using c100))
             (try (have c100b2 : (t672 == t673) = true := by simpa using c100))
             clear c100
             replace H := Option.bind_eq_some_iff.mp H
             obtain ⟨t674, A1010, H⟩ := H
             try dsimp only at H
             have A101 := Aside0.mk A1010
             clear A1010
             replace H := Option.bind_eq_some_iff.mp H
             obtain ⟨t675, A1020, H⟩ := H
             try dsimp only at H
             have A102 := Aside0.mk A1020
             clear A1020
             by_cases c103 : t674 = t675
             ·rw [if_pos c103] at H
              have c103b0 : (t674 == t675) = true := beq_iff_eq.mpr c103
              have c103b1 : (t674 != t675) = false := bne_eq_false_iff_eq.mpr c103
              clear c103
              by_cases c104 : t662 ≥ 0
              ·rw [if_pos c104] at H
               have c104b0 : decide (0 ≤ t662) = true := decide_eq_true c104
               clear c104
               obtain rfl := Option.some.inj H
               go_enter Try.func3, Try.ntmps3
               try go_wp2_with (first | ((with_reducible refine gate_callee (f := 4) rfl ?_); refine goesL_ (some 18) rfl rfl Try.func4 (by kernel_rfl) rfl #[.slice A0 l0.length c0] rfl sqA ?_; (with_reducible refine (laws_big.calls _ _ l0 false _ ?side1 ?side2 A2.out).mono ?_); (case side1 => repeat (first | exact HR0.out | (with_reducible refine Kd.C_alloc ?_ _) | (with_reducible refine Kd.C_drewN ?_ _) | (with_reducible refine Kd.C_drew ?_))); (case side2 => exact HC0.out); rintro e w' ⟨rfl, ⟨nd, rfl⟩⟩; refine ⟨_, rfl, ?_⟩) | ((with_reducible refine gate_callee (f := 5) rfl ?_); refine goesL_ (some 20) rfl rfl Try.func5 (by kernel_rfl) rfl #[.slice A0 l0.length c0] rfl sqA ?_; (with_reducible refine (spec_DrawWord.calls k _ _ l0 t577 t578 t579 t580 t581 t582 t583 t584 t585 t586 _ ?side1 ?side2 A4.out).mono ?_); (case side1 => repeat (first | exact HR0.out | (with_reducible refine Kd.C_alloc ?_ _) | (with_reducible refine Kd.C_drewN ?_ _) | (with_reducible refine Kd.C_drew ?_))); (case side2 => exact HC0.out); rintro e w105 ⟨rfl, hb⟩; refine ⟨_, rfl, ?_⟩; replace HB := sqS hb; (try clear hb); (try clear hb2); (try clear hk); (try clear hi)) | ((with_reducible refine gate_dst (N := 3) rfl ?_); refine sqX (N := 3) (cs := #[.int .i64 0, .int .i64 0, .int .i64 0, .int .i64 0, .int .i64 0, .int .i64 0, .int .i64 0, .int .i64 0, .int .i64 0, .int .i64 0]) (t := 27) ?_; intro gb587 hg w106 hbox hb; have BK587 := Aside0.mk (hbox); have GW587 := sqG hg; have GE587 := sqG hg; replace HB := sqS hb; clear hb hbox hg; obtain ⟨hcz107_0, hcz107_1, hcz107_2, hcz107_3, hcz107_4, hcz107_5, hcz107_6, hcz107_7, hcz107_8, hcz107_9, hfz107_0, hfz107_1, hfz107_2, hfz107_3, hfz107_4, hfz107_5, hfz107_6, hfz107_7, hfz107_8, hfz107_9⟩ := sqC10 BK587) | ((with_reducible refine gate_callee (f := 6) rfl ?_); refine goesL_ (some 22) rfl rfl Try.func6 (by kernel_rfl) rfl #[.agg #[.int .i64 t577, .int .i64 t578, .int .i64 t579, .int .i64 t580, .int .i64 t581, .int .i64 t582, .int .i64 t583, .int .i64 t584, .int .i64 t585, .int .i64 t586]] rfl sqA ?_; (with_reducible refine (impl_CredText.calls k t577 t578 t579 t580 t581 t582 t583 t584 t585 t586 t588 _ A5.out).mono ?_); rintro e w108 ⟨rfl, hb⟩; refine ⟨_, rfl, ?_⟩; replace BK587 := sqLW (o' := .cells #[.int .i64 t577, .int .i64 t578, .int .i64 t579, .int .i64 t580, .int .i64 t581, .int .i64 t582, .int .i64 t583, .int .i64 t584, .int .i64 t585, .int .i64 t586] 27 (0, 0)) BK587 hb; replace HB := sqS hb; (try clear hb); (try clear hb2); (try clear hk); (try clear hi)) | ((with_reducible refine gate_callee (f := 7) rfl ?_); refine goesL_ (some 25) rfl rfl Try.func7 (by kernel_rfl) rfl #[.string t588] rfl sqA ?_; (with_reducible refine (impl_ReadCred.calls k t588 t589 t590 t591 t592 t593 t594 t595 t596 t597 t598 true _ A6.out).mono ?_); rintro e w109 ⟨rfl, hb⟩; refine ⟨_, rfl, ?_⟩; replace BK587 := sqL BK587 hb; replace HB := sqS hb; (try clear hb); (try clear hb2); (try clear hk); (try clear hi)) | ((with_reducible refine gate_dst (N := 5) rfl ?_); refine sqX (N := 5) (cs := #[.int .i64 0, .int .i64 0, .int .i64 0, .int .i64 0, .int .i64 0, .int .i64 0, .int .i64 0, .int .i64 0, .int .i64 0, .int .i64 0]) (t := 27) ?_; intro gb600 hg w110 hbox hb; have BK600 := Aside0.mk (hbox); have GW600 := sqG hg; have GE600 := sqG hg; have NB587_600 := sqN BK587 hg; have NB600_587 := sqM BK587 hg; replace BK587 := sqL BK587 hb; replace HB := sqS hb; clear hb hbox hg; have hnb111 := NB600_587.out; have hnc111 := NB587_600.out; obtain ⟨hcz112_0, hcz112_1, hcz112_2, hcz112_3, hcz112_4, hcz112_5, hcz112_6, hcz112_7, hcz112_8, hcz112_9, hfz112_0, hfz112_1, hfz112_2, hfz112_3, hfz112_4, hfz112_5, hfz112_6, hfz112_7, hfz112_8, hfz112_9⟩ := sqC10 BK600) | ((with_reducible refine gate_callee (f := 8) rfl ?_); refine goesL_ (some 29) rfl rfl Try.func8 (by kernel_rfl) rfl #[.slice A0 l0.length c0] rfl sqA ?_; (with_reducible refine (spec_DrawReadCred.calls k _ _ l0 t601 _ ?side1 ?side2 A7.out).mono ?_); (case side1 => exact Kd.C_below HR0.out (sqB)); (case side2 => exact HC0.out); rintro e w113 ⟨rfl, hb⟩; refine ⟨_, rfl, ?_⟩; replace BK587 := sqLW (o' := .cells #[.int .i64 t577, .int .i64 t578, .int .i64 t579, .int .i64 t580, .int .i64 t581, .int .i64 t582, .int .i64 t583, .int .i64 t584, .int .i64 t585, .int .i64 t586] 27 (0, 0)) BK587 hb; replace BK600 := sqLW (o' := .cells #[.int .i64 t589, .int .i64 t590, .int .i64 t591, .int .i64 t592, .int .i64 t593, .int .i64 t594, .int .i64 t595, .int .i64 t596, .int .i64 t597, .int .i64 t598] 27 (0, 0)) BK600 hb; replace HB := sqS hb; (try clear hb); (try clear hb2); (try clear hk); (try clear hi)) | ((with_reducible refine gate_callee (f := 7) rfl ?_); refine goesL_ (some 32) rfl rfl Try.func7 (by kernel_rfl) rfl #[.string t601] rfl sqA ?_; (with_reducible refine (impl_ReadCred.calls k t601 t602 t603 t604 t605 t606 t607 t608 t609 t610 t611 t612 _ A8.out).mono ?_); rintro e w114 ⟨rfl, hb⟩; refine ⟨_, rfl, ?_⟩; replace BK587 := sqL BK587 hb; replace BK600 := sqL BK600 hb; replace HB := sqS hb; (try clear hb); (try clear hb2); (try clear hk); (try clear hi)) | ((with_reducible refine gate_dst (N := 8) rfl ?_); refine sqX (N := 8) (cs := #[.int .i64 0, .int .i64 0, .int .i64 0, .int .i64 0, .int .i64 0, .int .i64 0, .int .i64 0, .int .i64 0, .int .i64 0, .int .i64 0]) (t := 27) ?_; intro gb613 hg w115 hbox hb; have BK613 := Aside0.mk (hbox); have GW613 := sqG hg; have GE613 := sqG hg; have NB587_613 := sqN BK587 hg; have NB613_587 := sqM BK587 hg; replace BK587 := sqL BK587 hb; have NB600_613 := sqN BK600 hg; have NB613_600 := sqM BK600 hg; replace BK600 := sqL BK600 hb; replace HB := sqS hb; clear hb hbox hg; have hnb116 := NB613_587.out; have hnc116 := NB587_613.out; have hnb117 := NB613_600.out; have hnc117 := NB600_613.out; obtain ⟨hcz118_0, hcz118_1, hcz118_2, hcz118_3, hcz118_4, hcz118_5, hcz118_6, hcz118_7, hcz118_8, hcz118_9, hfz118_0, hfz118_1, hfz118_2, hfz118_3, hfz118_4, hfz118_5, hfz118_6, hfz118_7, hfz118_8, hfz118_9⟩ := sqC10 BK613) | ((with_reducible refine gate_callee (f := 9) rfl ?_); refine goesL_ (some 37) rfl rfl Try.func9 (by kernel_rfl) rfl #[.string t601] rfl sqA ?_; (with_reducible refine (spec_ReadCred.calls k t601 t614 t615 t616 t617 t618 t619 t620 t621 t622 t623 t624 _ A9.out).mono ?_); rintro e w119 ⟨rfl, hb⟩; refine ⟨_, rfl, ?_⟩; replace BK587 := sqLW (o' := .cells #[.int .i64 t577, .int .i64 t578, .int .i64 t579, .int .i64 t580, .int .i64 t581, .int .i64 t582, .int .i64 t583, .int .i64 t584, .int .i64 t585, .int .i64 t586] 27 (0, 0)) BK587 hb; replace BK600 := sqLW (o' := .cells #[.int .i64 t589, .int .i64 t590, .int .i64 t591, .int .i64 t592, .int .i64 t593, .int .i64 t594, .int .i64 t595, .int .i64 t596, .int .i64 t597, .int .i64 t598] 27 (0, 0)) BK600 hb; replace BK613 := sqLW (o' := .cells #[.int .i64 t602, .int .i64 t603, .int .i64 t604, .int .i64 t605, .int .i64 t606, .int .i64 t607, .int .i64 t608, .int .i64 t609, .int .i64 t610, .int .i64 t611] 27 (0, 0)) BK613 hb; replace HB := sqS hb; (try clear hb); (try clear hb2); (try clear hk); (try clear hi)) | ((with_reducible refine gate_dst (N := 10) rfl ?_); refine sqX (N := 10) (cs := #[.int .i64 0, .int .i64 0, .int .i64 0, .int .i64 0, .int .i64 0, .int .i64 0, .int .i64 0, .int .i64 0, .int .i64 0, .int .i64 0]) (t := 27) ?_; intro gb625 hg w120 hbox hb; have BK625 := Aside0.mk (hbox); have GW625 := sqG hg; have GE625 := sqG hg; have NB587_625 := sqN BK587 hg; have NB625_587 := sqM BK587 hg; replace BK587 := sqL BK587 hb; have NB600_625 := sqN BK600 hg; have NB625_600 := sqM BK600 hg; replace BK600 := sqL BK600 hb; have NB613_625 := sqN BK613 hg; have NB625_613 := sqM BK613 hg; replace BK613 := sqL BK613 hb; replace HB := sqS hb; clear hb hbox hg; have hnb121 := NB625_587.out; have hnc121 := NB587_625.out; have hnb122 := NB625_600.out; have hnc122 := NB600_625.out; have hnb123 := NB625_613.out; have hnc123 := NB613_625.out; obtain ⟨hcz124_0, hcz124_1, hcz124_2, hcz124_3, hcz124_4, hcz124_5, hcz124_6, hcz124_7, hcz124_8, hcz124_9, hfz124_0, hfz124_1, hfz124_2, hfz124_3, hfz124_4, hfz124_5, hfz124_6, hfz124_7, hfz124_8, hfz124_9⟩ := sqC10 BK625) | ((with_reducible refine gate_callee (f := 10) rfl ?_); refine goesL_ (some 41) rfl rfl Try.func10 (by kernel_rfl) rfl #[.slice A0 l0.length c0] rfl sqA ?_; (with_reducible refine (spec_DrawCredOk.calls k _ _ l0 t626 t627 t628 t629 t630 t631 t632 t633 t634 t635 _ ?side1 ?side2 A10.out).mono ?_); (case side1 => exact Kd.C_below HR0.out (sqB)); (case side2 => exact HC0.out); rintro e w125 ⟨rfl, hb⟩; refine ⟨_, rfl, ?_⟩; replace BK587 := sqLW (o' := .cells #[.int .i64 t577, .int .i64 t578, .int .i64 t579, .int .i64 t580, .int .i64 t581, .int .i64 t582, .int .i64 t583, .int .i64 t584, .int .i64 t585, .int .i64 t586] 27 (0, 0)) BK587 hb; replace BK600 := sqLW (o' := .cells #[.int .i64 t589, .int .i64 t590, .int .i64 t591, .int .i64 t592, .int .i64 t593, .int .i64 t594, .int .i64 t595, .int .i64 t596, .int .i64 t597, .int .i64 t598] 27 (0, 0)) BK600 hb; replace BK613 := sqLW (o' := .cells #[.int .i64 t602, .int .i64 t603, .int .i64 t604, .int .i64 t605, .int .i64 t606, .int .i64 t607, .int .i64 t608, .int .i64 t609, .int .i64 t610, .int .i64 t611] 27 (0, 0)) BK613 hb; replace BK625 := sqLW (o' := .cells #[.int .i64 t614, .int .i64 t615, .int .i64 t616, .int .i64 t617, .int .i64 t618, .int .i64 t619, .int .i64 t620, .int .i64 t621, .int .i64 t622, .int .i64 t623] 27 (0, 0)) BK625 hb; replace HB := sqS hb; (try clear hb); (try clear hb2); (try clear hk); (try clear hi)) | ((with_reducible refine gate_dst (N := 12) rfl ?_); refine sqX (N := 12) (cs := #[.int .i64 0, .int .i64 0, .int .i64 0, .int .i64 0, .int .i64 0, .int .i64 0, .int .i64 0, .int .i64 0, .int .i64 0, .int .i64 0]) (t := 27) ?_; intro gb636 hg w126 hbox hb; have BK636 := Aside0.mk (hbox); have GW636 := sqG hg; have GE636 := sqG hg; have NB587_636 := sqN BK587 hg; have NB636_587 := sqM BK587 hg; replace BK587 := sqL BK587 hb; have NB600_636 := sqN BK600 hg; have NB636_600 := sqM BK600 hg; replace BK600 := sqL BK600 hb; have NB613_636 := sqN BK613 hg; have NB636_613 := sqM BK613 hg; replace BK613 := sqL BK613 hb; have NB625_636 := sqN BK625 hg; have NB636_625 := sqM BK625 hg; replace BK625 := sqL BK625 hb; replace HB := sqS hb; clear hb hbox hg; have hnb127 := NB636_587.out; have hnc127 := NB587_636.out; have hnb128 := NB636_600.out; have hnc128 := NB600_636.out; have hnb129 := NB636_613.out; have hnc129 := NB613_636.out; have hnb130 := NB636_625.out; have hnc130 := NB625_636.out; obtain ⟨hcz131_0, hcz131_1, hcz131_2, hcz131_3, hcz131_4, hcz131_5, hcz131_6, hcz131_7, hcz131_8, hcz131_9, hfz131_0, hfz131_1, hfz131_2, hfz131_3, hfz131_4, hfz131_5, hfz131_6, hfz131_7, hfz131_8, hfz131_9⟩ := sqC10 BK636) | ((with_reducible refine gate_callee (f := 11) rfl ?_); refine goesL_ (some 44) rfl rfl Try.func11 (by kernel_rfl) rfl #[.slice A0 l0.length c0] rfl sqA ?_; (with_reducible refine (spec_DrawCredLess.calls k _ _ l0 t637 t638 t639 t640 t641 t642 t643 t644 t645 t646 t647 t648 t649 t650 t651 t652 t653 t654 t655 t656 _ ?side1 ?side2 A11.out).mono ?_); (case side1 => exact Kd.C_below HR0.out (sqB)); (case side2 => exact HC0.out); rintro e w132 ⟨rfl, hb⟩; refine ⟨_, rfl, ?_⟩; replace BK587 := sqLW (o' := .cells #[.int .i64 t577, .int .i64 t578, .int .i64 t579, .int .i64 t580, .int .i64 t581, .int .i64 t582, .int .i64 t583, .int .i64 t584, .int .i64 t585, .int .i64 t586] 27 (0, 0)) BK587 hb; replace BK600 := sqLW (o' := .cells #[.int .i64 t589, .int .i64 t590, .int .i64 t591, .int .i64 t592, .int .i64 t593, .int .i64 t594, .int .i64 t595, .int .i64 t596, .int .i64 t597, .int .i64 t598] 27 (0, 0)) BK600 hb; replace BK613 := sqLW (o' := .cells #[.int .i64 t602, .int .i64 t603, .int .i64 t604, .int .i64 t605, .int .i64 t606, .int .i64 t607, .int .i64 t608, .int .i64 t609, .int .i64 t610, .int .i64 t611] 27 (0, 0)) BK613 hb; replace BK625 := sqLW (o' := .cells #[.int .i64 t614, .int .i64 t615, .int .i64 t616, .int .i64 t617, .int .i64 t618, .int .i64 t619, .int .i64 t620, .int .i64 t621, .int .i64 t622, .int .i64 t623] 27 (0, 0)) BK625 hb; replace BK636 := sqLW (o' := .cells #[.int .i64 t626, .int .i64 t627, .int .i64 t628, .int .i64 t629, .int .i64 t630, .int .i64 t631, .int .i64 t632, .int .i64 t633, .int .i64 t634, .int .i64 t635] 27 (0, 0)) BK636 hb; replace HB := sqS hb; (try clear hb); (try clear hb2); (try clear hk); (try clear hi)) | ((with_reducible refine gate_dst (N := 13) rfl ?_); refine sqX (N := 13) (cs := #[.int .i64 0, .int .i64 0, .int .i64 0, .int .i64 0, .int .i64 0, .int .i64 0, .int .i64 0, .int .i64 0, .int .i64 0, .int .i64 0]) (t := 27) ?_; intro gb657 hg w133 hbox hb; have BK657 := Aside0.mk (hbox); have GW657 := sqG hg; have GE657 := sqG hg; have NB587_657 := sqN BK587 hg; have NB657_587 := sqM BK587 hg; replace BK587 := sqL BK587 hb; have NB600_657 := sqN BK600 hg; have NB657_600 := sqM BK600 hg; replace BK600 := sqL BK600 hb; have NB613_657 := sqN BK613 hg; have NB657_613 := sqM BK613 hg; replace BK613 := sqL BK613 hb; have NB625_657 := sqN BK625 hg; have NB657_625 := sqM BK625 hg; replace BK625 := sqL BK625 hb; have NB636_657 := sqN BK636 hg; have NB657_636 := sqM BK636 hg; replace BK636 := sqL BK636 hb; replace HB := sqS hb; clear hb hbox hg) | ((with_reducible refine gate_dst (N := 14) rfl ?_); refine sqX (N := 14) (cs := #[.int .i64 0, .int .i64 0, .int .i64 0, .int .i64 0, .int .i64 0, .int .i64 0, .int .i64 0, .int .i64 0, .int .i64 0, .int .i64 0]) (t := 27) ?_; intro gb658 hg w134 hbox hb; have BK658 := Aside0.mk (hbox); have GW658 := sqG hg; have GE658 := sqG hg; have NB587_658 := sqN BK587 hg; have NB658_587 := sqM BK587 hg; replace BK587 := sqL BK587 hb; have NB600_658 := sqN BK600 hg; have NB658_600 := sqM BK600 hg; replace BK600 := sqL BK600 hb; have NB613_658 := sqN BK613 hg; have NB658_613 := sqM BK613 hg; replace BK613 := sqL BK613 hb; have NB625_658 := sqN BK625 hg; have NB658_625 := sqM BK625 hg; replace BK625 := sqL BK625 hb; have NB636_658 := sqN BK636 hg; have NB658_636 := sqM BK636 hg; replace BK636 := sqL BK636 hb; have NB657_658 := sqN BK657 hg; have NB658_657 := sqM BK657 hg; replace BK657 := sqL BK657 hb; replace HB := sqS hb; clear hb hbox hg; have hnb135 := NB657_587.out; have hnc135 := NB587_657.out; have hnb136 := NB657_600.out; have hnc136 := NB600_657.out; have hnb137 := NB657_613.out; have hnc137 := NB613_657.out; have hnb138 := NB657_625.out; have hnc138 := NB625_657.out; have hnb139 := NB657_636.out; have hnc139 := NB636_657.out; have hnb140 := NB657_658.out; have hnc140 := NB658_657.out; obtain ⟨hcz141_0, hcz141_1, hcz141_2, hcz141_3, hcz141_4, hcz141_5, hcz141_6, hcz141_7, hcz141_8, hcz141_9, hfz141_0, hfz141_1, hfz141_2, hfz141_3, hfz141_4, hfz141_5, hfz141_6, hfz141_7, hfz141_8, hfz141_9⟩ := sqC10 BK657; have hnb142 := NB658_587.out; have hnc142 := NB587_658.out; have hnb143 := NB658_600.out; have hnc143 := NB600_658.out; have hnb144 := NB658_613.out; have hnc144 := NB613_658.out; have hnb145 := NB658_625.out; have hnc145 := NB625_658.out; have hnb146 := NB658_636.out; have hnc146 := NB636_658.out; obtain ⟨hcz147_0, hcz147_1, hcz147_2, hcz147_3, hcz147_4, hcz147_5, hcz147_6, hcz147_7, hcz147_8, hcz147_9, hfz147_0, hfz147_1, hfz147_2, hfz147_3, hfz147_4, hfz147_5, hfz147_6, hfz147_7, hfz147_8, hfz147_9⟩ := sqC10 BK658) | ((with_reducible refine gate_callee (f := 12) rfl ?_); refine goesL_ (some 48) rfl rfl Try.func12 (by kernel_rfl) rfl #[.slice A0 l0.length c0] rfl sqA ?_; (with_reducible refine (spec_DrawRoleOk.calls k _ _ l0 t659 t660 _ ?side1 ?side2 A12.out).mono ?_); (case side1 => exact Kd.C_below HR0.out (sqB)); (case side2 => exact HC0.out); rintro e w148 ⟨rfl, hb⟩; refine ⟨_, rfl, ?_⟩; replace BK587 := sqLW (o' := .cells #[.int .i64 t577, .int .i64 t578, .int .i64 t579, .int .i64 t580, .int .i64 t581, .int .i64 t582, .int .i64 t583, .int .i64 t584, .int .i64 t585, .int .i64 t586] 27 (0, 0)) BK587 hb; replace BK600 := sqLW (o' := .cells #[.int .i64 t589, .int .i64 t590, .int .i64 t591, .int .i64 t592, .int .i64 t593, .int .i64 t594, .int .i64 t595, .int .i64 t596, .int .i64 t597, .int .i64 t598] 27 (0, 0)) BK600 hb; replace BK613 := sqLW (o' := .cells #[.int .i64 t602, .int .i64 t603, .int .i64 t604, .int .i64 t605, .int .i64 t606, .int .i64 t607, .int .i64 t608, .int .i64 t609, .int .i64 t610, .int .i64 t611] 27 (0, 0)) BK613 hb; replace BK625 := sqLW (o' := .cells #[.int .i64 t614, .int .i64 t615, .int .i64 t616, .int .i64 t617, .int .i64 t618, .int .i64 t619, .int .i64 t620, .int .i64 t621, .int .i64 t622, .int .i64 t623] 27 (0, 0)) BK625 hb; replace BK636 := sqLW (o' := .cells #[.int .i64 t626, .int .i64 t627, .int .i64 t628, .int .i64 t629, .int .i64 t630, .int .i64 t631, .int .i64 t632, .int .i64 t633, .int .i64 t634, .int .i64 t635] 27 (0, 0)) BK636 hb; replace BK657 := sqLW (o' := .cells #[.int .i64 t637, .int .i64 t638, .int .i64 t639, .int .i64 t640, .int .i64 t641, .int .i64 t642, .int .i64 t643, .int .i64 t644, .int .i64 t645, .int .i64 t646] 27 (0, 0)) BK657 hb; replace BK658 := sqLW (o' := .cells #[.int .i64 t647, .int .i64 t648, .int .i64 t649, .int .i64 t650, .int .i64 t651, .int .i64 t652, .int .i64 t653, .int .i64 t654, .int .i64 t655, .int .i64 t656] 27 (0, 0)) BK658 hb; replace HB := sqS hb; (try clear hb); (try clear hb2); (try clear hk); (try clear hi)) | ((with_reducible refine gate_dst (N := 15) rfl ?_); refine sqX (N := 15) (cs := #[.int .i64 0, .int .i64 0]) (t := 25) ?_; intro gb661 hg w149 hbox hb; have BK661 := Aside0.mk (hbox); have GW661 := sqG hg; have GE661 := sqG hg; have NB587_661 := sqN BK587 hg; have NB661_587 := sqM BK587 hg; replace BK587 := sqL BK587 hb; have NB600_661 := sqN BK600 hg; have NB661_600 := sqM BK600 hg; replace BK600 := sqL BK600 hb; have NB613_661 := sqN BK613 hg; have NB661_613 := sqM BK613 hg; replace BK613 := sqL BK613 hb; have NB625_661 := sqN BK625 hg; have NB661_625 := sqM BK625 hg; replace BK625 := sqL BK625 hb; have NB636_661 := sqN BK636 hg; have NB661_636 := sqM BK636 hg; replace BK636 := sqL BK636 hb; have NB657_661 := sqN BK657 hg; have NB661_657 := sqM BK657 hg; replace BK657 := sqL BK657 hb; have NB658_661 := sqN BK658 hg; have NB661_658 := sqM BK658 hg; replace BK658 := sqL BK658 hb; replace HB := sqS hb; clear hb hbox hg; have hnb150 := NB661_587.out; have hnc150 := NB587_661.out; have hnb151 := NB661_600.out; have hnc151 := NB600_661.out; have hnb152 := NB661_613.out; have hnc152 := NB613_661.out; have hnb153 := NB661_625.out; have hnc153 := NB625_661.out; have hnb154 := NB661_636.out; have hnc154 := NB636_661.out; have hnb155 := NB661_657.out; have hnc155 := NB657_661.out; have hnb156 := NB661_658.out; have hnc156 := NB658_661.out; obtain ⟨hcz157_0, hcz157_1, hfz157_0, hfz157_1⟩ := sqC2 BK661; obtain ⟨hcz158_0, hcz158_1, hcz158_2, hcz158_3, hcz158_4, hcz158_5, hcz158_6, hcz158_7, hcz158_8, hcz158_9, hfz158_0, hfz158_1, hfz158_2, hfz158_3, hfz158_4, hfz158_5, hfz158_6, hfz158_7, hfz158_8, hfz158_9⟩ := sqC10 BK587) | ((with_reducible refine gate_callee (f := 13) rfl ?_); refine goesL_ (some 51) rfl rfl Try.func13 (by kernel_rfl) rfl #[.agg #[.int .i64 t578, .int .i64 t579]] rfl sqA ?_; (with_reducible refine (impl_PlaceOf.calls k t578 t579 t662 _ A13.out).mono ?_); rintro e w159 ⟨rfl, hb⟩; refine ⟨_, rfl, ?_⟩; replace BK587 := sqLW (o' := .cells #[.int .i64 t577, .int .i64 t578, .int .i64 t579, .int .i64 t580, .int .i64 t581, .int .i64 t582, .int .i64 t583, .int .i64 t584, .int .i64 t585, .int .i64 t586] 27 (0, 0)) BK587 hb; replace BK600 := sqLW (o' := .cells #[.int .i64 t589, .int .i64 t590, .int .i64 t591, .int .i64 t592, .int .i64 t593, .int .i64 t594, .int .i64 t595, .int .i64 t596, .int .i64 t597, .int .i64 t598] 27 (0, 0)) BK600 hb; replace BK613 := sqLW (o' := .cells #[.int .i64 t602, .int .i64 t603, .int .i64 t604, .int .i64 t605, .int .i64 t606, .int .i64 t607, .int .i64 t608, .int .i64 t609, .int .i64 t610, .int .i64 t611] 27 (0, 0)) BK613 hb; replace BK625 := sqLW (o' := .cells #[.int .i64 t614, .int .i64 t615, .int .i64 t616, .int .i64 t617, .int .i64 t618, .int .i64 t619, .int .i64 t620, .int .i64 t621, .int .i64 t622, .int .i64 t623] 27 (0, 0)) BK625 hb; replace BK636 := sqLW (o' := .cells #[.int .i64 t626, .int .i64 t627, .int .i64 t628, .int .i64 t629, .int .i64 t630, .int .i64 t631, .int .i64 t632, .int .i64 t633, .int .i64 t634, .int .i64 t635] 27 (0, 0)) BK636 hb; replace BK657 := sqLW (o' := .cells #[.int .i64 t637, .int .i64 t638, .int .i64 t639, .int .i64 t640, .int .i64 t641, .int .i64 t642, .int .i64 t643, .int .i64 t644, .int .i64 t645, .int .i64 t646] 27 (0, 0)) BK657 hb; replace BK658 := sqLW (o' := .cells #[.int .i64 t647, .int .i64 t648, .int .i64 t649, .int .i64 t650, .int .i64 t651, .int .i64 t652, .int .i64 t653, .int .i64 t654, .int .i64 t655, .int .i64 t656] 27 (0, 0)) BK658 hb; replace BK661 := sqLW (o' := .cells #[.int .i64 t659, .int .i64 t660] 25 (0, 0)) BK661 hb; replace HB := sqS hb; (try clear hb); (try clear hb2); (try clear hk); (try clear hi)))
               replace BK587 := Aside0.mk (blk_drew BK587.out); replace BK600 := Aside0.mk (blk_drew BK600.out); replace BK613 := Aside0.mk (blk_drew BK613.out); replace BK625 := Aside0.mk (blk_drew BK625.out); replace BK636 := Aside0.mk (blk_drew BK636.out); replace BK657 := Aside0.mk (blk_drew BK657.out); replace BK658 := Aside0.mk (blk_drew BK658.out); replace BK661 := Aside0.mk (blk_drew BK661.out); replace HB := Aside0.mk (below_drew1 HB.out)
               refine start_ (n := 77) (S := fun w' => w'.cell? ⟨gb600, 0, none⟩ = some (.int .i64 t589) ∧ w'.cell? ⟨gb600, 1, none⟩ = some (.int .i64 t590) ∧ w'.cell? ⟨gb600, 2, none⟩ = some (.int .i64 t591) ∧ w'.cell? ⟨gb600, 3, none⟩ = some (.int .i64 t592) ∧ w'.cell? ⟨gb600, 4, none⟩ = some (.int .i64 t593) ∧ w'.cell? ⟨gb600, 5, none⟩ = some (.int .i64 t594) ∧ w'.cell? ⟨gb600, 6, none⟩ = some (.int .i64 t595) ∧ w'.cell? ⟨gb600, 7, none⟩ = some (.int .i64 t596) ∧ w'.cell? ⟨gb600, 8, none⟩ = some (.int .i64 t597) ∧ w'.cell? ⟨gb600, 9, none⟩ = some (.int .i64 t598) ∧ w'.cell? ⟨gb587, 0, none⟩ = some (.int .i64 t577) ∧ w'.cell? ⟨gb587, 1, none⟩ = some (.int .i64 t578) ∧ w'.cell? ⟨gb587, 2, none⟩ = some (.int .i64 t579) ∧ w'.cell? ⟨gb587, 3, none⟩ = some (.int .i64 t580) ∧ w'.cell? ⟨gb587, 4, none⟩ = some (.int .i64 t581) ∧ w'.cell? ⟨gb587, 5, none⟩ = some (.int .i64 t582) ∧ w'.cell? ⟨gb587, 6, none⟩ = some (.int .i64 t583) ∧ w'.cell? ⟨gb587, 7, none⟩ = some (.int .i64 t584) ∧ w'.cell? ⟨gb587, 8, none⟩ = some (.int .i64 t585) ∧ w'.cell? ⟨gb587, 9, none⟩ = some (.int .i64 t586) ∧ w'.cell? ⟨gb613, 0, none⟩ = some (.int .i64 t602) ∧ w'.cell? ⟨gb613, 1, none⟩ = some (.int .i64 t603) ∧ w'.cell? ⟨gb613, 2, none⟩ = some (.int .i64 t604) ∧ w'.cell? ⟨gb613, 3, none⟩ = some (.int .i64 t605) ∧ w'.cell? ⟨gb613, 4, none⟩ = some (.int .i64 t606) ∧ w'.cell? ⟨gb613, 5, none⟩ = some (.int .i64 t607) ∧ w'.cell? ⟨gb613, 6, none⟩ = some (.int .i64 t608) ∧ w'.cell? ⟨gb613, 7, none⟩ = some (.int .i64 t609) ∧ w'.cell? ⟨gb613, 8, none⟩ = some (.int .i64 t610) ∧ w'.cell? ⟨gb613, 9, none⟩ = some (.int .i64 t611) ∧ w'.cell? ⟨gb625, 0, none⟩ = some (.int .i64 t614) ∧ w'.cell? ⟨gb625, 1, none⟩ = some (.int .i64 t615) ∧ w'.cell? ⟨gb625, 2, none⟩ = some (.int .i64 t616) ∧ w'.cell? ⟨gb625, 3, none⟩ = some (.int .i64 t617) ∧ w'.cell? ⟨gb625, 4, none⟩ = some (.int .i64 t618) ∧ w'.cell? ⟨gb625, 5, none⟩ = some (.int .i64 t619) ∧ w'.cell? ⟨gb625, 6, none⟩ = some (.int .i64 t620) ∧ w'.cell? ⟨gb625, 7, none⟩ = some (.int .i64 t621) ∧ w'.cell? ⟨gb625, 8, none⟩ = some (.int .i64 t622) ∧ w'.cell? ⟨gb625, 9, none⟩ = some (.int .i64 t623) ∧ w'.cell? ⟨gb636, 0, none⟩ = some (.int .i64 t626) ∧ w'.cell? ⟨gb636, 1, none⟩ = some (.int .i64 t627) ∧ w'.cell? ⟨gb636, 2, none⟩ = some (.int .i64 t628) ∧ w'.cell? ⟨gb636, 3, none⟩ = some (.int .i64 t629) ∧ w'.cell? ⟨gb636, 4, none⟩ = some (.int .i64 t630) ∧ w'.cell? ⟨gb636, 5, none⟩ = some (.int .i64 t631) ∧ w'.cell? ⟨gb636, 6, none⟩ = some (.int .i64 t632) ∧ w'.cell? ⟨gb636, 7, none⟩ = some (.int .i64 t633) ∧ w'.cell? ⟨gb636, 8, none⟩ = some (.int .i64 t634) ∧ w'.cell? ⟨gb636, 9, none⟩ = some (.int .i64 t635) ∧ w'.cell? ⟨gb657, 0, none⟩ = some (.int .i64 t637) ∧ w'.cell? ⟨gb657, 1, none⟩ = some (.int .i64 t638) ∧ w'.cell? ⟨gb657, 2, none⟩ = some (.int .i64 t639) ∧ w'.cell? ⟨gb657, 3, none⟩ = some (.int .i64 t640) ∧ w'.cell? ⟨gb657, 4, none⟩ = some (.int .i64 t641) ∧ w'.cell? ⟨gb657, 5, none⟩ = some (.int .i64 t642) ∧ w'.cell? ⟨gb657, 6, none⟩ = some (.int .i64 t643) ∧ w'.cell? ⟨gb657, 7, none⟩ = some (.int .i64 t644) ∧ w'.cell? ⟨gb657, 8, none⟩ = some (.int .i64 t645) ∧ w'.cell? ⟨gb657, 9, none⟩ = some (.int .i64 t646) ∧ w'.cell? ⟨gb658, 0, none⟩ = some (.int .i64 t647) ∧ w'.cell? ⟨gb658, 1, none⟩ = some (.int .i64 t648) ∧ w'.cell? ⟨gb658, 2, none⟩ = some (.int .i64 t649) ∧ w'.cell? ⟨gb658, 3, none⟩ = some (.int .i64 t650) ∧ w'.cell? ⟨gb658, 4, none⟩ = some (.int .i64 t651) ∧ w'.cell? ⟨gb658, 5, none⟩ = some (.int .i64 t652) ∧ w'.cell? ⟨gb658, 6, none⟩ = some (.int .i64 t653) ∧ w'.cell? ⟨gb658, 7, none⟩ = some (.int .i64 t654) ∧ w'.cell? ⟨gb658, 8, none⟩ = some (.int .i64 t655) ∧ w'.cell? ⟨gb658, 9, none⟩ = some (.int .i64 t656) ∧ w'.cell? ⟨gb661, 0, none⟩ = some (.int .i64 t659) ∧ w'.cell? ⟨gb661, 1, none⟩ = some (.int .i64 t660)) (ds := []) (sqb 0 77) (by kernel_rfl) rfl rfl sqF (fun hHeld => ?_); refine with_tabW laws_FnWords.tab13 laws_FnWords.bits13 (fun HT_ HW_ => ?_)
               generalize w159.drew = w160 at BK587 BK600 BK613 BK625 BK636 BK657 BK658 BK661 HB hHeld ⊢
               refine sqP (i := 0) (N := some 52) (sqb 1 76) rfl rfl (any_of HT_.out (by kernel_rfl)) ?_
               refine sqP (i := 1) (N := some 53) (sqb 2 75) rfl rfl (any_of HT_.out (by kernel_rfl)) ?_
               refine sqTk (i := 2) (N := some 54) (sqb 3 74) rfl rfl (take_ofW HT_.out HW_.out (by kernel_rfl)) hHeld ?_
               refine sqTk (i := 3) (N := some 55) (sqb 4 73) rfl rfl (take_ofW HT_.out HW_.out (by kernel_rfl)) hHeld ?_
               refine sqP (i := 4) (N := some 56) (sqb 5 72) rfl rfl (any_of HT_.out (by kernel_rfl)) ?_
               refine sqP (i := 5) (N := some 57) (sqb 6 71) rfl rfl (any_of HT_.out (by kernel_rfl)) ?_
               refine sqP (i := 6) (N := some 58) (sqb 7 70) rfl rfl (any_of HT_.out (by kernel_rfl)) ?_
               refine sqTk (i := 7) (N := some 59) (sqb 8 69) rfl rfl (take_ofW HT_.out HW_.out (by kernel_rfl)) hHeld ?_
               refine one_ (i := 8) (N := some 60) (sqb 9 68) rfl rfl (one_of HT_.out (by kernel_rfl)) (by decide) (fun K hK => ?_)
               refine goes_ Try.func14 (by kernel_rfl) rfl #[.agg #[.int .i64 t577, .int .i64 t578, .int .i64 t579, .int .i64 t580, .int .i64 t581, .int .i64 t582, .int .i64 t583, .int .i64 t584, .int .i64 t585, .int .i64 t586]] (by rfl) rfl rfl sqA ?_
               with_reducible refine (impl_CredOk.calls k t577 t578 t579 t580 t581 t582 t583 t584 t585 t586 true _ A16.out).mono ?_
               rintro e w161 ⟨rfl, hb⟩
               refine ⟨_, rfl, ?_⟩
               replace BK587 := sqL BK587 hb; replace BK600 := sqL BK600 hb; replace BK613 := sqL BK613 hb; replace BK625 := sqL BK625 hb; replace BK636 := sqL BK636 hb; replace BK657 := sqL BK657 hb; replace BK658 := sqL BK658 hb; replace BK661 := sqL BK661 hb; replace HB := sqS hb
               (try clear hb)
               (try clear hb2)
               (try clear hk)
               (try clear hi)
               refine hK.out _ _ sqF (fun hHeld => ?_)
               clear hK K
               refine sqV (N := some 60) ?_
               refine sqP (i := 9) (N := some 61) (sqb 10 67) rfl rfl (any_of HT_.out (by kernel_rfl)) ?_
               refine sqP (i := 10) (N := some 62) (sqb 11 66) rfl rfl (any_of HT_.out (by kernel_rfl)) ?_
               refine sqP (i := 11) (N := some 63) (sqb 12 65) rfl rfl (any_of HT_.out (by kernel_rfl)) ?_
               refine sqP (i := 12) (N := some 64) (sqb 13 64) rfl rfl (any_of HT_.out (by kernel_rfl)) ?_
               refine sqP (i := 13) (N := some 65) (sqb 14 63) rfl rfl (any_of HT_.out (by kernel_rfl)) ?_
               refine sqP (i := 14) (N := some 66) (sqb 15 62) rfl rfl (any_of HT_.out (by kernel_rfl)) ?_
               refine sqP (i := 15) (N := some 67) (sqb 16 61) rfl rfl (any_of HT_.out (by kernel_rfl)) ?_
               refine sqTk (i := 16) (N := some 68) (sqb 17 60) rfl rfl (take_ofW HT_.out HW_.out (by kernel_rfl)) hHeld ?_
               refine sqTk (i := 17) (N := some 69) (sqb 18 59) rfl rfl (take_ofW HT_.out HW_.out (by kernel_rfl)) hHeld ?_
               refine sqP (i := 18) (N := some 70) (sqb 19 58) rfl rfl (any_of HT_.out (by kernel_rfl)) ?_
               refine sqP (i := 19) (N := some 71) (sqb 20 57) rfl rfl (any_of HT_.out (by kernel_rfl)) ?_
               refine sqP (i := 20) (N := some 72) (sqb 21 56) rfl rfl (any_of HT_.out (by kernel_rfl)) ?_
               refine sqTk (i := 21) (N := some 73) (sqb 22 55) rfl rfl (take_ofW HT_.out HW_.out (by kernel_rfl)) hHeld ?_
               refine sqTk (i := 23) (N := some 75) (sqr [22, 1, 1, 53]) rfl rfl (take_ofW HT_.out HW_.out (by kernel_rfl)) hHeld ?_
               refine one_ (i := 22) (N := some 74) (sqb 24 53) rfl rfl (one_of HT_.out (by kernel_rfl)) (by decide) (fun K hK => ?_)
               refine goes_ Try.func14 (by kernel_rfl) rfl #[.agg #[.int .i64 t626, .int .i64 t627, .int .i64 t628, .int .i64 t629, .int .i64 t630, .int .i64 t631, .int .i64 t632, .int .i64 t633, .int .i64 t634, .int .i64 t635]] (by rfl) rfl rfl sqA ?_
               with_reducible refine (impl_CredOk.calls k t626 t627 t628 t629 t630 t631 t632 t633 t634 t635 t664 _ A20.out).mono ?_
               rintro e w162 ⟨rfl, hb⟩
               refine ⟨_, rfl, ?_⟩
               replace BK587 := sqL BK587 hb; replace BK600 := sqL BK600 hb; replace BK613 := sqL BK613 hb; replace BK625 := sqL BK625 hb; replace BK636 := sqL BK636 hb; replace BK657 := sqL BK657 hb; replace BK658 := sqL BK658 hb; replace BK661 := sqL BK661 hb; replace HB := sqS hb
               (try clear hb)
               (try clear hb2)
               (try clear hk)
               (try clear hi)
               refine hK.out _ _ sqF (fun hHeld => ?_)
               clear hK K
               refine sqV (N := some 74) ?_
               refine one_ (i := 24) (N := some 76) (sqb 25 52) rfl rfl (one_of HT_.out (by kernel_rfl)) (by decide) (fun K hK => ?_)
               refine goes_ Try.func15 (by kernel_rfl) rfl #[.agg #[.int .i64 t626, .int .i64 t627, .int .i64 t628, .int .i64 t629, .int .i64 t630, .int .i64 t631, .int .i64 t632, .int .i64 t633, .int .i64 t634, .int .i64 t635]] (by rfl) rfl rfl sqA ?_
               with_reducible refine (spec_CredOk.calls k t626 t627 t628 t629 t630 t631 t632 t633 t634 t635 t665 _ A21.out).mono ?_
               rintro e w163 ⟨rfl, hb⟩
               refine ⟨_, rfl, ?_⟩
               replace BK587 := sqL BK587 hb; replace BK600 := sqL BK600 hb; replace BK613 := sqL BK613 hb; replace BK625 := sqL BK625 hb; replace BK636 := sqL BK636 hb; replace BK657 := sqL BK657 hb; replace BK658 := sqL BK658 hb; replace BK661 := sqL BK661 hb; replace HB := sqS hb
               (try clear hb)
               (try clear hb2)
               (try clear hk)
               (try clear hi)
               refine hK.out _ _ sqF (fun hHeld => ?_)
               clear hK K
               refine sqV (N := some 76) ?_
               refine sqP (i := 25) (N := some 77) (sqb 26 51) rfl rfl (any_of HT_.out (by kernel_rfl)) ?_
               refine sqP (i := 26) (N := some 78) (sqb 27 50) rfl rfl (any_of HT_.out (by kernel_rfl)) ?_
               refine sqP (i := 27) (N := some 79) (sqb 28 49) rfl rfl (any_of HT_.out (by kernel_rfl)) ?_
               refine sqTk (i := 28) (N := some 80) (sqb 29 48) rfl rfl (take_ofW HT_.out HW_.out (by kernel_rfl)) hHeld ?_
               refine sqTk (i := 30) (N := some 82) (sqr [29, 1, 1, 46]) rfl rfl (take_ofW HT_.out HW_.out (by kernel_rfl)) hHeld ?_
               refine one_ (i := 29) (N := some 81) (sqb 31 46) rfl rfl (one_of HT_.out (by kernel_rfl)) (by decide) (fun K hK => ?_)
               refine goes_ Try.func6 (by kernel_rfl) rfl #[.agg #[.int .i64 t626, .int .i64 t627, .int .i64 t628, .int .i64 t629, .int .i64 t630, .int .i64 t631, .int .i64 t632, .int .i64 t633, .int .i64 t634, .int .i64 t635]] (by rfl) rfl rfl sqA ?_
               with_reducible refine (impl_CredText.calls k t626 t627 t628 t629 t630 t631 t632 t633 t634 t635 t666 _ A23.out).mono ?_
               rintro e w164 ⟨rfl, hb⟩
               refine ⟨_, rfl, ?_⟩
               replace BK587 := sqL BK587 hb; replace BK600 := sqL BK600 hb; replace BK613 := sqL BK613 hb; replace BK625 := sqL BK625 hb; replace BK636 := sqL BK636 hb; replace BK657 := sqL BK657 hb; replace BK658 := sqL BK658 hb; replace BK661 := sqL BK661 hb; replace HB := sqS hb
               (try clear hb)
               (try clear hb2)
               (try clear hk)
               (try clear hi)
               refine hK.out _ _ sqF (fun hHeld => ?_)
               clear hK K
               refine sqV (N := some 81) ?_
               refine one_ (i := 31) (N := some 83) (sqb 32 45) rfl rfl (one_of HT_.out (by kernel_rfl)) (by decide) (fun K hK => ?_)
               refine goes_ Try.func16 (by kernel_rfl) rfl #[.agg #[.int .i64 t626, .int .i64 t627, .int .i64 t628, .int .i64 t629, .int .i64 t630, .int .i64 t631, .int .i64 t632, .int .i64 t633, .int .i64 t634, .int .i64 t635]] (by rfl) rfl rfl sqA ?_
               with_reducible refine (spec_CredText.calls k t626 t627 t628 t629 t630 t631 t632 t633 t634 t635 t667 _ A24.out).mono ?_
               rintro e w165 ⟨rfl, hb⟩
               refine ⟨_, rfl, ?_⟩
               replace BK587 := sqL BK587 hb; replace BK600 := sqL BK600 hb; replace BK613 := sqL BK613 hb; replace BK625 := sqL BK625 hb; replace BK636 := sqL BK636 hb; replace BK657 := sqL BK657 hb; replace BK658 := sqL BK658 hb; replace BK661 := sqL BK661 hb; replace HB := sqS hb
               (try clear hb)
               (try clear hb2)
               (try clear hk)
               (try clear hi)
               refine hK.out _ _ sqF (fun hHeld => ?_)
               clear hK K
               refine sqV (N := some 83) ?_
               refine sqP (i := 32) (N := some 84) (sqb 33 44) rfl rfl (any_of HT_.out (by kernel_rfl)) ?_
               refine sqP (i := 33) (N := some 85) (sqb 34 43) rfl rfl (any_of HT_.out (by kernel_rfl)) ?_
               refine sqP (i := 34) (N := some 86) (sqb 35 42) rfl rfl (any_of HT_.out (by kernel_rfl)) ?_
               refine sqTk (i := 35) (N := some 87) (sqb 36 41) rfl rfl (take_ofW HT_.out HW_.out (by kernel_rfl)) hHeld ?_
               refine sqTk (i := 36) (N := some 88) (sqb 37 40) rfl rfl (take_ofW HT_.out HW_.out (by kernel_rfl)) hHeld ?_
               refine sqTk (i := 38) (N := some 90) (sqr [37, 1, 1, 38]) rfl rfl (take_ofW HT_.out HW_.out (by kernel_rfl)) hHeld ?_
               refine sqTk (i := 39) (N := some 91) (sqr [37, 1, 2, 37]) rfl rfl (take_ofW HT_.out HW_.out (by kernel_rfl)) hHeld ?_
               refine one_ (i := 37) (N := some 89) (sqb 40 37) rfl rfl (one_of HT_.out (by kernel_rfl)) (by decide) (fun K hK => ?_)
               refine goes_ Try.func17 (by kernel_rfl) rfl #[.agg #[.int .i64 t637, .int .i64 t638, .int .i64 t639, .int .i64 t640, .int .i64 t641, .int .i64 t642, .int .i64 t643, .int .i64 t644, .int .i64 t645, .int .i64 t646], .agg #[.int .i64 t647, .int .i64 t648, .int .i64 t649, .int .i64 t650, .int .i64 t651, .int .i64 t652, .int .i64 t653, .int .i64 t654, .int .i64 t655, .int .i64 t656]] (by rfl) rfl rfl sqA ?_
               with_reducible refine (impl_CredLess.calls k t637 t638 t639 t640 t641 t642 t643 t644 t645 t646 t647 t648 t649 t650 t651 t652 t653 t654 t655 t656 t668 _ A26.out).mono ?_
               rintro e w166 ⟨rfl, hb⟩
               refine ⟨_, rfl, ?_⟩
               replace BK587 := sqL BK587 hb; replace BK600 := sqL BK600 hb; replace BK613 := sqL BK613 hb; replace BK625 := sqL BK625 hb; replace BK636 := sqL BK636 hb; replace BK657 := sqL BK657 hb; replace BK658 := sqL BK658 hb; replace BK661 := sqL BK661 hb; replace HB := sqS hb
               (try clear hb)
               (try clear hb2)
               (try clear hk)
               (try clear hi)
               refine hK.out _ _ sqF (fun hHeld => ?_)
               clear hK K
               refine sqV (N := some 89) ?_
               refine one_ (i := 40) (N := some 92) (sqb 41 36) rfl rfl (one_of HT_.out (by kernel_rfl)) (by decide) (fun K hK => ?_)
               refine goes_ Try.func18 (by kernel_rfl) rfl #[.agg #[.int .i64 t637, .int .i64 t638, .int .i64 t639, .int .i64 t640, .int .i64 t641, .int .i64 t642, .int .i64 t643, .int .i64 t644, .int .i64 t645, .int .i64 t646], .agg #[.int .i64 t647, .int .i64 t648, .int .i64 t649, .int .i64 t650, .int .i64 t651, .int .i64 t652, .int .i64 t653, .int .i64 t654, .int .i64 t655, .int .i64 t656]] (by rfl) rfl rfl sqA ?_
               with_reducible refine (spec_CredLess.calls k t637 t638 t639 t640 t641 t642 t643 t644 t645 t646 t647 t648 t649 t650 t651 t652 t653 t654 t655 t656 t669 _ A27.out).mono ?_
               rintro e w167 ⟨rfl, hb⟩
               refine ⟨_, rfl, ?_⟩
               replace BK587 := sqL BK587 hb; replace BK600 := sqL BK600 hb; replace BK613 := sqL BK613 hb; replace BK625 := sqL BK625 hb; replace BK636 := sqL BK636 hb; replace BK657 := sqL BK657 hb; replace BK658 := sqL BK658 hb; replace BK661 := sqL BK661 hb; replace HB := sqS hb
               (try clear hb)
               (try clear hb2)
               (try clear hk)
               (try clear hi)
               refine hK.out _ _ sqF (fun hHeld => ?_)
               clear hK K
               refine sqV (N := some 92) ?_
               refine sqP (i := 41) (N := some 93) (sqb 42 35) rfl rfl (any_of HT_.out (by kernel_rfl)) ?_
               refine sqP (i := 42) (N := some 94) (sqb 43 34) rfl rfl (any_of HT_.out (by kernel_rfl)) ?_
               refine sqP (i := 43) (N := some 95) (sqb 44 33) rfl rfl (any_of HT_.out (by kernel_rfl)) ?_
               refine sqTk (i := 44) (N := some 96) (sqb 45 32) rfl rfl (take_ofW HT_.out HW_.out (by kernel_rfl)) hHeld ?_
               refine sqTk (i := 45) (N := some 97) (sqb 46 31) rfl rfl (take_ofW HT_.out HW_.out (by kernel_rfl)) hHeld ?_
               refine one_ (i := 46) (N := some 98) (sqb 47 30) rfl rfl (one_of HT_.out (by kernel_rfl)) (by decide) (fun K hK => ?_)
               refine goes_ Try.func17 (by kernel_rfl) rfl #[.agg #[.int .i64 t637, .int .i64 t638, .int .i64 t639, .int .i64 t640, .int .i64 t641, .int .i64 t642, .int .i64 t643, .int .i64 t644, .int .i64 t645, .int .i64 t646], .agg #[.int .i64 t647, .int .i64 t648, .int .i64 t649, .int .i64 t650, .int .i64 t651, .int .i64 t652, .int .i64 t653, .int .i64 t654, .int .i64 t655, .int .i64 t656]] (by rfl) rfl rfl sqA ?_
               with_reducible refine (impl_CredLess.calls k t637 t638 t639 t640 t641 t642 t643 t644 t645 t646 t647 t648 t649 t650 t651 t652 t653 t654 t655 t656 true _ A29.out).mono ?_
               rintro e w168 ⟨rfl, hb⟩
               refine ⟨_, rfl, ?_⟩
               replace BK587 := sqL BK587 hb; replace BK600 := sqL BK600 hb; replace BK613 := sqL BK613 hb; replace BK625 := sqL BK625 hb; replace BK636 := sqL BK636 hb; replace BK657 := sqL BK657 hb; replace BK658 := sqL BK658 hb; replace BK661 := sqL BK661 hb; replace HB := sqS hb
               (try clear hb)
               (try clear hb2)
               (try clear hk)
               (try clear hi)
               refine hK.out _ _ sqF (fun hHeld => ?_)
               clear hK K
               refine sqV (N := some 98) ?_
               refine sqP (i := 47) (N := some 99) (sqb 48 29) rfl rfl (any_of HT_.out (by kernel_rfl)) ?_
               refine sqTk (i := 48) (N := some 100) (sqb 49 28) rfl rfl (take_ofW HT_.out HW_.out (by kernel_rfl)) hHeld ?_
               refine sqTk (i := 49) (N := some 101) (sqb 50 27) rfl rfl (take_ofW HT_.out HW_.out (by kernel_rfl)) hHeld ?_
               refine one_ (i := 50) (N := some 102) (sqb 51 26) rfl rfl (one_of HT_.out (by kernel_rfl)) (by decide) (fun K hK => ?_)
               refine goes_ Try.func17 (by kernel_rfl) rfl #[.agg #[.int .i64 t647, .int .i64 t648, .int .i64 t649, .int .i64 t650, .int .i64 t651, .int .i64 t652, .int .i64 t653, .int .i64 t654, .int .i64 t655, .int .i64 t656], .agg #[.int .i64 t637, .int .i64 t638, .int .i64 t639, .int .i64 t640, .int .i64 t641, .int .i64 t642, .int .i64 t643, .int .i64 t644, .int .i64 t645, .int .i64 t646]] (by rfl) rfl rfl sqA ?_
               with_reducible refine (impl_CredLess.calls k t647 t648 t649 t650 t651 t652 t653 t654 t655 t656 t637 t638 t639 t640 t641 t642 t643 t644 t645 t646 false _ A31.out).mono ?_
               rintro e w169 ⟨rfl, hb⟩
               refine ⟨_, rfl, ?_⟩
               replace BK587 := sqL BK587 hb; replace BK600 := sqL BK600 hb; replace BK613 := sqL BK613 hb; replace BK625 := sqL BK625 hb; replace BK636 := sqL BK636 hb; replace BK657 := sqL BK657 hb; replace BK658 := sqL BK658 hb; replace BK661 := sqL BK661 hb; replace HB := sqS hb
               (try clear hb)
               (try clear hb2)
               (try clear hk)
               (try clear hi)
               refine hK.out _ _ sqF (fun hHeld => ?_)
               clear hK K
               refine sqV (N := some 102) ?_
               refine sqP (i := 51) (N := some 103) (sqb 52 25) rfl rfl (any_of HT_.out (by kernel_rfl)) ?_
               refine sqP (i := 52) (N := some 104) (sqb 53 24) rfl rfl (any_of HT_.out (by kernel_rfl)) ?_
               refine sqP (i := 53) (N := some 105) (sqb 54 23) rfl rfl (any_of HT_.out (by kernel_rfl)) ?_
               refine sqP (i := 54) (N := some 106) (sqb 55 22) rfl rfl (any_of HT_.out (by kernel_rfl)) ?_
               refine sqTk (i := 55) (N := some 107) (sqb 56 21) rfl rfl (take_ofW HT_.out HW_.out (by kernel_rfl)) hHeld ?_
               refine sqTk (i := 57) (N := some 109) (sqr [56, 1, 1, 19]) rfl rfl (take_ofW HT_.out HW_.out (by kernel_rfl)) hHeld ?_
               refine one_ (i := 56) (N := some 108) (sqb 58 19) rfl rfl (one_of HT_.out (by kernel_rfl)) (by decide) (fun K hK => ?_)
               refine goes_ Try.func19 (by kernel_rfl) rfl #[.agg #[.int .i64 t659, .int .i64 t660]] (by rfl) rfl rfl sqA ?_
               with_reducible refine (impl_RoleOk.calls t659 t660 t672 _ A98.out).mono ?_
               rintro e w170 ⟨rfl, hb⟩
               refine ⟨_, rfl, ?_⟩
               replace BK587 := sqL BK587 hb; replace BK600 := sqL BK600 hb; replace BK613 := sqL BK613 hb; replace BK625 := sqL BK625 hb; replace BK636 := sqL BK636 hb; replace BK657 := sqL BK657 hb; replace BK658 := sqL BK658 hb; replace BK661 := sqL BK661 hb; replace HB := sqS hb
               (try clear hb)
               (try clear hb2)
               (try clear hk)
               (try clear hi)
               refine hK.out _ _ sqF (fun hHeld => ?_)
               clear hK K
               refine sqV (N := some 108) ?_
               refine one_ (i := 58) (N := some 110) (sqb 59 18) rfl rfl (one_of HT_.out (by kernel_rfl)) (by decide) (fun K hK => ?_)
               refine goes_ Try.func20 (by kernel_rfl) rfl #[.agg #[.int .i64 t659, .int .i64 t660]] (by rfl) rfl rfl sqA ?_
               with_reducible refine (spec_RoleOk.calls t659 t660 t673 _ A99.out).mono ?_
               rintro e w171 ⟨rfl, hb⟩
               refine ⟨_, rfl, ?_⟩
               replace BK587 := sqL BK587 hb; replace BK600 := sqL BK600 hb; replace BK613 := sqL BK613 hb; replace BK625 := sqL BK625 hb; replace BK636 := sqL BK636 hb; replace BK657 := sqL BK657 hb; replace BK658 := sqL BK658 hb; replace BK661 := sqL BK661 hb; replace HB := sqS hb
               (try clear hb)
               (try clear hb2)
               (try clear hk)
               (try clear hi)
               refine hK.out _ _ sqF (fun hHeld => ?_)
               clear hK K
               refine sqV (N := some 110) ?_
               refine sqP (i := 59) (N := some 111) (sqb 60 17) rfl rfl (any_of HT_.out (by kernel_rfl)) ?_
               refine sqP (i := 60) (N := some 112) (sqb 61 16) rfl rfl (any_of HT_.out (by kernel_rfl)) ?_
               refine sqP (i := 61) (N := some 113) (sqb 62 15) rfl rfl (any_of HT_.out (by kernel_rfl)) ?_
               refine sqTk (i := 62) (N := some 114) (sqb 63 14) rfl rfl (take_ofW HT_.out HW_.out (by kernel_rfl)) hHeld ?_
               refine sqTk (i := 64) (N := some 116) (sqr [63, 1, 1, 12]) rfl rfl (take_ofW HT_.out HW_.out (by kernel_rfl)) hHeld ?_
               refine one_ (i := 63) (N := some 115) (sqb 65 12) rfl rfl (one_of HT_.out (by kernel_rfl)) (by decide) (fun K hK => ?_)
               refine goes_ Try.func13 (by kernel_rfl) rfl #[.agg #[.int .i64 t659, .int .i64 t660]] (by rfl) rfl rfl sqA ?_
               with_reducible refine (impl_PlaceOf.calls k t659 t660 t674 _ A101.out).mono ?_
               rintro e w172 ⟨rfl, hb⟩
               refine ⟨_, rfl, ?_⟩
               replace BK587 := sqL BK587 hb; replace BK600 := sqL BK600 hb; replace BK613 := sqL BK613 hb; replace BK625 := sqL BK625 hb; replace BK636 := sqL BK636 hb; replace BK657 := sqL BK657 hb; replace BK658 := sqL BK658 hb; replace BK661 := sqL BK661 hb; replace HB := sqS hb
               (try clear hb)
               (try clear hb2)
               (try clear hk)
               (try clear hi)
               refine hK.out _ _ sqF (fun hHeld => ?_)
               clear hK K
               refine sqV (N := some 115) ?_
               refine one_ (i := 65) (N := some 117) (sqb 66 11) rfl rfl (one_of HT_.out (by kernel_rfl)) (by decide) (fun K hK => ?_)
               refine goes_ Try.func21 (by kernel_rfl) rfl #[.agg #[.int .i64 t659, .int .i64 t660]] (by rfl) rfl rfl sqA ?_
               with_reducible refine (spec_PlaceOf.calls k t659 t660 t675 _ A102.out).mono ?_
               rintro e w173 ⟨rfl, hb⟩
               refine ⟨_, rfl, ?_⟩
               replace BK587 := sqL BK587 hb; replace BK600 := sqL BK600 hb; replace BK613 := sqL BK613 hb; replace BK625 := sqL BK625 hb; replace BK636 := sqL BK636 hb; replace BK657 := sqL BK657 hb; replace BK658 := sqL BK658 hb; replace BK661 := sqL BK661 hb; replace HB := sqS hb
               (try clear hb)
               (try clear hb2)
               (try clear hk)
               (try clear hi)
               refine hK.out _ _ sqF (fun hHeld => ?_)
               clear hK K
               refine sqV (N := some 117) ?_
               refine sqP (i := 66) (N := some 118) (sqb 67 10) rfl rfl (any_of HT_.out (by kernel_rfl)) ?_
               refine sqP (i := 67) (N := some 119) (sqb 68 9) rfl rfl (any_of HT_.out (by kernel_rfl)) ?_
               refine sqP (i := 68) (N := some 120) (sqb 69 8) rfl rfl (any_of HT_.out (by kernel_rfl)) ?_
               refine sqP (i := 69) (N := some 121) (sqb 70 7) rfl rfl (any_of HT_.out (by kernel_rfl)) ?_
               refine sqP (i := 70) (N := some 122) (sqb 71 6) rfl rfl (any_of HT_.out (by kernel_rfl)) ?_
               refine sqP (i := 71) (N := some 123) (sqb 72 5) rfl rfl (any_of HT_.out (by kernel_rfl)) ?_
               refine sqP (i := 72) (N := some 124) (sqb 73 4) rfl rfl (any_of HT_.out (by kernel_rfl)) ?_
               refine sqP (i := 73) (N := some 125) (sqb 74 3) rfl rfl (any_of HT_.out (by kernel_rfl)) ?_
               refine sqP (i := 74) (N := some 126) (sqb 75 2) rfl rfl (any_of HT_.out (by kernel_rfl)) ?_
               refine sqP (i := 75) (N := some 127) (sqb 76 1) rfl rfl (any_of HT_.out (by kernel_rfl)) ?_
               refine sqP (i := 76) (N := some 2) (sqb 77 0) rfl rfl (any_of HT_.out (by kernel_rfl)) ?_
               refine done_ (done_of HT_.out (by kernel_rfl)) ?_
               try go_wp2
               go_ret
               exact ⟨sqE, sqB⟩
              ·rw [if_neg c104] at H
               exact absurd ((Option.some.inj H).trans HRT.out) (by decide)
             ·rw [if_neg c103] at H
              exact absurd ((Option.some.inj H).trans HRT.out) (by decide)
            ·rw [if_neg c100] at H
             exact absurd ((Option.some.inj H).trans HRT.out) (by decide)
          ·replace c30 := Bool.eq_false_iff.mpr c30
           subst c30
           rw [if_neg (show ¬ (false = true) by decide)] at H
           replace H := Option.bind_eq_some_iff.mp H
           obtain ⟨t676, A3790, H⟩ := H
           try dsimp only at H
           have A379 := Aside0.mk A3790
           clear A3790
           replace H := Option.bind_eq_some_iff.mp H
           obtain ⟨t677, A3800, H⟩ := H
           try dsimp only at H
           have A380 := Aside0.mk A3800
           clear A3800
           by_cases c381 : (t676 == t677) = true
           ·rw [if_pos c381] at H
            have c381b0 : (t676 == t677) = true := c381
            (try (have c381b1 : decide (t676 = t677) = true := by simpa using c381))
            (try (have c381b2 : (t676 == t677) = true := by simpa using c381))
            clear c381
            replace H := Option.bind_eq_some_iff.mp H
            obtain ⟨t678, A3820, H⟩ := H
            try dsimp only at H
            have A382 := Aside0.mk A3820
            clear A3820
            replace H := Option.bind_eq_some_iff.mp H
            obtain ⟨t679, A3830, H⟩ := H
            try dsimp only at H
            have A383 := Aside0.mk A3830
            clear A3830
            by_cases c384 : t678 = t679
            ·rw [if_pos c384] at H
             have c384b0 : (t678 == t679) = true := beq_iff_eq.mpr c384
             have c384b1 : (t678 != t679) = false := bne_eq_false_iff_eq.mpr c384
             clear c384
             by_cases c385 : t662 ≥ 0
             ·rw [if_pos c385] at H
              have c385b0 : decide (0 ≤ t662) = true := decide_eq_true c385
              clear c385
              obtain rfl := Option.some.inj H
              go_enter Try.func3, Try.ntmps3
              try go_wp2_with (first | ((with_reducible refine gate_callee (f := 4) rfl ?_); refine goesL_ (some 18) rfl rfl Try.func4 (by kernel_rfl) rfl #[.slice A0 l0.length c0] rfl sqA ?_; (with_reducible refine (laws_big.calls _ _ l0 false _ ?side1 ?side2 A2.out).mono ?_); (case side1 => repeat (first | exact HR0.out | (with_reducible refine Kd.C_alloc ?_ _) | (with_reducible refine Kd.C_drewN ?_ _) | (with_reducible refine Kd.C_drew ?_))); (case side2 => exact HC0.out); rintro e w' ⟨rfl, ⟨nd, rfl⟩⟩; refine ⟨_, rfl, ?_⟩) | ((with_reducible refine gate_callee (f := 5) rfl ?_); refine goesL_ (some 20) rfl rfl Try.func5 (by kernel_rfl) rfl #[.slice A0 l0.length c0] rfl sqA ?_; (with_reducible refine (spec_DrawWord.calls k _ _ l0 t577 t578 t579 t580 t581 t582 t583 t584 t585 t586 _ ?side1 ?side2 A4.out).mono ?_); (case side1 => repeat (first | exact HR0.out | (with_reducible refine Kd.C_alloc ?_ _) | (with_reducible refine Kd.C_drewN ?_ _) | (with_reducible refine Kd.C_drew ?_))); (case side2 => exact HC0.out); rintro e w386 ⟨rfl, hb⟩; refine ⟨_, rfl, ?_⟩; replace HB := sqS hb; (try clear hb); (try clear hb2); (try clear hk); (try clear hi)) | ((with_reducible refine gate_dst (N := 3) rfl ?_); refine sqX (N := 3) (cs := #[.int .i64 0, .int .i64 0, .int .i64 0, .int .i64 0, .int .i64 0, .int .i64 0, .int .i64 0, .int .i64 0, .int .i64 0, .int .i64 0]) (t := 27) ?_; intro gb587 hg w387 hbox hb; have BK587 := Aside0.mk (hbox); have GW587 := sqG hg; have GE587 := sqG hg; replace HB := sqS hb; clear hb hbox hg; obtain ⟨hcz388_0, hcz388_1, hcz388_2, hcz388_3, hcz388_4, hcz388_5, hcz388_6, hcz388_7, hcz388_8, hcz388_9, hfz388_0, hfz388_1, hfz388_2, hfz388_3, hfz388_4, hfz388_5, hfz388_6, hfz388_7, hfz388_8, hfz388_9⟩ := sqC10 BK587) | ((with_reducible refine gate_callee (f := 6) rfl ?_); refine goesL_ (some 22) rfl rfl Try.func6 (by kernel_rfl) rfl #[.agg #[.int .i64 t577, .int .i64 t578, .int .i64 t579, .int .i64 t580, .int .i64 t581, .int .i64 t582, .int .i64 t583, .int .i64 t584, .int .i64 t585, .int .i64 t586]] rfl sqA ?_; (with_reducible refine (impl_CredText.calls k t577 t578 t579 t580 t581 t582 t583 t584 t585 t586 t588 _ A5.out).mono ?_); rintro e w389 ⟨rfl, hb⟩; refine ⟨_, rfl, ?_⟩; replace BK587 := sqLW (o' := .cells #[.int .i64 t577, .int .i64 t578, .int .i64 t579, .int .i64 t580, .int .i64 t581, .int .i64 t582, .int .i64 t583, .int .i64 t584, .int .i64 t585, .int .i64 t586] 27 (0, 0)) BK587 hb; replace HB := sqS hb; (try clear hb); (try clear hb2); (try clear hk); (try clear hi)) | ((with_reducible refine gate_callee (f := 7) rfl ?_); refine goesL_ (some 25) rfl rfl Try.func7 (by kernel_rfl) rfl #[.string t588] rfl sqA ?_; (with_reducible refine (impl_ReadCred.calls k t588 t589 t590 t591 t592 t593 t594 t595 t596 t597 t598 true _ A6.out).mono ?_); rintro e w390 ⟨rfl, hb⟩; refine ⟨_, rfl, ?_⟩; replace BK587 := sqL BK587 hb; replace HB := sqS hb; (try clear hb); (try clear hb2); (try clear hk); (try clear hi)) | ((with_reducible refine gate_dst (N := 5) rfl ?_); refine sqX (N := 5) (cs := #[.int .i64 0, .int .i64 0, .int .i64 0, .int .i64 0, .int .i64 0, .int .i64 0, .int .i64 0, .int .i64 0, .int .i64 0, .int .i64 0]) (t := 27) ?_; intro gb600 hg w391 hbox hb; have BK600 := Aside0.mk (hbox); have GW600 := sqG hg; have GE600 := sqG hg; have NB587_600 := sqN BK587 hg; have NB600_587 := sqM BK587 hg; replace BK587 := sqL BK587 hb; replace HB := sqS hb; clear hb hbox hg; have hnb392 := NB600_587.out; have hnc392 := NB587_600.out; obtain ⟨hcz393_0, hcz393_1, hcz393_2, hcz393_3, hcz393_4, hcz393_5, hcz393_6, hcz393_7, hcz393_8, hcz393_9, hfz393_0, hfz393_1, hfz393_2, hfz393_3, hfz393_4, hfz393_5, hfz393_6, hfz393_7, hfz393_8, hfz393_9⟩ := sqC10 BK600) | ((with_reducible refine gate_callee (f := 8) rfl ?_); refine goesL_ (some 29) rfl rfl Try.func8 (by kernel_rfl) rfl #[.slice A0 l0.length c0] rfl sqA ?_; (with_reducible refine (spec_DrawReadCred.calls k _ _ l0 t601 _ ?side1 ?side2 A7.out).mono ?_); (case side1 => exact Kd.C_below HR0.out (sqB)); (case side2 => exact HC0.out); rintro e w394 ⟨rfl, hb⟩; refine ⟨_, rfl, ?_⟩; replace BK587 := sqLW (o' := .cells #[.int .i64 t577, .int .i64 t578, .int .i64 t579, .int .i64 t580, .int .i64 t581, .int .i64 t582, .int .i64 t583, .int .i64 t584, .int .i64 t585, .int .i64 t586] 27 (0, 0)) BK587 hb; replace BK600 := sqLW (o' := .cells #[.int .i64 t589, .int .i64 t590, .int .i64 t591, .int .i64 t592, .int .i64 t593, .int .i64 t594, .int .i64 t595, .int .i64 t596, .int .i64 t597, .int .i64 t598] 27 (0, 0)) BK600 hb; replace HB := sqS hb; (try clear hb); (try clear hb2); (try clear hk); (try clear hi)) | ((with_reducible refine gate_callee (f := 7) rfl ?_); refine goesL_ (some 32) rfl rfl Try.func7 (by kernel_rfl) rfl #[.string t601] rfl sqA ?_; (with_reducible refine (impl_ReadCred.calls k t601 t602 t603 t604 t605 t606 t607 t608 t609 t610 t611 t612 _ A8.out).mono ?_); rintro e w395 ⟨rfl, hb⟩; refine ⟨_, rfl, ?_⟩; replace BK587 := sqL BK587 hb; replace BK600 := sqL BK600 hb; replace HB := sqS hb; (try clear hb); (try clear hb2); (try clear hk); (try clear hi)) | ((with_reducible refine gate_dst (N := 8) rfl ?_); refine sqX (N := 8) (cs := #[.int .i64 0, .int .i64 0, .int .i64 0, .int .i64 0, .int .i64 0, .int .i64 0, .int .i64 0, .int .i64 0, .int .i64 0, .int .i64 0]) (t := 27) ?_; intro gb613 hg w396 hbox hb; have BK613 := Aside0.mk (hbox); have GW613 := sqG hg; have GE613 := sqG hg; have NB587_613 := sqN BK587 hg; have NB613_587 := sqM BK587 hg; replace BK587 := sqL BK587 hb; have NB600_613 := sqN BK600 hg; have NB613_600 := sqM BK600 hg; replace BK600 := sqL BK600 hb; replace HB := sqS hb; clear hb hbox hg; have hnb397 := NB613_587.out; have hnc397 := NB587_613.out; have hnb398 := NB613_600.out; have hnc398 := NB600_613.out; obtain ⟨hcz399_0, hcz399_1, hcz399_2, hcz399_3, hcz399_4, hcz399_5, hcz399_6, hcz399_7, hcz399_8, hcz399_9, hfz399_0, hfz399_1, hfz399_2, hfz399_3, hfz399_4, hfz399_5, hfz399_6, hfz399_7, hfz399_8, hfz399_9⟩ := sqC10 BK613) | ((with_reducible refine gate_callee (f := 9) rfl ?_); refine goesL_ (some 37) rfl rfl Try.func9 (by kernel_rfl) rfl #[.string t601] rfl sqA ?_; (with_reducible refine (spec_ReadCred.calls k t601 t614 t615 t616 t617 t618 t619 t620 t621 t622 t623 t624 _ A9.out).mono ?_); rintro e w400 ⟨rfl, hb⟩; refine ⟨_, rfl, ?_⟩; replace BK587 := sqLW (o' := .cells #[.int .i64 t577, .int .i64 t578, .int .i64 t579, .int .i64 t580, .int .i64 t581, .int .i64 t582, .int .i64 t583, .int .i64 t584, .int .i64 t585, .int .i64 t586] 27 (0, 0)) BK587 hb; replace BK600 := sqLW (o' := .cells #[.int .i64 t589, .int .i64 t590, .int .i64 t591, .int .i64 t592, .int .i64 t593, .int .i64 t594, .int .i64 t595, .int .i64 t596, .int .i64 t597, .int .i64 t598] 27 (0, 0)) BK600 hb; replace BK613 := sqLW (o' := .cells #[.int .i64 t602, .int .i64 t603, .int .i64 t604, .int .i64 t605, .int .i64 t606, .int .i64 t607, .int .i64 t608, .int .i64 t609, .int .i64 t610, .int .i64 t611] 27 (0, 0)) BK613 hb; replace HB := sqS hb; (try clear hb); (try clear hb2); (try clear hk); (try clear hi)) | ((with_reducible refine gate_dst (N := 10) rfl ?_); refine sqX (N := 10) (cs := #[.int .i64 0, .int .i64 0, .int .i64 0, .int .i64 0, .int .i64 0, .int .i64 0, .int .i64 0, .int .i64 0, .int .i64 0, .int .i64 0]) (t := 27) ?_; intro gb625 hg w401 hbox hb; have BK625 := Aside0.mk (hbox); have GW625 := sqG hg; have GE625 := sqG hg; have NB587_625 := sqN BK587 hg; have NB625_587 := sqM BK587 hg; replace BK587 := sqL BK587 hb; have NB600_625 := sqN BK600 hg; have NB625_600 := sqM BK600 hg; replace BK600 := sqL BK600 hb; have NB613_625 := sqN BK613 hg; have NB625_613 := sqM BK613 hg; replace BK613 := sqL BK613 hb; replace HB := sqS hb; clear hb hbox hg; have hnb402 := NB625_587.out; have hnc402 := NB587_625.out; have hnb403 := NB625_600.out; have hnc403 := NB600_625.out; have hnb404 := NB625_613.out; have hnc404 := NB613_625.out; obtain ⟨hcz405_0, hcz405_1, hcz405_2, hcz405_3, hcz405_4, hcz405_5, hcz405_6, hcz405_7, hcz405_8, hcz405_9, hfz405_0, hfz405_1, hfz405_2, hfz405_3, hfz405_4, hfz405_5, hfz405_6, hfz405_7, hfz405_8, hfz405_9⟩ := sqC10 BK625) | ((with_reducible refine gate_callee (f := 10) rfl ?_); refine goesL_ (some 41) rfl rfl Try.func10 (by kernel_rfl) rfl #[.slice A0 l0.length c0] rfl sqA ?_; (with_reducible refine (spec_DrawCredOk.calls k _ _ l0 t626 t627 t628 t629 t630 t631 t632 t633 t634 t635 _ ?side1 ?side2 A10.out).mono ?_); (case side1 => exact Kd.C_below HR0.out (sqB)); (case side2 => exact HC0.out); rintro e w406 ⟨rfl, hb⟩; refine ⟨_, rfl, ?_⟩; replace BK587 := sqLW (o' := .cells #[.int .i64 t577, .int .i64 t578, .int .i64 t579, .int .i64 t580, .int .i64 t581, .int .i64 t582, .int .i64 t583, .int .i64 t584, .int .i64 t585, .int .i64 t586] 27 (0, 0)) BK587 hb; replace BK600 := sqLW (o' := .cells #[.int .i64 t589, .int .i64 t590, .int .i64 t591, .int .i64 t592, .int .i64 t593, .int .i64 t594, .int .i64 t595, .int .i64 t596, .int .i64 t597, .int .i64 t598] 27 (0, 0)) BK600 hb; replace BK613 := sqLW (o' := .cells #[.int .i64 t602, .int .i64 t603, .int .i64 t604, .int .i64 t605, .int .i64 t606, .int .i64 t607, .int .i64 t608, .int .i64 t609, .int .i64 t610, .int .i64 t611] 27 (0, 0)) BK613 hb; replace BK625 := sqLW (o' := .cells #[.int .i64 t614, .int .i64 t615, .int .i64 t616, .int .i64 t617, .int .i64 t618, .int .i64 t619, .int .i64 t620, .int .i64 t621, .int .i64 t622, .int .i64 t623] 27 (0, 0)) BK625 hb; replace HB := sqS hb; (try clear hb); (try clear hb2); (try clear hk); (try clear hi)) | ((with_reducible refine gate_dst (N := 12) rfl ?_); refine sqX (N := 12) (cs := #[.int .i64 0, .int .i64 0, .int .i64 0, .int .i64 0, .int .i64 0, .int .i64 0, .int .i64 0, .int .i64 0, .int .i64 0, .int .i64 0]) (t := 27) ?_; intro gb636 hg w407 hbox hb; have BK636 := Aside0.mk (hbox); have GW636 := sqG hg; have GE636 := sqG hg; have NB587_636 := sqN BK587 hg; have NB636_587 := sqM BK587 hg; replace BK587 := sqL BK587 hb; have NB600_636 := sqN BK600 hg; have NB636_600 := sqM BK600 hg; replace BK600 := sqL BK600 hb; have NB613_636 := sqN BK613 hg; have NB636_613 := sqM BK613 hg; replace BK613 := sqL BK613 hb; have NB625_636 := sqN BK625 hg; have NB636_625 := sqM BK625 hg; replace BK625 := sqL BK625 hb; replace HB := sqS hb; clear hb hbox hg; have hnb408 := NB636_587.out; have hnc408 := NB587_636.out; have hnb409 := NB636_600.out; have hnc409 := NB600_636.out; have hnb410 := NB636_613.out; have hnc410 := NB613_636.out; have hnb411 := NB636_625.out; have hnc411 := NB625_636.out; obtain ⟨hcz412_0, hcz412_1, hcz412_2, hcz412_3, hcz412_4, hcz412_5, hcz412_6, hcz412_7, hcz412_8, hcz412_9, hfz412_0, hfz412_1, hfz412_2, hfz412_3, hfz412_4, hfz412_5, hfz412_6, hfz412_7, hfz412_8, hfz412_9⟩ := sqC10 BK636) | ((with_reducible refine gate_callee (f := 11) rfl ?_); refine goesL_ (some 44) rfl rfl Try.func11 (by kernel_rfl) rfl #[.slice A0 l0.length c0] rfl sqA ?_; (with_reducible refine (spec_DrawCredLess.calls k _ _ l0 t637 t638 t639 t640 t641 t642 t643 t644 t645 t646 t647 t648 t649 t650 t651 t652 t653 t654 t655 t656 _ ?side1 ?side2 A11.out).mono ?_); (case side1 => exact Kd.C_below HR0.out (sqB)); (case side2 => exact HC0.out); rintro e w413 ⟨rfl, hb⟩; refine ⟨_, rfl, ?_⟩; replace BK587 := sqLW (o' := .cells #[.int .i64 t577, .int .i64 t578, .int .i64 t579, .int .i64 t580, .int .i64 t581, .int .i64 t582, .int .i64 t583, .int .i64 t584, .int .i64 t585, .int .i64 t586] 27 (0, 0)) BK587 hb; replace BK600 := sqLW (o' := .cells #[.int .i64 t589, .int .i64 t590, .int .i64 t591, .int .i64 t592, .int .i64 t593, .int .i64 t594, .int .i64 t595, .int .i64 t596, .int .i64 t597, .int .i64 t598] 27 (0, 0)) BK600 hb; replace BK613 := sqLW (o' := .cells #[.int .i64 t602, .int .i64 t603, .int .i64 t604, .int .i64 t605, .int .i64 t606, .int .i64 t607, .int .i64 t608, .int .i64 t609, .int .i64 t610, .int .i64 t611] 27 (0, 0)) BK613 hb; replace BK625 := sqLW (o' := .cells #[.int .i64 t614, .int .i64 t615, .int .i64 t616, .int .i64 t617, .int .i64 t618, .int .i64 t619, .int .i64 t620, .int .i64 t621, .int .i64 t622, .int .i64 t623] 27 (0, 0)) BK625 hb; replace BK636 := sqLW (o' := .cells #[.int .i64 t626, .int .i64 t627, .int .i64 t628, .int .i64 t629, .int .i64 t630, .int .i64 t631, .int .i64 t632, .int .i64 t633, .int .i64 t634, .int .i64 t635] 27 (0, 0)) BK636 hb; replace HB := sqS hb; (try clear hb); (try clear hb2); (try clear hk); (try clear hi)) | ((with_reducible refine gate_dst (N := 13) rfl ?_); refine sqX (N := 13) (cs := #[.int .i64 0, .int .i64 0, .int .i64 0, .int .i64 0, .int .i64 0, .int .i64 0, .int .i64 0, .int .i64 0, .int .i64 0, .int .i64 0]) (t := 27) ?_; intro gb657 hg w414 hbox hb; have BK657 := Aside0.mk (hbox); have GW657 := sqG hg; have GE657 := sqG hg; have NB587_657 := sqN BK587 hg; have NB657_587 := sqM BK587 hg; replace BK587 := sqL BK587 hb; have NB600_657 := sqN BK600 hg; have NB657_600 := sqM BK600 hg; replace BK600 := sqL BK600 hb; have NB613_657 := sqN BK613 hg; have NB657_613 := sqM BK613 hg; replace BK613 := sqL BK613 hb; have NB625_657 := sqN BK625 hg; have NB657_625 := sqM BK625 hg; replace BK625 := sqL BK625 hb; have NB636_657 := sqN BK636 hg; have NB657_636 := sqM BK636 hg; replace BK636 := sqL BK636 hb; replace HB := sqS hb; clear hb hbox hg) | ((with_reducible refine gate_dst (N := 14) rfl ?_); refine sqX (N := 14) (cs := #[.int .i64 0, .int .i64 0, .int .i64 0, .int .i64 0, .int .i64 0, .int .i64 0, .int .i64 0, .int .i64 0, .int .i64 0, .int .i64 0]) (t := 27) ?_; intro gb658 hg w415 hbox hb; have BK658 := Aside0.mk (hbox); have GW658 := sqG hg; have GE658 := sqG hg; have NB587_658 := sqN BK587 hg; have NB658_587 := sqM BK587 hg; replace BK587 := sqL BK587 hb; have NB600_658 := sqN BK600 hg; have NB658_600 := sqM BK600 hg; replace BK600 := sqL BK600 hb; have NB613_658 := sqN BK613 hg; have NB658_613 := sqM BK613 hg; replace BK613 := sqL BK613 hb; have NB625_658 := sqN BK625 hg; have NB658_625 := sqM BK625 hg; replace BK625 := sqL BK625 hb; have NB636_658 := sqN BK636 hg; have NB658_636 := sqM BK636 hg; replace BK636 := sqL BK636 hb; have NB657_658 := sqN BK657 hg; have NB658_657 := sqM BK657 hg; replace BK657 := sqL BK657 hb; replace HB := sqS hb; clear hb hbox hg; have hnb416 := NB657_587.out; have hnc416 := NB587_657.out; have hnb417 := NB657_600.out; have hnc417 := NB600_657.out; have hnb418 := NB657_613.out; have hnc418 := NB613_657.out; have hnb419 := NB657_625.out; have hnc419 := NB625_657.out; have hnb420 := NB657_636.out; have hnc420 := NB636_657.out; have hnb421 := NB657_658.out; have hnc421 := NB658_657.out; obtain ⟨hcz422_0, hcz422_1, hcz422_2, hcz422_3, hcz422_4, hcz422_5, hcz422_6, hcz422_7, hcz422_8, hcz422_9, hfz422_0, hfz422_1, hfz422_2, hfz422_3, hfz422_4, hfz422_5, hfz422_6, hfz422_7, hfz422_8, hfz422_9⟩ := sqC10 BK657; have hnb423 := NB658_587.out; have hnc423 := NB587_658.out; have hnb424 := NB658_600.out; have hnc424 := NB600_658.out; have hnb425 := NB658_613.out; have hnc425 := NB613_658.out; have hnb426 := NB658_625.out; have hnc426 := NB625_658.out; have hnb427 := NB658_636.out; have hnc427 := NB636_658.out; obtain ⟨hcz428_0, hcz428_1, hcz428_2, hcz428_3, hcz428_4, hcz428_5, hcz428_6, hcz428_7, hcz428_8, hcz428_9, hfz428_0, hfz428_1, hfz428_2, hfz428_3, hfz428_4, hfz428_5, hfz428_6, hfz428_7, hfz428_8, hfz428_9⟩ := sqC10 BK658) | ((with_reducible refine gate_callee (f := 12) rfl ?_); refine goesL_ (some 48) rfl rfl Try.func12 (by kernel_rfl) rfl #[.slice A0 l0.length c0] rfl sqA ?_; (with_reducible refine (spec_DrawRoleOk.calls k _ _ l0 t659 t660 _ ?side1 ?side2 A12.out).mono ?_); (case side1 => exact Kd.C_below HR0.out (sqB)); (case side2 => exact HC0.out); rintro e w429 ⟨rfl, hb⟩; refine ⟨_, rfl, ?_⟩; replace BK587 := sqLW (o' := .cells #[.int .i64 t577, .int .i64 t578, .int .i64 t579, .int .i64 t580, .int .i64 t581, .int .i64 t582, .int .i64 t583, .int .i64 t584, .int .i64 t585, .int .i64 t586] 27 (0, 0)) BK587 hb; replace BK600 := sqLW (o' := .cells #[.int .i64 t589, .int .i64 t590, .int .i64 t591, .int .i64 t592, .int .i64 t593, .int .i64 t594, .int .i64 t595, .int .i64 t596, .int .i64 t597, .int .i64 t598] 27 (0, 0)) BK600 hb; replace BK613 := sqLW (o' := .cells #[.int .i64 t602, .int .i64 t603, .int .i64 t604, .int .i64 t605, .int .i64 t606, .int .i64 t607, .int .i64 t608, .int .i64 t609, .int .i64 t610, .int .i64 t611] 27 (0, 0)) BK613 hb; replace BK625 := sqLW (o' := .cells #[.int .i64 t614, .int .i64 t615, .int .i64 t616, .int .i64 t617, .int .i64 t618, .int .i64 t619, .int .i64 t620, .int .i64 t621, .int .i64 t622, .int .i64 t623] 27 (0, 0)) BK625 hb; replace BK636 := sqLW (o' := .cells #[.int .i64 t626, .int .i64 t627, .int .i64 t628, .int .i64 t629, .int .i64 t630, .int .i64 t631, .int .i64 t632, .int .i64 t633, .int .i64 t634, .int .i64 t635] 27 (0, 0)) BK636 hb; replace BK657 := sqLW (o' := .cells #[.int .i64 t637, .int .i64 t638, .int .i64 t639, .int .i64 t640, .int .i64 t641, .int .i64 t642, .int .i64 t643, .int .i64 t644, .int .i64 t645, .int .i64 t646] 27 (0, 0)) BK657 hb; replace BK658 := sqLW (o' := .cells #[.int .i64 t647, .int .i64 t648, .int .i64 t649, .int .i64 t650, .int .i64 t651, .int .i64 t652, .int .i64 t653, .int .i64 t654, .int .i64 t655, .int .i64 t656] 27 (0, 0)) BK658 hb; replace HB := sqS hb; (try clear hb); (try clear hb2); (try clear hk); (try clear hi)) | ((with_reducible refine gate_dst (N := 15) rfl ?_); refine sqX (N := 15) (cs := #[.int .i64 0, .int .i64 0]) (t := 25) ?_; intro gb661 hg w430 hbox hb; have BK661 := Aside0.mk (hbox); have GW661 := sqG hg; have GE661 := sqG hg; have NB587_661 := sqN BK587 hg; have NB661_587 := sqM BK587 hg; replace BK587 := sqL BK587 hb; have NB600_661 := sqN BK600 hg; have NB661_600 := sqM BK600 hg; replace BK600 := sqL BK600 hb; have NB613_661 := sqN BK613 hg; have NB661_613 := sqM BK613 hg; replace BK613 := sqL BK613 hb; have NB625_661 := sqN BK625 hg; have NB661_625 := sqM BK625 hg; replace BK625 := sqL BK625 hb; have NB636_661 := sqN BK636 hg; have NB661_636 := sqM BK636 hg; replace BK636 := sqL BK636 hb; have NB657_661 := sqN BK657 hg; have NB661_657 := sqM BK657 hg; replace BK657 := sqL BK657 hb; have NB658_661 := sqN BK658 hg; have NB661_658 := sqM BK658 hg; replace BK658 := sqL BK658 hb; replace HB := sqS hb; clear hb hbox hg; have hnb431 := NB661_587.out; have hnc431 := NB587_661.out; have hnb432 := NB661_600.out; have hnc432 := NB600_661.out; have hnb433 := NB661_613.out; have hnc433 := NB613_661.out; have hnb434 := NB661_625.out; have hnc434 := NB625_661.out; have hnb435 := NB661_636.out; have hnc435 := NB636_661.out; have hnb436 := NB661_657.out; have hnc436 := NB657_661.out; have hnb437 := NB661_658.out; have hnc437 := NB658_661.out; obtain ⟨hcz438_0, hcz438_1, hfz438_0, hfz438_1⟩ := sqC2 BK661; obtain ⟨hcz439_0, hcz439_1, hcz439_2, hcz439_3, hcz439_4, hcz439_5, hcz439_6, hcz439_7, hcz439_8, hcz439_9, hfz439_0, hfz439_1, hfz439_2, hfz439_3, hfz439_4, hfz439_5, hfz439_6, hfz439_7, hfz439_8, hfz439_9⟩ := sqC10 BK587) | ((with_reducible refine gate_callee (f := 13) rfl ?_); refine goesL_ (some 51) rfl rfl Try.func13 (by kernel_rfl) rfl #[.agg #[.int .i64 t578, .int .i64 t579]] rfl sqA ?_; (with_reducible refine (impl_PlaceOf.calls k t578 t579 t662 _ A13.out).mono ?_); rintro e w440 ⟨rfl, hb⟩; refine ⟨_, rfl, ?_⟩; replace BK587 := sqLW (o' := .cells #[.int .i64 t577, .int .i64 t578, .int .i64 t579, .int .i64 t580, .int .i64 t581, .int .i64 t582, .int .i64 t583, .int .i64 t584, .int .i64 t585, .int .i64 t586] 27 (0, 0)) BK587 hb; replace BK600 := sqLW (o' := .cells #[.int .i64 t589, .int .i64 t590, .int .i64 t591, .int .i64 t592, .int .i64 t593, .int .i64 t594, .int .i64 t595, .int .i64 t596, .int .i64 t597, .int .i64 t598] 27 (0, 0)) BK600 hb; replace BK613 := sqLW (o' := .cells #[.int .i64 t602, .int .i64 t603, .int .i64 t604, .int .i64 t605, .int .i64 t606, .int .i64 t607, .int .i64 t608, .int .i64 t609, .int .i64 t610, .int .i64 t611] 27 (0, 0)) BK613 hb; replace BK625 := sqLW (o' := .cells #[.int .i64 t614, .int .i64 t615, .int .i64 t616, .int .i64 t617, .int .i64 t618, .int .i64 t619, .int .i64 t620, .int .i64 t621, .int .i64 t622, .int .i64 t623] 27 (0, 0)) BK625 hb; replace BK636 := sqLW (o' := .cells #[.int .i64 t626, .int .i64 t627, .int .i64 t628, .int .i64 t629, .int .i64 t630, .int .i64 t631, .int .i64 t632, .int .i64 t633, .int .i64 t634, .int .i64 t635] 27 (0, 0)) BK636 hb; replace BK657 := sqLW (o' := .cells #[.int .i64 t637, .int .i64 t638, .int .i64 t639, .int .i64 t640, .int .i64 t641, .int .i64 t642, .int .i64 t643, .int .i64 t644, .int .i64 t645, .int .i64 t646] 27 (0, 0)) BK657 hb; replace BK658 := sqLW (o' := .cells #[.int .i64 t647, .int .i64 t648, .int .i64 t649, .int .i64 t650, .int .i64 t651, .int .i64 t652, .int .i64 t653, .int .i64 t654, .int .i64 t655, .int .i64 t656] 27 (0, 0)) BK658 hb; replace BK661 := sqLW (o' := .cells #[.int .i64 t659, .int .i64 t660] 25 (0, 0)) BK661 hb; replace HB := sqS hb; (try clear hb); (try clear hb2); (try clear hk); (try clear hi)))
              replace BK587 := Aside0.mk (blk_drew BK587.out); replace BK600 := Aside0.mk (blk_drew BK600.out); replace BK613 := Aside0.mk (blk_drew BK613.out); replace BK625 := Aside0.mk (blk_drew BK625.out); replace BK636 := Aside0.mk (blk_drew BK636.out); replace BK657 := Aside0.mk (blk_drew BK657.out); replace BK658 := Aside0.mk (blk_drew BK658.out); replace BK661 := Aside0.mk (blk_drew BK661.out); replace HB := Aside0.mk (below_drew1 HB.out)
              refine start_ (n := 77) (S := fun w' => w'.cell? ⟨gb600, 0, none⟩ = some (.int .i64 t589) ∧ w'.cell? ⟨gb600, 1, none⟩ = some (.int .i64 t590) ∧ w'.cell? ⟨gb600, 2, none⟩ = some (.int .i64 t591) ∧ w'.cell? ⟨gb600, 3, none⟩ = some (.int .i64 t592) ∧ w'.cell? ⟨gb600, 4, none⟩ = some (.int .i64 t593) ∧ w'.cell? ⟨gb600, 5, none⟩ = some (.int .i64 t594) ∧ w'.cell? ⟨gb600, 6, none⟩ = some (.int .i64 t595) ∧ w'.cell? ⟨gb600, 7, none⟩ = some (.int .i64 t596) ∧ w'.cell? ⟨gb600, 8, none⟩ = some (.int .i64 t597) ∧ w'.cell? ⟨gb600, 9, none⟩ = some (.int .i64 t598) ∧ w'.cell? ⟨gb587, 0, none⟩ = some (.int .i64 t577) ∧ w'.cell? ⟨gb587, 1, none⟩ = some (.int .i64 t578) ∧ w'.cell? ⟨gb587, 2, none⟩ = some (.int .i64 t579) ∧ w'.cell? ⟨gb587, 3, none⟩ = some (.int .i64 t580) ∧ w'.cell? ⟨gb587, 4, none⟩ = some (.int .i64 t581) ∧ w'.cell? ⟨gb587, 5, none⟩ = some (.int .i64 t582) ∧ w'.cell? ⟨gb587, 6, none⟩ = some (.int .i64 t583) ∧ w'.cell? ⟨gb587, 7, none⟩ = some (.int .i64 t584) ∧ w'.cell? ⟨gb587, 8, none⟩ = some (.int .i64 t585) ∧ w'.cell? ⟨gb587, 9, none⟩ = some (.int .i64 t586) ∧ w'.cell? ⟨gb613, 0, none⟩ = some (.int .i64 t602) ∧ w'.cell? ⟨gb613, 1, none⟩ = some (.int .i64 t603) ∧ w'.cell? ⟨gb613, 2, none⟩ = some (.int .i64 t604) ∧ w'.cell? ⟨gb613, 3, none⟩ = some (.int .i64 t605) ∧ w'.cell? ⟨gb613, 4, none⟩ = some (.int .i64 t606) ∧ w'.cell? ⟨gb613, 5, none⟩ = some (.int .i64 t607) ∧ w'.cell? ⟨gb613, 6, none⟩ = some (.int .i64 t608) ∧ w'.cell? ⟨gb613, 7, none⟩ = some (.int .i64 t609) ∧ w'.cell? ⟨gb613, 8, none⟩ = some (.int .i64 t610) ∧ w'.cell? ⟨gb613, 9, none⟩ = some (.int .i64 t611) ∧ w'.cell? ⟨gb625, 0, none⟩ = some (.int .i64 t614) ∧ w'.cell? ⟨gb625, 1, none⟩ = some (.int .i64 t615) ∧ w'.cell? ⟨gb625, 2, none⟩ = some (.int .i64 t616) ∧ w'.cell? ⟨gb625, 3, none⟩ = some (.int .i64 t617) ∧ w'.cell? ⟨gb625, 4, none⟩ = some (.int .i64 t618) ∧ w'.cell? ⟨gb625, 5, none⟩ = some (.int .i64 t619) ∧ w'.cell? ⟨gb625, 6, none⟩ = some (.int .i64 t620) ∧ w'.cell? ⟨gb625, 7, none⟩ = some (.int .i64 t621) ∧ w'.cell? ⟨gb625, 8, none⟩ = some (.int .i64 t622) ∧ w'.cell? ⟨gb625, 9, none⟩ = some (.int .i64 t623) ∧ w'.cell? ⟨gb636, 0, none⟩ = some (.int .i64 t626) ∧ w'.cell? ⟨gb636, 1, none⟩ = some (.int .i64 t627) ∧ w'.cell? ⟨gb636, 2, none⟩ = some (.int .i64 t628) ∧ w'.cell? ⟨gb636, 3, none⟩ = some (.int .i64 t629) ∧ w'.cell? ⟨gb636, 4, none⟩ = some (.int .i64 t630) ∧ w'.cell? ⟨gb636, 5, none⟩ = some (.int .i64 t631) ∧ w'.cell? ⟨gb636, 6, none⟩ = some (.int .i64 t632) ∧ w'.cell? ⟨gb636, 7, none⟩ = some (.int .i64 t633) ∧ w'.cell? ⟨gb636, 8, none⟩ = some (.int .i64 t634) ∧ w'.cell? ⟨gb636, 9, none⟩ = some (.int .i64 t635) ∧ w'.cell? ⟨gb657, 0, none⟩ = some (.int .i64 t637) ∧ w'.cell? ⟨gb657, 1, none⟩ = some (.int .i64 t638) ∧ w'.cell? ⟨gb657, 2, none⟩ = some (.int .i64 t639) ∧ w'.cell? ⟨gb657, 3, none⟩ = some (.int .i64 t640) ∧ w'.cell? ⟨gb657, 4, none⟩ = some (.int .i64 t641) ∧ w'.cell? ⟨gb657, 5, none⟩ = some (.int .i64 t642) ∧ w'.cell? ⟨gb657, 6, none⟩ = some (.int .i64 t643) ∧ w'.cell? ⟨gb657, 7, none⟩ = some (.int .i64 t644) ∧ w'.cell? ⟨gb657, 8, none⟩ = some (.int .i64 t645) ∧ w'.cell? ⟨gb657, 9, none⟩ = some (.int .i64 t646) ∧ w'.cell? ⟨gb658, 0, none⟩ = some (.int .i64 t647) ∧ w'.cell? ⟨gb658, 1, none⟩ = some (.int .i64 t648) ∧ w'.cell? ⟨gb658, 2, none⟩ = some (.int .i64 t649) ∧ w'.cell? ⟨gb658, 3, none⟩ = some (.int .i64 t650) ∧ w'.cell? ⟨gb658, 4, none⟩ = some (.int .i64 t651) ∧ w'.cell? ⟨gb658, 5, none⟩ = some (.int .i64 t652) ∧ w'.cell? ⟨gb658, 6, none⟩ = some (.int .i64 t653) ∧ w'.cell? ⟨gb658, 7, none⟩ = some (.int .i64 t654) ∧ w'.cell? ⟨gb658, 8, none⟩ = some (.int .i64 t655) ∧ w'.cell? ⟨gb658, 9, none⟩ = some (.int .i64 t656) ∧ w'.cell? ⟨gb661, 0, none⟩ = some (.int .i64 t659) ∧ w'.cell? ⟨gb661, 1, none⟩ = some (.int .i64 t660)) (ds := []) (sqb 0 77) (by kernel_rfl) rfl rfl sqF (fun hHeld => ?_); refine with_tabW laws_FnWords.tab13 laws_FnWords.bits13 (fun HT_ HW_ => ?_)
              generalize w440.drew = w441 at BK587 BK600 BK613 BK625 BK636 BK657 BK658 BK661 HB hHeld ⊢
              refine sqP (i := 0) (N := some 52) (sqb 1 76) rfl rfl (any_of HT_.out (by kernel_rfl)) ?_
              refine sqP (i := 1) (N := some 53) (sqb 2 75) rfl rfl (any_of HT_.out (by kernel_rfl)) ?_
              refine sqTk (i := 2) (N := some 54) (sqb 3 74) rfl rfl (take_ofW HT_.out HW_.out (by kernel_rfl)) hHeld ?_
              refine sqTk (i := 3) (N := some 55) (sqb 4 73) rfl rfl (take_ofW HT_.out HW_.out (by kernel_rfl)) hHeld ?_
              refine sqP (i := 4) (N := some 56) (sqb 5 72) rfl rfl (any_of HT_.out (by kernel_rfl)) ?_
              refine sqP (i := 5) (N := some 57) (sqb 6 71) rfl rfl (any_of HT_.out (by kernel_rfl)) ?_
              refine sqP (i := 6) (N := some 58) (sqb 7 70) rfl rfl (any_of HT_.out (by kernel_rfl)) ?_
              refine sqTk (i := 7) (N := some 59) (sqb 8 69) rfl rfl (take_ofW HT_.out HW_.out (by kernel_rfl)) hHeld ?_
              refine one_ (i := 8) (N := some 60) (sqb 9 68) rfl rfl (one_of HT_.out (by kernel_rfl)) (by decide) (fun K hK => ?_)
              refine goes_ Try.func14 (by kernel_rfl) rfl #[.agg #[.int .i64 t577, .int .i64 t578, .int .i64 t579, .int .i64 t580, .int .i64 t581, .int .i64 t582, .int .i64 t583, .int .i64 t584, .int .i64 t585, .int .i64 t586]] (by rfl) rfl rfl sqA ?_
              with_reducible refine (impl_CredOk.calls k t577 t578 t579 t580 t581 t582 t583 t584 t585 t586 true _ A16.out).mono ?_
              rintro e w442 ⟨rfl, hb⟩
              refine ⟨_, rfl, ?_⟩
              replace BK587 := sqL BK587 hb; replace BK600 := sqL BK600 hb; replace BK613 := sqL BK613 hb; replace BK625 := sqL BK625 hb; replace BK636 := sqL BK636 hb; replace BK657 := sqL BK657 hb; replace BK658 := sqL BK658 hb; replace BK661 := sqL BK661 hb; replace HB := sqS hb
              (try clear hb)
              (try clear hb2)
              (try clear hk)
              (try clear hi)
              refine hK.out _ _ sqF (fun hHeld => ?_)
              clear hK K
              refine sqV (N := some 60) ?_
              refine sqP (i := 9) (N := some 61) (sqb 10 67) rfl rfl (any_of HT_.out (by kernel_rfl)) ?_
              refine sqP (i := 10) (N := some 62) (sqb 11 66) rfl rfl (any_of HT_.out (by kernel_rfl)) ?_
              refine sqP (i := 11) (N := some 63) (sqb 12 65) rfl rfl (any_of HT_.out (by kernel_rfl)) ?_
              refine sqP (i := 12) (N := some 64) (sqb 13 64) rfl rfl (any_of HT_.out (by kernel_rfl)) ?_
              refine sqP (i := 13) (N := some 65) (sqb 14 63) rfl rfl (any_of HT_.out (by kernel_rfl)) ?_
              refine sqP (i := 14) (N := some 66) (sqb 15 62) rfl rfl (any_of HT_.out (by kernel_rfl)) ?_
              refine sqP (i := 15) (N := some 67) (sqb 16 61) rfl rfl (any_of HT_.out (by kernel_rfl)) ?_
              refine sqTk (i := 16) (N := some 68) (sqb 17 60) rfl rfl (take_ofW HT_.out HW_.out (by kernel_rfl)) hHeld ?_
              refine sqTk (i := 17) (N := some 69) (sqb 18 59) rfl rfl (take_ofW HT_.out HW_.out (by kernel_rfl)) hHeld ?_
              refine sqP (i := 18) (N := some 70) (sqb 19 58) rfl rfl (any_of HT_.out (by kernel_rfl)) ?_
              refine sqP (i := 19) (N := some 71) (sqb 20 57) rfl rfl (any_of HT_.out (by kernel_rfl)) ?_
              refine sqP (i := 20) (N := some 72) (sqb 21 56) rfl rfl (any_of HT_.out (by kernel_rfl)) ?_
              refine sqTk (i := 21) (N := some 73) (sqb 22 55) rfl rfl (take_ofW HT_.out HW_.out (by kernel_rfl)) hHeld ?_
              refine sqTk (i := 23) (N := some 75) (sqr [22, 1, 1, 53]) rfl rfl (take_ofW HT_.out HW_.out (by kernel_rfl)) hHeld ?_
              refine one_ (i := 22) (N := some 74) (sqb 24 53) rfl rfl (one_of HT_.out (by kernel_rfl)) (by decide) (fun K hK => ?_)
              refine goes_ Try.func14 (by kernel_rfl) rfl #[.agg #[.int .i64 t626, .int .i64 t627, .int .i64 t628, .int .i64 t629, .int .i64 t630, .int .i64 t631, .int .i64 t632, .int .i64 t633, .int .i64 t634, .int .i64 t635]] (by rfl) rfl rfl sqA ?_
              with_reducible refine (impl_CredOk.calls k t626 t627 t628 t629 t630 t631 t632 t633 t634 t635 t664 _ A20.out).mono ?_
              rintro e w443 ⟨rfl, hb⟩
              refine ⟨_, rfl, ?_⟩
              replace BK587 := sqL BK587 hb; replace BK600 := sqL BK600 hb; replace BK613 := sqL BK613 hb; replace BK625 := sqL BK625 hb; replace BK636 := sqL BK636 hb; replace BK657 := sqL BK657 hb; replace BK658 := sqL BK658 hb; replace BK661 := sqL BK661 hb; replace HB := sqS hb
              (try clear hb)
              (try clear hb2)
              (try clear hk)
              (try clear hi)
              refine hK.out _ _ sqF (fun hHeld => ?_)
              clear hK K
              refine sqV (N := some 74) ?_
              refine one_ (i := 24) (N := some 76) (sqb 25 52) rfl rfl (one_of HT_.out (by kernel_rfl)) (by decide) (fun K hK => ?_)
              refine goes_ Try.func15 (by kernel_rfl) rfl #[.agg #[.int .i64 t626, .int .i64 t627, .int .i64 t628, .int .i64 t629, .int .i64 t630, .int .i64 t631, .int .i64 t632, .int .i64 t633, .int .i64 t634, .int .i64 t635]] (by rfl) rfl rfl sqA ?_
              with_reducible refine (spec_CredOk.calls k t626 t627 t628 t629 t630 t631 t632 t633 t634 t635 t665 _ A21.out).mono ?_
              rintro e w444 ⟨rfl, hb⟩
              refine ⟨_, rfl, ?_⟩
              replace BK587 := sqL BK587 hb; replace BK600 := sqL BK600 hb; replace BK613 := sqL BK613 hb; replace BK625 := sqL BK625 hb; replace BK636 := sqL BK636 hb; replace BK657 := sqL BK657 hb; replace BK658 := sqL BK658 hb; replace BK661 := sqL BK661 hb; replace HB := sqS hb
              (try clear hb)
              (try clear hb2)
              (try clear hk)
              (try clear hi)
              refine hK.out _ _ sqF (fun hHeld => ?_)
              clear hK K
              refine sqV (N := some 76) ?_
              refine sqP (i := 25) (N := some 77) (sqb 26 51) rfl rfl (any_of HT_.out (by kernel_rfl)) ?_
              refine sqP (i := 26) (N := some 78) (sqb 27 50) rfl rfl (any_of HT_.out (by kernel_rfl)) ?_
              refine sqP (i := 27) (N := some 79) (sqb 28 49) rfl rfl (any_of HT_.out (by kernel_rfl)) ?_
              refine sqTk (i := 28) (N := some 80) (sqb 29 48) rfl rfl (take_ofW HT_.out HW_.out (by kernel_rfl)) hHeld ?_
              refine sqTk (i := 30) (N := some 82) (sqr [29, 1, 1, 46]) rfl rfl (take_ofW HT_.out HW_.out (by kernel_rfl)) hHeld ?_
              refine one_ (i := 29) (N := some 81) (sqb 31 46) rfl rfl (one_of HT_.out (by kernel_rfl)) (by decide) (fun K hK => ?_)
              refine goes_ Try.func6 (by kernel_rfl) rfl #[.agg #[.int .i64 t626, .int .i64 t627, .int .i64 t628, .int .i64 t629, .int .i64 t630, .int .i64 t631, .int .i64 t632, .int .i64 t633, .int .i64 t634, .int .i64 t635]] (by rfl) rfl rfl sqA ?_
              with_reducible refine (impl_CredText.calls k t626 t627 t628 t629 t630 t631 t632 t633 t634 t635 t666 _ A23.out).mono ?_
              rintro e w445 ⟨rfl, hb⟩
              refine ⟨_, rfl, ?_⟩
              replace BK587 := sqL BK587 hb; replace BK600 := sqL BK600 hb; replace BK613 := sqL BK613 hb; replace BK625 := sqL BK625 hb; replace BK636 := sqL BK636 hb; replace BK657 := sqL BK657 hb; replace BK658 := sqL BK658 hb; replace BK661 := sqL BK661 hb; replace HB := sqS hb
              (try clear hb)
              (try clear hb2)
              (try clear hk)
              (try clear hi)
              refine hK.out _ _ sqF (fun hHeld => ?_)
              clear hK K
              refine sqV (N := some 81) ?_
              refine one_ (i := 31) (N := some 83) (sqb 32 45) rfl rfl (one_of HT_.out (by kernel_rfl)) (by decide) (fun K hK => ?_)
              refine goes_ Try.func16 (by kernel_rfl) rfl #[.agg #[.int .i64 t626, .int .i64 t627, .int .i64 t628, .int .i64 t629, .int .i64 t630, .int .i64 t631, .int .i64 t632, .int .i64 t633, .int .i64 t634, .int .i64 t635]] (by rfl) rfl rfl sqA ?_
              with_reducible refine (spec_CredText.calls k t626 t627 t628 t629 t630 t631 t632 t633 t634 t635 t667 _ A24.out).mono ?_
              rintro e w446 ⟨rfl, hb⟩
              refine ⟨_, rfl, ?_⟩
              replace BK587 := sqL BK587 hb; replace BK600 := sqL BK600 hb; replace BK613 := sqL BK613 hb; replace BK625 := sqL BK625 hb; replace BK636 := sqL BK636 hb; replace BK657 := sqL BK657 hb; replace BK658 := sqL BK658 hb; replace BK661 := sqL BK661 hb; replace HB := sqS hb
              (try clear hb)
              (try clear hb2)
              (try clear hk)
              (try clear hi)
              refine hK.out _ _ sqF (fun hHeld => ?_)
              clear hK K
              refine sqV (N := some 83) ?_
              refine sqP (i := 32) (N := some 84) (sqb 33 44) rfl rfl (any_of HT_.out (by kernel_rfl)) ?_
              refine sqP (i := 33) (N := some 85) (sqb 34 43) rfl rfl (any_of HT_.out (by kernel_rfl)) ?_
              refine sqP (i := 34) (N := some 86) (sqb 35 42) rfl rfl (any_of HT_.out (by kernel_rfl)) ?_
              refine sqTk (i := 35) (N := some 87) (sqb 36 41) rfl rfl (take_ofW HT_.out HW_.out (by kernel_rfl)) hHeld ?_
              refine sqTk (i := 36) (N := some 88) (sqb 37 40) rfl rfl (take_ofW HT_.out HW_.out (by kernel_rfl)) hHeld ?_
              refine sqTk (i := 38) (N := some 90) (sqr [37, 1, 1, 38]) rfl rfl (take_ofW HT_.out HW_.out (by kernel_rfl)) hHeld ?_
              refine sqTk (i := 39) (N := some 91) (sqr [37, 1, 2, 37]) rfl rfl (take_ofW HT_.out HW_.out (by kernel_rfl)) hHeld ?_
              refine one_ (i := 37) (N := some 89) (sqb 40 37) rfl rfl (one_of HT_.out (by kernel_rfl)) (by decide) (fun K hK => ?_)
              refine goes_ Try.func17 (by kernel_rfl) rfl #[.agg #[.int .i64 t637, .int .i64 t638, .int .i64 t639, .int .i64 t640, .int .i64 t641, .int .i64 t642, .int .i64 t643, .int .i64 t644, .int .i64 t645, .int .i64 t646], .agg #[.int .i64 t647, .int .i64 t648, .int .i64 t649, .int .i64 t650, .int .i64 t651, .int .i64 t652, .int .i64 t653, .int .i64 t654, .int .i64 t655, .int .i64 t656]] (by rfl) rfl rfl sqA ?_
              with_reducible refine (impl_CredLess.calls k t637 t638 t639 t640 t641 t642 t643 t644 t645 t646 t647 t648 t649 t650 t651 t652 t653 t654 t655 t656 t668 _ A26.out).mono ?_
              rintro e w447 ⟨rfl, hb⟩
              refine ⟨_, rfl, ?_⟩
              replace BK587 := sqL BK587 hb; replace BK600 := sqL BK600 hb; replace BK613 := sqL BK613 hb; replace BK625 := sqL BK625 hb; replace BK636 := sqL BK636 hb; replace BK657 := sqL BK657 hb; replace BK658 := sqL BK658 hb; replace BK661 := sqL BK661 hb; replace HB := sqS hb
              (try clear hb)
              (try clear hb2)
              (try clear hk)
              (try clear hi)
              refine hK.out _ _ sqF (fun hHeld => ?_)
              clear hK K
              refine sqV (N := some 89) ?_
              refine one_ (i := 40) (N := some 92) (sqb 41 36) rfl rfl (one_of HT_.out (by kernel_rfl)) (by decide) (fun K hK => ?_)
              refine goes_ Try.func18 (by kernel_rfl) rfl #[.agg #[.int .i64 t637, .int .i64 t638, .int .i64 t639, .int .i64 t640, .int .i64 t641, .int .i64 t642, .int .i64 t643, .int .i64 t644, .int .i64 t645, .int .i64 t646], .agg #[.int .i64 t647, .int .i64 t648, .int .i64 t649, .int .i64 t650, .int .i64 t651, .int .i64 t652, .int .i64 t653, .int .i64 t654, .int .i64 t655, .int .i64 t656]] (by rfl) rfl rfl sqA ?_
              with_reducible refine (spec_CredLess.calls k t637 t638 t639 t640 t641 t642 t643 t644 t645 t646 t647 t648 t649 t650 t651 t652 t653 t654 t655 t656 t669 _ A27.out).mono ?_
              rintro e w448 ⟨rfl, hb⟩
              refine ⟨_, rfl, ?_⟩
              replace BK587 := sqL BK587 hb; replace BK600 := sqL BK600 hb; replace BK613 := sqL BK613 hb; replace BK625 := sqL BK625 hb; replace BK636 := sqL BK636 hb; replace BK657 := sqL BK657 hb; replace BK658 := sqL BK658 hb; replace BK661 := sqL BK661 hb; replace HB := sqS hb
              (try clear hb)
              (try clear hb2)
              (try clear hk)
              (try clear hi)
              refine hK.out _ _ sqF (fun hHeld => ?_)
              clear hK K
              refine sqV (N := some 92) ?_
              refine sqP (i := 41) (N := some 93) (sqb 42 35) rfl rfl (any_of HT_.out (by kernel_rfl)) ?_
              refine sqP (i := 42) (N := some 94) (sqb 43 34) rfl rfl (any_of HT_.out (by kernel_rfl)) ?_
              refine sqP (i := 43) (N := some 95) (sqb 44 33) rfl rfl (any_of HT_.out (by kernel_rfl)) ?_
              refine sqTk (i := 44) (N := some 96) (sqb 45 32) rfl rfl (take_ofW HT_.out HW_.out (by kernel_rfl)) hHeld ?_
              refine sqTk (i := 45) (N := some 97) (sqb 46 31) rfl rfl (take_ofW HT_.out HW_.out (by kernel_rfl)) hHeld ?_
              refine one_ (i := 46) (N := some 98) (sqb 47 30) rfl rfl (one_of HT_.out (by kernel_rfl)) (by decide) (fun K hK => ?_)
              refine goes_ Try.func17 (by kernel_rfl) rfl #[.agg #[.int .i64 t637, .int .i64 t638, .int .i64 t639, .int .i64 t640, .int .i64 t641, .int .i64 t642, .int .i64 t643, .int .i64 t644, .int .i64 t645, .int .i64 t646], .agg #[.int .i64 t647, .int .i64 t648, .int .i64 t649, .int .i64 t650, .int .i64 t651, .int .i64 t652, .int .i64 t653, .int .i64 t654, .int .i64 t655, .int .i64 t656]] (by rfl) rfl rfl sqA ?_
              with_reducible refine (impl_CredLess.calls k t637 t638 t639 t640 t641 t642 t643 t644 t645 t646 t647 t648 t649 t650 t651 t652 t653 t654 t655 t656 false _ A29.out).mono ?_
              rintro e w449 ⟨rfl, hb⟩
              refine ⟨_, rfl, ?_⟩
              replace BK587 := sqL BK587 hb; replace BK600 := sqL BK600 hb; replace BK613 := sqL BK613 hb; replace BK625 := sqL BK625 hb; replace BK636 := sqL BK636 hb; replace BK657 := sqL BK657 hb; replace BK658 := sqL BK658 hb; replace BK661 := sqL BK661 hb; replace HB := sqS hb
              (try clear hb)
              (try clear hb2)
              (try clear hk)
              (try clear hi)
              refine hK.out _ _ sqF (fun hHeld => ?_)
              clear hK K
              refine sqV (N := some 98) ?_
              refine sqP (i := 47) (N := some 99) (sqb 48 29) rfl rfl (any_of HT_.out (by kernel_rfl)) ?_
              refine sqU (i := 48) (N := some 100) (sqb 49 28) rfl rfl (any_of HT_.out (by kernel_rfl)) ?_
              refine sqU (i := 49) (N := some 101) (sqb 50 27) rfl rfl (any_of HT_.out (by kernel_rfl)) ?_
              refine sqU (i := 50) (N := some 102) (sqb 51 26) rfl rfl (any_of HT_.out (by kernel_rfl)) ?_
              refine sqP (i := 51) (N := some 103) (sqb 52 25) rfl rfl (any_of HT_.out (by kernel_rfl)) ?_
              refine sqP (i := 52) (N := some 104) (sqb 53 24) rfl rfl (any_of HT_.out (by kernel_rfl)) ?_
              refine sqP (i := 53) (N := some 105) (sqb 54 23) rfl rfl (any_of HT_.out (by kernel_rfl)) ?_
              refine sqP (i := 54) (N := some 106) (sqb 55 22) rfl rfl (any_of HT_.out (by kernel_rfl)) ?_
              refine sqTk (i := 55) (N := some 107) (sqb 56 21) rfl rfl (take_ofW HT_.out HW_.out (by kernel_rfl)) hHeld ?_
              refine sqTk (i := 57) (N := some 109) (sqr [56, 1, 1, 19]) rfl rfl (take_ofW HT_.out HW_.out (by kernel_rfl)) hHeld ?_
              refine one_ (i := 56) (N := some 108) (sqb 58 19) rfl rfl (one_of HT_.out (by kernel_rfl)) (by decide) (fun K hK => ?_)
              refine goes_ Try.func19 (by kernel_rfl) rfl #[.agg #[.int .i64 t659, .int .i64 t660]] (by rfl) rfl rfl sqA ?_
              with_reducible refine (impl_RoleOk.calls t659 t660 t676 _ A379.out).mono ?_
              rintro e w450 ⟨rfl, hb⟩
              refine ⟨_, rfl, ?_⟩
              replace BK587 := sqL BK587 hb; replace BK600 := sqL BK600 hb; replace BK613 := sqL BK613 hb; replace BK625 := sqL BK625 hb; replace BK636 := sqL BK636 hb; replace BK657 := sqL BK657 hb; replace BK658 := sqL BK658 hb; replace BK661 := sqL BK661 hb; replace HB := sqS hb
              (try clear hb)
              (try clear hb2)
              (try clear hk)
              (try clear hi)
              refine hK.out _ _ sqF (fun hHeld => ?_)
              clear hK K
              refine sqV (N := some 108) ?_
              refine one_ (i := 58) (N := some 110) (sqb 59 18) rfl rfl (one_of HT_.out (by kernel_rfl)) (by decide) (fun K hK => ?_)
              refine goes_ Try.func20 (by kernel_rfl) rfl #[.agg #[.int .i64 t659, .int .i64 t660]] (by rfl) rfl rfl sqA ?_
              with_reducible refine (spec_RoleOk.calls t659 t660 t677 _ A380.out).mono ?_
              rintro e w451 ⟨rfl, hb⟩
              refine ⟨_, rfl, ?_⟩
              replace BK587 := sqL BK587 hb; replace BK600 := sqL BK600 hb; replace BK613 := sqL BK613 hb; replace BK625 := sqL BK625 hb; replace BK636 := sqL BK636 hb; replace BK657 := sqL BK657 hb; replace BK658 := sqL BK658 hb; replace BK661 := sqL BK661 hb; replace HB := sqS hb
              (try clear hb)
              (try clear hb2)
              (try clear hk)
              (try clear hi)
              refine hK.out _ _ sqF (fun hHeld => ?_)
              clear hK K
              refine sqV (N := some 110) ?_
              refine sqP (i := 59) (N := some 111) (sqb 60 17) rfl rfl (any_of HT_.out (by kernel_rfl)) ?_
              refine sqP (i := 60) (N := some 112) (sqb 61 16) rfl rfl (any_of HT_.out (by kernel_rfl)) ?_
              refine sqP (i := 61) (N := some 113) (sqb 62 15) rfl rfl (any_of HT_.out (by kernel_rfl)) ?_
              refine sqTk (i := 62) (N := some 114) (sqb 63 14) rfl rfl (take_ofW HT_.out HW_.out (by kernel_rfl)) hHeld ?_
              refine sqTk (i := 64) (N := some 116) (sqr [63, 1, 1, 12]) rfl rfl (take_ofW HT_.out HW_.out (by kernel_rfl)) hHeld ?_
              refine one_ (i := 63) (N := some 115) (sqb 65 12) rfl rfl (one_of HT_.out (by kernel_rfl)) (by decide) (fun K hK => ?_)
              refine goes_ Try.func13 (by kernel_rfl) rfl #[.agg #[.int .i64 t659, .int .i64 t660]] (by rfl) rfl rfl sqA ?_
              with_reducible refine (impl_PlaceOf.calls k t659 t660 t678 _ A382.out).mono ?_
              rintro e w452 ⟨rfl, hb⟩
              refine ⟨_, rfl, ?_⟩
              replace BK587 := sqL BK587 hb; replace BK600 := sqL BK600 hb; replace BK613 := sqL BK613 hb; replace BK625 := sqL BK625 hb; replace BK636 := sqL BK636 hb; replace BK657 := sqL BK657 hb; replace BK658 := sqL BK658 hb; replace BK661 := sqL BK661 hb; replace HB := sqS hb
              (try clear hb)
              (try clear hb2)
              (try clear hk)
              (try clear hi)
              refine hK.out _ _ sqF (fun hHeld => ?_)
              clear hK K
              refine sqV (N := some 115) ?_
              refine one_ (i := 65) (N := some 117) (sqb 66 11) rfl rfl (one_of HT_.out (by kernel_rfl)) (by decide) (fun K hK => ?_)
              refine goes_ Try.func21 (by kernel_rfl) rfl #[.agg #[.int .i64 t659, .int .i64 t660]] (by rfl) rfl rfl sqA ?_
              with_reducible refine (spec_PlaceOf.calls k t659 t660 t679 _ A383.out).mono ?_
              rintro e w453 ⟨rfl, hb⟩
              refine ⟨_, rfl, ?_⟩
              replace BK587 := sqL BK587 hb; replace BK600 := sqL BK600 hb; replace BK613 := sqL BK613 hb; replace BK625 := sqL BK625 hb; replace BK636 := sqL BK636 hb; replace BK657 := sqL BK657 hb; replace BK658 := sqL BK658 hb; replace BK661 := sqL BK661 hb; replace HB := sqS hb
              (try clear hb)
              (try clear hb2)
              (try clear hk)
              (try clear hi)
              refine hK.out _ _ sqF (fun hHeld => ?_)
              clear hK K
              refine sqV (N := some 117) ?_
              refine sqP (i := 66) (N := some 118) (sqb 67 10) rfl rfl (any_of HT_.out (by kernel_rfl)) ?_
              refine sqP (i := 67) (N := some 119) (sqb 68 9) rfl rfl (any_of HT_.out (by kernel_rfl)) ?_
              refine sqP (i := 68) (N := some 120) (sqb 69 8) rfl rfl (any_of HT_.out (by kernel_rfl)) ?_
              refine sqP (i := 69) (N := some 121) (sqb 70 7) rfl rfl (any_of HT_.out (by kernel_rfl)) ?_
              refine sqP (i := 70) (N := some 122) (sqb 71 6) rfl rfl (any_of HT_.out (by kernel_rfl)) ?_
              refine sqP (i := 71) (N := some 123) (sqb 72 5) rfl rfl (any_of HT_.out (by kernel_rfl)) ?_
              refine sqP (i := 72) (N := some 124) (sqb 73 4) rfl rfl (any_of HT_.out (by kernel_rfl)) ?_
              refine sqP (i := 73) (N := some 125) (sqb 74 3) rfl rfl (any_of HT_.out (by kernel_rfl)) ?_
              refine sqP (i := 74) (N := some 126) (sqb 75 2) rfl rfl (any_of HT_.out (by kernel_rfl)) ?_
              refine sqP (i := 75) (N := some 127) (sqb 76 1) rfl rfl (any_of HT_.out (by kernel_rfl)) ?_
              refine sqP (i := 76) (N := some 2) (sqb 77 0) rfl rfl (any_of HT_.out (by kernel_rfl)) ?_
              refine done_ (done_of HT_.out (by kernel_rfl)) ?_
              try go_wp2
              go_ret
              exact ⟨sqE, sqB⟩
             ·rw [if_neg c385] at H
              exact absurd ((Option.some.inj H).trans HRT.out) (by decide)
            ·rw [if_neg c384] at H
             exact absurd ((Option.some.inj H).trans HRT.out) (by decide)
           ·rw [if_neg c381] at H
            exact absurd ((Option.some.inj H).trans HRT.out) (by decide)
         ·rw [if_neg c28] at H
          exact absurd ((Option.some.inj H).trans HRT.out) (by decide)
        ·rw [if_neg c25] at H
         exact absurd ((Option.some.inj H).trans HRT.out) (by decide)
       ·rw [if_neg c22] at H
        exact absurd ((Option.some.inj H).trans HRT.out) (by decide)
      ·rw [if_neg c19] at H
       exact absurd ((Option.some.inj H).trans HRT.out) (by decide)
     ·rw [if_neg c18] at H
      exact absurd ((Option.some.inj H).trans HRT.out) (by decide)
    ·replace c17 := Bool.eq_false_iff.mpr c17
     subst c17
     have H1 : (some false) = some r := by rw [if_neg (show ¬ (false = true) by decide)] at H; exact H
     exact absurd ((Option.some.inj H1).trans HRT.out) (by decide)
   ·rw [if_neg c15] at H
    exact absurd ((Option.some.inj H).trans HRT.out) (by decide)
  ·replace c14 := Bool.eq_false_iff.mpr c14
   subst c14
   have H1 : (some false) = some r := by rw [if_neg (show ¬ (false = true) by decide)] at H; exact H
   exact absurd ((Option.some.inj H1).trans HRT.out) (by decide)

/-- THE ONE PURE STATEMENT of laws_FnWords: yours. -/
def laws_FnWords.Pure : Prop := ∀ (l0 : List Int), l0.length ≤ maxLen → l0.length * 1 ≤ 140737488351232 → (∀ x ∈ l0, (Lit.int .u8 x).wf = true) → ∃ k, laws_FnWords.f k l0 = some true
theorem laws_FnWords.walk (P : laws_FnWords.Pure) (a0 : Option Addr) (len0 cap0 : Nat) (z0 : List Int) (w : World) (w0 : (a0 = none ∧ len0 = 0 ∧ cap0 = 0 ∧ z0 = []) ∨ ∃ x, a0 = some x ∧ len0 ≤ cap0 ∧ cap0 ≤ maxLen ∧ z0.length = cap0 ∧ (∀ i, i < z0.length → w.cell? (x.add i) = some (.int .u8 (z0.getD i 0))) ∧ ∀ n ∈ z0, (Lit.int .u8 n).wf = true) (y0 : len0 * 1 ≤ 140737488351232) :
  Calls Try.prog 3 #[.slice a0 len0 cap0] w fun e w' => e = .returned (.bool true) ∧ Below w.heap.size w w' := by
 obtain ⟨l0, rfl, hr0, hm0, hw0, hc0⟩ := ReadsInt.ofRowC w0
 obtain ⟨k, h⟩ := P l0 hm0 y0 hw0
 refine (laws_FnWords.calls k _ _ l0 true w (Kd.C_of_reads (d := (0 : Int)) (h1 := fun _ => rfl) hr0) hc0 h rfl).mono ?_
 rintro e w' ⟨rfl, hd⟩
 exact ⟨rfl, hd⟩

end Go.Proofs.Ythodhbgocnbddaa.PFnWords
