/- What the code that one law of the given program reaches computes, function by function, each with its proof over the given translation.
Conditions: none of our own. (Laid by a program of this session, wip/xp/xp.py; some contracts are typed by hand.) -/
import Derived.Test.YthodhbgocnbddaaPFnWordsx0
import Derived.Test.YthodhbgocnbddaaPFnWordsx3
import Derived.Test.YthodhbgocnbddaaPFnWordsx7
namespace Go.Proofs.Ythodhbgocnbddaa.PFnWords
open Go.RowKit Go.Proofs.YthodhbgocnbddaaW.PrintWords Go.Proofs.YthodhbgocnbddaaW.PrintLast Go.Proofs.YthodhbgocnbddaaW.PrintMore
attribute [local go_sem] max2_int min2_int max_two min_two max_three min_three max_four min_four   -- for this text's walks alone
set_option linter.unusedVariables false
set_option linter.unusedSimpArgs false

/-! ### spec_CredText: function 16 -/
def spec_CredText.f (k : Nat) (a0_0 : Int) (a0_1 : Int) (a0_2 : Int) (a0_3 : Int) (a0_4 : Int) (a0_5 : Int) (a0_6 : Int) (a0_7 : Int) (a0_8 : Int) (a0_9 : Int) : Option (ByteArray) := (spec_CredOk.f k a0_0 a0_1 a0_2 a0_3 a0_4 a0_5 a0_6 a0_7 a0_8 a0_9).bind fun t274 => (if t274 = true then ((spec_l01Var.f k a0_0).bind fun t275 => ((spec_l01Var.f k a0_1).bind fun t276 => (if t275.size + t276.size ≤ 9223372036854775807 then ((spec_l01Var.f k a0_2).bind fun t277 => (if (t275 ++ t276).size + t277.size ≤ 9223372036854775807 then ((spec_l01Var.f k a0_3).bind fun t278 => (if ((t275 ++ t276) ++ t277).size + t278.size ≤ 9223372036854775807 then ((spec_l01Var.f k a0_4).bind fun t279 => (if (((t275 ++ t276) ++ t277) ++ t278).size + t279.size ≤ 9223372036854775807 then ((spec_l01Var.f k a0_5).bind fun t280 => (if ((((t275 ++ t276) ++ t277) ++ t278) ++ t279).size + t280.size ≤ 9223372036854775807 then ((spec_l01Var.f k a0_6).bind fun t281 => (if (((((t275 ++ t276) ++ t277) ++ t278) ++ t279) ++ t280).size + t281.size ≤ 9223372036854775807 then ((spec_l01Var.f k a0_7).bind fun t282 => (if ((((((t275 ++ t276) ++ t277) ++ t278) ++ t279) ++ t280) ++ t281).size + t282.size ≤ 9223372036854775807 then ((spec_l01Var.f k a0_8).bind fun t283 => (if (((((((t275 ++ t276) ++ t277) ++ t278) ++ t279) ++ t280) ++ t281) ++ t282).size + t283.size ≤ 9223372036854775807 then ((spec_l01Var.f k a0_9).bind fun t284 => (if ((((((((t275 ++ t276) ++ t277) ++ t278) ++ t279) ++ t280) ++ t281) ++ t282) ++ t283).size + t284.size ≤ 9223372036854775807 then (some (((((((((t275 ++ t276) ++ t277) ++ t278) ++ t279) ++ t280) ++ t281) ++ t282) ++ t283) ++ t284)) else (none))) else (none))) else (none))) else (none))) else (none))) else (none))) else (none))) else (none))) else (none)))) else (some (⟨#[]⟩ : ByteArray)))
theorem spec_CredText.mono : ∀ a0 a1 a2 a3 a4 a5 a6 a7 a8 a9 k, LeO (spec_CredText.f k a0 a1 a2 a3 a4 a5 a6 a7 a8 a9) (spec_CredText.f (k + 1) a0 a1 a2 a3 a4 a5 a6 a7 a8 a9) := by
 intro a0 a1 a2 a3 a4 a5 a6 a7 a8 a9 k
 unfold spec_CredText.f
 repeat' first
   | (with_reducible exact spec_CredOk.mono _ _ _ _ _ _ _ _ _ _ _)
   | (with_reducible exact spec_l01Var.mono _ _)
   | (with_reducible exact LeO.refl _)
   | (with_reducible exact LeO.none _)
   | (with_reducible refine LeO.ite ?_ ?_)
   | (with_reducible refine LeO.bind ?_ (fun _ => ?_))
   | exact spec_CredOk.mono _ _ _ _ _ _ _ _ _ _ _
   | exact spec_l01Var.mono _ _
   | exact LeO.none _
   | refine LeO.ite ?_ ?_
   | refine LeO.bind ?_ (fun _ => ?_)
def spec_CredText.T3 : Bool × List (List Nat × List Nat) := (true, [([], []), ([0], [0]), ([1], [1]), ([], []), ([3], [3]), ([4], [4]), ([5, 2], [5]), ([2, 6], [2, 6]), ([], []), ([8], [8]), ([9], [9]), ([10, 6], [10]), ([7, 11], [7, 11]), ([], []), ([13], [13]), ([14, 11], [14]), ([12, 15], [12, 15]), ([], []), ([17], [17]), ([18], [18]), ([19, 15], [19]), ([16, 20], [16, 20]), ([], []), ([22], [22]), ([23], [23]), ([24, 20], [24]), ([21, 25], [21, 25]), ([], []), ([27], [27]), ([28], [28]), ([29, 25], [29]), ([26, 30], [26, 30]), ([], []), ([32], [32]), ([33], [33]), ([34, 30], [34]), ([31, 35], [31, 35]), ([], []), ([37], [37]), ([38, 35], [38]), ([36, 39], [36, 39]), ([], []), ([41], [41]), ([42, 39], [42]), ([40, 43], [40, 43]), ([44, 43, 0, 1, 2, 3, 4, 5, 6, 7, 8, 9, 10, 11, 12, 13, 14, 15, 16, 17, 18, 19, 20, 21, 22, 23, 24, 25, 26, 27, 28, 29, 30, 31, 32, 33, 34, 35, 36, 37, 38, 39, 40, 41, 42, 43, 44], [44])])
def spec_CredText.B3 : List Nat := [0, 1, 3, 0, 8, 24, 63, 127, 0, 256, 768, 1919, 4095, 0, 8192, 28543, 65535, 0, 131072, 393216, 978815, 2097151, 0, 4194304, 12582912, 31387519, 67108863, 0, 134217728, 402653184, 1004466047, 2147483647, 0, 4294967296, 12884901888, 32142978943, 68719476735, 0, 137438953472, 478819577727, 1099511627775, 0, 2199023255552, 7625645158271, 17592186044415, 35184372088831]
theorem spec_CredText.tab3 : rtab .any (opsOf Try.f16 3) = spec_CredText.T3 := by kernel_rfl
theorem spec_CredText.bits3 : waitsOk spec_CredText.T3.2 spec_CredText.B3 = true := by kernel_rfl
set_option maxHeartbeats 8000000 in
set_option maxRecDepth 100000 in
theorem spec_CredText.calls (k : Nat) (a0_0 : Int) (a0_1 : Int) (a0_2 : Int) (a0_3 : Int) (a0_4 : Int) (a0_5 : Int) (a0_6 : Int) (a0_7 : Int) (a0_8 : Int) (a0_9 : Int) (r : ByteArray) (w : World) (h : spec_CredText.f k a0_0 a0_1 a0_2 a0_3 a0_4 a0_5 a0_6 a0_7 a0_8 a0_9 = some r) :
  Calls Try.prog 16 #[.agg #[.int .i64 a0_0, .int .i64 a0_1, .int .i64 a0_2, .int .i64 a0_3, .int .i64 a0_4, .int .i64 a0_5, .int .i64 a0_6, .int .i64 a0_7, .int .i64 a0_8, .int .i64 a0_9]] w fun e w' => e = .returned (.string r) ∧ Below w.heap.size w w' := by
 have hu27 := Try.underlying27
 have HB := Aside0.mk (Below.refl w.heap.size w)
 have H : ((spec_CredOk.f k a0_0 a0_1 a0_2 a0_3 a0_4 a0_5 a0_6 a0_7 a0_8 a0_9).bind fun t274 => (if t274 = true then ((spec_l01Var.f k a0_0).bind fun t275 => ((spec_l01Var.f k a0_1).bind fun t276 => (if t275.size + t276.size ≤ 9223372036854775807 then ((spec_l01Var.f k a0_2).bind fun t277 => (if (t275 ++ t276).size + t277.size ≤ 9223372036854775807 then ((spec_l01Var.f k a0_3).bind fun t278 => (if ((t275 ++ t276) ++ t277).size + t278.size ≤ 9223372036854775807 then ((spec_l01Var.f k a0_4).bind fun t279 => (if (((t275 ++ t276) ++ t277) ++ t278).size + t279.size ≤ 9223372036854775807 then ((spec_l01Var.f k a0_5).bind fun t280 => (if ((((t275 ++ t276) ++ t277) ++ t278) ++ t279).size + t280.size ≤ 9223372036854775807 then ((spec_l01Var.f k a0_6).bind fun t281 => (if (((((t275 ++ t276) ++ t277) ++ t278) ++ t279) ++ t280).size + t281.size ≤ 9223372036854775807 then ((spec_l01Var.f k a0_7).bind fun t282 => (if ((((((t275 ++ t276) ++ t277) ++ t278) ++ t279) ++ t280) ++ t281).size + t282.size ≤ 9223372036854775807 then ((spec_l01Var.f k a0_8).bind fun t283 => (if (((((((t275 ++ t276) ++ t277) ++ t278) ++ t279) ++ t280) ++ t281) ++ t282).size + t283.size ≤ 9223372036854775807 then ((spec_l01Var.f k a0_9).bind fun t284 => (if ((((((((t275 ++ t276) ++ t277) ++ t278) ++ t279) ++ t280) ++ t281) ++ t282) ++ t283).size + t284.size ≤ 9223372036854775807 then (some (((((((((t275 ++ t276) ++ t277) ++ t278) ++ t279) ++ t280) ++ t281) ++ t282) ++ t283) ++ t284)) else (none))) else (none))) else (none))) else (none))) else (none))) else (none))) else (none))) else (none))) else (none)))) else (some (⟨#[]⟩ : ByteArray)))) = some r := h
 clear h
 replace H := Option.bind_eq_some_iff.mp H
 obtain ⟨t274, A20, H⟩ := H
 try dsimp only at H
 have A2 := Aside0.mk A20
 clear A20
 by_cases c3 : t274 = true
 ·subst c3
  rw [if_pos rfl] at H
  replace H := Option.bind_eq_some_iff.mp H
  obtain ⟨t275, A40, H⟩ := H
  try dsimp only at H
  have A4 := Aside0.mk A40
  clear A40
  replace H := Option.bind_eq_some_iff.mp H
  obtain ⟨t276, A50, H⟩ := H
  try dsimp only at H
  have A5 := Aside0.mk A50
  clear A50
  by_cases c6 : t275.size + t276.size ≤ 9223372036854775807
  ·rw [if_pos c6] at H
   have c6b0 := eq_true c6
   have c6b1 : decide (t275.size + t276.size ≤ 9223372036854775807) = true := decide_eq_true c6
   try have c6b2 : (9223372036854775807 < t275.size + t276.size) = False := eq_false (Nat.not_lt.2 c6)
   replace H := Option.bind_eq_some_iff.mp H
   obtain ⟨t277, A70, H⟩ := H
   try dsimp only at H
   have A7 := Aside0.mk A70
   clear A70
   by_cases c8 : (t275 ++ t276).size + t277.size ≤ 9223372036854775807
   ·rw [if_pos c8] at H
    have c8b0 := eq_true c8
    have c8b1 : decide ((t275 ++ t276).size + t277.size ≤ 9223372036854775807) = true := decide_eq_true c8
    try have c8b2 : (9223372036854775807 < (t275 ++ t276).size + t277.size) = False := eq_false (Nat.not_lt.2 c8)
    try have c8z2 : (9223372036854775807 < t275.size + t276.size + t277.size) = False := eq_false (Nat.not_lt.2 (Nat.le_trans (Nat.le_of_eq (by first | rfl | (simp only [ByteArray.size_append]; done) | (simp only [ByteArray.size_append]; rfl))) c8))
    try have c8z1 : decide (t275.size + t276.size + t277.size ≤ 9223372036854775807) = true := decide_eq_true (Nat.le_trans (Nat.le_of_eq (by first | rfl | (simp only [ByteArray.size_append]; done) | (simp only [ByteArray.size_append]; rfl))) c8)
    replace H := Option.bind_eq_some_iff.mp H
    obtain ⟨t278, A90, H⟩ := H
    try dsimp only at H
    have A9 := Aside0.mk A90
    clear A90
    by_cases c10 : ((t275 ++ t276) ++ t277).size + t278.size ≤ 9223372036854775807
    ·rw [if_pos c10] at H
     have c10b0 := eq_true c10
     have c10b1 : decide (((t275 ++ t276) ++ t277).size + t278.size ≤ 9223372036854775807) = true := decide_eq_true c10
     try have c10b2 : (9223372036854775807 < ((t275 ++ t276) ++ t277).size + t278.size) = False := eq_false (Nat.not_lt.2 c10)
     try have c10z2 : (9223372036854775807 < t275.size + t276.size + t277.size + t278.size) = False := eq_false (Nat.not_lt.2 (Nat.le_trans (Nat.le_of_eq (by first | rfl | (simp only [ByteArray.size_append]; done) | (simp only [ByteArray.size_append]; rfl))) c10))
     try have c10z1 : decide (t275.size + t276.size + t277.size + t278.size ≤ 9223372036854775807) = true := decide_eq_true (Nat.le_trans (Nat.le_of_eq (by first | rfl | (simp only [ByteArray.size_append]; done) | (simp only [ByteArray.size_append]; rfl))) c10)
     replace H := Option.bind_eq_some_iff.mp H
     obtain ⟨t279, A110, H⟩ := H
     try dsimp only at H
     have A11 := Aside0.mk A110
     clear A110
     by_cases c12 : (((t275 ++ t276) ++ t277) ++ t278).size + t279.size ≤ 9223372036854775807
     ·rw [if_pos c12] at H
      have c12b0 := eq_true c12
      have c12b1 : decide ((((t275 ++ t276) ++ t277) ++ t278).size + t279.size ≤ 9223372036854775807) = true := decide_eq_true c12
      try have c12b2 : (9223372036854775807 < (((t275 ++ t276) ++ t277) ++ t278).size + t279.size) = False := eq_false (Nat.not_lt.2 c12)
      try have c12z2 : (9223372036854775807 < t275.size + t276.size + t277.size + t278.size + t279.size) = False := eq_false (Nat.not_lt.2 (Nat.le_trans (Nat.le_of_eq (by first | rfl | (simp only [ByteArray.size_append]; done) | (simp only [ByteArray.size_append]; rfl))) c12))
      try have c12z1 : decide (t275.size + t276.size + t277.size + t278.size + t279.size ≤ 9223372036854775807) = true := decide_eq_true (Nat.le_trans (Nat.le_of_eq (by first | rfl | (simp only [ByteArray.size_append]; done) | (simp only [ByteArray.size_append]; rfl))) c12)
      replace H := Option.bind_eq_some_iff.mp H
      obtain ⟨t280, A130, H⟩ := H
      try dsimp only at H
      have A13 := Aside0.mk A130
      clear A130
      by_cases c14 : ((((t275 ++ t276) ++ t277) ++ t278) ++ t279).size + t280.size ≤ 9223372036854775807
      ·rw [if_pos c14] at H
       have c14b0 := eq_true c14
       have c14b1 : decide (((((t275 ++ t276) ++ t277) ++ t278) ++ t279).size + t280.size ≤ 9223372036854775807) = true := decide_eq_true c14
       try have c14b2 : (9223372036854775807 < ((((t275 ++ t276) ++ t277) ++ t278) ++ t279).size + t280.size) = False := eq_false (Nat.not_lt.2 c14)
       try have c14z2 : (9223372036854775807 < t275.size + t276.size + t277.size + t278.size + t279.size + t280.size) = False := eq_false (Nat.not_lt.2 (Nat.le_trans (Nat.le_of_eq (by first | rfl | (simp only [ByteArray.size_append]; done) | (simp only [ByteArray.size_append]; rfl))) c14))
       try have c14z1 : decide (t275.size + t276.size + t277.size + t278.size + t279.size + t280.size ≤ 9223372036854775807) = true := decide_eq_true (Nat.le_trans (Nat.le_of_eq (by first | rfl | (simp only [ByteArray.size_append]; done) | (simp only [ByteArray.size_append]; rfl))) c14)
       replace H := Option.bind_eq_some_iff.mp H
       obtain ⟨t281, A150, H⟩ := H
       try dsimp only at H
       have A15 := Aside0.mk A150
       clear A150
       by_cases c16 : (((((t275 ++ t276) ++ t277) ++ t278) ++ t279) ++ t280).size + t281.size ≤ 9223372036854775807
       ·rw [if_pos c16] at H
        have c16b0 := eq_true c16
        have c16b1 : decide ((((((t275 ++ t276) ++ t277) ++ t278) ++ t279) ++ t280).size + t281.size ≤ 9223372036854775807) = true := decide_eq_true c16
        try have c16b2 : (9223372036854775807 < (((((t275 ++ t276) ++ t277) ++ t278) ++ t279) ++ t280).size + t281.size) = False := eq_false (Nat.not_lt.2 c16)
        try have c16z2 : (9223372036854775807 < t275.size + t276.size + t277.size + t278.size + t279.size + t280.size + t281.size) = False := eq_false (Nat.not_lt.2 (Nat.le_trans (Nat.le_of_eq (by first | rfl | (simp only [ByteArray.size_append]; done) | (simp only [ByteArray.size_append]; rfl))) c16))
        try have c16z1 : decide (t275.size + t276.size + t277.size + t278.size + t279.size + t280.size + t281.size ≤ 9223372036854775807) = true := decide_eq_true (Nat.le_trans (Nat.le_of_eq (by first | rfl | (simp only [ByteArray.size_append]; done) | (simp only [ByteArray.size_append]; rfl))) c16)
        replace H := Option.bind_eq_some_iff.mp H
        obtain ⟨t282, A170, H⟩ := H
        try dsimp only at H
        have A17 := Aside0.mk A170
        clear A170
        by_cases c18 : ((((((t275 ++ t276) ++ t277) ++ t278) ++ t279) ++ t280) ++ t281).size + t282.size ≤ 9223372036854775807
        ·rw [if_pos c18] at H
         have c18b0 := eq_true c18
         have c18b1 : decide (((((((t275 ++ t276) ++ t277) ++ t278) ++ t279) ++ t280) ++ t281).size + t282.size ≤ 9223372036854775807) = true := decide_eq_true c18
         try have c18b2 : (9223372036854775807 < ((((((t275 ++ t276) ++ t277) ++ t278) ++ t279) ++ t280) ++ t281).size + t282.size) = False := eq_false (Nat.not_lt.2 c18)
         try have c18z2 : (9223372036854775807 < t275.size + t276.size + t277.size + t278.size + t279.size + t280.size + t281.size + t282.size) = False := eq_false (Nat.not_lt.2 (Nat.le_trans (Nat.le_of_eq (by first | rfl | (simp only [ByteArray.size_append]; done) | (simp only [ByteArray.size_append]; rfl))) c18))
         try have c18z1 : decide (t275.size + t276.size + t277.size + t278.size + t279.size + t280.size + t281.size + t282.size ≤ 9223372036854775807) = true := decide_eq_true (Nat.le_trans (Nat.le_of_eq (by first | rfl | (simp only [ByteArray.size_append]; done) | (simp only [ByteArray.size_append]; rfl))) c18)
         replace H := Option.bind_eq_some_iff.mp H
         obtain ⟨t283, A190, H⟩ := H
         try dsimp only at H
         have A19 := Aside0.mk A190
         clear A190
         by_cases c20 : (((((((t275 ++ t276) ++ t277) ++ t278) ++ t279) ++ t280) ++ t281) ++ t282).size + t283.size ≤ 9223372036854775807
         ·rw [if_pos c20] at H
          have c20b0 := eq_true c20
          have c20b1 : decide ((((((((t275 ++ t276) ++ t277) ++ t278) ++ t279) ++ t280) ++ t281) ++ t282).size + t283.size ≤ 9223372036854775807) = true := decide_eq_true c20
          try have c20b2 : (9223372036854775807 < (((((((t275 ++ t276) ++ t277) ++ t278) ++ t279) ++ t280) ++ t281) ++ t282).size + t283.size) = False := eq_false (Nat.not_lt.2 c20)
          try have c20z2 : (9223372036854775807 < t275.size + t276.size + t277.size + t278.size + t279.size + t280.size + t281.size + t282.size + t283.size) = False := eq_false (Nat.not_lt.2 (Nat.le_trans (Nat.le_of_eq (by first | rfl | (simp only [ByteArray.size_append]; done) | (simp only [ByteArray.size_append]; rfl))) c20))
          try have c20z1 : decide (t275.size + t276.size + t277.size + t278.size + t279.size + t280.size + t281.size + t282.size + t283.size ≤ 9223372036854775807) = true := decide_eq_true (Nat.le_trans (Nat.le_of_eq (by first | rfl | (simp only [ByteArray.size_append]; done) | (simp only [ByteArray.size_append]; rfl))) c20)
          replace H := Option.bind_eq_some_iff.mp H
          obtain ⟨t284, A210, H⟩ := H
          try dsimp only at H
          have A21 := Aside0.mk A210
          clear A210
          by_cases c22 : ((((((((t275 ++ t276) ++ t277) ++ t278) ++ t279) ++ t280) ++ t281) ++ t282) ++ t283).size + t284.size ≤ 9223372036854775807
          ·rw [if_pos c22] at H
           have c22b0 := eq_true c22
           have c22b1 : decide (((((((((t275 ++ t276) ++ t277) ++ t278) ++ t279) ++ t280) ++ t281) ++ t282) ++ t283).size + t284.size ≤ 9223372036854775807) = true := decide_eq_true c22
           try have c22b2 : (9223372036854775807 < ((((((((t275 ++ t276) ++ t277) ++ t278) ++ t279) ++ t280) ++ t281) ++ t282) ++ t283).size + t284.size) = False := eq_false (Nat.not_lt.2 c22)
           try have c22z2 : (9223372036854775807 < t275.size + t276.size + t277.size + t278.size + t279.size + t280.size + t281.size + t282.size + t283.size + t284.size) = False := eq_false (Nat.not_lt.2 (Nat.le_trans (Nat.le_of_eq (by first | rfl | (simp only [ByteArray.size_append]; done) | (simp only [ByteArray.size_append]; rfl))) c22))
           try have c22z1 : decide (t275.size + t276.size + t277.size + t278.size + t279.size + t280.size + t281.size + t282.size + t283.size + t284.size ≤ 9223372036854775807) = true := decide_eq_true (Nat.le_trans (Nat.le_of_eq (by first | rfl | (simp only [ByteArray.size_append]; done) | (simp only [ByteArray.size_append]; rfl))) c22)
           obtain rfl := Option.some.inj H
           go_enter Try.func16, Try.ntmps16
           try go_wp2_with (first | ((with_reducible refine gate_dst (N := 1) rfl ?_); refine sqX (N := 1) (cs := #[.int .i64 a0_0, .int .i64 a0_1, .int .i64 a0_2, .int .i64 a0_3, .int .i64 a0_4, .int .i64 a0_5, .int .i64 a0_6, .int .i64 a0_7, .int .i64 a0_8, .int .i64 a0_9]) (t := 27) ?_; intro gb273 hg w23 hbox hb; have BK273 := Aside0.mk (hbox); have GW273 := sqG hg; have GE273 := sqG hg; replace HB := sqS hb; clear hb hbox hg; obtain ⟨hcz24_0, hcz24_1, hcz24_2, hcz24_3, hcz24_4, hcz24_5, hcz24_6, hcz24_7, hcz24_8, hcz24_9, hfz24_0, hfz24_1, hfz24_2, hfz24_3, hfz24_4, hfz24_5, hfz24_6, hfz24_7, hfz24_8, hfz24_9⟩ := sqC10 BK273) | ((with_reducible refine gate_callee (f := 15) rfl ?_); refine goesL_ (some 4) rfl rfl Try.func15 (by kernel_rfl) rfl #[.agg #[.int .i64 a0_0, .int .i64 a0_1, .int .i64 a0_2, .int .i64 a0_3, .int .i64 a0_4, .int .i64 a0_5, .int .i64 a0_6, .int .i64 a0_7, .int .i64 a0_8, .int .i64 a0_9]] rfl sqA ?_; (with_reducible refine (spec_CredOk.calls k a0_0 a0_1 a0_2 a0_3 a0_4 a0_5 a0_6 a0_7 a0_8 a0_9 true _ A2.out).mono ?_); rintro e w25 ⟨rfl, hb⟩; refine ⟨_, rfl, ?_⟩; replace BK273 := sqL BK273 hb; replace HB := sqS hb; (try clear hb); (try clear hb2); (try clear hk); (try clear hi)))
           replace BK273 := Aside0.mk (blk_drew BK273.out); replace HB := Aside0.mk (below_drew1 HB.out)
           refine start_ (n := 46) (S := fun w' => w'.cell? ⟨gb273, 0, none⟩ = some (.int .i64 a0_0) ∧ w'.cell? ⟨gb273, 1, none⟩ = some (.int .i64 a0_1) ∧ w'.cell? ⟨gb273, 2, none⟩ = some (.int .i64 a0_2) ∧ w'.cell? ⟨gb273, 3, none⟩ = some (.int .i64 a0_3) ∧ w'.cell? ⟨gb273, 4, none⟩ = some (.int .i64 a0_4) ∧ w'.cell? ⟨gb273, 5, none⟩ = some (.int .i64 a0_5) ∧ w'.cell? ⟨gb273, 6, none⟩ = some (.int .i64 a0_6) ∧ w'.cell? ⟨gb273, 7, none⟩ = some (.int .i64 a0_7) ∧ w'.cell? ⟨gb273, 8, none⟩ = some (.int .i64 a0_8) ∧ w'.cell? ⟨gb273, 9, none⟩ = some (.int .i64 a0_9)) (ds := []) (sqb 0 46) (by kernel_rfl) rfl rfl sqF (fun hHeld => ?_); refine with_tabW spec_CredText.tab3 spec_CredText.bits3 (fun HT_ HW_ => ?_)
           generalize w25.drew = w26 at BK273 HB hHeld ⊢
           refine sqP (i := 0) (N := some 6) (sqb 1 45) rfl rfl (any_of HT_.out (by kernel_rfl)) ?_
           refine sqP (i := 3) (N := some 9) (sqr [1, 2, 1, 42]) rfl rfl (any_of HT_.out (by kernel_rfl)) ?_
           refine sqP (i := 4) (N := some 10) (sqr [1, 2, 2, 41]) rfl rfl (any_of HT_.out (by kernel_rfl)) ?_
           refine sqP (i := 8) (N := some 14) (sqr [1, 2, 2, 3, 1, 37]) rfl rfl (any_of HT_.out (by kernel_rfl)) ?_
           refine sqP (i := 9) (N := some 15) (sqr [1, 2, 2, 3, 2, 36]) rfl rfl (any_of HT_.out (by kernel_rfl)) ?_
           refine sqP (i := 13) (N := some 19) (sqr [1, 2, 2, 3, 2, 3, 1, 32]) rfl rfl (any_of HT_.out (by kernel_rfl)) ?_
           refine sqP (i := 17) (N := some 23) (sqr [1, 2, 2, 3, 2, 3, 1, 3, 1, 28]) rfl rfl (any_of HT_.out (by kernel_rfl)) ?_
           refine sqP (i := 18) (N := some 24) (sqr [1, 2, 2, 3, 2, 3, 1, 3, 2, 27]) rfl rfl (any_of HT_.out (by kernel_rfl)) ?_
           refine sqP (i := 22) (N := some 28) (sqr [1, 2, 2, 3, 2, 3, 1, 3, 2, 3, 1, 23]) rfl rfl (any_of HT_.out (by kernel_rfl)) ?_
           refine sqP (i := 23) (N := some 29) (sqr [1, 2, 2, 3, 2, 3, 1, 3, 2, 3, 2, 22]) rfl rfl (any_of HT_.out (by kernel_rfl)) ?_
           refine sqP (i := 27) (N := some 33) (sqr [1, 2, 2, 3, 2, 3, 1, 3, 2, 3, 2, 3, 1, 18]) rfl rfl (any_of HT_.out (by kernel_rfl)) ?_
           refine sqP (i := 28) (N := some 34) (sqr [1, 2, 2, 3, 2, 3, 1, 3, 2, 3, 2, 3, 2, 17]) rfl rfl (any_of HT_.out (by kernel_rfl)) ?_
           refine sqP (i := 32) (N := some 38) (sqr [1, 2, 2, 3, 2, 3, 1, 3, 2, 3, 2, 3, 2, 3, 1, 13]) rfl rfl (any_of HT_.out (by kernel_rfl)) ?_
           refine sqP (i := 33) (N := some 39) (sqr [1, 2, 2, 3, 2, 3, 1, 3, 2, 3, 2, 3, 2, 3, 2, 12]) rfl rfl (any_of HT_.out (by kernel_rfl)) ?_
           refine sqP (i := 37) (N := some 43) (sqr [1, 2, 2, 3, 2, 3, 1, 3, 2, 3, 2, 3, 2, 3, 2, 3, 1, 8]) rfl rfl (any_of HT_.out (by kernel_rfl)) ?_
           refine sqP (i := 41) (N := some 47) (sqr [1, 2, 2, 3, 2, 3, 1, 3, 2, 3, 2, 3, 2, 3, 2, 3, 1, 3, 1, 4]) rfl rfl (any_of HT_.out (by kernel_rfl)) ?_
           refine sqTk (i := 1) (N := some 7) (sqr [2, 1, 2, 3, 2, 3, 1, 3, 2, 3, 2, 3, 2, 3, 2, 3, 1, 3, 1, 4]) rfl rfl (take_ofW HT_.out HW_.out (by kernel_rfl)) hHeld ?_
           refine sqTk (i := 5) (N := some 11) (sqr [2, 1, 3, 2, 2, 3, 1, 3, 2, 3, 2, 3, 2, 3, 2, 3, 1, 3, 1, 4]) rfl rfl (take_ofW HT_.out HW_.out (by kernel_rfl)) hHeld ?_
           refine sqTk (i := 10) (N := some 16) (sqr [2, 1, 3, 2, 3, 2, 1, 3, 2, 3, 2, 3, 2, 3, 2, 3, 1, 3, 1, 4]) rfl rfl (take_ofW HT_.out HW_.out (by kernel_rfl)) hHeld ?_
           refine sqTk (i := 14) (N := some 20) (sqr [2, 1, 3, 2, 3, 2, 2, 2, 2, 3, 2, 3, 2, 3, 2, 3, 1, 3, 1, 4]) rfl rfl (take_ofW HT_.out HW_.out (by kernel_rfl)) hHeld ?_
           refine sqTk (i := 19) (N := some 25) (sqr [2, 1, 3, 2, 3, 2, 2, 2, 3, 2, 2, 3, 2, 3, 2, 3, 1, 3, 1, 4]) rfl rfl (take_ofW HT_.out HW_.out (by kernel_rfl)) hHeld ?_
           refine sqTk (i := 24) (N := some 30) (sqr [2, 1, 3, 2, 3, 2, 2, 2, 3, 2, 3, 2, 2, 3, 2, 3, 1, 3, 1, 4]) rfl rfl (take_ofW HT_.out HW_.out (by kernel_rfl)) hHeld ?_
           refine sqTk (i := 29) (N := some 35) (sqr [2, 1, 3, 2, 3, 2, 2, 2, 3, 2, 3, 2, 3, 2, 2, 3, 1, 3, 1, 4]) rfl rfl (take_ofW HT_.out HW_.out (by kernel_rfl)) hHeld ?_
           refine sqTk (i := 34) (N := some 40) (sqr [2, 1, 3, 2, 3, 2, 2, 2, 3, 2, 3, 2, 3, 2, 3, 2, 1, 3, 1, 4]) rfl rfl (take_ofW HT_.out HW_.out (by kernel_rfl)) hHeld ?_
           refine sqTk (i := 38) (N := some 44) (sqr [2, 1, 3, 2, 3, 2, 2, 2, 3, 2, 3, 2, 3, 2, 3, 2, 2, 2, 1, 4]) rfl rfl (take_ofW HT_.out HW_.out (by kernel_rfl)) hHeld ?_
           refine sqTk (i := 42) (N := some 48) (sqr [2, 1, 3, 2, 3, 2, 2, 2, 3, 2, 3, 2, 3, 2, 3, 2, 2, 2, 2, 3]) rfl rfl (take_ofW HT_.out HW_.out (by kernel_rfl)) hHeld ?_
           refine one_ (i := 2) (N := some 8) (sqr [6, 2, 3, 2, 2, 2, 3, 2, 3, 2, 3, 2, 3, 2, 2, 2, 2, 3]) rfl rfl (one_of HT_.out (by kernel_rfl)) (by decide) (fun K hK => ?_)
           refine goes_ Try.func35 (by kernel_rfl) rfl #[.int .i64 a0_0] (by rfl) rfl rfl sqA ?_
           with_reducible refine (spec_l01Var.calls k a0_0 t275 _ A4.out).mono ?_
           rintro e w27 ⟨rfl, hb⟩
           refine ⟨_, rfl, ?_⟩
           replace BK273 := sqL BK273 hb; replace HB := sqS hb
           (try clear hb)
           (try clear hb2)
           (try clear hk)
           (try clear hi)
           refine hK.out _ _ sqF (fun hHeld => ?_)
           clear hK K
           refine sqV (N := some 8) ?_
           refine one_ (i := 6) (N := some 12) (sqr [7, 1, 3, 2, 2, 2, 3, 2, 3, 2, 3, 2, 3, 2, 2, 2, 2, 3]) rfl rfl (one_of HT_.out (by kernel_rfl)) (by decide) (fun K hK => ?_)
           refine goes_ Try.func35 (by kernel_rfl) rfl #[.int .i64 a0_1] (by rfl) rfl rfl sqA ?_
           with_reducible refine (spec_l01Var.calls k a0_1 t276 _ A5.out).mono ?_
           rintro e w28 ⟨rfl, hb⟩
           refine ⟨_, rfl, ?_⟩
           replace BK273 := sqL BK273 hb; replace HB := sqS hb
           (try clear hb)
           (try clear hb2)
           (try clear hk)
           (try clear hi)
           refine hK.out _ _ sqF (fun hHeld => ?_)
           clear hK K
           refine sqV (N := some 12) ?_
           refine sqP (i := 7) (N := some 13) (sqr [11, 2, 2, 2, 3, 2, 3, 2, 3, 2, 3, 2, 2, 2, 2, 3]) rfl rfl (any_of HT_.out (by kernel_rfl)) ?_
           refine one_ (i := 11) (N := some 17) (sqr [12, 1, 2, 2, 3, 2, 3, 2, 3, 2, 3, 2, 2, 2, 2, 3]) rfl rfl (one_of HT_.out (by kernel_rfl)) (by decide) (fun K hK => ?_)
           refine goes_ Try.func35 (by kernel_rfl) rfl #[.int .i64 a0_2] (by rfl) rfl rfl sqA ?_
           with_reducible refine (spec_l01Var.calls k a0_2 t277 _ A7.out).mono ?_
           rintro e w29 ⟨rfl, hb⟩
           refine ⟨_, rfl, ?_⟩
           replace BK273 := sqL BK273 hb; replace HB := sqS hb
           (try clear hb)
           (try clear hb2)
           (try clear hk)
           (try clear hi)
           refine hK.out _ _ sqF (fun hHeld => ?_)
           clear hK K
           refine sqV (N := some 17) ?_
           refine sqP (i := 12) (N := some 18) (sqr [15, 2, 3, 2, 3, 2, 3, 2, 3, 2, 2, 2, 2, 3]) rfl rfl (any_of HT_.out (by kernel_rfl)) ?_
           refine one_ (i := 15) (N := some 21) (sqr [16, 1, 3, 2, 3, 2, 3, 2, 3, 2, 2, 2, 2, 3]) rfl rfl (one_of HT_.out (by kernel_rfl)) (by decide) (fun K hK => ?_)
           refine goes_ Try.func35 (by kernel_rfl) rfl #[.int .i64 a0_3] (by rfl) rfl rfl sqA ?_
           with_reducible refine (spec_l01Var.calls k a0_3 t278 _ A9.out).mono ?_
           rintro e w30 ⟨rfl, hb⟩
           refine ⟨_, rfl, ?_⟩
           replace BK273 := sqL BK273 hb; replace HB := sqS hb
           (try clear hb)
           (try clear hb2)
           (try clear hk)
           (try clear hi)
           refine hK.out _ _ sqF (fun hHeld => ?_)
           clear hK K
           refine sqV (N := some 21) ?_
           refine sqP (i := 16) (N := some 22) (sqr [20, 2, 3, 2, 3, 2, 3, 2, 2, 2, 2, 3]) rfl rfl (any_of HT_.out (by kernel_rfl)) ?_
           refine one_ (i := 20) (N := some 26) (sqr [21, 1, 3, 2, 3, 2, 3, 2, 2, 2, 2, 3]) rfl rfl (one_of HT_.out (by kernel_rfl)) (by decide) (fun K hK => ?_)
           refine goes_ Try.func35 (by kernel_rfl) rfl #[.int .i64 a0_4] (by rfl) rfl rfl sqA ?_
           with_reducible refine (spec_l01Var.calls k a0_4 t279 _ A11.out).mono ?_
           rintro e w31 ⟨rfl, hb⟩
           refine ⟨_, rfl, ?_⟩
           replace BK273 := sqL BK273 hb; replace HB := sqS hb
           (try clear hb)
           (try clear hb2)
           (try clear hk)
           (try clear hi)
           refine hK.out _ _ sqF (fun hHeld => ?_)
           clear hK K
           refine sqV (N := some 26) ?_
           refine sqP (i := 21) (N := some 27) (sqr [25, 2, 3, 2, 3, 2, 2, 2, 2, 3]) rfl rfl (any_of HT_.out (by kernel_rfl)) ?_
           refine one_ (i := 25) (N := some 31) (sqr [26, 1, 3, 2, 3, 2, 2, 2, 2, 3]) rfl rfl (one_of HT_.out (by kernel_rfl)) (by decide) (fun K hK => ?_)
           refine goes_ Try.func35 (by kernel_rfl) rfl #[.int .i64 a0_5] (by rfl) rfl rfl sqA ?_
           with_reducible refine (spec_l01Var.calls k a0_5 t280 _ A13.out).mono ?_
           rintro e w32 ⟨rfl, hb⟩
           refine ⟨_, rfl, ?_⟩
           replace BK273 := sqL BK273 hb; replace HB := sqS hb
           (try clear hb)
           (try clear hb2)
           (try clear hk)
           (try clear hi)
           refine hK.out _ _ sqF (fun hHeld => ?_)
           clear hK K
           refine sqV (N := some 31) ?_
           refine sqP (i := 26) (N := some 32) (sqr [30, 2, 3, 2, 2, 2, 2, 3]) rfl rfl (any_of HT_.out (by kernel_rfl)) ?_
           refine one_ (i := 30) (N := some 36) (sqr [31, 1, 3, 2, 2, 2, 2, 3]) rfl rfl (one_of HT_.out (by kernel_rfl)) (by decide) (fun K hK => ?_)
           refine goes_ Try.func35 (by kernel_rfl) rfl #[.int .i64 a0_6] (by rfl) rfl rfl sqA ?_
           with_reducible refine (spec_l01Var.calls k a0_6 t281 _ A15.out).mono ?_
           rintro e w33 ⟨rfl, hb⟩
           refine ⟨_, rfl, ?_⟩
           replace BK273 := sqL BK273 hb; replace HB := sqS hb
           (try clear hb)
           (try clear hb2)
           (try clear hk)
           (try clear hi)
           refine hK.out _ _ sqF (fun hHeld => ?_)
           clear hK K
           refine sqV (N := some 36) ?_
           refine sqP (i := 31) (N := some 37) (sqr [35, 2, 2, 2, 2, 3]) rfl rfl (any_of HT_.out (by kernel_rfl)) ?_
           refine one_ (i := 35) (N := some 41) (sqr [36, 1, 2, 2, 2, 3]) rfl rfl (one_of HT_.out (by kernel_rfl)) (by decide) (fun K hK => ?_)
           refine goes_ Try.func35 (by kernel_rfl) rfl #[.int .i64 a0_7] (by rfl) rfl rfl sqA ?_
           with_reducible refine (spec_l01Var.calls k a0_7 t282 _ A17.out).mono ?_
           rintro e w34 ⟨rfl, hb⟩
           refine ⟨_, rfl, ?_⟩
           replace BK273 := sqL BK273 hb; replace HB := sqS hb
           (try clear hb)
           (try clear hb2)
           (try clear hk)
           (try clear hi)
           refine hK.out _ _ sqF (fun hHeld => ?_)
           clear hK K
           refine sqV (N := some 41) ?_
           refine sqP (i := 36) (N := some 42) (sqr [39, 2, 2, 3]) rfl rfl (any_of HT_.out (by kernel_rfl)) ?_
           refine one_ (i := 39) (N := some 45) (sqr [40, 1, 2, 3]) rfl rfl (one_of HT_.out (by kernel_rfl)) (by decide) (fun K hK => ?_)
           refine goes_ Try.func35 (by kernel_rfl) rfl #[.int .i64 a0_8] (by rfl) rfl rfl sqA ?_
           with_reducible refine (spec_l01Var.calls k a0_8 t283 _ A19.out).mono ?_
           rintro e w35 ⟨rfl, hb⟩
           refine ⟨_, rfl, ?_⟩
           replace BK273 := sqL BK273 hb; replace HB := sqS hb
           (try clear hb)
           (try clear hb2)
           (try clear hk)
           (try clear hi)
           refine hK.out _ _ sqF (fun hHeld => ?_)
           clear hK K
           refine sqV (N := some 45) ?_
           refine sqP (i := 40) (N := some 46) (sqb 43 3) rfl rfl (any_of HT_.out (by kernel_rfl)) ?_
           refine one_ (i := 43) (N := some 49) (sqb 44 2) rfl rfl (one_of HT_.out (by kernel_rfl)) (by decide) (fun K hK => ?_)
           refine goes_ Try.func35 (by kernel_rfl) rfl #[.int .i64 a0_9] (by rfl) rfl rfl sqA ?_
           with_reducible refine (spec_l01Var.calls k a0_9 t284 _ A21.out).mono ?_
           rintro e w36 ⟨rfl, hb⟩
           refine ⟨_, rfl, ?_⟩
           replace BK273 := sqL BK273 hb; replace HB := sqS hb
           (try clear hb)
           (try clear hb2)
           (try clear hk)
           (try clear hi)
           refine hK.out _ _ sqF (fun hHeld => ?_)
           clear hK K
           refine sqV (N := some 49) ?_
           refine sqP (i := 44) (N := some 50) (sqb 45 1) rfl rfl (any_of HT_.out (by kernel_rfl)) ?_
           refine sqP (i := 45) (N := some 2) (sqb 46 0) rfl rfl (any_of HT_.out (by kernel_rfl)) ?_
           refine done_ (done_of HT_.out (by kernel_rfl)) ?_
           try go_wp2
           go_ret
           exact ⟨sqE, sqB⟩
          ·rw [if_neg c22] at H
           exact absurd H (by simp)
         ·rw [if_neg c20] at H
          exact absurd H (by simp)
        ·rw [if_neg c18] at H
         exact absurd H (by simp)
       ·rw [if_neg c16] at H
        exact absurd H (by simp)
      ·rw [if_neg c14] at H
       exact absurd H (by simp)
     ·rw [if_neg c12] at H
      exact absurd H (by simp)
    ·rw [if_neg c10] at H
     exact absurd H (by simp)
   ·rw [if_neg c8] at H
    exact absurd H (by simp)
  ·rw [if_neg c6] at H
   exact absurd H (by simp)
 ·replace c3 := Bool.eq_false_iff.mpr c3
  subst c3
  rw [if_neg (show ¬ (false = true) by decide)] at H
  obtain rfl := Option.some.inj H
  go_enter Try.func16, Try.ntmps16
  go_wp2_with (first | ((with_reducible refine gate_dst (N := 1) rfl ?_); refine sqX (N := 1) (cs := #[.int .i64 a0_0, .int .i64 a0_1, .int .i64 a0_2, .int .i64 a0_3, .int .i64 a0_4, .int .i64 a0_5, .int .i64 a0_6, .int .i64 a0_7, .int .i64 a0_8, .int .i64 a0_9]) (t := 27) ?_; intro gb273 hg w37 hbox hb; have BK273 := Aside0.mk (hbox); have GW273 := sqG hg; have GE273 := sqG hg; replace HB := sqS hb; clear hb hbox hg; obtain ⟨hcz38_0, hcz38_1, hcz38_2, hcz38_3, hcz38_4, hcz38_5, hcz38_6, hcz38_7, hcz38_8, hcz38_9, hfz38_0, hfz38_1, hfz38_2, hfz38_3, hfz38_4, hfz38_5, hfz38_6, hfz38_7, hfz38_8, hfz38_9⟩ := sqC10 BK273) | ((with_reducible refine gate_callee (f := 15) rfl ?_); refine goesL_ (some 4) rfl rfl Try.func15 (by kernel_rfl) rfl #[.agg #[.int .i64 a0_0, .int .i64 a0_1, .int .i64 a0_2, .int .i64 a0_3, .int .i64 a0_4, .int .i64 a0_5, .int .i64 a0_6, .int .i64 a0_7, .int .i64 a0_8, .int .i64 a0_9]] rfl sqA ?_; (with_reducible refine (spec_CredOk.calls k a0_0 a0_1 a0_2 a0_3 a0_4 a0_5 a0_6 a0_7 a0_8 a0_9 false _ A2.out).mono ?_); rintro e w39 ⟨rfl, hb⟩; refine ⟨_, rfl, ?_⟩; replace BK273 := sqL BK273 hb; replace HB := sqS hb; (try clear hb); (try clear hb2); (try clear hk); (try clear hi)))
  go_ret
  exact ⟨sqE, sqB⟩

/-! ### spec_l05Any: function 26 -/
def spec_l05Any.f (s0_0 : List Int) (s0_1 : Int) (s0_2 : Int) : Option (Int × Int × Int × Int × Int × Int × Int × Int × Int × Int × Int × Int) := (spec_l01Below.f s0_0 s0_1 s0_2 10).bind fun bt286 => ((spec_l01Below.f s0_0 bt286.2.1 bt286.2.2 60).bind fun bt289 => ((spec_l05Cred.f s0_0 bt289.2.1 bt289.2.2).bind fun bt292 => (if bt286.1 = 0 then (some (Int.tmod bt289.1 6, bt292.2.1, bt292.2.2.1, bt292.2.2.2.1, bt292.2.2.2.2.1, bt292.2.2.2.2.2.1, bt292.2.2.2.2.2.2.1, bt292.2.2.2.2.2.2.2.1, bt292.2.2.2.2.2.2.2.2.1, bt292.2.2.2.2.2.2.2.2.2.1, bt292.2.2.2.2.2.2.2.2.2.2.1, bt292.2.2.2.2.2.2.2.2.2.2.2)) else (if bt286.1 = 1 then (some (bt292.1, bt292.2.1, bt292.2.2.1, wrap64 ((Int.tmod bt289.1 9) - 1), bt292.2.2.2.2.1, bt292.2.2.2.2.2.1, bt292.2.2.2.2.2.2.1, bt292.2.2.2.2.2.2.2.1, bt292.2.2.2.2.2.2.2.2.1, bt292.2.2.2.2.2.2.2.2.2.1, bt292.2.2.2.2.2.2.2.2.2.2.1, bt292.2.2.2.2.2.2.2.2.2.2.2)) else (if bt286.1 = 2 then (some (bt292.1, bt292.2.1, bt292.2.2.1, bt292.2.2.2.1, Int.tmod bt289.1 8, Int.tmod bt289.1 5, bt292.2.2.2.2.2.2.1, bt292.2.2.2.2.2.2.2.1, bt292.2.2.2.2.2.2.2.2.1, bt292.2.2.2.2.2.2.2.2.2.1, bt292.2.2.2.2.2.2.2.2.2.2.1, bt292.2.2.2.2.2.2.2.2.2.2.2)) else (if bt286.1 = 3 then (some (bt292.1, bt292.2.1, bt292.2.2.1, bt292.2.2.2.1, bt292.2.2.2.2.1, bt292.2.2.2.2.2.1, Int.tmod bt289.1 3, bt292.2.2.2.2.2.2.2.1, bt292.2.2.2.2.2.2.2.2.1, bt292.2.2.2.2.2.2.2.2.2.1, bt292.2.2.2.2.2.2.2.2.2.2.1, bt292.2.2.2.2.2.2.2.2.2.2.2)) else (if bt286.1 = 4 then ((some (([0, 10000, 1] : List Int) : List Int)).bind fun y305 => (if 0 ≤ (Int.tmod bt289.1 3) then (if (Int.tmod bt289.1 3) < (y305.length : Int) then (some (bt292.1, bt292.2.1, bt292.2.2.1, bt292.2.2.2.1, bt292.2.2.2.2.1, bt292.2.2.2.2.2.1, bt292.2.2.2.2.2.2.1, bt292.2.2.2.2.2.2.2.1, rd y305 (Int.tmod bt289.1 3), bt292.2.2.2.2.2.2.2.2.2.1, bt292.2.2.2.2.2.2.2.2.2.2.1, bt292.2.2.2.2.2.2.2.2.2.2.2)) else (none)) else (none))) else (some (bt292.1, bt292.2.1, bt292.2.2.1, bt292.2.2.2.1, bt292.2.2.2.2.1, bt292.2.2.2.2.2.1, bt292.2.2.2.2.2.2.1, bt292.2.2.2.2.2.2.2.1, bt292.2.2.2.2.2.2.2.2.1, bt292.2.2.2.2.2.2.2.2.2.1, bt292.2.2.2.2.2.2.2.2.2.2.1, bt292.2.2.2.2.2.2.2.2.2.2.2)))))))))
set_option maxHeartbeats 8000000 in
set_option maxRecDepth 100000 in
theorem spec_l05Any.calls (g : Nat) (s0_0 : List Int) (s0_1 : Int) (s0_2 : Int) (r1 : Int) (r2 : Int) (r3 : Int) (r4 : Int) (r5 : Int) (r6 : Int) (r7 : Int) (r8 : Int) (r9 : Int) (r10 : Int) (r11 : Int) (r12 : Int) (w0 w : World) (hI : IsS58 w0 w g s0_0 s0_1 s0_2) (hB : Below w0.heap.size w0 w) (h : spec_l05Any.f s0_0 s0_1 s0_2 = some (r1, r2, r3, r4, r5, r6, r7, r8, r9, r10, r11, r12)) :
  Calls Try.prog 26 #[.pointer (some ⟨g, 0, none⟩)] w fun e w' => e = .returned (.agg #[.int .i64 r1, .int .i64 r2, .int .i64 r3, .int .i64 r4, .int .i64 r5, .int .i64 r6, .int .i64 r7, .int .i64 r8, .int .i64 r9, .int .i64 r10]) ∧ IsS58 w0 w' g s0_0 r11 r12 ∧ Below w0.heap.size w0 w' ∧ KeepBut w w' g none := by
 have hu27 := Try.underlying27
 have hu25 := Try.underlying25
 have HI0 := Aside0.mk hI
 have HK := Aside0.mk (KeepBut.refl w g none)
 have HL := Aside0.mk hB.size
 clear hI
 have HW0 := Aside0.mk hB.size
 have HB := Aside0.mk hB
 clear hB
 have H : ((spec_l01Below.f s0_0 s0_1 s0_2 10).bind fun bt286 => ((spec_l01Below.f s0_0 bt286.2.1 bt286.2.2 60).bind fun bt289 => ((spec_l05Cred.f s0_0 bt289.2.1 bt289.2.2).bind fun bt292 => (if bt286.1 = 0 then (some (Int.tmod bt289.1 6, bt292.2.1, bt292.2.2.1, bt292.2.2.2.1, bt292.2.2.2.2.1, bt292.2.2.2.2.2.1, bt292.2.2.2.2.2.2.1, bt292.2.2.2.2.2.2.2.1, bt292.2.2.2.2.2.2.2.2.1, bt292.2.2.2.2.2.2.2.2.2.1, bt292.2.2.2.2.2.2.2.2.2.2.1, bt292.2.2.2.2.2.2.2.2.2.2.2)) else (if bt286.1 = 1 then (some (bt292.1, bt292.2.1, bt292.2.2.1, wrap64 ((Int.tmod bt289.1 9) - 1), bt292.2.2.2.2.1, bt292.2.2.2.2.2.1, bt292.2.2.2.2.2.2.1, bt292.2.2.2.2.2.2.2.1, bt292.2.2.2.2.2.2.2.2.1, bt292.2.2.2.2.2.2.2.2.2.1, bt292.2.2.2.2.2.2.2.2.2.2.1, bt292.2.2.2.2.2.2.2.2.2.2.2)) else (if bt286.1 = 2 then (some (bt292.1, bt292.2.1, bt292.2.2.1, bt292.2.2.2.1, Int.tmod bt289.1 8, Int.tmod bt289.1 5, bt292.2.2.2.2.2.2.1, bt292.2.2.2.2.2.2.2.1, bt292.2.2.2.2.2.2.2.2.1, bt292.2.2.2.2.2.2.2.2.2.1, bt292.2.2.2.2.2.2.2.2.2.2.1, bt292.2.2.2.2.2.2.2.2.2.2.2)) else (if bt286.1 = 3 then (some (bt292.1, bt292.2.1, bt292.2.2.1, bt292.2.2.2.1, bt292.2.2.2.2.1, bt292.2.2.2.2.2.1, Int.tmod bt289.1 3, bt292.2.2.2.2.2.2.2.1, bt292.2.2.2.2.2.2.2.2.1, bt292.2.2.2.2.2.2.2.2.2.1, bt292.2.2.2.2.2.2.2.2.2.2.1, bt292.2.2.2.2.2.2.2.2.2.2.2)) else (if bt286.1 = 4 then ((some (([0, 10000, 1] : List Int) : List Int)).bind fun y305 => (if 0 ≤ (Int.tmod bt289.1 3) then (if (Int.tmod bt289.1 3) < (y305.length : Int) then (some (bt292.1, bt292.2.1, bt292.2.2.1, bt292.2.2.2.1, bt292.2.2.2.2.1, bt292.2.2.2.2.2.1, bt292.2.2.2.2.2.2.1, bt292.2.2.2.2.2.2.2.1, rd y305 (Int.tmod bt289.1 3), bt292.2.2.2.2.2.2.2.2.2.1, bt292.2.2.2.2.2.2.2.2.2.2.1, bt292.2.2.2.2.2.2.2.2.2.2.2)) else (none)) else (none))) else (some (bt292.1, bt292.2.1, bt292.2.2.1, bt292.2.2.2.1, bt292.2.2.2.2.1, bt292.2.2.2.2.2.1, bt292.2.2.2.2.2.2.1, bt292.2.2.2.2.2.2.2.1, bt292.2.2.2.2.2.2.2.2.1, bt292.2.2.2.2.2.2.2.2.2.1, bt292.2.2.2.2.2.2.2.2.2.2.1, bt292.2.2.2.2.2.2.2.2.2.2.2)))))))))) = some (r1, r2, r3, r4, r5, r6, r7, r8, r9, r10, r11, r12) := h
 clear h
 replace H := Option.bind_eq_some_iff.mp H
 obtain ⟨⟨t286, t287, t288⟩, A20, H⟩ := H
 try dsimp only at H
 have A2 := Aside0.mk A20
 clear A20
 replace H := Option.bind_eq_some_iff.mp H
 obtain ⟨⟨t289, t290, t291⟩, A30, H⟩ := H
 try dsimp only at H
 have A3 := Aside0.mk A30
 clear A30
 replace H := Option.bind_eq_some_iff.mp H
 obtain ⟨⟨t292, t293, t294, t295, t296, t297, t298, t299, t300, t301, t302, t303⟩, A40, H⟩ := H
 try dsimp only at H
 have A4 := Aside0.mk A40
 clear A40
 by_cases c5 : t286 = 0
 ·rw [if_pos c5] at H
  have c5b0 : (t286 == 0) = true := beq_iff_eq.mpr c5
  have c5b1 : (t286 != 0) = false := bne_eq_false_iff_eq.mpr c5
  clear c5
  simp only [Option.some.injEq, Prod.mk.injEq] at H
  obtain ⟨rfl, rfl, rfl, rfl, rfl, rfl, rfl, rfl, rfl, rfl, rfl, rfl⟩ := H
  go_enter Try.func26, Try.ntmps26
  go_wp2_with (first | ((with_reducible refine gate_dst (N := 2) rfl ?_); refine sqX (N := 2) (cs := #[.int .i64 0, .int .i64 0, .int .i64 0, .int .i64 0, .int .i64 0, .int .i64 0, .int .i64 0, .int .i64 0, .int .i64 0, .int .i64 0]) (t := 27) ?_; intro gb285 hg w6 hbox hb; have BK285 := Aside0.mk (hbox); have GW285 := sqU1 HK hg; have GE285 := sqU2 HW0 HK hg; replace HK := sqT HK hb; have NB0_285 := sqU3 hg (IsS58.lt (show IsS58 w0 _ g s0_0 s0_1 s0_2 from sqI58 HI0)); have NB285_0 := sqU4 hg (IsS58.lt (show IsS58 w0 _ g s0_0 s0_1 s0_2 from sqI58 HI0)); replace HI0 := Aside0.mk (IsS58.below (sqI58 HI0) hb); replace HB := sqS hb; clear hb hbox hg) | ((with_reducible refine gate_callee (f := 39) rfl ?_); refine goesL_ (some 7) rfl rfl Try.func39 (by kernel_rfl) rfl #[.pointer (some ⟨g, 0, none⟩), .int .i64 10] rfl sqA ?_; (with_reducible refine (spec_l01Below.calls g s0_0 s0_1 s0_2 10 t286 t287 t288 w0 _ ?side1 ?side2 A2.out).mono ?_); (case side1 => exact sqI58 HI0); (case side2 => exact sqB); rintro e w7 ⟨rfl, hi, hb, hk⟩; refine ⟨_, rfl, ?_⟩; replace BK285 := Aside0.mk (KeepBut.blk hk (g' := gb285) (o := .cells #[.int .i64 0, .int .i64 0, .int .i64 0, .int .i64 0, .int .i64 0, .int .i64 0, .int .i64 0, .int .i64 0, .int .i64 0, .int .i64 0] 27 (0, 0)) (sqK BK285) NB285_0.out (by simp)); replace HK := Aside0.mk (KeepBut.trans (sqQ HK) hk (.inl rfl)); replace HI0 := Aside0.mk (hi); replace HB := Aside0.mk (hb); (try clear hb); (try clear hb2); (try clear hk); (try clear hi)) | ((with_reducible refine gate_callee (f := 39) rfl ?_); refine goesL_ (some 9) rfl rfl Try.func39 (by kernel_rfl) rfl #[.pointer (some ⟨g, 0, none⟩), .int .i64 60] rfl sqA ?_; (with_reducible refine (spec_l01Below.calls g s0_0 t287 t288 60 t289 t290 t291 w0 _ ?side1 ?side2 A3.out).mono ?_); (case side1 => exact sqI58 HI0); (case side2 => exact sqB); rintro e w8 ⟨rfl, hi, hb, hk⟩; refine ⟨_, rfl, ?_⟩; replace BK285 := Aside0.mk (KeepBut.blk hk (g' := gb285) (o := .cells #[.int .i64 0, .int .i64 0, .int .i64 0, .int .i64 0, .int .i64 0, .int .i64 0, .int .i64 0, .int .i64 0, .int .i64 0, .int .i64 0] 27 (0, 0)) (sqK BK285) NB285_0.out (by simp)); replace HK := Aside0.mk (KeepBut.trans (sqQ HK) hk (.inl rfl)); replace HI0 := Aside0.mk (hi); replace HB := Aside0.mk (hb); (try clear hb); (try clear hb2); (try clear hk); (try clear hi)) | ((with_reducible refine gate_callee (f := 22) rfl ?_); refine goesL_ (some 11) rfl rfl Try.func22 (by kernel_rfl) rfl #[.pointer (some ⟨g, 0, none⟩)] rfl sqA ?_; (with_reducible refine (spec_l05Cred.calls g s0_0 t290 t291 t292 t293 t294 t295 t296 t297 t298 t299 t300 t301 t302 t303 w0 _ ?side1 ?side2 A4.out).mono ?_); (case side1 => exact sqI58 HI0); (case side2 => exact sqB); rintro e w9 ⟨rfl, hi, hb, hk⟩; refine ⟨_, rfl, ?_⟩; replace BK285 := Aside0.mk (KeepBut.blk hk (g' := gb285) (o := .cells #[.int .i64 0, .int .i64 0, .int .i64 0, .int .i64 0, .int .i64 0, .int .i64 0, .int .i64 0, .int .i64 0, .int .i64 0, .int .i64 0] 27 (0, 0)) (sqK BK285) NB285_0.out (by simp)); replace HK := Aside0.mk (KeepBut.trans (sqQ HK) hk (.inl rfl)); replace HI0 := Aside0.mk (hi); replace HB := Aside0.mk (hb); (try clear hb); (try clear hb2); (try clear hk); (try clear hi)) | ((with_reducible refine gate_dst (N := 5) rfl ?_); refine sqX (N := 5) (cs := #[.int .i64 0, .int .i64 0, .int .i64 0, .int .i64 0, .int .i64 0, .int .i64 0, .int .i64 0, .int .i64 0, .int .i64 0, .int .i64 0]) (t := 27) ?_; intro gb304 hg w10 hbox hb; have BK304 := Aside0.mk (hbox); have GW304 := sqU1 HK hg; have GE304 := sqU2 HW0 HK hg; replace HK := sqT HK hb; have NB285_304 := sqN BK285 hg; have NB304_285 := sqM BK285 hg; replace BK285 := sqL BK285 hb; have NB0_304 := sqU3 hg (IsS58.lt (show IsS58 w0 _ g s0_0 t302 t303 from sqI58 HI0)); have NB304_0 := sqU4 hg (IsS58.lt (show IsS58 w0 _ g s0_0 t302 t303 from sqI58 HI0)); replace HI0 := Aside0.mk (IsS58.below (sqI58 HI0) hb); replace HB := sqS hb; clear hb hbox hg; have hnb11 := NB304_285.out; have hnc11 := NB285_304.out; have hnb12 := NB304_0.out; have hnc12 := NB0_304.out; obtain ⟨hcz13_0, hcz13_1, hcz13_2, hcz13_3, hcz13_4, hcz13_5, hcz13_6, hcz13_7, hcz13_8, hcz13_9, hfz13_0, hfz13_1, hfz13_2, hfz13_3, hfz13_4, hfz13_5, hfz13_6, hfz13_7, hfz13_8, hfz13_9⟩ := sqC10 BK304; have hnb14 := NB285_0.out; have hnc14 := NB0_285.out; obtain ⟨hcz15_0, hcz15_1, hcz15_2, hcz15_3, hcz15_4, hcz15_5, hcz15_6, hcz15_7, hcz15_8, hcz15_9, hfz15_0, hfz15_1, hfz15_2, hfz15_3, hfz15_4, hfz15_5, hfz15_6, hfz15_7, hfz15_8, hfz15_9⟩ := sqC10 BK285) | ((with_reducible refine gate_dst (N := 46) rfl ?_); refine wpList_load_row rfl 27 (.tmp 5) rfl gb304 rfl 27 #[.int .i64 (Int.tmod t289 6), .int .i64 t293, .int .i64 t294, .int .i64 t295, .int .i64 t296, .int .i64 t297, .int .i64 t298, .int .i64 t299, .int .i64 t300, .int .i64 t301] (0, 0) _ (sqW BK304) Try.underlying27 rfl (by kernel_rfl) ?_))
  refine bodyPost_ret (results_cell_row rfl _ _ gb285 27 #[.int .i64 (Int.tmod t289 6), .int .i64 t293, .int .i64 t294, .int .i64 t295, .int .i64 t296, .int .i64 t297, .int .i64 t298, .int .i64 t299, .int .i64 t300, .int .i64 t301] (0, 0) _ rfl (sqW BK285) Try.underlying27 rfl (by kernel_rfl)) rfl ?_
  exact ⟨sqE, sqI58 HI0, sqB, sqQ HK⟩
 ·rw [if_neg c5] at H
  have c5b0 : (t286 == 0) = false := beq_eq_false_iff_ne.mpr c5
  have c5b1 : (t286 != 0) = true := bne_iff_ne.mpr c5
  by_cases c16 : t286 = 1
  ·rw [if_pos c16] at H
   have c16b0 : (t286 == 1) = true := beq_iff_eq.mpr c16
   have c16b1 : (t286 != 1) = false := bne_eq_false_iff_eq.mpr c16
   clear c16
   simp only [Option.some.injEq, Prod.mk.injEq] at H
   obtain ⟨rfl, rfl, rfl, rfl, rfl, rfl, rfl, rfl, rfl, rfl, rfl, rfl⟩ := H
   go_enter Try.func26, Try.ntmps26
   go_wp2_with (first | ((with_reducible refine gate_dst (N := 2) rfl ?_); refine sqX (N := 2) (cs := #[.int .i64 0, .int .i64 0, .int .i64 0, .int .i64 0, .int .i64 0, .int .i64 0, .int .i64 0, .int .i64 0, .int .i64 0, .int .i64 0]) (t := 27) ?_; intro gb285 hg w17 hbox hb; have BK285 := Aside0.mk (hbox); have GW285 := sqU1 HK hg; have GE285 := sqU2 HW0 HK hg; replace HK := sqT HK hb; have NB0_285 := sqU3 hg (IsS58.lt (show IsS58 w0 _ g s0_0 s0_1 s0_2 from sqI58 HI0)); have NB285_0 := sqU4 hg (IsS58.lt (show IsS58 w0 _ g s0_0 s0_1 s0_2 from sqI58 HI0)); replace HI0 := Aside0.mk (IsS58.below (sqI58 HI0) hb); replace HB := sqS hb; clear hb hbox hg) | ((with_reducible refine gate_callee (f := 39) rfl ?_); refine goesL_ (some 7) rfl rfl Try.func39 (by kernel_rfl) rfl #[.pointer (some ⟨g, 0, none⟩), .int .i64 10] rfl sqA ?_; (with_reducible refine (spec_l01Below.calls g s0_0 s0_1 s0_2 10 t286 t287 t288 w0 _ ?side1 ?side2 A2.out).mono ?_); (case side1 => exact sqI58 HI0); (case side2 => exact sqB); rintro e w18 ⟨rfl, hi, hb, hk⟩; refine ⟨_, rfl, ?_⟩; replace BK285 := Aside0.mk (KeepBut.blk hk (g' := gb285) (o := .cells #[.int .i64 0, .int .i64 0, .int .i64 0, .int .i64 0, .int .i64 0, .int .i64 0, .int .i64 0, .int .i64 0, .int .i64 0, .int .i64 0] 27 (0, 0)) (sqK BK285) NB285_0.out (by simp)); replace HK := Aside0.mk (KeepBut.trans (sqQ HK) hk (.inl rfl)); replace HI0 := Aside0.mk (hi); replace HB := Aside0.mk (hb); (try clear hb); (try clear hb2); (try clear hk); (try clear hi)) | ((with_reducible refine gate_callee (f := 39) rfl ?_); refine goesL_ (some 9) rfl rfl Try.func39 (by kernel_rfl) rfl #[.pointer (some ⟨g, 0, none⟩), .int .i64 60] rfl sqA ?_; (with_reducible refine (spec_l01Below.calls g s0_0 t287 t288 60 t289 t290 t291 w0 _ ?side1 ?side2 A3.out).mono ?_); (case side1 => exact sqI58 HI0); (case side2 => exact sqB); rintro e w19 ⟨rfl, hi, hb, hk⟩; refine ⟨_, rfl, ?_⟩; replace BK285 := Aside0.mk (KeepBut.blk hk (g' := gb285) (o := .cells #[.int .i64 0, .int .i64 0, .int .i64 0, .int .i64 0, .int .i64 0, .int .i64 0, .int .i64 0, .int .i64 0, .int .i64 0, .int .i64 0] 27 (0, 0)) (sqK BK285) NB285_0.out (by simp)); replace HK := Aside0.mk (KeepBut.trans (sqQ HK) hk (.inl rfl)); replace HI0 := Aside0.mk (hi); replace HB := Aside0.mk (hb); (try clear hb); (try clear hb2); (try clear hk); (try clear hi)) | ((with_reducible refine gate_callee (f := 22) rfl ?_); refine goesL_ (some 11) rfl rfl Try.func22 (by kernel_rfl) rfl #[.pointer (some ⟨g, 0, none⟩)] rfl sqA ?_; (with_reducible refine (spec_l05Cred.calls g s0_0 t290 t291 t292 t293 t294 t295 t296 t297 t298 t299 t300 t301 t302 t303 w0 _ ?side1 ?side2 A4.out).mono ?_); (case side1 => exact sqI58 HI0); (case side2 => exact sqB); rintro e w20 ⟨rfl, hi, hb, hk⟩; refine ⟨_, rfl, ?_⟩; replace BK285 := Aside0.mk (KeepBut.blk hk (g' := gb285) (o := .cells #[.int .i64 0, .int .i64 0, .int .i64 0, .int .i64 0, .int .i64 0, .int .i64 0, .int .i64 0, .int .i64 0, .int .i64 0, .int .i64 0] 27 (0, 0)) (sqK BK285) NB285_0.out (by simp)); replace HK := Aside0.mk (KeepBut.trans (sqQ HK) hk (.inl rfl)); replace HI0 := Aside0.mk (hi); replace HB := Aside0.mk (hb); (try clear hb); (try clear hb2); (try clear hk); (try clear hi)) | ((with_reducible refine gate_dst (N := 5) rfl ?_); refine sqX (N := 5) (cs := #[.int .i64 0, .int .i64 0, .int .i64 0, .int .i64 0, .int .i64 0, .int .i64 0, .int .i64 0, .int .i64 0, .int .i64 0, .int .i64 0]) (t := 27) ?_; intro gb304 hg w21 hbox hb; have BK304 := Aside0.mk (hbox); have GW304 := sqU1 HK hg; have GE304 := sqU2 HW0 HK hg; replace HK := sqT HK hb; have NB285_304 := sqN BK285 hg; have NB304_285 := sqM BK285 hg; replace BK285 := sqL BK285 hb; have NB0_304 := sqU3 hg (IsS58.lt (show IsS58 w0 _ g s0_0 t302 t303 from sqI58 HI0)); have NB304_0 := sqU4 hg (IsS58.lt (show IsS58 w0 _ g s0_0 t302 t303 from sqI58 HI0)); replace HI0 := Aside0.mk (IsS58.below (sqI58 HI0) hb); replace HB := sqS hb; clear hb hbox hg; have hnb22 := NB304_285.out; have hnc22 := NB285_304.out; have hnb23 := NB304_0.out; have hnc23 := NB0_304.out; obtain ⟨hcz24_0, hcz24_1, hcz24_2, hcz24_3, hcz24_4, hcz24_5, hcz24_6, hcz24_7, hcz24_8, hcz24_9, hfz24_0, hfz24_1, hfz24_2, hfz24_3, hfz24_4, hfz24_5, hfz24_6, hfz24_7, hfz24_8, hfz24_9⟩ := sqC10 BK304; have hnb25 := NB285_0.out; have hnc25 := NB0_285.out; obtain ⟨hcz26_0, hcz26_1, hcz26_2, hcz26_3, hcz26_4, hcz26_5, hcz26_6, hcz26_7, hcz26_8, hcz26_9, hfz26_0, hfz26_1, hfz26_2, hfz26_3, hfz26_4, hfz26_5, hfz26_6, hfz26_7, hfz26_8, hfz26_9⟩ := sqC10 BK285) | ((with_reducible refine gate_dst (N := 46) rfl ?_); refine wpList_load_row rfl 27 (.tmp 5) rfl gb304 rfl 27 #[.int .i64 t292, .int .i64 t293, .int .i64 t294, .int .i64 (wrap64 ((Int.tmod t289 9) - 1)), .int .i64 t296, .int .i64 t297, .int .i64 t298, .int .i64 t299, .int .i64 t300, .int .i64 t301] (0, 0) _ (sqW BK304) Try.underlying27 rfl (by kernel_rfl) ?_))
   refine bodyPost_ret (results_cell_row rfl _ _ gb285 27 #[.int .i64 t292, .int .i64 t293, .int .i64 t294, .int .i64 (wrap64 ((Int.tmod t289 9) - 1)), .int .i64 t296, .int .i64 t297, .int .i64 t298, .int .i64 t299, .int .i64 t300, .int .i64 t301] (0, 0) _ rfl (sqW BK285) Try.underlying27 rfl (by kernel_rfl)) rfl ?_
   exact ⟨sqE, sqI58 HI0, sqB, sqQ HK⟩
  ·rw [if_neg c16] at H
   have c16b0 : (t286 == 1) = false := beq_eq_false_iff_ne.mpr c16
   have c16b1 : (t286 != 1) = true := bne_iff_ne.mpr c16
   by_cases c27 : t286 = 2
   ·rw [if_pos c27] at H
    have c27b0 : (t286 == 2) = true := beq_iff_eq.mpr c27
    have c27b1 : (t286 != 2) = false := bne_eq_false_iff_eq.mpr c27
    clear c27
    simp only [Option.some.injEq, Prod.mk.injEq] at H
    obtain ⟨rfl, rfl, rfl, rfl, rfl, rfl, rfl, rfl, rfl, rfl, rfl, rfl⟩ := H
    go_enter Try.func26, Try.ntmps26
    go_wp2_with (first | ((with_reducible refine gate_dst (N := 2) rfl ?_); refine sqX (N := 2) (cs := #[.int .i64 0, .int .i64 0, .int .i64 0, .int .i64 0, .int .i64 0, .int .i64 0, .int .i64 0, .int .i64 0, .int .i64 0, .int .i64 0]) (t := 27) ?_; intro gb285 hg w28 hbox hb; have BK285 := Aside0.mk (hbox); have GW285 := sqU1 HK hg; have GE285 := sqU2 HW0 HK hg; replace HK := sqT HK hb; have NB0_285 := sqU3 hg (IsS58.lt (show IsS58 w0 _ g s0_0 s0_1 s0_2 from sqI58 HI0)); have NB285_0 := sqU4 hg (IsS58.lt (show IsS58 w0 _ g s0_0 s0_1 s0_2 from sqI58 HI0)); replace HI0 := Aside0.mk (IsS58.below (sqI58 HI0) hb); replace HB := sqS hb; clear hb hbox hg) | ((with_reducible refine gate_callee (f := 39) rfl ?_); refine goesL_ (some 7) rfl rfl Try.func39 (by kernel_rfl) rfl #[.pointer (some ⟨g, 0, none⟩), .int .i64 10] rfl sqA ?_; (with_reducible refine (spec_l01Below.calls g s0_0 s0_1 s0_2 10 t286 t287 t288 w0 _ ?side1 ?side2 A2.out).mono ?_); (case side1 => exact sqI58 HI0); (case side2 => exact sqB); rintro e w29 ⟨rfl, hi, hb, hk⟩; refine ⟨_, rfl, ?_⟩; replace BK285 := Aside0.mk (KeepBut.blk hk (g' := gb285) (o := .cells #[.int .i64 0, .int .i64 0, .int .i64 0, .int .i64 0, .int .i64 0, .int .i64 0, .int .i64 0, .int .i64 0, .int .i64 0, .int .i64 0] 27 (0, 0)) (sqK BK285) NB285_0.out (by simp)); replace HK := Aside0.mk (KeepBut.trans (sqQ HK) hk (.inl rfl)); replace HI0 := Aside0.mk (hi); replace HB := Aside0.mk (hb); (try clear hb); (try clear hb2); (try clear hk); (try clear hi)) | ((with_reducible refine gate_callee (f := 39) rfl ?_); refine goesL_ (some 9) rfl rfl Try.func39 (by kernel_rfl) rfl #[.pointer (some ⟨g, 0, none⟩), .int .i64 60] rfl sqA ?_; (with_reducible refine (spec_l01Below.calls g s0_0 t287 t288 60 t289 t290 t291 w0 _ ?side1 ?side2 A3.out).mono ?_); (case side1 => exact sqI58 HI0); (case side2 => exact sqB); rintro e w30 ⟨rfl, hi, hb, hk⟩; refine ⟨_, rfl, ?_⟩; replace BK285 := Aside0.mk (KeepBut.blk hk (g' := gb285) (o := .cells #[.int .i64 0, .int .i64 0, .int .i64 0, .int .i64 0, .int .i64 0, .int .i64 0, .int .i64 0, .int .i64 0, .int .i64 0, .int .i64 0] 27 (0, 0)) (sqK BK285) NB285_0.out (by simp)); replace HK := Aside0.mk (KeepBut.trans (sqQ HK) hk (.inl rfl)); replace HI0 := Aside0.mk (hi); replace HB := Aside0.mk (hb); (try clear hb); (try clear hb2); (try clear hk); (try clear hi)) | ((with_reducible refine gate_callee (f := 22) rfl ?_); refine goesL_ (some 11) rfl rfl Try.func22 (by kernel_rfl) rfl #[.pointer (some ⟨g, 0, none⟩)] rfl sqA ?_; (with_reducible refine (spec_l05Cred.calls g s0_0 t290 t291 t292 t293 t294 t295 t296 t297 t298 t299 t300 t301 t302 t303 w0 _ ?side1 ?side2 A4.out).mono ?_); (case side1 => exact sqI58 HI0); (case side2 => exact sqB); rintro e w31 ⟨rfl, hi, hb, hk⟩; refine ⟨_, rfl, ?_⟩; replace BK285 := Aside0.mk (KeepBut.blk hk (g' := gb285) (o := .cells #[.int .i64 0, .int .i64 0, .int .i64 0, .int .i64 0, .int .i64 0, .int .i64 0, .int .i64 0, .int .i64 0, .int .i64 0, .int .i64 0] 27 (0, 0)) (sqK BK285) NB285_0.out (by simp)); replace HK := Aside0.mk (KeepBut.trans (sqQ HK) hk (.inl rfl)); replace HI0 := Aside0.mk (hi); replace HB := Aside0.mk (hb); (try clear hb); (try clear hb2); (try clear hk); (try clear hi)) | ((with_reducible refine gate_dst (N := 5) rfl ?_); refine sqX (N := 5) (cs := #[.int .i64 0, .int .i64 0, .int .i64 0, .int .i64 0, .int .i64 0, .int .i64 0, .int .i64 0, .int .i64 0, .int .i64 0, .int .i64 0]) (t := 27) ?_; intro gb304 hg w32 hbox hb; have BK304 := Aside0.mk (hbox); have GW304 := sqU1 HK hg; have GE304 := sqU2 HW0 HK hg; replace HK := sqT HK hb; have NB285_304 := sqN BK285 hg; have NB304_285 := sqM BK285 hg; replace BK285 := sqL BK285 hb; have NB0_304 := sqU3 hg (IsS58.lt (show IsS58 w0 _ g s0_0 t302 t303 from sqI58 HI0)); have NB304_0 := sqU4 hg (IsS58.lt (show IsS58 w0 _ g s0_0 t302 t303 from sqI58 HI0)); replace HI0 := Aside0.mk (IsS58.below (sqI58 HI0) hb); replace HB := sqS hb; clear hb hbox hg; have hnb33 := NB304_285.out; have hnc33 := NB285_304.out; have hnb34 := NB304_0.out; have hnc34 := NB0_304.out; obtain ⟨hcz35_0, hcz35_1, hcz35_2, hcz35_3, hcz35_4, hcz35_5, hcz35_6, hcz35_7, hcz35_8, hcz35_9, hfz35_0, hfz35_1, hfz35_2, hfz35_3, hfz35_4, hfz35_5, hfz35_6, hfz35_7, hfz35_8, hfz35_9⟩ := sqC10 BK304; have hnb36 := NB285_0.out; have hnc36 := NB0_285.out; obtain ⟨hcz37_0, hcz37_1, hcz37_2, hcz37_3, hcz37_4, hcz37_5, hcz37_6, hcz37_7, hcz37_8, hcz37_9, hfz37_0, hfz37_1, hfz37_2, hfz37_3, hfz37_4, hfz37_5, hfz37_6, hfz37_7, hfz37_8, hfz37_9⟩ := sqC10 BK285) | ((with_reducible refine gate_dst (N := 46) rfl ?_); refine wpList_load_row rfl 27 (.tmp 5) rfl gb304 rfl 27 #[.int .i64 t292, .int .i64 t293, .int .i64 t294, .int .i64 t295, .int .i64 (Int.tmod t289 8), .int .i64 (Int.tmod t289 5), .int .i64 t298, .int .i64 t299, .int .i64 t300, .int .i64 t301] (0, 0) _ (sqW BK304) Try.underlying27 rfl (by kernel_rfl) ?_))
    refine bodyPost_ret (results_cell_row rfl _ _ gb285 27 #[.int .i64 t292, .int .i64 t293, .int .i64 t294, .int .i64 t295, .int .i64 (Int.tmod t289 8), .int .i64 (Int.tmod t289 5), .int .i64 t298, .int .i64 t299, .int .i64 t300, .int .i64 t301] (0, 0) _ rfl (sqW BK285) Try.underlying27 rfl (by kernel_rfl)) rfl ?_
    exact ⟨sqE, sqI58 HI0, sqB, sqQ HK⟩
   ·rw [if_neg c27] at H
    have c27b0 : (t286 == 2) = false := beq_eq_false_iff_ne.mpr c27
    have c27b1 : (t286 != 2) = true := bne_iff_ne.mpr c27
    by_cases c38 : t286 = 3
    ·rw [if_pos c38] at H
     have c38b0 : (t286 == 3) = true := beq_iff_eq.mpr c38
     have c38b1 : (t286 != 3) = false := bne_eq_false_iff_eq.mpr c38
     clear c38
     simp only [Option.some.injEq, Prod.mk.injEq] at H
     obtain ⟨rfl, rfl, rfl, rfl, rfl, rfl, rfl, rfl, rfl, rfl, rfl, rfl⟩ := H
     go_enter Try.func26, Try.ntmps26
     go_wp2_with (first | ((with_reducible refine gate_dst (N := 2) rfl ?_); refine sqX (N := 2) (cs := #[.int .i64 0, .int .i64 0, .int .i64 0, .int .i64 0, .int .i64 0, .int .i64 0, .int .i64 0, .int .i64 0, .int .i64 0, .int .i64 0]) (t := 27) ?_; intro gb285 hg w39 hbox hb; have BK285 := Aside0.mk (hbox); have GW285 := sqU1 HK hg; have GE285 := sqU2 HW0 HK hg; replace HK := sqT HK hb; have NB0_285 := sqU3 hg (IsS58.lt (show IsS58 w0 _ g s0_0 s0_1 s0_2 from sqI58 HI0)); have NB285_0 := sqU4 hg (IsS58.lt (show IsS58 w0 _ g s0_0 s0_1 s0_2 from sqI58 HI0)); replace HI0 := Aside0.mk (IsS58.below (sqI58 HI0) hb); replace HB := sqS hb; clear hb hbox hg) | ((with_reducible refine gate_callee (f := 39) rfl ?_); refine goesL_ (some 7) rfl rfl Try.func39 (by kernel_rfl) rfl #[.pointer (some ⟨g, 0, none⟩), .int .i64 10] rfl sqA ?_; (with_reducible refine (spec_l01Below.calls g s0_0 s0_1 s0_2 10 t286 t287 t288 w0 _ ?side1 ?side2 A2.out).mono ?_); (case side1 => exact sqI58 HI0); (case side2 => exact sqB); rintro e w40 ⟨rfl, hi, hb, hk⟩; refine ⟨_, rfl, ?_⟩; replace BK285 := Aside0.mk (KeepBut.blk hk (g' := gb285) (o := .cells #[.int .i64 0, .int .i64 0, .int .i64 0, .int .i64 0, .int .i64 0, .int .i64 0, .int .i64 0, .int .i64 0, .int .i64 0, .int .i64 0] 27 (0, 0)) (sqK BK285) NB285_0.out (by simp)); replace HK := Aside0.mk (KeepBut.trans (sqQ HK) hk (.inl rfl)); replace HI0 := Aside0.mk (hi); replace HB := Aside0.mk (hb); (try clear hb); (try clear hb2); (try clear hk); (try clear hi)) | ((with_reducible refine gate_callee (f := 39) rfl ?_); refine goesL_ (some 9) rfl rfl Try.func39 (by kernel_rfl) rfl #[.pointer (some ⟨g, 0, none⟩), .int .i64 60] rfl sqA ?_; (with_reducible refine (spec_l01Below.calls g s0_0 t287 t288 60 t289 t290 t291 w0 _ ?side1 ?side2 A3.out).mono ?_); (case side1 => exact sqI58 HI0); (case side2 => exact sqB); rintro e w41 ⟨rfl, hi, hb, hk⟩; refine ⟨_, rfl, ?_⟩; replace BK285 := Aside0.mk (KeepBut.blk hk (g' := gb285) (o := .cells #[.int .i64 0, .int .i64 0, .int .i64 0, .int .i64 0, .int .i64 0, .int .i64 0, .int .i64 0, .int .i64 0, .int .i64 0, .int .i64 0] 27 (0, 0)) (sqK BK285) NB285_0.out (by simp)); replace HK := Aside0.mk (KeepBut.trans (sqQ HK) hk (.inl rfl)); replace HI0 := Aside0.mk (hi); replace HB := Aside0.mk (hb); (try clear hb); (try clear hb2); (try clear hk); (try clear hi)) | ((with_reducible refine gate_callee (f := 22) rfl ?_); refine goesL_ (some 11) rfl rfl Try.func22 (by kernel_rfl) rfl #[.pointer (some ⟨g, 0, none⟩)] rfl sqA ?_; (with_reducible refine (spec_l05Cred.calls g s0_0 t290 t291 t292 t293 t294 t295 t296 t297 t298 t299 t300 t301 t302 t303 w0 _ ?side1 ?side2 A4.out).mono ?_); (case side1 => exact sqI58 HI0); (case side2 => exact sqB); rintro e w42 ⟨rfl, hi, hb, hk⟩; refine ⟨_, rfl, ?_⟩; replace BK285 := Aside0.mk (KeepBut.blk hk (g' := gb285) (o := .cells #[.int .i64 0, .int .i64 0, .int .i64 0, .int .i64 0, .int .i64 0, .int .i64 0, .int .i64 0, .int .i64 0, .int .i64 0, .int .i64 0] 27 (0, 0)) (sqK BK285) NB285_0.out (by simp)); replace HK := Aside0.mk (KeepBut.trans (sqQ HK) hk (.inl rfl)); replace HI0 := Aside0.mk (hi); replace HB := Aside0.mk (hb); (try clear hb); (try clear hb2); (try clear hk); (try clear hi)) | ((with_reducible refine gate_dst (N := 5) rfl ?_); refine sqX (N := 5) (cs := #[.int .i64 0, .int .i64 0, .int .i64 0, .int .i64 0, .int .i64 0, .int .i64 0, .int .i64 0, .int .i64 0, .int .i64 0, .int .i64 0]) (t := 27) ?_; intro gb304 hg w43 hbox hb; have BK304 := Aside0.mk (hbox); have GW304 := sqU1 HK hg; have GE304 := sqU2 HW0 HK hg; replace HK := sqT HK hb; have NB285_304 := sqN BK285 hg; have NB304_285 := sqM BK285 hg; replace BK285 := sqL BK285 hb; have NB0_304 := sqU3 hg (IsS58.lt (show IsS58 w0 _ g s0_0 t302 t303 from sqI58 HI0)); have NB304_0 := sqU4 hg (IsS58.lt (show IsS58 w0 _ g s0_0 t302 t303 from sqI58 HI0)); replace HI0 := Aside0.mk (IsS58.below (sqI58 HI0) hb); replace HB := sqS hb; clear hb hbox hg; have hnb44 := NB304_285.out; have hnc44 := NB285_304.out; have hnb45 := NB304_0.out; have hnc45 := NB0_304.out; obtain ⟨hcz46_0, hcz46_1, hcz46_2, hcz46_3, hcz46_4, hcz46_5, hcz46_6, hcz46_7, hcz46_8, hcz46_9, hfz46_0, hfz46_1, hfz46_2, hfz46_3, hfz46_4, hfz46_5, hfz46_6, hfz46_7, hfz46_8, hfz46_9⟩ := sqC10 BK304; have hnb47 := NB285_0.out; have hnc47 := NB0_285.out; obtain ⟨hcz48_0, hcz48_1, hcz48_2, hcz48_3, hcz48_4, hcz48_5, hcz48_6, hcz48_7, hcz48_8, hcz48_9, hfz48_0, hfz48_1, hfz48_2, hfz48_3, hfz48_4, hfz48_5, hfz48_6, hfz48_7, hfz48_8, hfz48_9⟩ := sqC10 BK285) | ((with_reducible refine gate_dst (N := 46) rfl ?_); refine wpList_load_row rfl 27 (.tmp 5) rfl gb304 rfl 27 #[.int .i64 t292, .int .i64 t293, .int .i64 t294, .int .i64 t295, .int .i64 t296, .int .i64 t297, .int .i64 (Int.tmod t289 3), .int .i64 t299, .int .i64 t300, .int .i64 t301] (0, 0) _ (sqW BK304) Try.underlying27 rfl (by kernel_rfl) ?_))
     refine bodyPost_ret (results_cell_row rfl _ _ gb285 27 #[.int .i64 t292, .int .i64 t293, .int .i64 t294, .int .i64 t295, .int .i64 t296, .int .i64 t297, .int .i64 (Int.tmod t289 3), .int .i64 t299, .int .i64 t300, .int .i64 t301] (0, 0) _ rfl (sqW BK285) Try.underlying27 rfl (by kernel_rfl)) rfl ?_
     exact ⟨sqE, sqI58 HI0, sqB, sqQ HK⟩
    ·rw [if_neg c38] at H
     have c38b0 : (t286 == 3) = false := beq_eq_false_iff_ne.mpr c38
     have c38b1 : (t286 != 3) = true := bne_iff_ne.mpr c38
     by_cases c49 : t286 = 4
     ·rw [if_pos c49] at H
      have c49b0 : (t286 == 4) = true := beq_iff_eq.mpr c49
      have c49b1 : (t286 != 4) = false := bne_eq_false_iff_eq.mpr c49
      clear c49
      obtain ⟨y305, hy305⟩ : ∃ y_ : List Int, y_ = (([0, 10000, 1] : List Int)) := ⟨_, rfl⟩
      replace H : (if 0 ≤ (Int.tmod t289 3) then (if (Int.tmod t289 3) < (y305.length : Int) then (some (t292, t293, t294, t295, t296, t297, t298, t299, rd y305 (Int.tmod t289 3), t301, t302, t303)) else (none)) else (none)) = some (r1, r2, r3, r4, r5, r6, r7, r8, r9, r10, r11, r12) := by first | (rw [hy305]; with_reducible exact H) | (have H2_ := (Option.bind_some _ _).symm.trans H; rw [hy305]; with_reducible exact H2_) | (have H2_ := (Option.bind_some _ _).symm.trans H; with_reducible exact H2_) | with_reducible exact H | (rw [hy305]; exact H) | exact H
      have Ny305 := Aside0.mk hy305
      clear hy305
      obtain ⟨ji50, hji50⟩ : ∃ j_ : Int, (Int.tmod t289 3) = j_ := ⟨_, rfl⟩
      replace H : (if 0 ≤ (ji50) then (if (ji50) < (y305.length : Int) then (some (t292, t293, t294, t295, t296, t297, t298, t299, rd y305 (ji50), t301, t302, t303)) else (none)) else (none)) = some (r1, r2, r3, r4, r5, r6, r7, r8, r9, r10, r11, r12) := by first | (rw [hji50] at H; exact H) | (simp only [hji50] at H ⊢; exact H)
      (try rw [hji50] at A2)
      (try rw [hji50] at A3)
      (try rw [hji50] at A4)
      by_cases c51 : 0 ≤ (ji50)
      ·rw [if_pos c51] at H
       have c51b0 : decide (0 ≤ (ji50)) = true := decide_eq_true c51
       clear c51
       by_cases c52 : (ji50) < (y305.length : Int)
       ·rw [if_pos c52] at H
        have c52b0 : decide ((ji50) < (y305.length : Int)) = true := decide_eq_true c52
        clear c52
        simp only [Option.some.injEq, Prod.mk.injEq] at H
        obtain ⟨rfl, rfl, rfl, rfl, rfl, rfl, rfl, rfl, rfl, rfl, rfl, rfl⟩ := H
        go_enter Try.func26, Try.ntmps26
        go_wp2_with (first | ((with_reducible refine gate_dst (N := 2) rfl ?_); refine sqX (N := 2) (cs := #[.int .i64 0, .int .i64 0, .int .i64 0, .int .i64 0, .int .i64 0, .int .i64 0, .int .i64 0, .int .i64 0, .int .i64 0, .int .i64 0]) (t := 27) ?_; intro gb285 hg w53 hbox hb; have BK285 := Aside0.mk (hbox); have GW285 := sqU1 HK hg; have GE285 := sqU2 HW0 HK hg; replace HK := sqT HK hb; have NB0_285 := sqU3 hg (IsS58.lt (show IsS58 w0 _ g s0_0 s0_1 s0_2 from sqI58 HI0)); have NB285_0 := sqU4 hg (IsS58.lt (show IsS58 w0 _ g s0_0 s0_1 s0_2 from sqI58 HI0)); replace HI0 := Aside0.mk (IsS58.below (sqI58 HI0) hb); replace HB := sqS hb; clear hb hbox hg) | ((with_reducible refine gate_callee (f := 39) rfl ?_); refine goesL_ (some 7) rfl rfl Try.func39 (by kernel_rfl) rfl #[.pointer (some ⟨g, 0, none⟩), .int .i64 10] rfl sqA ?_; (with_reducible refine (spec_l01Below.calls g s0_0 s0_1 s0_2 10 t286 t287 t288 w0 _ ?side1 ?side2 A2.out).mono ?_); (case side1 => exact sqI58 HI0); (case side2 => exact sqB); rintro e w54 ⟨rfl, hi, hb, hk⟩; refine ⟨_, rfl, ?_⟩; replace BK285 := Aside0.mk (KeepBut.blk hk (g' := gb285) (o := .cells #[.int .i64 0, .int .i64 0, .int .i64 0, .int .i64 0, .int .i64 0, .int .i64 0, .int .i64 0, .int .i64 0, .int .i64 0, .int .i64 0] 27 (0, 0)) (sqK BK285) NB285_0.out (by simp)); replace HK := Aside0.mk (KeepBut.trans (sqQ HK) hk (.inl rfl)); replace HI0 := Aside0.mk (hi); replace HB := Aside0.mk (hb); (try clear hb); (try clear hb2); (try clear hk); (try clear hi)) | ((with_reducible refine gate_callee (f := 39) rfl ?_); refine goesL_ (some 9) rfl rfl Try.func39 (by kernel_rfl) rfl #[.pointer (some ⟨g, 0, none⟩), .int .i64 60] rfl sqA ?_; (with_reducible refine (spec_l01Below.calls g s0_0 t287 t288 60 t289 t290 t291 w0 _ ?side1 ?side2 A3.out).mono ?_); (case side1 => exact sqI58 HI0); (case side2 => exact sqB); rintro e w55 ⟨rfl, hi, hb, hk⟩; refine ⟨_, rfl, ?_⟩; replace BK285 := Aside0.mk (KeepBut.blk hk (g' := gb285) (o := .cells #[.int .i64 0, .int .i64 0, .int .i64 0, .int .i64 0, .int .i64 0, .int .i64 0, .int .i64 0, .int .i64 0, .int .i64 0, .int .i64 0] 27 (0, 0)) (sqK BK285) NB285_0.out (by simp)); replace HK := Aside0.mk (KeepBut.trans (sqQ HK) hk (.inl rfl)); replace HI0 := Aside0.mk (hi); replace HB := Aside0.mk (hb); (try clear hb); (try clear hb2); (try clear hk); (try clear hi)) | ((with_reducible refine gate_callee (f := 22) rfl ?_); refine goesL_ (some 11) rfl rfl Try.func22 (by kernel_rfl) rfl #[.pointer (some ⟨g, 0, none⟩)] rfl sqA ?_; (with_reducible refine (spec_l05Cred.calls g s0_0 t290 t291 t292 t293 t294 t295 t296 t297 t298 t299 t300 t301 t302 t303 w0 _ ?side1 ?side2 A4.out).mono ?_); (case side1 => exact sqI58 HI0); (case side2 => exact sqB); rintro e w56 ⟨rfl, hi, hb, hk⟩; refine ⟨_, rfl, ?_⟩; replace BK285 := Aside0.mk (KeepBut.blk hk (g' := gb285) (o := .cells #[.int .i64 0, .int .i64 0, .int .i64 0, .int .i64 0, .int .i64 0, .int .i64 0, .int .i64 0, .int .i64 0, .int .i64 0, .int .i64 0] 27 (0, 0)) (sqK BK285) NB285_0.out (by simp)); replace HK := Aside0.mk (KeepBut.trans (sqQ HK) hk (.inl rfl)); replace HI0 := Aside0.mk (hi); replace HB := Aside0.mk (hb); (try clear hb); (try clear hb2); (try clear hk); (try clear hi)) | ((with_reducible refine gate_dst (N := 5) rfl ?_); refine sqX (N := 5) (cs := #[.int .i64 0, .int .i64 0, .int .i64 0, .int .i64 0, .int .i64 0, .int .i64 0, .int .i64 0, .int .i64 0, .int .i64 0, .int .i64 0]) (t := 27) ?_; intro gb304 hg w57 hbox hb; have BK304 := Aside0.mk (hbox); have GW304 := sqU1 HK hg; have GE304 := sqU2 HW0 HK hg; replace HK := sqT HK hb; have NB285_304 := sqN BK285 hg; have NB304_285 := sqM BK285 hg; replace BK285 := sqL BK285 hb; have NB0_304 := sqU3 hg (IsS58.lt (show IsS58 w0 _ g s0_0 t302 t303 from sqI58 HI0)); have NB304_0 := sqU4 hg (IsS58.lt (show IsS58 w0 _ g s0_0 t302 t303 from sqI58 HI0)); replace HI0 := Aside0.mk (IsS58.below (sqI58 HI0) hb); replace HB := sqS hb; clear hb hbox hg; have hnb58 := NB304_285.out; have hnc58 := NB285_304.out; have hnb59 := NB304_0.out; have hnc59 := NB0_304.out; obtain ⟨hcz60_0, hcz60_1, hcz60_2, hcz60_3, hcz60_4, hcz60_5, hcz60_6, hcz60_7, hcz60_8, hcz60_9, hfz60_0, hfz60_1, hfz60_2, hfz60_3, hfz60_4, hfz60_5, hfz60_6, hfz60_7, hfz60_8, hfz60_9⟩ := sqC10 BK304) | ((with_reducible refine gate_dst (N := 40) rfl ?_); refine Kd.R_lit (Kd.int .i64) _ 3 ?hg (N := 40) ?hd (xs := ([0, 10000, 1] : List Int)) (inner := [.int .i64 0, .int .i64 10000, .int .i64 1]) (ok := fun _ => True) (okp := fun _ => True) ?hr ?hp (fun _ hk => hk) trivial (Below.refl _ _) (Nat.le_refl _) (by simp) ?_; (case hd => rfl); (case hg => rfl); (case hr => first | (go_simp; done) | (go_simp; rfl)); (case hp => exact (Reps.one (show Kd.M (Kd.int .i64) _ _ _ 0 [.int .i64 0] from rfl) (Reps.one (show Kd.M (Kd.int .i64) _ _ _ 10000 [.int .i64 10000] from rfl) (Reps.one (show Kd.M (Kd.int .i64) _ _ _ 1 [.int .i64 1] from rfl) (Reps.none _ _))))); intro v306 w61 ho62 hb hg_ hnew_; clear hg_ hnew_; (first | rw [← Ny305.out] at ho62 | (simp only [Int.reduceToNat] at ho62; rw [← Ny305.out] at ho62)); have HO307 := Aside0.mk (Kd.R_lower ho62 (keep_size (w := w) (g := g) (row := none) (sqQ HK))); replace HI0 := Aside0.mk (IsS58.below (show IsS58 w0 ((((((((((w57.setCell ⟨gb304, 0, none⟩ (.int .i64 t292)).setCell ⟨gb304, 1, none⟩ (.int .i64 t293)).setCell ⟨gb304, 2, none⟩ (.int .i64 t294)).setCell ⟨gb304, 3, none⟩ (.int .i64 t295)).setCell ⟨gb304, 4, none⟩ (.int .i64 t296)).setCell ⟨gb304, 5, none⟩ (.int .i64 t297)).setCell ⟨gb304, 6, none⟩ (.int .i64 t298)).setCell ⟨gb304, 7, none⟩ (.int .i64 t299)).setCell ⟨gb304, 8, none⟩ (.int .i64 t300)).setCell ⟨gb304, 9, none⟩ (.int .i64 t301)) g s0_0 t302 t303 from sqI58 HI0) hb); replace BK285 := sqLW (o' := .cells #[.int .i64 0, .int .i64 0, .int .i64 0, .int .i64 0, .int .i64 0, .int .i64 0, .int .i64 0, .int .i64 0, .int .i64 0, .int .i64 0] 27 (0, 0)) BK285 hb; replace BK304 := sqLW (o' := .cells #[.int .i64 t292, .int .i64 t293, .int .i64 t294, .int .i64 t295, .int .i64 t296, .int .i64 t297, .int .i64 t298, .int .i64 t299, .int .i64 t300, .int .i64 t301] 27 (0, 0)) BK304 hb; replace HK := sqT HK hb; replace HB := sqS hb; clear hb ho62; obtain ⟨Ao63, co63, eo63⟩ := Kd.R_slice HO307.out; subst eo63; have p308 : 0 ≤ ((ji50) : Int) := sqD; have q308 : (ji50) < (y305.length : Int) := sqD; obtain ⟨ad308, e308, hx308_0⟩ := Kd.at_int (Kd.R_reads' HO307.out).2.2 (ji50) p308 q308; cases e308; replace p308 := eq_true p308; replace q308 := eq_true q308; obtain ⟨hcz64_0, hcz64_1, hcz64_2, hcz64_3, hcz64_4, hcz64_5, hcz64_6, hcz64_7, hcz64_8, hcz64_9, hfz64_0, hfz64_1, hfz64_2, hfz64_3, hfz64_4, hfz64_5, hfz64_6, hfz64_7, hfz64_8, hfz64_9⟩ := sqC10 BK304; have hnb65 := NB285_0.out; have hnc65 := NB0_285.out; obtain ⟨hcz66_0, hcz66_1, hcz66_2, hcz66_3, hcz66_4, hcz66_5, hcz66_6, hcz66_7, hcz66_8, hcz66_9, hfz66_0, hfz66_1, hfz66_2, hfz66_3, hfz66_4, hfz66_5, hfz66_6, hfz66_7, hfz66_8, hfz66_9⟩ := sqC10 BK285) | ((with_reducible refine gate_dst (N := 46) rfl ?_); refine wpList_load_row rfl 27 (.tmp 5) rfl gb304 rfl 27 #[.int .i64 t292, .int .i64 t293, .int .i64 t294, .int .i64 t295, .int .i64 t296, .int .i64 t297, .int .i64 t298, .int .i64 t299, .int .i64 (rd y305 (ji50)), .int .i64 t301] (0, 0) _ (sqW BK304) Try.underlying27 rfl (by kernel_rfl) ?_))
        refine bodyPost_ret (results_cell_row rfl _ _ gb285 27 #[.int .i64 t292, .int .i64 t293, .int .i64 t294, .int .i64 t295, .int .i64 t296, .int .i64 t297, .int .i64 t298, .int .i64 t299, .int .i64 (rd y305 (ji50)), .int .i64 t301] (0, 0) _ rfl (sqW BK285) Try.underlying27 rfl (by kernel_rfl)) rfl ?_
        exact ⟨by first | rfl | (simp [errW_none, errW_some] <;> rfl) | (simp only [← hji50]; first | rfl | (simp [errW_none, errW_some] <;> rfl)) | (simp [*, errW_none, errW_some] <;> rfl), sqI58 HI0, sqB, sqQ HK⟩
       ·rw [if_neg c52] at H
        exact absurd H (by simp)
      ·rw [if_neg c51] at H
       exact absurd H (by simp)
     ·rw [if_neg c49] at H
      have c49b0 : (t286 == 4) = false := beq_eq_false_iff_ne.mpr c49
      have c49b1 : (t286 != 4) = true := bne_iff_ne.mpr c49
      simp only [Option.some.injEq, Prod.mk.injEq] at H
      obtain ⟨rfl, rfl, rfl, rfl, rfl, rfl, rfl, rfl, rfl, rfl, rfl, rfl⟩ := H
      go_enter Try.func26, Try.ntmps26
      go_wp2_with (first | ((with_reducible refine gate_dst (N := 2) rfl ?_); refine sqX (N := 2) (cs := #[.int .i64 0, .int .i64 0, .int .i64 0, .int .i64 0, .int .i64 0, .int .i64 0, .int .i64 0, .int .i64 0, .int .i64 0, .int .i64 0]) (t := 27) ?_; intro gb285 hg w67 hbox hb; have BK285 := Aside0.mk (hbox); have GW285 := sqU1 HK hg; have GE285 := sqU2 HW0 HK hg; replace HK := sqT HK hb; have NB0_285 := sqU3 hg (IsS58.lt (show IsS58 w0 _ g s0_0 s0_1 s0_2 from sqI58 HI0)); have NB285_0 := sqU4 hg (IsS58.lt (show IsS58 w0 _ g s0_0 s0_1 s0_2 from sqI58 HI0)); replace HI0 := Aside0.mk (IsS58.below (sqI58 HI0) hb); replace HB := sqS hb; clear hb hbox hg) | ((with_reducible refine gate_callee (f := 39) rfl ?_); refine goesL_ (some 7) rfl rfl Try.func39 (by kernel_rfl) rfl #[.pointer (some ⟨g, 0, none⟩), .int .i64 10] rfl sqA ?_; (with_reducible refine (spec_l01Below.calls g s0_0 s0_1 s0_2 10 t286 t287 t288 w0 _ ?side1 ?side2 A2.out).mono ?_); (case side1 => exact sqI58 HI0); (case side2 => exact sqB); rintro e w68 ⟨rfl, hi, hb, hk⟩; refine ⟨_, rfl, ?_⟩; replace BK285 := Aside0.mk (KeepBut.blk hk (g' := gb285) (o := .cells #[.int .i64 0, .int .i64 0, .int .i64 0, .int .i64 0, .int .i64 0, .int .i64 0, .int .i64 0, .int .i64 0, .int .i64 0, .int .i64 0] 27 (0, 0)) (sqK BK285) NB285_0.out (by simp)); replace HK := Aside0.mk (KeepBut.trans (sqQ HK) hk (.inl rfl)); replace HI0 := Aside0.mk (hi); replace HB := Aside0.mk (hb); (try clear hb); (try clear hb2); (try clear hk); (try clear hi)) | ((with_reducible refine gate_callee (f := 39) rfl ?_); refine goesL_ (some 9) rfl rfl Try.func39 (by kernel_rfl) rfl #[.pointer (some ⟨g, 0, none⟩), .int .i64 60] rfl sqA ?_; (with_reducible refine (spec_l01Below.calls g s0_0 t287 t288 60 t289 t290 t291 w0 _ ?side1 ?side2 A3.out).mono ?_); (case side1 => exact sqI58 HI0); (case side2 => exact sqB); rintro e w69 ⟨rfl, hi, hb, hk⟩; refine ⟨_, rfl, ?_⟩; replace BK285 := Aside0.mk (KeepBut.blk hk (g' := gb285) (o := .cells #[.int .i64 0, .int .i64 0, .int .i64 0, .int .i64 0, .int .i64 0, .int .i64 0, .int .i64 0, .int .i64 0, .int .i64 0, .int .i64 0] 27 (0, 0)) (sqK BK285) NB285_0.out (by simp)); replace HK := Aside0.mk (KeepBut.trans (sqQ HK) hk (.inl rfl)); replace HI0 := Aside0.mk (hi); replace HB := Aside0.mk (hb); (try clear hb); (try clear hb2); (try clear hk); (try clear hi)) | ((with_reducible refine gate_callee (f := 22) rfl ?_); refine goesL_ (some 11) rfl rfl Try.func22 (by kernel_rfl) rfl #[.pointer (some ⟨g, 0, none⟩)] rfl sqA ?_; (with_reducible refine (spec_l05Cred.calls g s0_0 t290 t291 t292 t293 t294 t295 t296 t297 t298 t299 t300 t301 t302 t303 w0 _ ?side1 ?side2 A4.out).mono ?_); (case side1 => exact sqI58 HI0); (case side2 => exact sqB); rintro e w70 ⟨rfl, hi, hb, hk⟩; refine ⟨_, rfl, ?_⟩; replace BK285 := Aside0.mk (KeepBut.blk hk (g' := gb285) (o := .cells #[.int .i64 0, .int .i64 0, .int .i64 0, .int .i64 0, .int .i64 0, .int .i64 0, .int .i64 0, .int .i64 0, .int .i64 0, .int .i64 0] 27 (0, 0)) (sqK BK285) NB285_0.out (by simp)); replace HK := Aside0.mk (KeepBut.trans (sqQ HK) hk (.inl rfl)); replace HI0 := Aside0.mk (hi); replace HB := Aside0.mk (hb); (try clear hb); (try clear hb2); (try clear hk); (try clear hi)) | ((with_reducible refine gate_dst (N := 5) rfl ?_); refine sqX (N := 5) (cs := #[.int .i64 0, .int .i64 0, .int .i64 0, .int .i64 0, .int .i64 0, .int .i64 0, .int .i64 0, .int .i64 0, .int .i64 0, .int .i64 0]) (t := 27) ?_; intro gb304 hg w71 hbox hb; have BK304 := Aside0.mk (hbox); have GW304 := sqU1 HK hg; have GE304 := sqU2 HW0 HK hg; replace HK := sqT HK hb; have NB285_304 := sqN BK285 hg; have NB304_285 := sqM BK285 hg; replace BK285 := sqL BK285 hb; have NB0_304 := sqU3 hg (IsS58.lt (show IsS58 w0 _ g s0_0 t302 t303 from sqI58 HI0)); have NB304_0 := sqU4 hg (IsS58.lt (show IsS58 w0 _ g s0_0 t302 t303 from sqI58 HI0)); replace HI0 := Aside0.mk (IsS58.below (sqI58 HI0) hb); replace HB := sqS hb; clear hb hbox hg; have hnb72 := NB304_285.out; have hnc72 := NB285_304.out; have hnb73 := NB304_0.out; have hnc73 := NB0_304.out; obtain ⟨hcz74_0, hcz74_1, hcz74_2, hcz74_3, hcz74_4, hcz74_5, hcz74_6, hcz74_7, hcz74_8, hcz74_9, hfz74_0, hfz74_1, hfz74_2, hfz74_3, hfz74_4, hfz74_5, hfz74_6, hfz74_7, hfz74_8, hfz74_9⟩ := sqC10 BK304; have hnb75 := NB285_0.out; have hnc75 := NB0_285.out; obtain ⟨hcz76_0, hcz76_1, hcz76_2, hcz76_3, hcz76_4, hcz76_5, hcz76_6, hcz76_7, hcz76_8, hcz76_9, hfz76_0, hfz76_1, hfz76_2, hfz76_3, hfz76_4, hfz76_5, hfz76_6, hfz76_7, hfz76_8, hfz76_9⟩ := sqC10 BK285) | ((with_reducible refine gate_dst (N := 46) rfl ?_); refine wpList_load_row rfl 27 (.tmp 5) rfl gb304 rfl 27 #[.int .i64 t292, .int .i64 t293, .int .i64 t294, .int .i64 t295, .int .i64 t296, .int .i64 t297, .int .i64 t298, .int .i64 t299, .int .i64 t300, .int .i64 t301] (0, 0) _ (sqW BK304) Try.underlying27 rfl (by kernel_rfl) ?_))
      refine bodyPost_ret (results_cell_row rfl _ _ gb285 27 #[.int .i64 t292, .int .i64 t293, .int .i64 t294, .int .i64 t295, .int .i64 t296, .int .i64 t297, .int .i64 t298, .int .i64 t299, .int .i64 t300, .int .i64 t301] (0, 0) _ rfl (sqW BK285) Try.underlying27 rfl (by kernel_rfl)) rfl ?_
      exact ⟨sqE, sqI58 HI0, sqB, sqQ HK⟩

/-! ### spec_l01Once: function 27 -/
def spec_l01Once.f (s0_0 : List Int) (s0_1 : Int) (s0_2 : Int) (a1 : Int) : Option (Bool × Int × Int) := (spec_l01Below.f s0_0 s0_1 s0_2 a1).bind fun bt309 => (some ((bt309.1 == 0), bt309.2.1, bt309.2.2))
set_option maxHeartbeats 8000000 in
set_option maxRecDepth 100000 in
theorem spec_l01Once.calls (g : Nat) (s0_0 : List Int) (s0_1 : Int) (s0_2 : Int) (a1 : Int) (r1 : Bool) (r2 : Int) (r3 : Int) (w0 w : World) (hI : IsS58 w0 w g s0_0 s0_1 s0_2) (hB : Below w0.heap.size w0 w) (h : spec_l01Once.f s0_0 s0_1 s0_2 a1 = some (r1, r2, r3)) :
  Calls Try.prog 27 #[.pointer (some ⟨g, 0, none⟩), .int .i64 a1] w fun e w' => e = .returned (.bool r1) ∧ IsS58 w0 w' g s0_0 r2 r3 ∧ Below w0.heap.size w0 w' ∧ KeepBut w w' g none := by
 have HI0 := Aside0.mk hI
 have HK := Aside0.mk (KeepBut.refl w g none)
 have HL := Aside0.mk hB.size
 clear hI
 have HW0 := Aside0.mk hB.size
 have HB := Aside0.mk hB
 clear hB
 have H : ((spec_l01Below.f s0_0 s0_1 s0_2 a1).bind fun bt309 => (some ((bt309.1 == 0), bt309.2.1, bt309.2.2))) = some (r1, r2, r3) := h
 clear h
 replace H := Option.bind_eq_some_iff.mp H
 obtain ⟨⟨t309, t310, t311⟩, A30, H⟩ := H
 try dsimp only at H
 have A3 := Aside0.mk A30
 clear A30
 simp only [Option.some.injEq, Prod.mk.injEq] at H
 obtain ⟨rfl, rfl, rfl⟩ := H
 go_enter Try.func27, Try.ntmps27
 go_wp2_with (first | ((with_reducible refine gate_callee (f := 39) rfl ?_); refine goesL_ (some 7) rfl rfl Try.func39 (by kernel_rfl) rfl #[.pointer (some ⟨g, 0, none⟩), .int .i64 a1] rfl sqA ?_; (with_reducible refine (spec_l01Below.calls g s0_0 s0_1 s0_2 a1 t309 t310 t311 w0 _ ?side1 ?side2 A3.out).mono ?_); (case side1 => exact sqI58 HI0); (case side2 => exact sqB); rintro e w4 ⟨rfl, hi, hb, hk⟩; refine ⟨_, rfl, ?_⟩; replace HK := Aside0.mk (KeepBut.trans (sqQ HK) hk (.inl rfl)); replace HI0 := Aside0.mk (hi); replace HB := Aside0.mk (hb); (try clear hb); (try clear hb2); (try clear hk); (try clear hi)))
 go_ret
 exact ⟨sqE, sqI58 HI0, sqB, sqQ HK⟩

end Go.Proofs.Ythodhbgocnbddaa.PFnWords
