/- What the code that one law of the given program reaches computes, function by function, each with its proof over the given translation.
Conditions: none of our own. (Laid by a program of this session, wip/xp/xp.py; some contracts are typed by hand.) -/
import Derived.Test.YtnebbjcgkoaloaaPFnMembersToldx0
import Derived.Test.YtnebbjcgkoaloaaPFnMembersToldx1
import Derived.Test.YtnebbjcgkoaloaaPFnMembersToldx6
namespace Go.Proofs.Ytnebbjcgkoaloaa.PFnMembersTold
open Go.RowKit Go.Proofs.YtnebbjcgkoaloaaW.PrintWords Go.Proofs.YtnebbjcgkoaloaaW.PrintLast Go.Proofs.YtnebbjcgkoaloaaW.PrintMore
attribute [local go_sem] max2_int min2_int max_two min_two max_three min_three max_four min_four   -- for this text's walks alone
set_option linter.unusedVariables false
set_option linter.unusedSimpArgs false

attribute [local go_sem high] eqA27
/-! ### spec_CredOk: function 66 -/
def spec_CredOk.j0 : Nat → Bool → Int → Int → Int → Int → Int → Int → Int → Int → Int → Int → Option (Bool)
 | 0, _, _, _, _, _, _, _, _, _, _, _ => none
 | k + 1, x19, x176000, x176001, x176002, x176003, x176004, x176005, x176006, x176007, x176008, x176009 => if x19 = true then (some false) else (if x176000 = 1 then ((spec_l01In.f x176003 0 5).bind fun t180 => (if t180 = true then (if (x176004 == 0 && (x176005 == 0)) = true then (some (x176006 == 0 && (x176007 == 0))) else (some false)) else (some false))) else (if x176000 = 2 then (if x176003 = 0 then ((spec_RoleOk.f x176004 x176005).bind fun t181 => (if t181 = true then (some (x176006 == 0 && (x176007 == 0))) else (some false))) else (some false)) else (if x176000 = 3 then (if x176003 = 0 then ((spec_RoleOk.f x176004 x176005).bind fun t182 => (if t182 = true then ((spec_RoleOk.f x176006 x176007).bind fun t183 => (if t183 = true then (some (x176006 == 0)) else (some false))) else (some false))) else (some false)) else (if x176000 = 4 then (if x176003 = 0 then ((spec_RoleOk.f x176004 x176005).bind fun t184 => (if t184 = true then ((spec_RoleOk.f x176006 x176007).bind fun t185 => (some t185)) else (some false))) else (some false)) else (some false)))))
def spec_CredOk.f (k : Nat) (a0_0 : Int) (a0_1 : Int) (a0_2 : Int) (a0_3 : Int) (a0_4 : Int) (a0_5 : Int) (a0_6 : Int) (a0_7 : Int) (a0_8 : Int) (a0_9 : Int) : Option (Bool) := (spec_RoleOk.f a0_1 a0_2).bind fun t176 => (if t176 = true then ((spec_l01In.f a0_8 1 9999).bind fun t177 => (if t177 = true then ((spec_l01In.f a0_9 0 99).bind fun t178 => (spec_CredOk.j0 k (!t178) a0_0 a0_1 a0_2 a0_3 a0_4 a0_5 a0_6 a0_7 a0_8 a0_9)) else (spec_CredOk.j0 k true a0_0 a0_1 a0_2 a0_3 a0_4 a0_5 a0_6 a0_7 a0_8 a0_9))) else (spec_CredOk.j0 k true a0_0 a0_1 a0_2 a0_3 a0_4 a0_5 a0_6 a0_7 a0_8 a0_9))
theorem spec_CredOk.mono_l : ∀ k, (∀ y0 y1 y2 y3 y4 y5 y6 y7 y8 y9 y10, LeO (spec_CredOk.j0 k y0 y1 y2 y3 y4 y5 y6 y7 y8 y9 y10) (spec_CredOk.j0 (k + 1) y0 y1 y2 y3 y4 y5 y6 y7 y8 y9 y10))
 | 0 => fun _ _ _ _ _ _ _ _ _ _ _ r h => by simp [spec_CredOk.j0] at h
 | k + 1 => by
  have ih0 := spec_CredOk.mono_l k
  ·intro y0 y1 y2 y3 y4 y5 y6 y7 y8 y9 y10
   unfold spec_CredOk.j0
   repeat' first
   | (with_reducible exact ih0 _ _ _ _ _ _ _ _ _ _ _)
   | (with_reducible exact LeO.refl _)
   | (with_reducible exact LeO.none _)
   | (with_reducible refine LeO.ite ?_ ?_)
   | (with_reducible refine LeO.bind ?_ (fun _ => ?_))
   | exact ih0 _ _ _ _ _ _ _ _ _ _ _
   | exact LeO.none _
   | refine LeO.ite ?_ ?_
   | refine LeO.bind ?_ (fun _ => ?_)
theorem spec_CredOk.mono : ∀ a0 a1 a2 a3 a4 a5 a6 a7 a8 a9 k, LeO (spec_CredOk.f k a0 a1 a2 a3 a4 a5 a6 a7 a8 a9) (spec_CredOk.f (k + 1) a0 a1 a2 a3 a4 a5 a6 a7 a8 a9) := by
 intro a0 a1 a2 a3 a4 a5 a6 a7 a8 a9 k
 have ih0 := spec_CredOk.mono_l k
 unfold spec_CredOk.f
 repeat' first
   | (with_reducible exact ih0 _ _ _ _ _ _ _ _ _ _ _)
   | (with_reducible exact LeO.refl _)
   | (with_reducible exact LeO.none _)
   | (with_reducible refine LeO.ite ?_ ?_)
   | (with_reducible refine LeO.bind ?_ (fun _ => ?_))
   | exact ih0 _ _ _ _ _ _ _ _ _ _ _
   | exact LeO.none _
   | refine LeO.ite ?_ ?_
   | refine LeO.bind ?_ (fun _ => ?_)
set_option maxHeartbeats 8000000 in
set_option maxRecDepth 100000 in
theorem spec_CredOk.calls (k : Nat) (a0_0 : Int) (a0_1 : Int) (a0_2 : Int) (a0_3 : Int) (a0_4 : Int) (a0_5 : Int) (a0_6 : Int) (a0_7 : Int) (a0_8 : Int) (a0_9 : Int) (r : Bool) (w : World) (h : spec_CredOk.f k a0_0 a0_1 a0_2 a0_3 a0_4 a0_5 a0_6 a0_7 a0_8 a0_9 = some r) :
  Calls Try.prog 66 #[.agg #[.int .i64 a0_0, .int .i64 a0_1, .int .i64 a0_2, .int .i64 a0_3, .int .i64 a0_4, .int .i64 a0_5, .int .i64 a0_6, .int .i64 a0_7, .int .i64 a0_8, .int .i64 a0_9]] w fun e w' => e = .returned (.bool r) ∧ Below w.heap.size w w' := by
 have hu29 := Try.underlying29
 have hu27 := Try.underlying27
 have HB := Aside0.mk (Below.refl w.heap.size w)
 have H : ((spec_RoleOk.f a0_1 a0_2).bind fun t176 => (if t176 = true then ((spec_l01In.f a0_8 1 9999).bind fun t177 => (if t177 = true then ((spec_l01In.f a0_9 0 99).bind fun t178 => (spec_CredOk.j0 k (!t178) a0_0 a0_1 a0_2 a0_3 a0_4 a0_5 a0_6 a0_7 a0_8 a0_9)) else (spec_CredOk.j0 k true a0_0 a0_1 a0_2 a0_3 a0_4 a0_5 a0_6 a0_7 a0_8 a0_9))) else (spec_CredOk.j0 k true a0_0 a0_1 a0_2 a0_3 a0_4 a0_5 a0_6 a0_7 a0_8 a0_9))) = some r := h
 clear h
 have HC2 := Aside0.mk H
 clear H
 go_enter Try.func66, Try.ntmps66
 go_upto_region 1 with (first | ((with_reducible refine gate_dst (N := 1) rfl ?_); refine sqX (N := 1) (cs := #[.int .i64 a0_0, .int .i64 a0_1, .int .i64 a0_2, .int .i64 a0_3, .int .i64 a0_4, .int .i64 a0_5, .int .i64 a0_6, .int .i64 a0_7, .int .i64 a0_8, .int .i64 a0_9]) (t := 29) ?_; intro gb175 hg w3 hbox hb; have BK175 := Aside0.mk (hbox); have GW175 := sqG hg; have GE175 := sqG hg; replace HB := sqS hb; clear hb hbox hg))
 (try simp only [Act.put, List.setIfInBounds_toArray, List.set_cons_zero, List.set_cons_succ])
 go_cut [19] (fun v19 wc => ∃ (kq : Nat) (x19_1 : Bool), v19 = .bool x19_1 ∧ Aside0 (spec_CredOk.j0 kq x19_1 a0_0 a0_1 a0_2 a0_3 a0_4 a0_5 a0_6 a0_7 a0_8 a0_9 = some r) ∧ Aside0 (kq ≤ k) ∧ Aside0 (wc.heap[gb175]? = some (.cells #[.int .i64 a0_0, .int .i64 a0_1, .int .i64 a0_2, .int .i64 a0_3, .int .i64 a0_4, .int .i64 a0_5, .int .i64 a0_6, .int .i64 a0_7, .int .i64 a0_8, .int .i64 a0_9] 29 (0, 0))) ∧ Aside0 (Below w.heap.size w wc))
 case first =>
  have H := HC2.out
  clear HC2
  replace H := Option.bind_eq_some_iff.mp H
  obtain ⟨t176, A40, H⟩ := H
  try dsimp only at H
  have A4 := Aside0.mk A40
  clear A40
  by_cases c5 : t176 = true
  ·subst c5
   rw [if_pos rfl] at H
   replace H := Option.bind_eq_some_iff.mp H
   obtain ⟨t177, A60, H⟩ := H
   try dsimp only at H
   have A6 := Aside0.mk A60
   clear A60
   by_cases c7 : t177 = true
   ·subst c7
    rw [if_pos rfl] at H
    replace H := Option.bind_eq_some_iff.mp H
    obtain ⟨t178, A80, H⟩ := H
    try dsimp only at H
    have A8 := Aside0.mk A80
    clear A80
    have H' := Aside0.mk H
    clear H
    obtain ⟨hcz9_0, hcz9_1, hcz9_2, hcz9_3, hcz9_4, hcz9_5, hcz9_6, hcz9_7, hcz9_8, hcz9_9, hfz9_0, hfz9_1, hfz9_2, hfz9_3, hfz9_4, hfz9_5, hfz9_6, hfz9_7, hfz9_8, hfz9_9⟩ := sqC10 BK175
    go_wp2_with (first | ((with_reducible refine gate_callee (f := 80) rfl ?_); refine goesL_ (some 6) rfl rfl Try.func80 (by kernel_rfl) rfl #[.agg #[.int .i64 a0_1, .int .i64 a0_2]] rfl sqA ?_; (with_reducible refine (spec_RoleOk.calls a0_1 a0_2 true _ A4.out).mono ?_); rintro e w10 ⟨rfl, hb⟩; refine ⟨_, rfl, ?_⟩; replace BK175 := sqL BK175 hb; replace HB := sqS hb; (try clear hb); (try clear hb2); (try clear hk); (try clear hi); obtain ⟨hcz11_0, hcz11_1, hcz11_2, hcz11_3, hcz11_4, hcz11_5, hcz11_6, hcz11_7, hcz11_8, hcz11_9, hfz11_0, hfz11_1, hfz11_2, hfz11_3, hfz11_4, hfz11_5, hfz11_6, hfz11_7, hfz11_8, hfz11_9⟩ := sqC10 BK175) | (go_at_call 81; (with_reducible refine (spec_l01In.calls a0_8 1 9999 true _ A6.out).mono ?_); rintro e w' ⟨rfl, ⟨nd, rfl⟩⟩) | (go_at_call 81; (with_reducible refine (spec_l01In.calls a0_9 0 99 t178 _ A8.out).mono ?_); rintro e w' ⟨rfl, ⟨nd, rfl⟩⟩))
    go_meet
    case rel => exact ⟨_, (!t178), (by first | rfl | (simp; done) | (simp [*]; done)), H', ⟨by first | omega | exact Nat.le_refl _⟩, ⟨sqK BK175⟩, ⟨sqB⟩⟩
   ·replace c7 := Bool.eq_false_iff.mpr c7
    subst c7
    rw [if_neg (show ¬ (false = true) by decide)] at H
    have H' := Aside0.mk H
    clear H
    obtain ⟨hcz12_0, hcz12_1, hcz12_2, hcz12_3, hcz12_4, hcz12_5, hcz12_6, hcz12_7, hcz12_8, hcz12_9, hfz12_0, hfz12_1, hfz12_2, hfz12_3, hfz12_4, hfz12_5, hfz12_6, hfz12_7, hfz12_8, hfz12_9⟩ := sqC10 BK175
    go_wp2_with (first | ((with_reducible refine gate_callee (f := 80) rfl ?_); refine goesL_ (some 6) rfl rfl Try.func80 (by kernel_rfl) rfl #[.agg #[.int .i64 a0_1, .int .i64 a0_2]] rfl sqA ?_; (with_reducible refine (spec_RoleOk.calls a0_1 a0_2 true _ A4.out).mono ?_); rintro e w13 ⟨rfl, hb⟩; refine ⟨_, rfl, ?_⟩; replace BK175 := sqL BK175 hb; replace HB := sqS hb; (try clear hb); (try clear hb2); (try clear hk); (try clear hi); obtain ⟨hcz14_0, hcz14_1, hcz14_2, hcz14_3, hcz14_4, hcz14_5, hcz14_6, hcz14_7, hcz14_8, hcz14_9, hfz14_0, hfz14_1, hfz14_2, hfz14_3, hfz14_4, hfz14_5, hfz14_6, hfz14_7, hfz14_8, hfz14_9⟩ := sqC10 BK175) | (go_at_call 81; (with_reducible refine (spec_l01In.calls a0_8 1 9999 false _ A6.out).mono ?_); rintro e w' ⟨rfl, ⟨nd, rfl⟩⟩))
    go_meet
    case rel => exact ⟨_, (true), (by first | rfl | (simp; done) | (simp [*]; done)), H', ⟨by first | omega | exact Nat.le_refl _⟩, ⟨sqK BK175⟩, ⟨sqB⟩⟩
  ·replace c5 := Bool.eq_false_iff.mpr c5
   subst c5
   rw [if_neg (show ¬ (false = true) by decide)] at H
   have H' := Aside0.mk H
   clear H
   obtain ⟨hcz15_0, hcz15_1, hcz15_2, hcz15_3, hcz15_4, hcz15_5, hcz15_6, hcz15_7, hcz15_8, hcz15_9, hfz15_0, hfz15_1, hfz15_2, hfz15_3, hfz15_4, hfz15_5, hfz15_6, hfz15_7, hfz15_8, hfz15_9⟩ := sqC10 BK175
   go_wp2_with (first | ((with_reducible refine gate_callee (f := 80) rfl ?_); refine goesL_ (some 6) rfl rfl Try.func80 (by kernel_rfl) rfl #[.agg #[.int .i64 a0_1, .int .i64 a0_2]] rfl sqA ?_; (with_reducible refine (spec_RoleOk.calls a0_1 a0_2 false _ A4.out).mono ?_); rintro e w16 ⟨rfl, hb⟩; refine ⟨_, rfl, ?_⟩; replace BK175 := sqL BK175 hb; replace HB := sqS hb; (try clear hb); (try clear hb2); (try clear hk); (try clear hi)))
   go_meet
   case rel => exact ⟨_, (true), (by first | rfl | (simp; done) | (simp [*]; done)), H', ⟨by first | omega | exact Nat.le_refl _⟩, ⟨sqK BK175⟩, ⟨sqB⟩⟩
 case rest =>
  clear HC2
  try clear p2
  try clear c5
  try clear c6
  try clear c7
  try clear c8
  try clear hcz11_0 hcz11_1 hcz11_2 hcz11_3 hcz11_4 hcz11_5 hcz11_6 hcz11_7 hcz11_8 hcz11_9
  try clear hcz12_0 hcz12_1 hcz12_2 hcz12_3 hcz12_4 hcz12_5 hcz12_6 hcz12_7 hcz12_8 hcz12_9
  try clear hcz14_0 hcz14_1 hcz14_2 hcz14_3 hcz14_4 hcz14_5 hcz14_6 hcz14_7 hcz14_8 hcz14_9
  try clear hcz15_0 hcz15_1 hcz15_2 hcz15_3 hcz15_4 hcz15_5 hcz15_6 hcz15_7 hcz15_8 hcz15_9
  try clear hcz9_0 hcz9_1 hcz9_2 hcz9_3 hcz9_4 hcz9_5 hcz9_6 hcz9_7 hcz9_8 hcz9_9
  try clear hfz11_0
  try clear hfz11_1
  try clear hfz11_2
  try clear hfz11_3
  try clear hfz11_4
  try clear hfz11_5
  try clear hfz11_6
  try clear hfz11_7
  try clear hfz11_8
  try clear hfz11_9
  try clear hfz12_0
  try clear hfz12_1
  try clear hfz12_2
  try clear hfz12_3
  try clear hfz12_4
  try clear hfz12_5
  try clear hfz12_6
  try clear hfz12_7
  try clear hfz12_8
  try clear hfz12_9
  try clear hfz14_0
  try clear hfz14_1
  try clear hfz14_2
  try clear hfz14_3
  try clear hfz14_4
  try clear hfz14_5
  try clear hfz14_6
  try clear hfz14_7
  try clear hfz14_8
  try clear hfz14_9
  try clear hfz15_0
  try clear hfz15_1
  try clear hfz15_2
  try clear hfz15_3
  try clear hfz15_4
  try clear hfz15_5
  try clear hfz15_6
  try clear hfz15_7
  try clear hfz15_8
  try clear hfz15_9
  try clear hfz9_0
  try clear hfz9_1
  try clear hfz9_2
  try clear hfz9_3
  try clear hfz9_4
  try clear hfz9_5
  try clear hfz9_6
  try clear hfz9_7
  try clear hfz9_8
  try clear hfz9_9
  obtain ⟨kq, x19_1, rfl, HA, HJ1, BK175, HB⟩ := hcut
  cases kq with
  | zero => exact absurd HA.out (by simp [spec_CredOk.j0])
  | succ kj1 =>
   have H := HA.out
   clear HA
   simp only [spec_CredOk.j0] at H
   by_cases c17 : x19_1 = true
   ·subst c17
    rw [if_pos rfl] at H
    obtain rfl := Option.some.inj H
    go_wp2
    go_ret
    exact ⟨sqE, sqB⟩
   ·replace c17 := Bool.eq_false_iff.mpr c17
    subst c17
    rw [if_neg (show ¬ (false = true) by decide)] at H
    by_cases c18 : a0_0 = 1
    ·rw [if_pos c18] at H
     have c18b0 : (a0_0 == 1) = true := beq_iff_eq.mpr c18
     have c18b1 : (a0_0 != 1) = false := bne_eq_false_iff_eq.mpr c18
     clear c18
     replace H := Option.bind_eq_some_iff.mp H
     obtain ⟨t180, A190, H⟩ := H
     try dsimp only at H
     have A19 := Aside0.mk A190
     clear A190
     by_cases c20 : t180 = true
     ·subst c20
      rw [if_pos rfl] at H
      by_cases c21 : (a0_4 == 0 && (a0_5 == 0)) = true
      ·rw [if_pos c21] at H
       have c21b0 : (a0_4 == 0 && (a0_5 == 0)) = true := c21
       (try (have c21b1 : decide (a0_4 = 0 && (a0_5 == 0)) = true := by simpa using c21))
       (try (have c21b2 : (a0_4 == 0 && (a0_5 == 0)) = true := by simpa using c21))
       clear c21
       obtain rfl := Option.some.inj H
       go_wp2_with (first | ((with_reducible refine gate_dst (N := 3) rfl ?_); refine sqX (N := 3) (cs := #[.int .i64 0, .int .i64 0]) (t := 27) ?_; intro gb179 hg w22 hbox hb; have BK179 := Aside0.mk (hbox); have GW179 := sqG hg; have GE179 := sqG hg; have NB175_179 := sqN BK175 hg; have NB179_175 := sqM BK175 hg; replace BK175 := sqL BK175 hb; replace HB := sqS hb; clear hb hbox hg; have hnb23 := NB179_175.out; have hnc23 := NB175_179.out; obtain ⟨hcz24_0, hcz24_1, hfz24_0, hfz24_1⟩ := sqC2 BK179; obtain ⟨hcz25_0, hcz25_1, hcz25_2, hcz25_3, hcz25_4, hcz25_5, hcz25_6, hcz25_7, hcz25_8, hcz25_9, hfz25_0, hfz25_1, hfz25_2, hfz25_3, hfz25_4, hfz25_5, hfz25_6, hfz25_7, hfz25_8, hfz25_9⟩ := sqC10 BK175) | ((with_reducible refine gate_callee (f := 81) rfl ?_); refine goesL_ (some 27) rfl rfl Try.func81 (by kernel_rfl) rfl #[.int .i64 a0_3, .int .i64 0, .int .i64 5] rfl sqA ?_; (with_reducible refine (spec_l01In.calls a0_3 0 5 true _ A19.out).mono ?_); rintro e w' ⟨rfl, ⟨nd, rfl⟩⟩; refine ⟨_, rfl, ?_⟩))
       go_ret
       exact ⟨sqE, sqB⟩
      ·rw [if_neg c21] at H
       have c21b0 : (a0_4 == 0 && (a0_5 == 0)) = false := by simpa using c21
       (try (have c21b1 : decide (a0_4 = 0 && (a0_5 == 0)) = false := by simpa using c21))
       (try (have c21b2 : (a0_4 == 0 && (a0_5 == 0)) = false := by simpa using c21))
       (try (have c21b3 : ¬ (a0_4 = 0 && (a0_5 == 0)) := by simpa using c21))
       clear c21
       obtain rfl := Option.some.inj H
       go_wp2_with (first | ((with_reducible refine gate_dst (N := 3) rfl ?_); refine sqX (N := 3) (cs := #[.int .i64 0, .int .i64 0]) (t := 27) ?_; intro gb179 hg w26 hbox hb; have BK179 := Aside0.mk (hbox); have GW179 := sqG hg; have GE179 := sqG hg; have NB175_179 := sqN BK175 hg; have NB179_175 := sqM BK175 hg; replace BK175 := sqL BK175 hb; replace HB := sqS hb; clear hb hbox hg; have hnb27 := NB179_175.out; have hnc27 := NB175_179.out; obtain ⟨hcz28_0, hcz28_1, hfz28_0, hfz28_1⟩ := sqC2 BK179; obtain ⟨hcz29_0, hcz29_1, hcz29_2, hcz29_3, hcz29_4, hcz29_5, hcz29_6, hcz29_7, hcz29_8, hcz29_9, hfz29_0, hfz29_1, hfz29_2, hfz29_3, hfz29_4, hfz29_5, hfz29_6, hfz29_7, hfz29_8, hfz29_9⟩ := sqC10 BK175) | ((with_reducible refine gate_callee (f := 81) rfl ?_); refine goesL_ (some 27) rfl rfl Try.func81 (by kernel_rfl) rfl #[.int .i64 a0_3, .int .i64 0, .int .i64 5] rfl sqA ?_; (with_reducible refine (spec_l01In.calls a0_3 0 5 true _ A19.out).mono ?_); rintro e w' ⟨rfl, ⟨nd, rfl⟩⟩; refine ⟨_, rfl, ?_⟩))
       go_ret
       exact ⟨sqE, sqB⟩
     ·replace c20 := Bool.eq_false_iff.mpr c20
      subst c20
      rw [if_neg (show ¬ (false = true) by decide)] at H
      obtain rfl := Option.some.inj H
      go_wp2_with (first | ((with_reducible refine gate_dst (N := 3) rfl ?_); refine sqX (N := 3) (cs := #[.int .i64 0, .int .i64 0]) (t := 27) ?_; intro gb179 hg w30 hbox hb; have BK179 := Aside0.mk (hbox); have GW179 := sqG hg; have GE179 := sqG hg; have NB175_179 := sqN BK175 hg; have NB179_175 := sqM BK175 hg; replace BK175 := sqL BK175 hb; replace HB := sqS hb; clear hb hbox hg; have hnb31 := NB179_175.out; have hnc31 := NB175_179.out; obtain ⟨hcz32_0, hcz32_1, hfz32_0, hfz32_1⟩ := sqC2 BK179; obtain ⟨hcz33_0, hcz33_1, hcz33_2, hcz33_3, hcz33_4, hcz33_5, hcz33_6, hcz33_7, hcz33_8, hcz33_9, hfz33_0, hfz33_1, hfz33_2, hfz33_3, hfz33_4, hfz33_5, hfz33_6, hfz33_7, hfz33_8, hfz33_9⟩ := sqC10 BK175) | ((with_reducible refine gate_callee (f := 81) rfl ?_); refine goesL_ (some 27) rfl rfl Try.func81 (by kernel_rfl) rfl #[.int .i64 a0_3, .int .i64 0, .int .i64 5] rfl sqA ?_; (with_reducible refine (spec_l01In.calls a0_3 0 5 false _ A19.out).mono ?_); rintro e w' ⟨rfl, ⟨nd, rfl⟩⟩; refine ⟨_, rfl, ?_⟩))
      go_ret
      exact ⟨sqE, sqB⟩
    ·rw [if_neg c18] at H
     have c18b0 : (a0_0 == 1) = false := beq_eq_false_iff_ne.mpr c18
     have c18b1 : (a0_0 != 1) = true := bne_iff_ne.mpr c18
     by_cases c34 : a0_0 = 2
     ·rw [if_pos c34] at H
      have c34b0 : (a0_0 == 2) = true := beq_iff_eq.mpr c34
      have c34b1 : (a0_0 != 2) = false := bne_eq_false_iff_eq.mpr c34
      clear c34
      by_cases c35 : a0_3 = 0
      ·rw [if_pos c35] at H
       have c35b0 : (a0_3 == 0) = true := beq_iff_eq.mpr c35
       have c35b1 : (a0_3 != 0) = false := bne_eq_false_iff_eq.mpr c35
       clear c35
       replace H := Option.bind_eq_some_iff.mp H
       obtain ⟨t181, A360, H⟩ := H
       try dsimp only at H
       have A36 := Aside0.mk A360
       clear A360
       by_cases c37 : t181 = true
       ·subst c37
        rw [if_pos rfl] at H
        obtain rfl := Option.some.inj H
        go_wp2_with (first | ((with_reducible refine gate_dst (N := 3) rfl ?_); refine sqX (N := 3) (cs := #[.int .i64 0, .int .i64 0]) (t := 27) ?_; intro gb179 hg w38 hbox hb; have BK179 := Aside0.mk (hbox); have GW179 := sqG hg; have GE179 := sqG hg; have NB175_179 := sqN BK175 hg; have NB179_175 := sqM BK175 hg; replace BK175 := sqL BK175 hb; replace HB := sqS hb; clear hb hbox hg; have hnb39 := NB179_175.out; have hnc39 := NB175_179.out; obtain ⟨hcz40_0, hcz40_1, hfz40_0, hfz40_1⟩ := sqC2 BK179; obtain ⟨hcz41_0, hcz41_1, hcz41_2, hcz41_3, hcz41_4, hcz41_5, hcz41_6, hcz41_7, hcz41_8, hcz41_9, hfz41_0, hfz41_1, hfz41_2, hfz41_3, hfz41_4, hfz41_5, hfz41_6, hfz41_7, hfz41_8, hfz41_9⟩ := sqC10 BK175) | (go_at_call 80; (with_reducible refine (spec_RoleOk.calls a0_4 a0_5 true _ A36.out).mono ?_); rintro e w42 ⟨rfl, hb⟩; replace BK175 := sqLW (o' := .cells #[.int .i64 a0_0, .int .i64 a0_1, .int .i64 a0_2, .int .i64 a0_3, .int .i64 a0_4, .int .i64 a0_5, .int .i64 a0_6, .int .i64 a0_7, .int .i64 a0_8, .int .i64 a0_9] 29 (0, 0)) BK175 hb; replace BK179 := sqLW (o' := .cells #[.int .i64 0, .int .i64 0] 27 (0, 0)) BK179 hb; replace HB := sqS hb; (try clear hb); (try clear hb2); (try clear hk); (try clear hi); obtain ⟨hcz43_0, hcz43_1, hcz43_2, hcz43_3, hcz43_4, hcz43_5, hcz43_6, hcz43_7, hcz43_8, hcz43_9, hfz43_0, hfz43_1, hfz43_2, hfz43_3, hfz43_4, hfz43_5, hfz43_6, hfz43_7, hfz43_8, hfz43_9⟩ := sqC10 BK175; obtain ⟨hcz44_0, hcz44_1, hfz44_0, hfz44_1⟩ := sqC2 BK179))
        go_ret
        exact ⟨sqE, sqB⟩
       ·replace c37 := Bool.eq_false_iff.mpr c37
        subst c37
        rw [if_neg (show ¬ (false = true) by decide)] at H
        obtain rfl := Option.some.inj H
        go_wp2_with (first | ((with_reducible refine gate_dst (N := 3) rfl ?_); refine sqX (N := 3) (cs := #[.int .i64 0, .int .i64 0]) (t := 27) ?_; intro gb179 hg w45 hbox hb; have BK179 := Aside0.mk (hbox); have GW179 := sqG hg; have GE179 := sqG hg; have NB175_179 := sqN BK175 hg; have NB179_175 := sqM BK175 hg; replace BK175 := sqL BK175 hb; replace HB := sqS hb; clear hb hbox hg; have hnb46 := NB179_175.out; have hnc46 := NB175_179.out; obtain ⟨hcz47_0, hcz47_1, hfz47_0, hfz47_1⟩ := sqC2 BK179; obtain ⟨hcz48_0, hcz48_1, hcz48_2, hcz48_3, hcz48_4, hcz48_5, hcz48_6, hcz48_7, hcz48_8, hcz48_9, hfz48_0, hfz48_1, hfz48_2, hfz48_3, hfz48_4, hfz48_5, hfz48_6, hfz48_7, hfz48_8, hfz48_9⟩ := sqC10 BK175) | (go_at_call 80; (with_reducible refine (spec_RoleOk.calls a0_4 a0_5 false _ A36.out).mono ?_); rintro e w49 ⟨rfl, hb⟩; replace BK175 := sqLW (o' := .cells #[.int .i64 a0_0, .int .i64 a0_1, .int .i64 a0_2, .int .i64 a0_3, .int .i64 a0_4, .int .i64 a0_5, .int .i64 a0_6, .int .i64 a0_7, .int .i64 a0_8, .int .i64 a0_9] 29 (0, 0)) BK175 hb; replace BK179 := sqLW (o' := .cells #[.int .i64 0, .int .i64 0] 27 (0, 0)) BK179 hb; replace HB := sqS hb; (try clear hb); (try clear hb2); (try clear hk); (try clear hi)))
        go_ret
        exact ⟨sqE, sqB⟩
      ·rw [if_neg c35] at H
       have c35b0 : (a0_3 == 0) = false := beq_eq_false_iff_ne.mpr c35
       have c35b1 : (a0_3 != 0) = true := bne_iff_ne.mpr c35
       obtain rfl := Option.some.inj H
       go_wp2_with (first | ((with_reducible refine gate_dst (N := 3) rfl ?_); refine sqX (N := 3) (cs := #[.int .i64 0, .int .i64 0]) (t := 27) ?_; intro gb179 hg w50 hbox hb; have BK179 := Aside0.mk (hbox); have GW179 := sqG hg; have GE179 := sqG hg; have NB175_179 := sqN BK175 hg; have NB179_175 := sqM BK175 hg; replace BK175 := sqL BK175 hb; replace HB := sqS hb; clear hb hbox hg; have hnb51 := NB179_175.out; have hnc51 := NB175_179.out; obtain ⟨hcz52_0, hcz52_1, hfz52_0, hfz52_1⟩ := sqC2 BK179; obtain ⟨hcz53_0, hcz53_1, hcz53_2, hcz53_3, hcz53_4, hcz53_5, hcz53_6, hcz53_7, hcz53_8, hcz53_9, hfz53_0, hfz53_1, hfz53_2, hfz53_3, hfz53_4, hfz53_5, hfz53_6, hfz53_7, hfz53_8, hfz53_9⟩ := sqC10 BK175))
       go_ret
       exact ⟨sqE, sqB⟩
     ·rw [if_neg c34] at H
      have c34b0 : (a0_0 == 2) = false := beq_eq_false_iff_ne.mpr c34
      have c34b1 : (a0_0 != 2) = true := bne_iff_ne.mpr c34
      by_cases c54 : a0_0 = 3
      ·rw [if_pos c54] at H
       have c54b0 : (a0_0 == 3) = true := beq_iff_eq.mpr c54
       have c54b1 : (a0_0 != 3) = false := bne_eq_false_iff_eq.mpr c54
       clear c54
       by_cases c55 : a0_3 = 0
       ·rw [if_pos c55] at H
        have c55b0 : (a0_3 == 0) = true := beq_iff_eq.mpr c55
        have c55b1 : (a0_3 != 0) = false := bne_eq_false_iff_eq.mpr c55
        clear c55
        replace H := Option.bind_eq_some_iff.mp H
        obtain ⟨t182, A560, H⟩ := H
        try dsimp only at H
        have A56 := Aside0.mk A560
        clear A560
        by_cases c57 : t182 = true
        ·subst c57
         rw [if_pos rfl] at H
         replace H := Option.bind_eq_some_iff.mp H
         obtain ⟨t183, A580, H⟩ := H
         try dsimp only at H
         have A58 := Aside0.mk A580
         clear A580
         by_cases c59 : t183 = true
         ·subst c59
          rw [if_pos rfl] at H
          obtain rfl := Option.some.inj H
          go_wp2_with (first | ((with_reducible refine gate_dst (N := 3) rfl ?_); refine sqX (N := 3) (cs := #[.int .i64 0, .int .i64 0]) (t := 27) ?_; intro gb179 hg w60 hbox hb; have BK179 := Aside0.mk (hbox); have GW179 := sqG hg; have GE179 := sqG hg; have NB175_179 := sqN BK175 hg; have NB179_175 := sqM BK175 hg; replace BK175 := sqL BK175 hb; replace HB := sqS hb; clear hb hbox hg; have hnb61 := NB179_175.out; have hnc61 := NB175_179.out; obtain ⟨hcz62_0, hcz62_1, hfz62_0, hfz62_1⟩ := sqC2 BK179; obtain ⟨hcz63_0, hcz63_1, hcz63_2, hcz63_3, hcz63_4, hcz63_5, hcz63_6, hcz63_7, hcz63_8, hcz63_9, hfz63_0, hfz63_1, hfz63_2, hfz63_3, hfz63_4, hfz63_5, hfz63_6, hfz63_7, hfz63_8, hfz63_9⟩ := sqC10 BK175) | (go_at_call 80; (with_reducible refine (spec_RoleOk.calls a0_4 a0_5 true _ A56.out).mono ?_); rintro e w64 ⟨rfl, hb⟩; replace BK175 := sqLW (o' := .cells #[.int .i64 a0_0, .int .i64 a0_1, .int .i64 a0_2, .int .i64 a0_3, .int .i64 a0_4, .int .i64 a0_5, .int .i64 a0_6, .int .i64 a0_7, .int .i64 a0_8, .int .i64 a0_9] 29 (0, 0)) BK175 hb; replace BK179 := sqLW (o' := .cells #[.int .i64 0, .int .i64 0] 27 (0, 0)) BK179 hb; replace HB := sqS hb; (try clear hb); (try clear hb2); (try clear hk); (try clear hi); obtain ⟨hcz65_0, hcz65_1, hcz65_2, hcz65_3, hcz65_4, hcz65_5, hcz65_6, hcz65_7, hcz65_8, hcz65_9, hfz65_0, hfz65_1, hfz65_2, hfz65_3, hfz65_4, hfz65_5, hfz65_6, hfz65_7, hfz65_8, hfz65_9⟩ := sqC10 BK175) | (go_at_call 80; (with_reducible refine (spec_RoleOk.calls a0_6 a0_7 true _ A58.out).mono ?_); rintro e w66 ⟨rfl, hb⟩; replace BK175 := sqL BK175 hb; replace BK179 := sqL BK179 hb; replace HB := sqS hb; (try clear hb); (try clear hb2); (try clear hk); (try clear hi); obtain ⟨hcz67_0, hcz67_1, hcz67_2, hcz67_3, hcz67_4, hcz67_5, hcz67_6, hcz67_7, hcz67_8, hcz67_9, hfz67_0, hfz67_1, hfz67_2, hfz67_3, hfz67_4, hfz67_5, hfz67_6, hfz67_7, hfz67_8, hfz67_9⟩ := sqC10 BK175))
          go_ret
          exact ⟨sqE, sqB⟩
         ·replace c59 := Bool.eq_false_iff.mpr c59
          subst c59
          rw [if_neg (show ¬ (false = true) by decide)] at H
          obtain rfl := Option.some.inj H
          go_wp2_with (first | ((with_reducible refine gate_dst (N := 3) rfl ?_); refine sqX (N := 3) (cs := #[.int .i64 0, .int .i64 0]) (t := 27) ?_; intro gb179 hg w68 hbox hb; have BK179 := Aside0.mk (hbox); have GW179 := sqG hg; have GE179 := sqG hg; have NB175_179 := sqN BK175 hg; have NB179_175 := sqM BK175 hg; replace BK175 := sqL BK175 hb; replace HB := sqS hb; clear hb hbox hg; have hnb69 := NB179_175.out; have hnc69 := NB175_179.out; obtain ⟨hcz70_0, hcz70_1, hfz70_0, hfz70_1⟩ := sqC2 BK179; obtain ⟨hcz71_0, hcz71_1, hcz71_2, hcz71_3, hcz71_4, hcz71_5, hcz71_6, hcz71_7, hcz71_8, hcz71_9, hfz71_0, hfz71_1, hfz71_2, hfz71_3, hfz71_4, hfz71_5, hfz71_6, hfz71_7, hfz71_8, hfz71_9⟩ := sqC10 BK175) | (go_at_call 80; (with_reducible refine (spec_RoleOk.calls a0_4 a0_5 true _ A56.out).mono ?_); rintro e w72 ⟨rfl, hb⟩; replace BK175 := sqLW (o' := .cells #[.int .i64 a0_0, .int .i64 a0_1, .int .i64 a0_2, .int .i64 a0_3, .int .i64 a0_4, .int .i64 a0_5, .int .i64 a0_6, .int .i64 a0_7, .int .i64 a0_8, .int .i64 a0_9] 29 (0, 0)) BK175 hb; replace BK179 := sqLW (o' := .cells #[.int .i64 0, .int .i64 0] 27 (0, 0)) BK179 hb; replace HB := sqS hb; (try clear hb); (try clear hb2); (try clear hk); (try clear hi); obtain ⟨hcz73_0, hcz73_1, hcz73_2, hcz73_3, hcz73_4, hcz73_5, hcz73_6, hcz73_7, hcz73_8, hcz73_9, hfz73_0, hfz73_1, hfz73_2, hfz73_3, hfz73_4, hfz73_5, hfz73_6, hfz73_7, hfz73_8, hfz73_9⟩ := sqC10 BK175) | (go_at_call 80; (with_reducible refine (spec_RoleOk.calls a0_6 a0_7 false _ A58.out).mono ?_); rintro e w74 ⟨rfl, hb⟩; replace BK175 := sqL BK175 hb; replace BK179 := sqL BK179 hb; replace HB := sqS hb; (try clear hb); (try clear hb2); (try clear hk); (try clear hi)))
          go_ret
          exact ⟨sqE, sqB⟩
        ·replace c57 := Bool.eq_false_iff.mpr c57
         subst c57
         rw [if_neg (show ¬ (false = true) by decide)] at H
         obtain rfl := Option.some.inj H
         go_wp2_with (first | ((with_reducible refine gate_dst (N := 3) rfl ?_); refine sqX (N := 3) (cs := #[.int .i64 0, .int .i64 0]) (t := 27) ?_; intro gb179 hg w75 hbox hb; have BK179 := Aside0.mk (hbox); have GW179 := sqG hg; have GE179 := sqG hg; have NB175_179 := sqN BK175 hg; have NB179_175 := sqM BK175 hg; replace BK175 := sqL BK175 hb; replace HB := sqS hb; clear hb hbox hg; have hnb76 := NB179_175.out; have hnc76 := NB175_179.out; obtain ⟨hcz77_0, hcz77_1, hfz77_0, hfz77_1⟩ := sqC2 BK179; obtain ⟨hcz78_0, hcz78_1, hcz78_2, hcz78_3, hcz78_4, hcz78_5, hcz78_6, hcz78_7, hcz78_8, hcz78_9, hfz78_0, hfz78_1, hfz78_2, hfz78_3, hfz78_4, hfz78_5, hfz78_6, hfz78_7, hfz78_8, hfz78_9⟩ := sqC10 BK175) | (go_at_call 80; (with_reducible refine (spec_RoleOk.calls a0_4 a0_5 false _ A56.out).mono ?_); rintro e w79 ⟨rfl, hb⟩; replace BK175 := sqLW (o' := .cells #[.int .i64 a0_0, .int .i64 a0_1, .int .i64 a0_2, .int .i64 a0_3, .int .i64 a0_4, .int .i64 a0_5, .int .i64 a0_6, .int .i64 a0_7, .int .i64 a0_8, .int .i64 a0_9] 29 (0, 0)) BK175 hb; replace BK179 := sqLW (o' := .cells #[.int .i64 0, .int .i64 0] 27 (0, 0)) BK179 hb; replace HB := sqS hb; (try clear hb); (try clear hb2); (try clear hk); (try clear hi)))
         go_ret
         exact ⟨sqE, sqB⟩
       ·rw [if_neg c55] at H
        have c55b0 : (a0_3 == 0) = false := beq_eq_false_iff_ne.mpr c55
        have c55b1 : (a0_3 != 0) = true := bne_iff_ne.mpr c55
        obtain rfl := Option.some.inj H
        go_wp2_with (first | ((with_reducible refine gate_dst (N := 3) rfl ?_); refine sqX (N := 3) (cs := #[.int .i64 0, .int .i64 0]) (t := 27) ?_; intro gb179 hg w80 hbox hb; have BK179 := Aside0.mk (hbox); have GW179 := sqG hg; have GE179 := sqG hg; have NB175_179 := sqN BK175 hg; have NB179_175 := sqM BK175 hg; replace BK175 := sqL BK175 hb; replace HB := sqS hb; clear hb hbox hg; have hnb81 := NB179_175.out; have hnc81 := NB175_179.out; obtain ⟨hcz82_0, hcz82_1, hfz82_0, hfz82_1⟩ := sqC2 BK179; obtain ⟨hcz83_0, hcz83_1, hcz83_2, hcz83_3, hcz83_4, hcz83_5, hcz83_6, hcz83_7, hcz83_8, hcz83_9, hfz83_0, hfz83_1, hfz83_2, hfz83_3, hfz83_4, hfz83_5, hfz83_6, hfz83_7, hfz83_8, hfz83_9⟩ := sqC10 BK175))
        go_ret
        exact ⟨sqE, sqB⟩
      ·rw [if_neg c54] at H
       have c54b0 : (a0_0 == 3) = false := beq_eq_false_iff_ne.mpr c54
       have c54b1 : (a0_0 != 3) = true := bne_iff_ne.mpr c54
       by_cases c84 : a0_0 = 4
       ·rw [if_pos c84] at H
        have c84b0 : (a0_0 == 4) = true := beq_iff_eq.mpr c84
        have c84b1 : (a0_0 != 4) = false := bne_eq_false_iff_eq.mpr c84
        clear c84
        by_cases c85 : a0_3 = 0
        ·rw [if_pos c85] at H
         have c85b0 : (a0_3 == 0) = true := beq_iff_eq.mpr c85
         have c85b1 : (a0_3 != 0) = false := bne_eq_false_iff_eq.mpr c85
         clear c85
         replace H := Option.bind_eq_some_iff.mp H
         obtain ⟨t184, A860, H⟩ := H
         try dsimp only at H
         have A86 := Aside0.mk A860
         clear A860
         by_cases c87 : t184 = true
         ·subst c87
          rw [if_pos rfl] at H
          replace H := Option.bind_eq_some_iff.mp H
          obtain ⟨t185, A880, H⟩ := H
          try dsimp only at H
          have A88 := Aside0.mk A880
          clear A880
          obtain rfl := Option.some.inj H
          go_wp2_with (first | ((with_reducible refine gate_dst (N := 3) rfl ?_); refine sqX (N := 3) (cs := #[.int .i64 0, .int .i64 0]) (t := 27) ?_; intro gb179 hg w89 hbox hb; have BK179 := Aside0.mk (hbox); have GW179 := sqG hg; have GE179 := sqG hg; have NB175_179 := sqN BK175 hg; have NB179_175 := sqM BK175 hg; replace BK175 := sqL BK175 hb; replace HB := sqS hb; clear hb hbox hg; have hnb90 := NB179_175.out; have hnc90 := NB175_179.out; obtain ⟨hcz91_0, hcz91_1, hfz91_0, hfz91_1⟩ := sqC2 BK179; obtain ⟨hcz92_0, hcz92_1, hcz92_2, hcz92_3, hcz92_4, hcz92_5, hcz92_6, hcz92_7, hcz92_8, hcz92_9, hfz92_0, hfz92_1, hfz92_2, hfz92_3, hfz92_4, hfz92_5, hfz92_6, hfz92_7, hfz92_8, hfz92_9⟩ := sqC10 BK175) | (go_at_call 80; (with_reducible refine (spec_RoleOk.calls a0_4 a0_5 true _ A86.out).mono ?_); rintro e w93 ⟨rfl, hb⟩; replace BK175 := sqLW (o' := .cells #[.int .i64 a0_0, .int .i64 a0_1, .int .i64 a0_2, .int .i64 a0_3, .int .i64 a0_4, .int .i64 a0_5, .int .i64 a0_6, .int .i64 a0_7, .int .i64 a0_8, .int .i64 a0_9] 29 (0, 0)) BK175 hb; replace BK179 := sqLW (o' := .cells #[.int .i64 0, .int .i64 0] 27 (0, 0)) BK179 hb; replace HB := sqS hb; (try clear hb); (try clear hb2); (try clear hk); (try clear hi); obtain ⟨hcz94_0, hcz94_1, hcz94_2, hcz94_3, hcz94_4, hcz94_5, hcz94_6, hcz94_7, hcz94_8, hcz94_9, hfz94_0, hfz94_1, hfz94_2, hfz94_3, hfz94_4, hfz94_5, hfz94_6, hfz94_7, hfz94_8, hfz94_9⟩ := sqC10 BK175) | (go_at_call 80; (with_reducible refine (spec_RoleOk.calls a0_6 a0_7 t185 _ A88.out).mono ?_); rintro e w95 ⟨rfl, hb⟩; replace BK175 := sqL BK175 hb; replace BK179 := sqL BK179 hb; replace HB := sqS hb; (try clear hb); (try clear hb2); (try clear hk); (try clear hi)))
          go_ret
          exact ⟨sqE, sqB⟩
         ·replace c87 := Bool.eq_false_iff.mpr c87
          subst c87
          rw [if_neg (show ¬ (false = true) by decide)] at H
          obtain rfl := Option.some.inj H
          go_wp2_with (first | ((with_reducible refine gate_dst (N := 3) rfl ?_); refine sqX (N := 3) (cs := #[.int .i64 0, .int .i64 0]) (t := 27) ?_; intro gb179 hg w96 hbox hb; have BK179 := Aside0.mk (hbox); have GW179 := sqG hg; have GE179 := sqG hg; have NB175_179 := sqN BK175 hg; have NB179_175 := sqM BK175 hg; replace BK175 := sqL BK175 hb; replace HB := sqS hb; clear hb hbox hg; have hnb97 := NB179_175.out; have hnc97 := NB175_179.out; obtain ⟨hcz98_0, hcz98_1, hfz98_0, hfz98_1⟩ := sqC2 BK179; obtain ⟨hcz99_0, hcz99_1, hcz99_2, hcz99_3, hcz99_4, hcz99_5, hcz99_6, hcz99_7, hcz99_8, hcz99_9, hfz99_0, hfz99_1, hfz99_2, hfz99_3, hfz99_4, hfz99_5, hfz99_6, hfz99_7, hfz99_8, hfz99_9⟩ := sqC10 BK175) | (go_at_call 80; (with_reducible refine (spec_RoleOk.calls a0_4 a0_5 false _ A86.out).mono ?_); rintro e w100 ⟨rfl, hb⟩; replace BK175 := sqLW (o' := .cells #[.int .i64 a0_0, .int .i64 a0_1, .int .i64 a0_2, .int .i64 a0_3, .int .i64 a0_4, .int .i64 a0_5, .int .i64 a0_6, .int .i64 a0_7, .int .i64 a0_8, .int .i64 a0_9] 29 (0, 0)) BK175 hb; replace BK179 := sqLW (o' := .cells #[.int .i64 0, .int .i64 0] 27 (0, 0)) BK179 hb; replace HB := sqS hb; (try clear hb); (try clear hb2); (try clear hk); (try clear hi)))
          go_ret
          exact ⟨sqE, sqB⟩
        ·rw [if_neg c85] at H
         have c85b0 : (a0_3 == 0) = false := beq_eq_false_iff_ne.mpr c85
         have c85b1 : (a0_3 != 0) = true := bne_iff_ne.mpr c85
         obtain rfl := Option.some.inj H
         go_wp2_with (first | ((with_reducible refine gate_dst (N := 3) rfl ?_); refine sqX (N := 3) (cs := #[.int .i64 0, .int .i64 0]) (t := 27) ?_; intro gb179 hg w101 hbox hb; have BK179 := Aside0.mk (hbox); have GW179 := sqG hg; have GE179 := sqG hg; have NB175_179 := sqN BK175 hg; have NB179_175 := sqM BK175 hg; replace BK175 := sqL BK175 hb; replace HB := sqS hb; clear hb hbox hg; have hnb102 := NB179_175.out; have hnc102 := NB175_179.out; obtain ⟨hcz103_0, hcz103_1, hfz103_0, hfz103_1⟩ := sqC2 BK179; obtain ⟨hcz104_0, hcz104_1, hcz104_2, hcz104_3, hcz104_4, hcz104_5, hcz104_6, hcz104_7, hcz104_8, hcz104_9, hfz104_0, hfz104_1, hfz104_2, hfz104_3, hfz104_4, hfz104_5, hfz104_6, hfz104_7, hfz104_8, hfz104_9⟩ := sqC10 BK175))
         go_ret
         exact ⟨sqE, sqB⟩
       ·rw [if_neg c84] at H
        have c84b0 : (a0_0 == 4) = false := beq_eq_false_iff_ne.mpr c84
        have c84b1 : (a0_0 != 4) = true := bne_iff_ne.mpr c84
        obtain rfl := Option.some.inj H
        go_wp2_with (first | ((with_reducible refine gate_dst (N := 3) rfl ?_); refine sqX (N := 3) (cs := #[.int .i64 0, .int .i64 0]) (t := 27) ?_; intro gb179 hg w105 hbox hb; have BK179 := Aside0.mk (hbox); have GW179 := sqG hg; have GE179 := sqG hg; have NB175_179 := sqN BK175 hg; have NB179_175 := sqM BK175 hg; replace BK175 := sqL BK175 hb; replace HB := sqS hb; clear hb hbox hg; have hnb106 := NB179_175.out; have hnc106 := NB175_179.out; obtain ⟨hcz107_0, hcz107_1, hfz107_0, hfz107_1⟩ := sqC2 BK179; obtain ⟨hcz108_0, hcz108_1, hcz108_2, hcz108_3, hcz108_4, hcz108_5, hcz108_6, hcz108_7, hcz108_8, hcz108_9, hfz108_0, hfz108_1, hfz108_2, hfz108_3, hfz108_4, hfz108_5, hfz108_6, hfz108_7, hfz108_8, hfz108_9⟩ := sqC10 BK175))
        go_ret
        exact ⟨sqE, sqB⟩

/-! ### spec_l06Put: function 67 -/
def spec_l06Put.f (k : Nat) (l0 : List (S36)) (a1_0 : Int) (a1_1 : Int) (a1_2 : Int) : Option ((List (S36))) := (spec_l06Has.f k l0 a1_0 a1_1 a1_2).bind fun t187 => (if t187 = true then (some l0) else (if l0.length < 5864062014805 then (some (l0 ++ [(⟨(⟨a1_0, a1_1⟩ : S27), a1_2⟩ : S36)])) else (none)))
theorem spec_l06Put.mono : ∀ a0 a1 a2 a3 k, LeO (spec_l06Put.f k a0 a1 a2 a3) (spec_l06Put.f (k + 1) a0 a1 a2 a3) := by
 intro a0 a1 a2 a3 k
 unfold spec_l06Put.f
 repeat' first
   | (with_reducible exact spec_l06Has.mono _ _ _ _ _)
   | (with_reducible exact LeO.refl _)
   | (with_reducible exact LeO.none _)
   | (with_reducible refine LeO.ite ?_ ?_)
   | (with_reducible refine LeO.bind ?_ (fun _ => ?_))
   | exact spec_l06Has.mono _ _ _ _ _
   | exact LeO.none _
   | refine LeO.ite ?_ ?_
   | refine LeO.bind ?_ (fun _ => ?_)
set_option maxHeartbeats 8000000 in
set_option maxRecDepth 100000 in
theorem spec_l06Put.calls (k : Nat) (P0_ : Nat → Prop) (u9000_ : Value) (l0 : List (S36)) (a1_0 : Int) (a1_1 : Int) (a1_2 : Int) (r : List (S36)) (w0 w : World) (hB : Below w0.heap.size w0 w) (ho0 : Kd.R k36 36 w w0.heap.size P0_ u9000_ l0) (h : spec_l06Put.f k l0 a1_0 a1_1 a1_2 = some r) :
  Calls Try.prog 67 #[u9000_, .agg #[.int .i64 a1_0, .int .i64 a1_1, .int .i64 a1_2]] w fun e w' => ∃ v0_ : Value, e = .returned (v0_) ∧ Kd.R k36 36 w' w0.heap.size (fun k_ => (P0_ k_ ∨ w.heap.size ≤ k_)) v0_ r ∧ Below w0.heap.size w0 w' ∧ Kept w w' (fun k_ => P0_ k_) := by
 have hu36 := Try.underlying36
 have HO0 := Aside0.mk (show Kd.R k36 36 w w0.heap.size (fun k_ => (P0_ k_ ∨ w.heap.size ≤ k_)) u9000_ l0 from Kd.R_mono ho0 (fun k_ hk => (.inl hk)))
 have HK := Aside0.mk (Kept.refl w (fun k_ => P0_ k_))
 have HW0 := Aside0.mk hB.size
 have HB := Aside0.mk hB
 clear hB
 have H : ((spec_l06Has.f k l0 a1_0 a1_1 a1_2).bind fun t187 => (if t187 = true then (some l0) else (if l0.length < 5864062014805 then (some (l0 ++ [(⟨(⟨a1_0, a1_1⟩ : S27), a1_2⟩ : S36)])) else (none)))) = some r := h
 clear h
 replace H := Option.bind_eq_some_iff.mp H
 obtain ⟨t187, A30, H⟩ := H
 try dsimp only at H
 have A3 := Aside0.mk A30
 clear A30
 by_cases c4 : t187 = true
 ·subst c4
  rw [if_pos rfl] at H
  obtain rfl := Option.some.inj H
  go_enter Try.func67, Try.ntmps67
  go_wp2_with (first | ((with_reducible refine gate_dst (N := 3) rfl ?_); refine sqX (N := 3) (cs := #[.int .i64 a1_0, .int .i64 a1_1, .int .i64 a1_2]) (t := 36) ?_; intro gb186 hg w5 hbox hb; replace HO0 := Aside0.mk (Kd.R_below (Kd.R_elderB (sqR HO0) gb186 (Nat.le_of_eq hg.symm)) hb); have BK186 := Aside0.mk (hbox); have GW186 := Aside0.mk ((by rw [hg]; exact (by first | exact HK.out.1 | exact (show Kept w _ (fun k_ => P0_ k_) from by repeat (first | (with_reducible first | exact HK.out | apply Kept.alloc | apply Kept.drewN | apply Kept.drew) | exact HK.out)).1) : w.heap.size ≤ gb186)); replace HK := Aside0.mk (Kept.below (S := (fun k_ => P0_ k_)) (by repeat (first | (with_reducible first | exact HK.out | apply Kept.alloc | apply Kept.drewN | apply Kept.drew) | exact HK.out)) hb); have GE186 := Aside0.mk ((by rw [hg]; exact (below_size (sqB)) : w0.heap.size ≤ gb186)); replace HB := sqS hb; clear hb hbox hg; obtain ⟨hcz6_0, hcz6_1, hcz6_2, hfz6_0, hfz6_1, hfz6_2⟩ := sqC3 BK186; obtain ⟨Ao7, co7, eo7⟩ := Kd.R_slice HO0.out; subst eo7) | ((with_reducible refine gate_callee (f := 56) rfl ?_); refine goesL_ (some 7) rfl rfl Try.func56 (by kernel_rfl) rfl #[.slice Ao7 l0.length co7, .agg #[.int .i64 a1_0, .int .i64 a1_1, .int .i64 a1_2]] rfl sqA ?_; (with_reducible refine (spec_l06Has.calls k _ _ l0 a1_0 a1_1 a1_2 true _ ?side1 ?side2 A3.out).mono ?_); (case side1 => repeat (first | exact (Kd.R_reads' HO0.out).2.2 | (with_reducible refine Kd.C_alloc ?_ _) | (with_reducible refine Kd.C_drewN ?_ _) | (with_reducible refine Kd.C_drew ?_))); (case side2 => exact (Kd.R_reads' HO0.out).2.1); rintro e w8 ⟨rfl, hb⟩; refine ⟨_, rfl, ?_⟩; replace HO0 := Aside0.mk (Kd.R_below (sqR HO0) hb); replace BK186 := sqL BK186 hb; replace HK := Aside0.mk (Kept.below (S := (fun k_ => P0_ k_)) (by repeat (first | (with_reducible first | exact HK.out | apply Kept.alloc | apply Kept.drewN | apply Kept.drew | refine Kept.setCell ?_ (.inr GW186.out) _) | exact HK.out)) hb); replace HB := sqS hb; (try clear hb); (try clear hb2); (try clear hk); (try clear hi)))
  go_ret
  exact ⟨_, sqE, by (with_reducible repeat (first | apply Kd.R_alloc | apply Kd.R_drewN | apply Kd.R_drew)); exact Kd.R_mono HO0.out (fun _ hk => hk.1), sqB, by repeat (first | (with_reducible first | exact HK.out | apply Kept.alloc | apply Kept.drewN | apply Kept.drew | refine Kept.setCell ?_ (.inr GW186.out) _) | exact HK.out)⟩
 ·replace c4 := Bool.eq_false_iff.mpr c4
  subst c4
  rw [if_neg (show ¬ (false = true) by decide)] at H
  by_cases c9 : l0.length < 5864062014805
  ·rw [if_pos c9] at H
   have LMc9 := Aside0.mk c9
   clear c9
   obtain ⟨y188, hy188⟩ : ∃ y_ : List (S36), y_ = (l0 ++ [(⟨(⟨a1_0, a1_1⟩ : S27), a1_2⟩ : S36)]) := ⟨_, rfl⟩
   replace H : (some y188) = some r := by first | (rw [hy188]; with_reducible exact H) | (have H2_ := (Option.bind_some _ _).symm.trans H; rw [hy188]; with_reducible exact H2_) | (have H2_ := (Option.bind_some _ _).symm.trans H; with_reducible exact H2_) | with_reducible exact H | (rw [hy188]; exact H) | exact H
   have Ny188 := Aside0.mk hy188
   clear hy188
   obtain rfl := Option.some.inj H
   go_enter Try.func67, Try.ntmps67
   go_wp2_with (first | ((with_reducible refine gate_dst (N := 3) rfl ?_); refine sqX (N := 3) (cs := #[.int .i64 a1_0, .int .i64 a1_1, .int .i64 a1_2]) (t := 36) ?_; intro gb186 hg w10 hbox hb; replace HO0 := Aside0.mk (Kd.R_below (Kd.R_elderB (sqR HO0) gb186 (Nat.le_of_eq hg.symm)) hb); have BK186 := Aside0.mk (hbox); have GW186 := Aside0.mk ((by rw [hg]; exact (by first | exact HK.out.1 | exact (show Kept w _ (fun k_ => P0_ k_) from by repeat (first | (with_reducible first | exact HK.out | apply Kept.alloc | apply Kept.drewN | apply Kept.drew) | exact HK.out)).1) : w.heap.size ≤ gb186)); replace HK := Aside0.mk (Kept.below (S := (fun k_ => P0_ k_)) (by repeat (first | (with_reducible first | exact HK.out | apply Kept.alloc | apply Kept.drewN | apply Kept.drew) | exact HK.out)) hb); have GE186 := Aside0.mk ((by rw [hg]; exact (below_size (sqB)) : w0.heap.size ≤ gb186)); replace HB := sqS hb; clear hb hbox hg; obtain ⟨hcz11_0, hcz11_1, hcz11_2, hfz11_0, hfz11_1, hfz11_2⟩ := sqC3 BK186; obtain ⟨Ao12, co12, eo12⟩ := Kd.R_slice HO0.out; subst eo12) | ((with_reducible refine gate_callee (f := 56) rfl ?_); refine goesL_ (some 7) rfl rfl Try.func56 (by kernel_rfl) rfl #[.slice Ao12 l0.length co12, .agg #[.int .i64 a1_0, .int .i64 a1_1, .int .i64 a1_2]] rfl sqA ?_; (with_reducible refine (spec_l06Has.calls k _ _ l0 a1_0 a1_1 a1_2 false _ ?side1 ?side2 A3.out).mono ?_); (case side1 => repeat (first | exact (Kd.R_reads' HO0.out).2.2 | (with_reducible refine Kd.C_alloc ?_ _) | (with_reducible refine Kd.C_drewN ?_ _) | (with_reducible refine Kd.C_drew ?_))); (case side2 => exact (Kd.R_reads' HO0.out).2.1); rintro e w13 ⟨rfl, hb⟩; refine ⟨_, rfl, ?_⟩; replace HO0 := Aside0.mk (Kd.R_below (sqR HO0) hb); replace BK186 := sqL BK186 hb; replace HK := Aside0.mk (Kept.below (S := (fun k_ => P0_ k_)) (by repeat (first | (with_reducible first | exact HK.out | apply Kept.alloc | apply Kept.drewN | apply Kept.drew | refine Kept.setCell ?_ (.inr GW186.out) _) | exact HK.out)) hb); replace HB := sqS hb; (try clear hb); (try clear hb2); (try clear hk); (try clear hi); obtain ⟨hcz14_0, hcz14_1, hcz14_2, hfz14_0, hfz14_1, hfz14_2⟩ := sqC3 BK186) | ((with_reducible refine gate_builtin (b := .append) (xs := #[.tmp 9, .tmp 11]) rfl ?_); at_builtin; refine Kd.R_append k36 (w0 := w0) w0.heap.size rfl (.tmp 9) (.tmp 11) 31 36 (.agg #[(.int .i64 0), (.int .i64 0), (.int .i64 0)]) 24 rfl Try.underlying31 info36 rfl (by decide) (by omega) (.slice Ao12 l0.length co12) l0 (⟨(⟨a1_0, a1_1⟩ : S27), a1_2⟩ : S36) [.int .i64 a1_0, .int .i64 a1_1, .int .i64 a1_2] (fun k_ => (P0_ k_ ∨ w.heap.size ≤ k_) ∧ k_ ≠ gb186) (fun _ => False) rfl rfl ?aP (fun _ hk => hk.elim) ?aF ?aO ?aB ?aS ?aL ?_; (case aP => exact k36_mkM _ _ _ (⟨(⟨a1_0, a1_1⟩ : S27), a1_2⟩ : S36)); (case aB => exact (sqB)); (case aF => exact (fun k_ hk => ⟨(.inr (Nat.le_trans (by first | exact HK.out.1 | exact (show Kept w _ (fun k_ => P0_ k_) from by repeat (first | (with_reducible first | exact HK.out | apply Kept.alloc | apply Kept.drewN | apply Kept.drew | refine Kept.setCell ?_ (.inr GW186.out) _) | exact HK.out)).1) hk)), Kd.freshB (g := gb186) (o := .cells #[.int .i64 a1_0, .int .i64 a1_1, .int .i64 a1_2] 36 (0, 0)) (sqK BK186) k_ hk⟩)); (case aO => exact (sqR HO0)); (case aS => exact (below_size (sqB))); (case aL => have := LMc9.out; omega); intro v189 w15 ho hb hg hat; rw [← Ny188.out] at ho; have n0_ := Aside0.mk (blk_grown (g := gb186) (o := .cells #[.int .i64 a1_0, .int .i64 a1_1, .int .i64 a1_2] 36 (0, 0)) (sqK BK186) hg (Kd.R_away HO0.out (fun _ hk => hk.2))); have n1_ := Aside0.mk (hb); have n2_ := Aside0.mk (Kept.of_grown (S := (fun k_ => P0_ k_)) hg (by repeat (first | (with_reducible first | exact HK.out | apply Kept.alloc | apply Kept.drewN | apply Kept.drew | refine Kept.setCell ?_ (.inr GW186.out) _) | exact HK.out)) (fun k_ e_ => (HO0.out.1 k_ e_).1)); have n3_ := Aside0.mk (ho); clear BK186; clear HB; clear HK; clear HO0; have BK186 := n0_; have HB := n1_; have HK := n2_; have HO190 := n3_; clear n0_ n1_ n2_ n3_; clear ho hb hg hat))
   go_ret
   exact ⟨_, sqE, by (with_reducible repeat (first | apply Kd.R_alloc | apply Kd.R_drewN | apply Kd.R_drew)); exact Kd.R_mono HO190.out (fun _ hk => hk.1), sqB, by repeat (first | (with_reducible first | exact HK.out | apply Kept.alloc | apply Kept.drewN | apply Kept.drew | refine Kept.setCell ?_ (.inr GW186.out) _) | exact HK.out)⟩
  ·rw [if_neg c9] at H
   exact absurd H (by simp)

end Go.Proofs.Ytnebbjcgkoaloaa.PFnMembersTold
