/- What the code that one law of the given program reaches computes, function by function, each with its proof over the given translation.
Conditions: none of our own. (Laid by a program of this session, wip/xp/xp.py; some contracts are typed by hand.) -/
import Derived.Test.YthodhbgocnbddaaPFnWordsx0
import Derived.Test.YthodhbgocnbddaaPFnWordsx7
import Derived.Test.YthodhbgocnbddaaPFnWordsx15
namespace Go.Proofs.Ythodhbgocnbddaa.PFnWords
open Go.RowKit Go.Proofs.YthodhbgocnbddaaW.PrintWords Go.Proofs.YthodhbgocnbddaaW.PrintLast Go.Proofs.YthodhbgocnbddaaW.PrintMore
attribute [local go_sem] max2_int min2_int max_two min_two max_three min_three max_four min_four   -- for this text's walks alone
set_option linter.unusedVariables false
set_option linter.unusedSimpArgs false

/-! ### spec_PlaceOf: function 21 -/
def spec_PlaceOf.f (k : Nat) (a0_0 : Int) (a0_1 : Int) : Option (Int) := (spec_RoleOk.f a0_0 a0_1).bind fun t572 => (if t572 = true then ((spec_l01Var.f k a0_0).bind fun t573 => ((spec_l01Var.f k a0_1).bind fun t574 => (if t573.size + t574.size ≤ 9223372036854775807 then ((spec_Digest.f (t573 ++ t574)).bind fun t575 => (if 0 < (t575.size : Int) then (some (wrap64 (bt t575 0))) else (none))) else (none)))) else (some 0))
theorem spec_PlaceOf.mono : ∀ a0 a1 k, LeO (spec_PlaceOf.f k a0 a1) (spec_PlaceOf.f (k + 1) a0 a1) := by
 intro a0 a1 k
 unfold spec_PlaceOf.f
 repeat' first
   | (with_reducible exact spec_l01Var.mono _ _)
   | (with_reducible exact LeO.refl _)
   | (with_reducible exact LeO.none _)
   | (with_reducible refine LeO.ite ?_ ?_)
   | (with_reducible refine LeO.bind ?_ (fun _ => ?_))
   | exact spec_l01Var.mono _ _
   | exact LeO.none _
   | refine LeO.ite ?_ ?_
   | refine LeO.bind ?_ (fun _ => ?_)
def spec_PlaceOf.T3 : Bool × List (List Nat × List Nat) := (true, [([], []), ([0], [0]), ([1], [1]), ([], []), ([3], [3]), ([4, 2], [4]), ([2, 5], [2, 5]), ([6, 5], [6]), ([7], [7]), ([8], [8]), ([9, 7, 0, 1, 2, 3, 4, 5, 6, 7, 8, 9], [9])])
def spec_PlaceOf.B3 : List Nat := [0, 1, 3, 0, 8, 31, 63, 127, 255, 511, 1023]
theorem spec_PlaceOf.tab3 : rtab .any (opsOf Try.f21 3) = spec_PlaceOf.T3 := by kernel_rfl
theorem spec_PlaceOf.bits3 : waitsOk spec_PlaceOf.T3.2 spec_PlaceOf.B3 = true := by kernel_rfl
set_option maxHeartbeats 8000000 in
set_option maxRecDepth 100000 in
theorem spec_PlaceOf.calls (k : Nat) (a0_0 : Int) (a0_1 : Int) (r : Int) (w : World) (h : spec_PlaceOf.f k a0_0 a0_1 = some r) :
  Calls Try.prog 21 #[.agg #[.int .i64 a0_0, .int .i64 a0_1]] w fun e w' => e = .returned (.int .i64 r) ∧ Below w.heap.size w w' := by
 have hu25 := Try.underlying25
 have HB := Aside0.mk (Below.refl w.heap.size w)
 have H : ((spec_RoleOk.f a0_0 a0_1).bind fun t572 => (if t572 = true then ((spec_l01Var.f k a0_0).bind fun t573 => ((spec_l01Var.f k a0_1).bind fun t574 => (if t573.size + t574.size ≤ 9223372036854775807 then ((spec_Digest.f (t573 ++ t574)).bind fun t575 => (if 0 < (t575.size : Int) then (some (wrap64 (bt t575 0))) else (none))) else (none)))) else (some 0))) = some r := h
 clear h
 replace H := Option.bind_eq_some_iff.mp H
 obtain ⟨t572, A20, H⟩ := H
 try dsimp only at H
 have A2 := Aside0.mk A20
 clear A20
 by_cases c3 : t572 = true
 ·subst c3
  rw [if_pos rfl] at H
  replace H := Option.bind_eq_some_iff.mp H
  obtain ⟨t573, A40, H⟩ := H
  try dsimp only at H
  have A4 := Aside0.mk A40
  clear A40
  replace H := Option.bind_eq_some_iff.mp H
  obtain ⟨t574, A50, H⟩ := H
  try dsimp only at H
  have A5 := Aside0.mk A50
  clear A50
  by_cases c6 : t573.size + t574.size ≤ 9223372036854775807
  ·rw [if_pos c6] at H
   have c6b0 := eq_true c6
   have c6b1 : decide (t573.size + t574.size ≤ 9223372036854775807) = true := decide_eq_true c6
   try have c6b2 : (9223372036854775807 < t573.size + t574.size) = False := eq_false (Nat.not_lt.2 c6)
   replace H := Option.bind_eq_some_iff.mp H
   obtain ⟨t575, A70, H⟩ := H
   try dsimp only at H
   have A7 := Aside0.mk A70
   clear A70
   by_cases c8 : 0 < (t575.size : Int)
   ·rw [if_pos c8] at H
    have c8b0 : decide (0 < (t575.size : Int)) = true := decide_eq_true c8
    have c8b1 : decide (0 < t575.size) = true := decide_eq_true (by omega)
    clear c8
    obtain rfl := Option.some.inj H
    go_enter Try.func21, Try.ntmps21
    try go_wp2_with (first | ((with_reducible refine gate_dst (N := 1) rfl ?_); refine sqX (N := 1) (cs := #[.int .i64 a0_0, .int .i64 a0_1]) (t := 25) ?_; intro gb571 hg w10 hbox hb; have BK571 := Aside0.mk (hbox); have GW571 := sqG hg; have GE571 := sqG hg; replace HB := sqS hb; clear hb hbox hg; obtain ⟨hcz11_0, hcz11_1, hfz11_0, hfz11_1⟩ := sqC2 BK571) | ((with_reducible refine gate_callee (f := 20) rfl ?_); refine goesL_ (some 4) rfl rfl Try.func20 (by kernel_rfl) rfl #[.agg #[.int .i64 a0_0, .int .i64 a0_1]] rfl sqA ?_; (with_reducible refine (spec_RoleOk.calls a0_0 a0_1 true _ A2.out).mono ?_); rintro e w12 ⟨rfl, hb⟩; refine ⟨_, rfl, ?_⟩; replace BK571 := sqL BK571 hb; replace HB := sqS hb; (try clear hb); (try clear hb2); (try clear hk); (try clear hi)))
    replace BK571 := Aside0.mk (blk_drew BK571.out); replace HB := Aside0.mk (below_drew1 HB.out)
    refine start_ (n := 11) (S := fun w' => w'.cell? ⟨gb571, 0, none⟩ = some (.int .i64 a0_0) ∧ w'.cell? ⟨gb571, 1, none⟩ = some (.int .i64 a0_1)) (ds := []) (sqb 0 11) (by kernel_rfl) rfl rfl ⟨(blk_cell BK571.out 0).trans rfl, (blk_cell BK571.out 1).trans rfl⟩ (fun hHeld => ?_); refine with_tabW spec_PlaceOf.tab3 spec_PlaceOf.bits3 (fun HT_ HW_ => ?_)
    generalize w12.drew = w13 at BK571 HB hHeld ⊢
    refine sqP (i := 0) (N := some 6) (sqb 1 10) rfl rfl (any_of HT_.out (by kernel_rfl)) ?_
    refine sqP (i := 3) (N := some 9) (sqr [1, 2, 1, 7]) rfl rfl (any_of HT_.out (by kernel_rfl)) ?_
    refine sqTk (i := 1) (N := some 7) (sqr [2, 1, 1, 7]) rfl rfl (take_ofW HT_.out HW_.out (by kernel_rfl)) hHeld ?_
    refine sqTk (i := 4) (N := some 10) (sqr [2, 1, 2, 6]) rfl rfl (take_ofW HT_.out HW_.out (by kernel_rfl)) hHeld ?_
    refine one_ (i := 2) (N := some 8) (sqb 5 6) rfl rfl (one_of HT_.out (by kernel_rfl)) (by decide) (fun K hK => ?_)
    refine goes_ Try.func35 (by kernel_rfl) rfl #[.int .i64 a0_0] (by rfl) rfl rfl sqA ?_
    with_reducible refine (spec_l01Var.calls k a0_0 t573 _ A4.out).mono ?_
    rintro e w14 ⟨rfl, hb⟩
    refine ⟨_, rfl, ?_⟩
    replace BK571 := sqL BK571 hb; replace HB := sqS hb
    (try clear hb)
    (try clear hb2)
    (try clear hk)
    (try clear hi)
    refine hK.out _ _ ⟨(blk_cell BK571.out 0).trans rfl, (blk_cell BK571.out 1).trans rfl⟩ (fun hHeld => ?_)
    clear hK K
    refine sqV (N := some 8) ?_
    refine one_ (i := 5) (N := some 11) (sqb 6 5) rfl rfl (one_of HT_.out (by kernel_rfl)) (by decide) (fun K hK => ?_)
    refine goes_ Try.func35 (by kernel_rfl) rfl #[.int .i64 a0_1] (by rfl) rfl rfl sqA ?_
    with_reducible refine (spec_l01Var.calls k a0_1 t574 _ A5.out).mono ?_
    rintro e w15 ⟨rfl, hb⟩
    refine ⟨_, rfl, ?_⟩
    replace BK571 := sqL BK571 hb; replace HB := sqS hb
    (try clear hb)
    (try clear hb2)
    (try clear hk)
    (try clear hi)
    refine hK.out _ _ ⟨(blk_cell BK571.out 0).trans rfl, (blk_cell BK571.out 1).trans rfl⟩ (fun hHeld => ?_)
    clear hK K
    refine sqV (N := some 11) ?_
    refine sqP (i := 6) (N := some 12) (sqb 7 4) rfl rfl (any_of HT_.out (by kernel_rfl)) ?_
    refine one_ (i := 7) (N := some 13) (sqb 8 3) rfl rfl (one_of HT_.out (by kernel_rfl)) (by decide) (fun K hK => ?_)
    refine goes_ Try.func36 (by kernel_rfl) rfl #[.string (t573 ++ t574)] (by rfl) rfl rfl sqA ?_
    with_reducible refine (spec_Digest.calls (t573 ++ t574) t575 _ A7.out).mono ?_
    rintro e w16 ⟨rfl, hb⟩
    refine ⟨_, rfl, ?_⟩
    replace BK571 := sqL BK571 hb; replace HB := sqS hb
    (try clear hb)
    (try clear hb2)
    (try clear hk)
    (try clear hi)
    have p9 : 0 ≤ (0 : Int) := (by omega)
    have q9 : 0 < t575.size := (by have : (0 : Int) < (t575.size : Int) := sqD; omega)
    have hx9 : ∀ h : 0 < t575.size, ((t575[0]'h).toNat : Int) = bt t575 0 := bt_at t575 0
    clear p9
    have qi9 : (0 < (t575.size : Int)) = True := eq_true (sqD)
    replace q9 := eq_true q9
    refine hK.out _ _ ⟨(blk_cell BK571.out 0).trans rfl, (blk_cell BK571.out 1).trans rfl⟩ (fun hHeld => ?_)
    clear hK K
    refine sqV (N := some 13) ?_
    refine sqTk (i := 8) (N := some 14) (sqb 9 2) rfl rfl (take_ofW HT_.out HW_.out (by kernel_rfl)) hHeld ?_
    refine sqP (i := 9) (N := some 15) (sqb 10 1) rfl rfl (any_of HT_.out (by kernel_rfl)) ?_
    refine sqP (i := 10) (N := some 2) (sqb 11 0) rfl rfl (any_of HT_.out (by kernel_rfl)) ?_
    refine done_ (done_of HT_.out (by kernel_rfl)) ?_
    try go_wp2
    go_ret
    exact ⟨sqE, sqB⟩
   ·rw [if_neg c8] at H
    exact absurd H (by simp)
  ·rw [if_neg c6] at H
   exact absurd H (by simp)
 ·replace c3 := Bool.eq_false_iff.mpr c3
  subst c3
  rw [if_neg (show ¬ (false = true) by decide)] at H
  obtain rfl := Option.some.inj H
  go_enter Try.func21, Try.ntmps21
  go_wp2_with (first | ((with_reducible refine gate_dst (N := 1) rfl ?_); refine sqX (N := 1) (cs := #[.int .i64 a0_0, .int .i64 a0_1]) (t := 25) ?_; intro gb571 hg w17 hbox hb; have BK571 := Aside0.mk (hbox); have GW571 := sqG hg; have GE571 := sqG hg; replace HB := sqS hb; clear hb hbox hg; obtain ⟨hcz18_0, hcz18_1, hfz18_0, hfz18_1⟩ := sqC2 BK571) | ((with_reducible refine gate_callee (f := 20) rfl ?_); refine goesL_ (some 4) rfl rfl Try.func20 (by kernel_rfl) rfl #[.agg #[.int .i64 a0_0, .int .i64 a0_1]] rfl sqA ?_; (with_reducible refine (spec_RoleOk.calls a0_0 a0_1 false _ A2.out).mono ?_); rintro e w19 ⟨rfl, hb⟩; refine ⟨_, rfl, ?_⟩; replace BK571 := sqL BK571 hb; replace HB := sqS hb; (try clear hb); (try clear hb2); (try clear hk); (try clear hi)))
  go_ret
  exact ⟨sqE, sqB⟩

end Go.Proofs.Ythodhbgocnbddaa.PFnWords
