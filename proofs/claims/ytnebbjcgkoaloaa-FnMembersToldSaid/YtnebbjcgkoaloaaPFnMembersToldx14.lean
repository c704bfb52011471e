/- What the code that one law of the given program reaches computes, function by function, each with its proof over the given translation.
Conditions: none of our own. (Laid by a program of this session, wip/xp/xp.py; some contracts are typed by hand.) -/
import Derived.Test.YtnebbjcgkoaloaaPFnMembersToldx0
import Derived.Test.YtnebbjcgkoaloaaPFnMembersToldx2
import Derived.Test.YtnebbjcgkoaloaaPFnMembersToldx4
import Derived.Test.YtnebbjcgkoaloaaPFnMembersToldx12
import Derived.Test.YtnebbjcgkoaloaaPFnMembersToldx13
namespace Go.Proofs.Ytnebbjcgkoaloaa.PFnMembersTold
open Go.RowKit Go.Proofs.YtnebbjcgkoaloaaW.PrintWords Go.Proofs.YtnebbjcgkoaloaaW.PrintLast Go.Proofs.YtnebbjcgkoaloaaW.PrintMore
attribute [local go_sem] max2_int min2_int max_two min_two max_three min_three max_four min_four   -- for this text's walks alone
set_option linter.unusedVariables false
set_option linter.unusedSimpArgs false

attribute [local go_sem high] eqA29
/-! ### spec_DrawFactsOf: function 37 -/
def spec_DrawFactsOf.f (k : Nat) (l0 : List Int) : Option ((List (S29))) := (spec_l01New.f k l0).bind fun bt480 => ((spec_l06Any.f k bt480.1 bt480.2.1 bt480.2.2).bind fun bt484 => (some bt484.1))
theorem spec_DrawFactsOf.mono : ∀ a0 k, LeO (spec_DrawFactsOf.f k a0) (spec_DrawFactsOf.f (k + 1) a0) := by
 intro a0 k
 unfold spec_DrawFactsOf.f
 repeat' first
   | (with_reducible exact spec_l01New.mono _ _)
   | (with_reducible exact spec_l06Any.mono _ _ _ _)
   | (with_reducible exact LeO.refl _)
   | (with_reducible exact LeO.none _)
   | (with_reducible refine LeO.ite ?_ ?_)
   | (with_reducible refine LeO.bind ?_ (fun _ => ?_))
   | exact spec_l01New.mono _ _
   | exact spec_l06Any.mono _ _ _ _
   | exact LeO.none _
   | refine LeO.ite ?_ ?_
   | refine LeO.bind ?_ (fun _ => ?_)
set_option maxHeartbeats 8000000 in
set_option maxRecDepth 100000 in
theorem spec_DrawFactsOf.calls (k : Nat) (A0 : Option Addr) (c0 : Nat) (l0 : List Int) (r : List (S29)) (w : World) (hr0 : Kd.C (Kd.int .u8) w A0 l0.length l0) (hc0 : l0.length ≤ c0) (h : spec_DrawFactsOf.f k l0 = some r) :
  Calls Try.prog 37 #[.slice A0 l0.length c0] w fun e w' => ∃ v0_ : Value, e = .returned (v0_) ∧ Kd.R k29 29 w' w.heap.size (fun _ => True) v0_ r ∧ Below w.heap.size w w' := by
 have HR0 := Aside0.mk hr0
 have HC0 := Aside0.mk hc0
 clear hr0 hc0
 have HB := Aside0.mk (Below.refl w.heap.size w)
 have H : ((spec_l01New.f k l0).bind fun bt480 => ((spec_l06Any.f k bt480.1 bt480.2.1 bt480.2.2).bind fun bt484 => (some bt484.1))) = some r := h
 clear h
 replace H := Option.bind_eq_some_iff.mp H
 obtain ⟨⟨t480, t481, t482⟩, A20, H⟩ := H
 try dsimp only at H
 have A2 := Aside0.mk A20
 clear A20
 replace H := Option.bind_eq_some_iff.mp H
 obtain ⟨⟨t484, t487, t488⟩, A30, H⟩ := H
 try dsimp only at H
 have A3 := Aside0.mk A30
 clear A30
 obtain rfl := Option.some.inj H
 go_enter Try.func37, Try.ntmps37
 go_wp2_with (first | ((with_reducible refine gate_callee (f := 46) rfl ?_); refine goesL_ (some 4) rfl rfl Try.func46 (by kernel_rfl) rfl #[.slice A0 l0.length c0] rfl sqA ?_; (with_reducible refine (spec_l01New.calls k _ _ l0 t480 t481 t482 w _ ?side1 ?side2 ?side3 A2.out).mono ?_); (case side1 => exact sqB); (case side2 => exact HR0.out); (case side3 => exact HC0.out); rintro e w4 ⟨g483, rfl, hi, hb, hb2⟩; refine ⟨_, rfl, ?_⟩; have HI483 := Aside0.mk (hi); replace HB := Aside0.mk (hb); (try clear hb); (try clear hb2); (try clear hk); (try clear hi)) | ((with_reducible refine gate_callee (f := 62) rfl ?_); refine goesL_ (some 5) rfl rfl Try.func62 (by kernel_rfl) rfl #[.pointer (some ⟨g483, 0, none⟩)] rfl sqA ?_; (with_reducible refine (spec_l06Any.calls k g483 t480 t481 t482 t484 t487 t488 w _ ?side1 ?side2 A3.out).mono ?_); (case side1 => exact sqI94 HI483); (case side2 => exact sqB); rintro e w5 ⟨v485, rfl, ho0, hi, hb, hk⟩; refine ⟨_, rfl, ?_⟩; have HO486 := Aside0.mk (Kd.R_lower ho0 (below_size (sqB))); replace HI483 := Aside0.mk (hi); replace HB := Aside0.mk (hb); (try clear hb); (try clear hb2); (try clear hk); (try clear hi); (try clear ho0)))
 go_ret
 exact ⟨_, sqE, sqR HO486, sqB⟩

/-! ### spec_l05AnyRole: function 64 -/
def spec_l05AnyRole.f (s0_0 : List Int) (s0_1 : Int) (s0_2 : Int) : Option (Int × Int × Int × Int) := (spec_l05Role.f s0_0 s0_1 s0_2).bind fun bt490 => ((spec_l01Below.f s0_0 bt490.2.2.1 bt490.2.2.2 8).bind fun bt495 => (if bt495.1 = 0 then ((spec_l01PickInt.f s0_0 bt495.2.1 bt495.2.2 (([(-1), 6, 5] : List Int))).bind fun bt501 => (some (bt501.1, bt490.2.1, bt501.2.1, bt501.2.2))) else (if bt495.1 = 1 then ((spec_l01PickInt.f s0_0 bt495.2.1 bt495.2.2 (([(-1), 4, 3] : List Int))).bind fun bt507 => (some (bt490.1, bt507.1, bt507.2.1, bt507.2.2))) else (some (bt490.1, bt490.2.1, bt495.2.1, bt495.2.2)))))
set_option maxHeartbeats 8000000 in
set_option maxRecDepth 100000 in
theorem spec_l05AnyRole.calls (g : Nat) (s0_0 : List Int) (s0_1 : Int) (s0_2 : Int) (r1 : Int) (r2 : Int) (r3 : Int) (r4 : Int) (w0 w : World) (hI : IsS94 w0 w g s0_0 s0_1 s0_2) (hB : Below w0.heap.size w0 w) (h : spec_l05AnyRole.f s0_0 s0_1 s0_2 = some (r1, r2, r3, r4)) :
  Calls Try.prog 64 #[.pointer (some ⟨g, 0, none⟩)] w fun e w' => e = .returned (.agg #[.int .i64 r1, .int .i64 r2]) ∧ IsS94 w0 w' g s0_0 r3 r4 ∧ Below w0.heap.size w0 w' ∧ KeepBut w w' g none := by
 have hu27 := Try.underlying27
 have HI0 := Aside0.mk hI
 have HK := Aside0.mk (KeepBut.refl w g none)
 have HL := Aside0.mk hB.size
 clear hI
 have HW0 := Aside0.mk hB.size
 have HB := Aside0.mk hB
 clear hB
 have H : ((spec_l05Role.f s0_0 s0_1 s0_2).bind fun bt490 => ((spec_l01Below.f s0_0 bt490.2.2.1 bt490.2.2.2 8).bind fun bt495 => (if bt495.1 = 0 then ((spec_l01PickInt.f s0_0 bt495.2.1 bt495.2.2 (([(-1), 6, 5] : List Int))).bind fun bt501 => (some (bt501.1, bt490.2.1, bt501.2.1, bt501.2.2))) else (if bt495.1 = 1 then ((spec_l01PickInt.f s0_0 bt495.2.1 bt495.2.2 (([(-1), 4, 3] : List Int))).bind fun bt507 => (some (bt490.1, bt507.1, bt507.2.1, bt507.2.2))) else (some (bt490.1, bt490.2.1, bt495.2.1, bt495.2.2)))))) = some (r1, r2, r3, r4) := h
 clear h
 replace H := Option.bind_eq_some_iff.mp H
 obtain ⟨⟨t490, t491, t492, t493⟩, A20, H⟩ := H
 try dsimp only at H
 have A2 := Aside0.mk A20
 clear A20
 replace H := Option.bind_eq_some_iff.mp H
 obtain ⟨⟨t495, t496, t497⟩, A30, H⟩ := H
 try dsimp only at H
 have A3 := Aside0.mk A30
 clear A30
 by_cases c4 : t495 = 0
 ·rw [if_pos c4] at H
  have c4b0 : (t495 == 0) = true := beq_iff_eq.mpr c4
  have c4b1 : (t495 != 0) = false := bne_eq_false_iff_eq.mpr c4
  clear c4
  obtain ⟨y498, hy498⟩ : ∃ y_ : List Int, y_ = (([(-1), 6, 5] : List Int)) := ⟨_, rfl⟩
  replace H : ((spec_l01PickInt.f s0_0 t496 t497 y498).bind fun bt501 => (some (bt501.1, t491, bt501.2.1, bt501.2.2))) = some (r1, r2, r3, r4) := by first | (rw [hy498]; with_reducible exact H) | (have H2_ := (Option.bind_some _ _).symm.trans H; rw [hy498]; with_reducible exact H2_) | (have H2_ := (Option.bind_some _ _).symm.trans H; with_reducible exact H2_) | with_reducible exact H | (rw [hy498]; exact H) | exact H
  have Ny498 := Aside0.mk hy498
  clear hy498
  replace H := Option.bind_eq_some_iff.mp H
  obtain ⟨⟨t501, t502, t503⟩, A50, H⟩ := H
  try dsimp only at H
  have A5 := Aside0.mk A50
  clear A50
  simp only [Option.some.injEq, Prod.mk.injEq] at H
  obtain ⟨rfl, rfl, rfl, rfl⟩ := H
  go_enter Try.func64, Try.ntmps64
  go_wp2_with (first | ((with_reducible refine gate_dst (N := 2) rfl ?_); refine sqX (N := 2) (cs := #[.int .i64 0, .int .i64 0]) (t := 27) ?_; intro gb489 hg w6 hbox hb; have BK489 := Aside0.mk (hbox); have GW489 := sqU1 HK hg; have GE489 := sqU2 HW0 HK hg; replace HK := sqT HK hb; have NB0_489 := sqU3 hg (IsS94.lt (show IsS94 w0 _ g s0_0 s0_1 s0_2 from sqI94 HI0)); have NB489_0 := sqU4 hg (IsS94.lt (show IsS94 w0 _ g s0_0 s0_1 s0_2 from sqI94 HI0)); replace HI0 := Aside0.mk (IsS94.below (sqI94 HI0) hb); replace HB := sqS hb; clear hb hbox hg) | ((with_reducible refine gate_callee (f := 68) rfl ?_); refine goesL_ (some 5) rfl rfl Try.func68 (by kernel_rfl) rfl #[.pointer (some ⟨g, 0, none⟩)] rfl sqA ?_; (with_reducible refine (spec_l05Role.calls g s0_0 s0_1 s0_2 t490 t491 t492 t493 w0 _ ?side1 ?side2 A2.out).mono ?_); (case side1 => exact sqI94 HI0); (case side2 => exact sqB); rintro e w7 ⟨rfl, hi, hb, hk⟩; refine ⟨_, rfl, ?_⟩; replace BK489 := Aside0.mk (KeepBut.blk hk (g' := gb489) (o := .cells #[.int .i64 0, .int .i64 0] 27 (0, 0)) (sqK BK489) NB489_0.out (by simp)); replace HK := Aside0.mk (KeepBut.trans (sqQ HK) hk (.inl rfl)); replace HI0 := Aside0.mk (hi); replace HB := Aside0.mk (hb); (try clear hb); (try clear hb2); (try clear hk); (try clear hi)) | ((with_reducible refine gate_dst (N := 3) rfl ?_); refine sqX (N := 3) (cs := #[.int .i64 0, .int .i64 0]) (t := 27) ?_; intro gb494 hg w8 hbox hb; have BK494 := Aside0.mk (hbox); have GW494 := sqU1 HK hg; have GE494 := sqU2 HW0 HK hg; replace HK := sqT HK hb; have NB489_494 := sqN BK489 hg; have NB494_489 := sqM BK489 hg; replace BK489 := sqL BK489 hb; have NB0_494 := sqU3 hg (IsS94.lt (show IsS94 w0 _ g s0_0 t492 t493 from sqI94 HI0)); have NB494_0 := sqU4 hg (IsS94.lt (show IsS94 w0 _ g s0_0 t492 t493 from sqI94 HI0)); replace HI0 := Aside0.mk (IsS94.below (sqI94 HI0) hb); replace HB := sqS hb; clear hb hbox hg; have hnb9 := NB494_489.out; have hnc9 := NB489_494.out; have hnb10 := NB494_0.out; have hnc10 := NB0_494.out; obtain ⟨hcz11_0, hcz11_1, hfz11_0, hfz11_1⟩ := sqC2 BK494) | ((with_reducible refine gate_callee (f := 63) rfl ?_); refine goesL_ (some 7) rfl rfl Try.func63 (by kernel_rfl) rfl #[.pointer (some ⟨g, 0, none⟩), .int .i64 8] rfl sqA ?_; (with_reducible refine (spec_l01Below.calls g s0_0 t492 t493 8 t495 t496 t497 w0 _ ?side1 ?side2 A3.out).mono ?_); (case side1 => exact sqI94 HI0); (case side2 => exact sqB); rintro e w12 ⟨rfl, hi, hb, hk⟩; refine ⟨_, rfl, ?_⟩; replace BK489 := Aside0.mk (KeepBut.blk hk (g' := gb489) (o := .cells #[.int .i64 0, .int .i64 0] 27 (0, 0)) (sqW BK489) NB489_0.out (by simp)); replace BK494 := Aside0.mk (KeepBut.blk hk (g' := gb494) (o := .cells #[.int .i64 t490, .int .i64 t491] 27 (0, 0)) (sqW BK494) NB494_0.out (by simp)); replace HK := Aside0.mk (KeepBut.trans (sqQ HK) hk (.inl rfl)); replace HI0 := Aside0.mk (hi); replace HB := Aside0.mk (hb); (try clear hb); (try clear hb2); (try clear hk); (try clear hi)) | ((with_reducible refine gate_dst (N := 11) rfl ?_); refine Kd.R_lit (Kd.int .i64) _ 3 ?hg (N := 11) ?hd (xs := ([(-1), 6, 5] : List Int)) (inner := [.int .i64 (-1), .int .i64 6, .int .i64 5]) (ok := fun _ => True) (okp := fun _ => True) ?hr ?hp (fun _ hk => hk) trivial (Below.refl _ _) (Nat.le_refl _) (by simp) ?_; (case hd => rfl); (case hg => rfl); (case hr => first | (go_simp; done) | (go_simp; rfl)); (case hp => exact (Reps.one (show Kd.M (Kd.int .i64) _ _ _ (-1) [.int .i64 (-1)] from rfl) (Reps.one (show Kd.M (Kd.int .i64) _ _ _ 6 [.int .i64 6] from rfl) (Reps.one (show Kd.M (Kd.int .i64) _ _ _ 5 [.int .i64 5] from rfl) (Reps.none _ _))))); intro v499 w13 ho14 hb hg_ hnew_; clear hg_ hnew_; (first | rw [← Ny498.out] at ho14 | (simp only [Int.reduceToNat] at ho14; rw [← Ny498.out] at ho14)); have HO500 := Aside0.mk (Kd.R_lower ho14 (keep_size (w := w) (g := g) (row := none) (sqQ HK))); replace HI0 := Aside0.mk (IsS94.below (sqI94 HI0) hb); replace BK489 := sqL BK489 hb; replace BK494 := sqL BK494 hb; replace HK := sqT HK hb; replace HB := sqS hb; clear hb ho14; obtain ⟨Ao15, co15, eo15⟩ := Kd.R_slice HO500.out; subst eo15) | ((with_reducible refine gate_callee (f := 65) rfl ?_); refine goesL_ (some 12) rfl rfl Try.func65 (by kernel_rfl) rfl #[.pointer (some ⟨g, 0, none⟩), .slice Ao15 y498.length co15] rfl sqA ?_; (with_reducible refine (spec_l01PickInt.calls g s0_0 t496 t497 _ _ y498 t501 t502 t503 w0 _ ?side1 ?side2 ?side3 ?side4 ?side5 A5.out).mono ?_); (case side1 => exact sqI94 HI0); (case side2 => exact sqB); (case side3 => repeat (first | exact (Kd.R_reads' HO500.out).2.2 | (with_reducible refine Kd.C_alloc ?_ _) | (with_reducible refine Kd.C_drewN ?_ _) | (with_reducible refine Kd.C_drew ?_))); (case side4 => exact (Kd.R_reads' HO500.out).2.1); (case side5 => exact far_slice (IsS94.own_ne HI0.out HO500.out (by decide))); rintro e w16 ⟨rfl, hi, hb, hk⟩; refine ⟨_, rfl, ?_⟩; replace BK489 := Aside0.mk (KeepBut.blk hk (g' := gb489) (o := .cells #[.int .i64 0, .int .i64 0] 27 (0, 0)) (sqK BK489) NB489_0.out (by simp)); replace BK494 := Aside0.mk (KeepBut.blk hk (g' := gb494) (o := .cells #[.int .i64 t490, .int .i64 t491] 27 (0, 0)) (sqK BK494) NB494_0.out (by simp)); replace HO500 := Aside0.mk (Kd.R_mono (Kd.R_keep (IsS94.apart (show IsS94 w0 _ g s0_0 t496 t497 from sqI94 HI0) (sqR HO500) (by decide)) hk (fun _ h => h.2)) (fun _ h => h.1)); replace HK := Aside0.mk (KeepBut.trans (sqQ HK) hk (.inl rfl)); replace HI0 := Aside0.mk (hi); replace HB := Aside0.mk (hb); (try clear hb); (try clear hb2); (try clear hk); (try clear hi); obtain ⟨hcz17_0, hcz17_1, hfz17_0, hfz17_1⟩ := sqC2 BK494; have hnb18 := NB489_0.out; have hnc18 := NB0_489.out; obtain ⟨hcz19_0, hcz19_1, hfz19_0, hfz19_1⟩ := sqC2 BK489))
  refine bodyPost_ret (results_cell_row rfl _ _ gb489 27 #[.int .i64 t501, .int .i64 t491] (0, 0) _ rfl (sqW BK489) Try.underlying27 rfl (by kernel_rfl)) rfl ?_
  exact ⟨sqE, sqI94 HI0, sqB, sqQ HK⟩
 ·rw [if_neg c4] at H
  have c4b0 : (t495 == 0) = false := beq_eq_false_iff_ne.mpr c4
  have c4b1 : (t495 != 0) = true := bne_iff_ne.mpr c4
  by_cases c20 : t495 = 1
  ·rw [if_pos c20] at H
   have c20b0 : (t495 == 1) = true := beq_iff_eq.mpr c20
   have c20b1 : (t495 != 1) = false := bne_eq_false_iff_eq.mpr c20
   clear c20
   obtain ⟨y504, hy504⟩ : ∃ y_ : List Int, y_ = (([(-1), 4, 3] : List Int)) := ⟨_, rfl⟩
   replace H : ((spec_l01PickInt.f s0_0 t496 t497 y504).bind fun bt507 => (some (t490, bt507.1, bt507.2.1, bt507.2.2))) = some (r1, r2, r3, r4) := by first | (rw [hy504]; with_reducible exact H) | (have H2_ := (Option.bind_some _ _).symm.trans H; rw [hy504]; with_reducible exact H2_) | (have H2_ := (Option.bind_some _ _).symm.trans H; with_reducible exact H2_) | with_reducible exact H | (rw [hy504]; exact H) | exact H
   have Ny504 := Aside0.mk hy504
   clear hy504
   replace H := Option.bind_eq_some_iff.mp H
   obtain ⟨⟨t507, t508, t509⟩, A210, H⟩ := H
   try dsimp only at H
   have A21 := Aside0.mk A210
   clear A210
   simp only [Option.some.injEq, Prod.mk.injEq] at H
   obtain ⟨rfl, rfl, rfl, rfl⟩ := H
   go_enter Try.func64, Try.ntmps64
   go_wp2_with (first | ((with_reducible refine gate_dst (N := 2) rfl ?_); refine sqX (N := 2) (cs := #[.int .i64 0, .int .i64 0]) (t := 27) ?_; intro gb489 hg w22 hbox hb; have BK489 := Aside0.mk (hbox); have GW489 := sqU1 HK hg; have GE489 := sqU2 HW0 HK hg; replace HK := sqT HK hb; have NB0_489 := sqU3 hg (IsS94.lt (show IsS94 w0 _ g s0_0 s0_1 s0_2 from sqI94 HI0)); have NB489_0 := sqU4 hg (IsS94.lt (show IsS94 w0 _ g s0_0 s0_1 s0_2 from sqI94 HI0)); replace HI0 := Aside0.mk (IsS94.below (sqI94 HI0) hb); replace HB := sqS hb; clear hb hbox hg) | ((with_reducible refine gate_callee (f := 68) rfl ?_); refine goesL_ (some 5) rfl rfl Try.func68 (by kernel_rfl) rfl #[.pointer (some ⟨g, 0, none⟩)] rfl sqA ?_; (with_reducible refine (spec_l05Role.calls g s0_0 s0_1 s0_2 t490 t491 t492 t493 w0 _ ?side1 ?side2 A2.out).mono ?_); (case side1 => exact sqI94 HI0); (case side2 => exact sqB); rintro e w23 ⟨rfl, hi, hb, hk⟩; refine ⟨_, rfl, ?_⟩; replace BK489 := Aside0.mk (KeepBut.blk hk (g' := gb489) (o := .cells #[.int .i64 0, .int .i64 0] 27 (0, 0)) (sqK BK489) NB489_0.out (by simp)); replace HK := Aside0.mk (KeepBut.trans (sqQ HK) hk (.inl rfl)); replace HI0 := Aside0.mk (hi); replace HB := Aside0.mk (hb); (try clear hb); (try clear hb2); (try clear hk); (try clear hi)) | ((with_reducible refine gate_dst (N := 3) rfl ?_); refine sqX (N := 3) (cs := #[.int .i64 0, .int .i64 0]) (t := 27) ?_; intro gb494 hg w24 hbox hb; have BK494 := Aside0.mk (hbox); have GW494 := sqU1 HK hg; have GE494 := sqU2 HW0 HK hg; replace HK := sqT HK hb; have NB489_494 := sqN BK489 hg; have NB494_489 := sqM BK489 hg; replace BK489 := sqL BK489 hb; have NB0_494 := sqU3 hg (IsS94.lt (show IsS94 w0 _ g s0_0 t492 t493 from sqI94 HI0)); have NB494_0 := sqU4 hg (IsS94.lt (show IsS94 w0 _ g s0_0 t492 t493 from sqI94 HI0)); replace HI0 := Aside0.mk (IsS94.below (sqI94 HI0) hb); replace HB := sqS hb; clear hb hbox hg; have hnb25 := NB494_489.out; have hnc25 := NB489_494.out; have hnb26 := NB494_0.out; have hnc26 := NB0_494.out; obtain ⟨hcz27_0, hcz27_1, hfz27_0, hfz27_1⟩ := sqC2 BK494) | ((with_reducible refine gate_callee (f := 63) rfl ?_); refine goesL_ (some 7) rfl rfl Try.func63 (by kernel_rfl) rfl #[.pointer (some ⟨g, 0, none⟩), .int .i64 8] rfl sqA ?_; (with_reducible refine (spec_l01Below.calls g s0_0 t492 t493 8 t495 t496 t497 w0 _ ?side1 ?side2 A3.out).mono ?_); (case side1 => exact sqI94 HI0); (case side2 => exact sqB); rintro e w28 ⟨rfl, hi, hb, hk⟩; refine ⟨_, rfl, ?_⟩; replace BK489 := Aside0.mk (KeepBut.blk hk (g' := gb489) (o := .cells #[.int .i64 0, .int .i64 0] 27 (0, 0)) (sqW BK489) NB489_0.out (by simp)); replace BK494 := Aside0.mk (KeepBut.blk hk (g' := gb494) (o := .cells #[.int .i64 t490, .int .i64 t491] 27 (0, 0)) (sqW BK494) NB494_0.out (by simp)); replace HK := Aside0.mk (KeepBut.trans (sqQ HK) hk (.inl rfl)); replace HI0 := Aside0.mk (hi); replace HB := Aside0.mk (hb); (try clear hb); (try clear hb2); (try clear hk); (try clear hi)) | ((with_reducible refine gate_dst (N := 17) rfl ?_); refine Kd.R_lit (Kd.int .i64) _ 3 ?hg (N := 17) ?hd (xs := ([(-1), 4, 3] : List Int)) (inner := [.int .i64 (-1), .int .i64 4, .int .i64 3]) (ok := fun _ => True) (okp := fun _ => True) ?hr ?hp (fun _ hk => hk) trivial (Below.refl _ _) (Nat.le_refl _) (by simp) ?_; (case hd => rfl); (case hg => rfl); (case hr => first | (go_simp; done) | (go_simp; rfl)); (case hp => exact (Reps.one (show Kd.M (Kd.int .i64) _ _ _ (-1) [.int .i64 (-1)] from rfl) (Reps.one (show Kd.M (Kd.int .i64) _ _ _ 4 [.int .i64 4] from rfl) (Reps.one (show Kd.M (Kd.int .i64) _ _ _ 3 [.int .i64 3] from rfl) (Reps.none _ _))))); intro v505 w29 ho30 hb hg_ hnew_; clear hg_ hnew_; (first | rw [← Ny504.out] at ho30 | (simp only [Int.reduceToNat] at ho30; rw [← Ny504.out] at ho30)); have HO506 := Aside0.mk (Kd.R_lower ho30 (keep_size (w := w) (g := g) (row := none) (sqQ HK))); replace HI0 := Aside0.mk (IsS94.below (sqI94 HI0) hb); replace BK489 := sqL BK489 hb; replace BK494 := sqL BK494 hb; replace HK := sqT HK hb; replace HB := sqS hb; clear hb ho30; obtain ⟨Ao31, co31, eo31⟩ := Kd.R_slice HO506.out; subst eo31) | ((with_reducible refine gate_callee (f := 65) rfl ?_); refine goesL_ (some 18) rfl rfl Try.func65 (by kernel_rfl) rfl #[.pointer (some ⟨g, 0, none⟩), .slice Ao31 y504.length co31] rfl sqA ?_; (with_reducible refine (spec_l01PickInt.calls g s0_0 t496 t497 _ _ y504 t507 t508 t509 w0 _ ?side1 ?side2 ?side3 ?side4 ?side5 A21.out).mono ?_); (case side1 => exact sqI94 HI0); (case side2 => exact sqB); (case side3 => repeat (first | exact (Kd.R_reads' HO506.out).2.2 | (with_reducible refine Kd.C_alloc ?_ _) | (with_reducible refine Kd.C_drewN ?_ _) | (with_reducible refine Kd.C_drew ?_))); (case side4 => exact (Kd.R_reads' HO506.out).2.1); (case side5 => exact far_slice (IsS94.own_ne HI0.out HO506.out (by decide))); rintro e w32 ⟨rfl, hi, hb, hk⟩; refine ⟨_, rfl, ?_⟩; replace BK489 := Aside0.mk (KeepBut.blk hk (g' := gb489) (o := .cells #[.int .i64 0, .int .i64 0] 27 (0, 0)) (sqK BK489) NB489_0.out (by simp)); replace BK494 := Aside0.mk (KeepBut.blk hk (g' := gb494) (o := .cells #[.int .i64 t490, .int .i64 t491] 27 (0, 0)) (sqK BK494) NB494_0.out (by simp)); replace HO506 := Aside0.mk (Kd.R_mono (Kd.R_keep (IsS94.apart (show IsS94 w0 _ g s0_0 t496 t497 from sqI94 HI0) (sqR HO506) (by decide)) hk (fun _ h => h.2)) (fun _ h => h.1)); replace HK := Aside0.mk (KeepBut.trans (sqQ HK) hk (.inl rfl)); replace HI0 := Aside0.mk (hi); replace HB := Aside0.mk (hb); (try clear hb); (try clear hb2); (try clear hk); (try clear hi); obtain ⟨hcz33_0, hcz33_1, hfz33_0, hfz33_1⟩ := sqC2 BK494; have hnb34 := NB489_0.out; have hnc34 := NB0_489.out; obtain ⟨hcz35_0, hcz35_1, hfz35_0, hfz35_1⟩ := sqC2 BK489))
   refine bodyPost_ret (results_cell_row rfl _ _ gb489 27 #[.int .i64 t490, .int .i64 t507] (0, 0) _ rfl (sqW BK489) Try.underlying27 rfl (by kernel_rfl)) rfl ?_
   exact ⟨sqE, sqI94 HI0, sqB, sqQ HK⟩
  ·rw [if_neg c20] at H
   have c20b0 : (t495 == 1) = false := beq_eq_false_iff_ne.mpr c20
   have c20b1 : (t495 != 1) = true := bne_iff_ne.mpr c20
   simp only [Option.some.injEq, Prod.mk.injEq] at H
   obtain ⟨rfl, rfl, rfl, rfl⟩ := H
   go_enter Try.func64, Try.ntmps64
   go_wp2_with (first | ((with_reducible refine gate_dst (N := 2) rfl ?_); refine sqX (N := 2) (cs := #[.int .i64 0, .int .i64 0]) (t := 27) ?_; intro gb489 hg w36 hbox hb; have BK489 := Aside0.mk (hbox); have GW489 := sqU1 HK hg; have GE489 := sqU2 HW0 HK hg; replace HK := sqT HK hb; have NB0_489 := sqU3 hg (IsS94.lt (show IsS94 w0 _ g s0_0 s0_1 s0_2 from sqI94 HI0)); have NB489_0 := sqU4 hg (IsS94.lt (show IsS94 w0 _ g s0_0 s0_1 s0_2 from sqI94 HI0)); replace HI0 := Aside0.mk (IsS94.below (sqI94 HI0) hb); replace HB := sqS hb; clear hb hbox hg) | ((with_reducible refine gate_callee (f := 68) rfl ?_); refine goesL_ (some 5) rfl rfl Try.func68 (by kernel_rfl) rfl #[.pointer (some ⟨g, 0, none⟩)] rfl sqA ?_; (with_reducible refine (spec_l05Role.calls g s0_0 s0_1 s0_2 t490 t491 t492 t493 w0 _ ?side1 ?side2 A2.out).mono ?_); (case side1 => exact sqI94 HI0); (case side2 => exact sqB); rintro e w37 ⟨rfl, hi, hb, hk⟩; refine ⟨_, rfl, ?_⟩; replace BK489 := Aside0.mk (KeepBut.blk hk (g' := gb489) (o := .cells #[.int .i64 0, .int .i64 0] 27 (0, 0)) (sqK BK489) NB489_0.out (by simp)); replace HK := Aside0.mk (KeepBut.trans (sqQ HK) hk (.inl rfl)); replace HI0 := Aside0.mk (hi); replace HB := Aside0.mk (hb); (try clear hb); (try clear hb2); (try clear hk); (try clear hi)) | ((with_reducible refine gate_dst (N := 3) rfl ?_); refine sqX (N := 3) (cs := #[.int .i64 0, .int .i64 0]) (t := 27) ?_; intro gb494 hg w38 hbox hb; have BK494 := Aside0.mk (hbox); have GW494 := sqU1 HK hg; have GE494 := sqU2 HW0 HK hg; replace HK := sqT HK hb; have NB489_494 := sqN BK489 hg; have NB494_489 := sqM BK489 hg; replace BK489 := sqL BK489 hb; have NB0_494 := sqU3 hg (IsS94.lt (show IsS94 w0 _ g s0_0 t492 t493 from sqI94 HI0)); have NB494_0 := sqU4 hg (IsS94.lt (show IsS94 w0 _ g s0_0 t492 t493 from sqI94 HI0)); replace HI0 := Aside0.mk (IsS94.below (sqI94 HI0) hb); replace HB := sqS hb; clear hb hbox hg; have hnb39 := NB494_489.out; have hnc39 := NB489_494.out; have hnb40 := NB494_0.out; have hnc40 := NB0_494.out; obtain ⟨hcz41_0, hcz41_1, hfz41_0, hfz41_1⟩ := sqC2 BK494) | ((with_reducible refine gate_callee (f := 63) rfl ?_); refine goesL_ (some 7) rfl rfl Try.func63 (by kernel_rfl) rfl #[.pointer (some ⟨g, 0, none⟩), .int .i64 8] rfl sqA ?_; (with_reducible refine (spec_l01Below.calls g s0_0 t492 t493 8 t495 t496 t497 w0 _ ?side1 ?side2 A3.out).mono ?_); (case side1 => exact sqI94 HI0); (case side2 => exact sqB); rintro e w42 ⟨rfl, hi, hb, hk⟩; refine ⟨_, rfl, ?_⟩; replace BK489 := Aside0.mk (KeepBut.blk hk (g' := gb489) (o := .cells #[.int .i64 0, .int .i64 0] 27 (0, 0)) (sqW BK489) NB489_0.out (by simp)); replace BK494 := Aside0.mk (KeepBut.blk hk (g' := gb494) (o := .cells #[.int .i64 t490, .int .i64 t491] 27 (0, 0)) (sqW BK494) NB494_0.out (by simp)); replace HK := Aside0.mk (KeepBut.trans (sqQ HK) hk (.inl rfl)); replace HI0 := Aside0.mk (hi); replace HB := Aside0.mk (hb); (try clear hb); (try clear hb2); (try clear hk); (try clear hi); obtain ⟨hcz43_0, hcz43_1, hfz43_0, hfz43_1⟩ := sqC2 BK494; have hnb44 := NB489_0.out; have hnc44 := NB0_489.out; obtain ⟨hcz45_0, hcz45_1, hfz45_0, hfz45_1⟩ := sqC2 BK489))
   refine bodyPost_ret (results_cell_row rfl _ _ gb489 27 #[.int .i64 t490, .int .i64 t491] (0, 0) _ rfl (sqW BK489) Try.underlying27 rfl (by kernel_rfl)) rfl ?_
   exact ⟨sqE, sqI94 HI0, sqB, sqQ HK⟩

/-! ### spec_DrawIsMember: function 38 -/
def spec_DrawIsMember.f (k : Nat) (l0 : List Int) : Option ((List (S29)) × Int × Int × Int) := (spec_l01New.f k l0).bind fun bt511 => ((spec_l01Below.f bt511.1 bt511.2.1 bt511.2.2 8).bind fun bt515 => ((spec_l05AnyRole.f bt511.1 bt515.2.1 bt515.2.2).bind fun bt518 => ((spec_l06Any.f k bt511.1 bt518.2.2.1 bt518.2.2.2).bind fun bt523 => (some (bt523.1, bt518.1, bt518.2.1, wrap64 (bt515.1 - 1))))))
theorem spec_DrawIsMember.mono : ∀ a0 k, LeO (spec_DrawIsMember.f k a0) (spec_DrawIsMember.f (k + 1) a0) := by
 intro a0 k
 unfold spec_DrawIsMember.f
 repeat' first
   | (with_reducible exact spec_l01New.mono _ _)
   | (with_reducible exact spec_l06Any.mono _ _ _ _)
   | (with_reducible exact LeO.refl _)
   | (with_reducible exact LeO.none _)
   | (with_reducible refine LeO.ite ?_ ?_)
   | (with_reducible refine LeO.bind ?_ (fun _ => ?_))
   | exact spec_l01New.mono _ _
   | exact spec_l06Any.mono _ _ _ _
   | exact LeO.none _
   | refine LeO.ite ?_ ?_
   | refine LeO.bind ?_ (fun _ => ?_)
set_option maxHeartbeats 8000000 in
set_option maxRecDepth 100000 in
theorem spec_DrawIsMember.calls (k : Nat) (A0 : Option Addr) (c0 : Nat) (l0 : List Int) (r1 : List (S29)) (r2 : Int) (r3 : Int) (r4 : Int) (w : World) (hr0 : Kd.C (Kd.int .u8) w A0 l0.length l0) (hc0 : l0.length ≤ c0) (h : spec_DrawIsMember.f k l0 = some (r1, r2, r3, r4)) :
  Calls Try.prog 38 #[.slice A0 l0.length c0] w fun e w' => ∃ v0_ : Value, e = .returned (.tuple #[v0_, .agg #[.int .i64 r2, .int .i64 r3], .int .i64 r4]) ∧ Kd.R k29 29 w' w.heap.size (fun _ => True) v0_ r1 ∧ Below w.heap.size w w' := by
 have hu27 := Try.underlying27
 have HR0 := Aside0.mk hr0
 have HC0 := Aside0.mk hc0
 clear hr0 hc0
 have HB := Aside0.mk (Below.refl w.heap.size w)
 have H : ((spec_l01New.f k l0).bind fun bt511 => ((spec_l01Below.f bt511.1 bt511.2.1 bt511.2.2 8).bind fun bt515 => ((spec_l05AnyRole.f bt511.1 bt515.2.1 bt515.2.2).bind fun bt518 => ((spec_l06Any.f k bt511.1 bt518.2.2.1 bt518.2.2.2).bind fun bt523 => (some (bt523.1, bt518.1, bt518.2.1, wrap64 (bt515.1 - 1))))))) = some (r1, r2, r3, r4) := h
 clear h
 replace H := Option.bind_eq_some_iff.mp H
 obtain ⟨⟨t511, t512, t513⟩, A20, H⟩ := H
 try dsimp only at H
 have A2 := Aside0.mk A20
 clear A20
 replace H := Option.bind_eq_some_iff.mp H
 obtain ⟨⟨t515, t516, t517⟩, A30, H⟩ := H
 try dsimp only at H
 have A3 := Aside0.mk A30
 clear A30
 replace H := Option.bind_eq_some_iff.mp H
 obtain ⟨⟨t518, t519, t520, t521⟩, A40, H⟩ := H
 try dsimp only at H
 have A4 := Aside0.mk A40
 clear A40
 replace H := Option.bind_eq_some_iff.mp H
 obtain ⟨⟨t523, t526, t527⟩, A50, H⟩ := H
 try dsimp only at H
 have A5 := Aside0.mk A50
 clear A50
 simp only [Option.some.injEq, Prod.mk.injEq] at H
 obtain ⟨rfl, rfl, rfl, rfl⟩ := H
 go_enter Try.func38, Try.ntmps38
 try go_wp2_with (first | ((with_reducible refine gate_dst (N := 3) rfl ?_); refine sqX (N := 3) (cs := #[.int .i64 0, .int .i64 0]) (t := 27) ?_; intro gb510 hg w6 hbox hb; have BK510 := Aside0.mk (hbox); have GW510 := sqG hg; have GE510 := sqG hg; replace HB := sqS hb; clear hb hbox hg) | ((with_reducible refine gate_callee (f := 46) rfl ?_); refine goesL_ (some 9) rfl rfl Try.func46 (by kernel_rfl) rfl #[.slice A0 l0.length c0] rfl sqA ?_; (with_reducible refine (spec_l01New.calls k _ _ l0 t511 t512 t513 w _ ?side1 ?side2 ?side3 A2.out).mono ?_); (case side1 => exact sqB); (case side2 => exact HR0.out); (case side3 => exact HC0.out); rintro e w7 ⟨g514, rfl, hi, hb, hb2⟩; refine ⟨_, rfl, ?_⟩; have HI514 := Aside0.mk (hi); have NB514_510 := Aside0.mk (IsS94.ne_blk hi (blk_below (g := gb510) (o := .cells #[.int .i64 0, .int .i64 0] 27 (0, 0)) (sqK BK510) hb2) (by decide)); have NB510_514 := Aside0.mk (Ne.symm (IsS94.ne_blk hi (blk_below (g := gb510) (o := .cells #[.int .i64 0, .int .i64 0] 27 (0, 0)) (sqK BK510) hb2) (by decide))); replace BK510 := Aside0.mk (blk_below (g := gb510) (o := .cells #[.int .i64 0, .int .i64 0] 27 (0, 0)) (sqK BK510) hb2); replace HB := Aside0.mk (hb); (try clear hb); (try clear hb2); (try clear hk); (try clear hi)) | ((with_reducible refine gate_callee (f := 63) rfl ?_); refine goesL_ (some 11) rfl rfl Try.func63 (by kernel_rfl) rfl #[.pointer (some ⟨g514, 0, none⟩), .int .i64 8] rfl sqA ?_; (with_reducible refine (spec_l01Below.calls g514 t511 t512 t513 8 t515 t516 t517 w _ ?side1 ?side2 A3.out).mono ?_); (case side1 => exact sqI94 HI514); (case side2 => exact sqB); rintro e w8 ⟨rfl, hi, hb, hk⟩; refine ⟨_, rfl, ?_⟩; replace BK510 := Aside0.mk (KeepBut.blk hk (g' := gb510) (o := .cells #[.int .i64 0, .int .i64 0] 27 (0, 0)) (sqK BK510) NB510_514.out (by simp)); replace HI514 := Aside0.mk (hi); replace HB := Aside0.mk (hb); (try clear hb); (try clear hb2); (try clear hk); (try clear hi)) | ((with_reducible refine gate_callee (f := 64) rfl ?_); refine goesL_ (some 14) rfl rfl Try.func64 (by kernel_rfl) rfl #[.pointer (some ⟨g514, 0, none⟩)] rfl sqA ?_; (with_reducible refine (spec_l05AnyRole.calls g514 t511 t516 t517 t518 t519 t520 t521 w _ ?side1 ?side2 A4.out).mono ?_); (case side1 => exact sqI94 HI514); (case side2 => exact sqB); rintro e w9 ⟨rfl, hi, hb, hk⟩; refine ⟨_, rfl, ?_⟩; replace BK510 := Aside0.mk (KeepBut.blk hk (g' := gb510) (o := .cells #[.int .i64 0, .int .i64 0] 27 (0, 0)) (sqK BK510) NB510_514.out (by simp)); replace HI514 := Aside0.mk (hi); replace HB := Aside0.mk (hb); (try clear hb); (try clear hb2); (try clear hk); (try clear hi)) | ((with_reducible refine gate_dst (N := 7) rfl ?_); refine sqX (N := 7) (cs := #[.int .i64 0, .int .i64 0]) (t := 27) ?_; intro gb522 hg w10 hbox hb; have BK522 := Aside0.mk (hbox); have GW522 := sqG hg; have GE522 := sqG hg; have NB510_522 := sqN BK510 hg; have NB522_510 := sqM BK510 hg; replace BK510 := sqL BK510 hb; have NB514_522 := Aside0.mk ((by rw [hg]; exact Nat.ne_of_lt (IsS94.lt (show IsS94 w _ g514 t511 t520 t521 from sqI94 HI514)) : g514 ≠ gb522)); have NB522_514 := Aside0.mk ((by rw [hg]; exact Nat.ne_of_gt (IsS94.lt (show IsS94 w _ g514 t511 t520 t521 from sqI94 HI514)) : gb522 ≠ g514)); replace HI514 := Aside0.mk (IsS94.below (sqI94 HI514) hb); replace HB := sqS hb; clear hb hbox hg; have hnb11 := NB522_510.out; have hnc11 := NB510_522.out; have hnb12 := NB522_514.out; have hnc12 := NB514_522.out; obtain ⟨hcz13_0, hcz13_1, hfz13_0, hfz13_1⟩ := sqC2 BK522))
 have n0_ : Aside0 (((w10.setCell ⟨gb522, 0, none⟩ (.int .i64 t518)).setCell ⟨gb522, 1, none⟩ (.int .i64 t519)).heap[gb510]? = some (.cells #[.int .i64 0, .int .i64 0] 27 (0, 0))) := ⟨sqW BK510⟩
 have n1_ : Aside0 (((w10.setCell ⟨gb522, 0, none⟩ (.int .i64 t518)).setCell ⟨gb522, 1, none⟩ (.int .i64 t519)).heap[gb522]? = some (.cells #[.int .i64 t518, .int .i64 t519] 27 (0, 0))) := ⟨sqW BK522⟩
 have n2_ : Aside0 (IsS94 w ((w10.setCell ⟨gb522, 0, none⟩ (.int .i64 t518)).setCell ⟨gb522, 1, none⟩ (.int .i64 t519)) g514 t511 t520 t521) := ⟨sqI94 HI514⟩
 have n3_ : Aside0 (Below w.heap.size w ((w10.setCell ⟨gb522, 0, none⟩ (.int .i64 t518)).setCell ⟨gb522, 1, none⟩ (.int .i64 t519))) := ⟨sqB⟩
 (try clear BK510)
 (try clear BK522)
 (try clear HI514)
 (try clear HB)
 generalize ((w10.setCell ⟨gb522, 0, none⟩ (.int .i64 t518)).setCell ⟨gb522, 1, none⟩ (.int .i64 t519)) = w14 at n0_ n1_ n2_ n3_ ⊢
 have BK510 := n0_
 have BK522 := n1_
 have HI514 := n2_
 have HB := n3_
 clear n0_ n1_ n2_ n3_
 replace BK510 := Aside0.mk (blk_drew BK510.out); replace BK522 := Aside0.mk (blk_drew BK522.out); replace HI514 := Aside0.mk (IsS94.drew HI514.out); replace HB := Aside0.mk (below_drew1 HB.out)
 refine start_ (n := 7) (S := fun w' => w'.cell? ⟨gb522, 0, none⟩ = some (.int .i64 t518) ∧ w'.cell? ⟨gb522, 1, none⟩ = some (.int .i64 t519)) (ds := []) #[false, false, false, false, false, false, false] (by kernel_rfl) rfl rfl ⟨(blk_cell BK522.out 0).trans rfl, (blk_cell BK522.out 1).trans rfl⟩ (fun hHeld => ?_)
 generalize w14.drew = w15 at BK510 BK522 HI514 HB hHeld ⊢
 refine sqP (i := 0) (N := some 15) #[true, false, false, false, false, false, false] rfl rfl (by kernel_rfl) ?_
 refine sqP (i := 3) (N := some 18) #[true, false, false, true, false, false, false] rfl rfl (by kernel_rfl) ?_
 refine sqTk (i := 2) (N := some 17) #[true, false, true, true, false, false, false] rfl rfl (by kernel_rfl) hHeld ?_
 refine one_ (i := 1) (N := some 16) #[true, true, true, true, false, false, false] rfl rfl (by kernel_rfl) (by decide) (fun K hK => ?_)
 refine goes_ Try.func62 (by kernel_rfl) rfl #[.pointer (some ⟨g514, 0, none⟩)] (by rfl) rfl rfl sqA ?_
 with_reducible refine (spec_l06Any.calls k g514 t511 t520 t521 t523 t526 t527 w _ ?side1 ?side2 A5.out).mono ?_
 (case side1 => exact sqI94 HI514)
 (case side2 => exact sqB)
 rintro e w16 ⟨v524, rfl, ho0, hi, hb, hk⟩
 refine ⟨_, rfl, ?_⟩
 replace BK510 := Aside0.mk (KeepBut.blk hk (g' := gb510) (o := .cells #[.int .i64 0, .int .i64 0] 27 (0, 0)) (sqK BK510) NB510_514.out (by simp)); replace BK522 := Aside0.mk (KeepBut.blk hk (g' := gb522) (o := .cells #[.int .i64 t518, .int .i64 t519] 27 (0, 0)) (sqK BK522) NB522_514.out (by simp)); have HO525 := Aside0.mk (Kd.R_lower ho0 (below_size (sqB))); replace HI514 := Aside0.mk (hi); replace HB := Aside0.mk (hb)
 (try clear hb)
 (try clear hb2)
 (try clear hk)
 (try clear hi)
 (try clear ho0)
 refine hK.out _ _ ⟨(blk_cell BK522.out 0).trans rfl, (blk_cell BK522.out 1).trans rfl⟩ (fun hHeld => ?_)
 clear hK K
 refine sqV (N := some 16) ?_
 refine sqP (i := 4) (N := some 2) #[true, true, true, true, true, false, false] rfl rfl (by kernel_rfl) ?_
 refine one_ (i := 5) (N := none) #[true, true, true, true, true, true, false] rfl rfl (by kernel_rfl) (by decide) (fun K hK => ?_)
 have hs17 : w16.cell? ⟨gb510, 0, none⟩ = some (.int .i64 0) := (blk_cell BK510.out 0).trans rfl
 have hfs17 := blk_frozen BK510.out 0
 have hns17_1 := NB522_510.out
 have hms17_1 := NB510_522.out
 have hs18 : w16.cell? ⟨gb510, 1, none⟩ = some (.int .i64 0) := (blk_cell BK510.out 1).trans rfl
 have hfs18 := blk_frozen BK510.out 1
 have hns18_1 := NB522_510.out
 have hms18_1 := NB510_522.out
 refine skip_ (w1 := ?_) (by rfl) rfl ?_ ?_
 rotate_left
 ·go_simp
  rfl
 refine hK.out _ _ ⟨((cell_far (p := ⟨gb510, _, none⟩) NB522_510.out _).trans (((cell_far (p := ⟨gb510, _, none⟩) NB522_510.out _).trans (hHeld.1)))), ((cell_far (p := ⟨gb510, _, none⟩) NB522_510.out _).trans (((cell_far (p := ⟨gb510, _, none⟩) NB522_510.out _).trans (hHeld.2))))⟩ (fun hHeld => ?_)
 clear hK K
 refine sqP (i := 6) (N := some 4) #[true, true, true, true, true, true, true] rfl rfl (by kernel_rfl) ?_
 refine done_ (by kernel_rfl) ?_
 try go_wp2
 refine bodyPost_ret (results_list (rs := [.tmp 2, .cell 3 27, .tmp 4]) rfl (by simp) (.tmp (.cell gb510 27 #[.int .i64 t518, .int .i64 t519] (0, 0) _ rfl (sqW BK510) Try.underlying27 rfl (by kernel_rfl) (.tmp .nil)))) rfl ?_
 exact ⟨_, sqE, by (with_reducible repeat (first | apply Kd.R_alloc | apply Kd.R_drewN | apply Kd.R_drew)); exact Kd.R_mono (Kd.R_far (p := ⟨gb510, 1, none⟩) (Kd.R_far (p := ⟨gb510, 0, none⟩) (Kd.R_types HO525.out BK510.out (by decide)) (fun _ hk => hk.2) (.int .i64 t518)) (fun _ hk => hk.2) (.int .i64 t519)) (fun _ hk => trivial), sqB⟩

/-! ### spec_DrawAlive: function 39 -/
def spec_DrawAlive.f (k : Nat) (l0 : List Int) : Option ((List (S29)) × Int) := (spec_l01New.f k l0).bind fun bt528 => ((spec_l01PickInt.f bt528.1 bt528.2.1 bt528.2.2 (([0, 5, 6, 51, 9999, 10000] : List Int))).bind fun bt535 => ((spec_l06Any.f k bt528.1 bt535.2.1 bt535.2.2).bind fun bt538 => (some (bt538.1, bt535.1))))
theorem spec_DrawAlive.mono : ∀ a0 k, LeO (spec_DrawAlive.f k a0) (spec_DrawAlive.f (k + 1) a0) := by
 intro a0 k
 unfold spec_DrawAlive.f
 repeat' first
   | (with_reducible exact spec_l01New.mono _ _)
   | (with_reducible exact spec_l06Any.mono _ _ _ _)
   | (with_reducible exact LeO.refl _)
   | (with_reducible exact LeO.none _)
   | (with_reducible refine LeO.ite ?_ ?_)
   | (with_reducible refine LeO.bind ?_ (fun _ => ?_))
   | exact spec_l01New.mono _ _
   | exact spec_l06Any.mono _ _ _ _
   | exact LeO.none _
   | refine LeO.ite ?_ ?_
   | refine LeO.bind ?_ (fun _ => ?_)
set_option maxHeartbeats 8000000 in
set_option maxRecDepth 100000 in
theorem spec_DrawAlive.calls (k : Nat) (A0 : Option Addr) (c0 : Nat) (l0 : List Int) (r1 : List (S29)) (r2 : Int) (w : World) (hr0 : Kd.C (Kd.int .u8) w A0 l0.length l0) (hc0 : l0.length ≤ c0) (h : spec_DrawAlive.f k l0 = some (r1, r2)) :
  Calls Try.prog 39 #[.slice A0 l0.length c0] w fun e w' => ∃ v0_ : Value, e = .returned (.tuple #[v0_, .int .i64 r2]) ∧ Kd.R k29 29 w' w.heap.size (fun _ => True) v0_ r1 ∧ Below w.heap.size w w' := by
 have HR0 := Aside0.mk hr0
 have HC0 := Aside0.mk hc0
 clear hr0 hc0
 have HB := Aside0.mk (Below.refl w.heap.size w)
 have H : ((spec_l01New.f k l0).bind fun bt528 => ((spec_l01PickInt.f bt528.1 bt528.2.1 bt528.2.2 (([0, 5, 6, 51, 9999, 10000] : List Int))).bind fun bt535 => ((spec_l06Any.f k bt528.1 bt535.2.1 bt535.2.2).bind fun bt538 => (some (bt538.1, bt535.1))))) = some (r1, r2) := h
 clear h
 replace H := Option.bind_eq_some_iff.mp H
 obtain ⟨⟨t528, t529, t530⟩, A20, H⟩ := H
 try dsimp only at H
 have A2 := Aside0.mk A20
 clear A20
 obtain ⟨y532, hy532⟩ : ∃ y_ : List Int, y_ = (([0, 5, 6, 51, 9999, 10000] : List Int)) := ⟨_, rfl⟩
 replace H : ((spec_l01PickInt.f t528 t529 t530 y532).bind fun bt535 => ((spec_l06Any.f k t528 bt535.2.1 bt535.2.2).bind fun bt538 => (some (bt538.1, bt535.1)))) = some (r1, r2) := by first | (rw [hy532]; with_reducible exact H) | (have H2_ := (Option.bind_some _ _).symm.trans H; rw [hy532]; with_reducible exact H2_) | (have H2_ := (Option.bind_some _ _).symm.trans H; with_reducible exact H2_) | with_reducible exact H | (rw [hy532]; exact H) | exact H
 have Ny532 := Aside0.mk hy532
 clear hy532
 replace H := Option.bind_eq_some_iff.mp H
 obtain ⟨⟨t535, t536, t537⟩, A30, H⟩ := H
 try dsimp only at H
 have A3 := Aside0.mk A30
 clear A30
 replace H := Option.bind_eq_some_iff.mp H
 obtain ⟨⟨t538, t541, t542⟩, A40, H⟩ := H
 try dsimp only at H
 have A4 := Aside0.mk A40
 clear A40
 simp only [Option.some.injEq, Prod.mk.injEq] at H
 obtain ⟨rfl, rfl⟩ := H
 go_enter Try.func39, Try.ntmps39
 go_wp2_with (first | ((with_reducible refine gate_callee (f := 46) rfl ?_); refine goesL_ (some 7) rfl rfl Try.func46 (by kernel_rfl) rfl #[.slice A0 l0.length c0] rfl sqA ?_; (with_reducible refine (spec_l01New.calls k _ _ l0 t528 t529 t530 w _ ?side1 ?side2 ?side3 A2.out).mono ?_); (case side1 => exact sqB); (case side2 => exact HR0.out); (case side3 => exact HC0.out); rintro e w5 ⟨g531, rfl, hi, hb, hb2⟩; refine ⟨_, rfl, ?_⟩; have HI531 := Aside0.mk (hi); replace HB := Aside0.mk (hb); (try clear hb); (try clear hb2); (try clear hk); (try clear hi)) | ((with_reducible refine gate_dst (N := 9) rfl ?_); refine Kd.R_lit (Kd.int .i64) _ 3 ?hg (N := 9) ?hd (xs := ([0, 5, 6, 51, 9999, 10000] : List Int)) (inner := [.int .i64 0, .int .i64 5, .int .i64 6, .int .i64 51, .int .i64 9999, .int .i64 10000]) (ok := fun _ => True) (okp := fun _ => True) ?hr ?hp (fun _ hk => hk) trivial (Below.refl _ _) (Nat.le_refl _) (by simp) ?_; (case hd => rfl); (case hg => rfl); (case hr => first | (go_simp; done) | (go_simp; rfl)); (case hp => exact (Reps.one (show Kd.M (Kd.int .i64) _ _ _ 0 [.int .i64 0] from rfl) (Reps.one (show Kd.M (Kd.int .i64) _ _ _ 5 [.int .i64 5] from rfl) (Reps.one (show Kd.M (Kd.int .i64) _ _ _ 6 [.int .i64 6] from rfl) (Reps.one (show Kd.M (Kd.int .i64) _ _ _ 51 [.int .i64 51] from rfl) (Reps.one (show Kd.M (Kd.int .i64) _ _ _ 9999 [.int .i64 9999] from rfl) (Reps.one (show Kd.M (Kd.int .i64) _ _ _ 10000 [.int .i64 10000] from rfl) (Reps.none _ _)))))))); intro v533 w6 ho7 hb hg_ hnew_; clear hg_ hnew_; (first | rw [← Ny532.out] at ho7 | (simp only [Int.reduceToNat] at ho7; rw [← Ny532.out] at ho7)); have HO534 := Aside0.mk (Kd.R_lower ho7 (below_size (sqB))); replace HI531 := Aside0.mk (IsS94.below (sqI94 HI531) hb); replace HB := sqS hb; clear hb ho7; obtain ⟨Ao8, co8, eo8⟩ := Kd.R_slice HO534.out; subst eo8) | ((with_reducible refine gate_callee (f := 65) rfl ?_); refine goesL_ (some 10) rfl rfl Try.func65 (by kernel_rfl) rfl #[.pointer (some ⟨g531, 0, none⟩), .slice Ao8 y532.length co8] rfl sqA ?_; (with_reducible refine (spec_l01PickInt.calls g531 t528 t529 t530 _ _ y532 t535 t536 t537 w _ ?side1 ?side2 ?side3 ?side4 ?side5 A3.out).mono ?_); (case side1 => exact sqI94 HI531); (case side2 => exact sqB); (case side3 => repeat (first | exact (Kd.R_reads' HO534.out).2.2 | (with_reducible refine Kd.C_alloc ?_ _) | (with_reducible refine Kd.C_drewN ?_ _) | (with_reducible refine Kd.C_drew ?_))); (case side4 => exact (Kd.R_reads' HO534.out).2.1); (case side5 => exact far_slice (IsS94.own_ne HI531.out HO534.out (by decide))); rintro e w9 ⟨rfl, hi, hb, hk⟩; refine ⟨_, rfl, ?_⟩; replace HO534 := Aside0.mk (Kd.R_mono (Kd.R_keep (IsS94.apart (show IsS94 w _ g531 t528 t529 t530 from sqI94 HI531) (sqR HO534) (by decide)) hk (fun _ h => h.2)) (fun _ h => h.1)); replace HI531 := Aside0.mk (hi); replace HB := Aside0.mk (hb); (try clear hb); (try clear hb2); (try clear hk); (try clear hi)) | ((with_reducible refine gate_callee (f := 62) rfl ?_); refine goesL_ (some 12) rfl rfl Try.func62 (by kernel_rfl) rfl #[.pointer (some ⟨g531, 0, none⟩)] rfl sqA ?_; (with_reducible refine (spec_l06Any.calls k g531 t528 t536 t537 t538 t541 t542 w _ ?side1 ?side2 A4.out).mono ?_); (case side1 => exact sqI94 HI531); (case side2 => exact sqB); rintro e w10 ⟨v539, rfl, ho0, hi, hb, hk⟩; refine ⟨_, rfl, ?_⟩; replace HO534 := Aside0.mk (Kd.R_mono (Kd.R_keep (IsS94.apart (show IsS94 w _ g531 t528 t536 t537 from sqI94 HI531) (sqR HO534) (by decide)) hk (fun _ h => h.2)) (fun _ h => h.1)); have HO540 := Aside0.mk (Kd.R_lower ho0 (below_size (sqB))); replace HI531 := Aside0.mk (hi); replace HB := Aside0.mk (hb); (try clear hb); (try clear hb2); (try clear hk); (try clear hi); (try clear ho0)))
 go_ret2
 exact ⟨_, sqE, sqR HO540, sqB⟩

/-! ### laws_sameInts: function 41 -/
def laws_sameInts.l0 : Nat → List Int → List Int → Int → Option (Bool)
 | 0, _, _, _ => none
 | k + 1, x0, x1, x5 => if x5 < (x0.length : Int) then (if 0 ≤ x5 then (if x5 < (x1.length : Int) then (if (rd x0 x5) = (rd x1 x5) then (laws_sameInts.l0 k x0 x1 (wrap64 (x5 + 1))) else (some false)) else (none)) else (none)) else (some true)
def laws_sameInts.f (k : Nat) (l0 : List Int) (l1 : List Int) : Option (Bool) := if (l0.length : Int) = (l1.length : Int) then (laws_sameInts.l0 k l0 l1 0) else (some false)
theorem laws_sameInts.mono_l : ∀ k, (∀ y0 y1 y2, LeO (laws_sameInts.l0 k y0 y1 y2) (laws_sameInts.l0 (k + 1) y0 y1 y2))
 | 0 => fun _ _ _ r h => by simp [laws_sameInts.l0] at h
 | k + 1 => by
  have ih0 := laws_sameInts.mono_l k
  ·intro y0 y1 y2
   unfold laws_sameInts.l0
   repeat' first
   | (with_reducible exact ih0 _ _ _)
   | (with_reducible exact LeO.refl _)
   | (with_reducible exact LeO.none _)
   | (with_reducible refine LeO.ite ?_ ?_)
   | (with_reducible refine LeO.bind ?_ (fun _ => ?_))
   | exact ih0 _ _ _
   | exact LeO.none _
   | refine LeO.ite ?_ ?_
   | refine LeO.bind ?_ (fun _ => ?_)
theorem laws_sameInts.mono : ∀ a0 a1 k, LeO (laws_sameInts.f k a0 a1) (laws_sameInts.f (k + 1) a0 a1) := by
 intro a0 a1 k
 have ih0 := laws_sameInts.mono_l k
 unfold laws_sameInts.f
 repeat' first
   | (with_reducible exact ih0 _ _ _)
   | (with_reducible exact LeO.refl _)
   | (with_reducible exact LeO.none _)
   | (with_reducible refine LeO.ite ?_ ?_)
   | (with_reducible refine LeO.bind ?_ (fun _ => ?_))
   | exact ih0 _ _ _
   | exact LeO.none _
   | refine LeO.ite ?_ ?_
   | refine LeO.bind ?_ (fun _ => ?_)
set_option maxHeartbeats 8000000 in
set_option maxRecDepth 100000 in
theorem laws_sameInts.calls (k : Nat) (A0 : Option Addr) (c0 : Nat) (l0 : List Int) (A1 : Option Addr) (c1 : Nat) (l1 : List Int) (r : Bool) (w : World) (hr0 : Kd.C (Kd.int .i64) w A0 l0.length l0) (hc0 : l0.length ≤ c0) (hr1 : Kd.C (Kd.int .i64) w A1 l1.length l1) (hc1 : l1.length ≤ c1) (h : laws_sameInts.f k l0 l1 = some r) :
  Calls Try.prog 41 #[.slice A0 l0.length c0, .slice A1 l1.length c1] w fun e w' => e = .returned (.bool r) ∧ Drawn0 w w' := by
 have HR0 := Aside0.mk hr0
 have HC0 := Aside0.mk hc0
 clear hr0 hc0
 have HR1 := Aside0.mk hr1
 have HC1 := Aside0.mk hc1
 clear hr1 hc1
 have H : (if (l0.length : Int) = (l1.length : Int) then (laws_sameInts.l0 k l0 l1 0) else (some false)) = some r := h
 clear h
 by_cases c3 : (l0.length : Int) = (l1.length : Int)
 ·rw [if_pos c3] at H
  have c3b0 : ((l0.length : Int) == (l1.length : Int)) = true := beq_iff_eq.mpr c3
  have c3b1 : ((l0.length : Int) != (l1.length : Int)) = false := bne_eq_false_iff_eq.mpr c3
  have c3b2 : (l0.length == l1.length) = true := by first | simpa using c3 | (simp at c3 ⊢; omega)
  clear c3
  have H' := Aside0.mk H
  clear H
  go_enter Try.func41, Try.ntmps41
  go_wp2
  repeat (go_quiet (fail); try go_wp2)
  go_loopg [5] k (fun kq v5 w' => ∃ (x5_1 : Int), v5 = .int .i64 x5_1 ∧ Aside0 (laws_sameInts.l0 kq l0 l1 x5_1 = some r) ∧ Aside0 (kq ≤ k) ∧ Drawn0 w w')
  case atStart => exact ⟨(0), (by first | rfl | (simp; done) | (simp [*]; done)), H', ⟨Nat.le_refl _⟩, by repeat (first | exact Drawn0.refl _ | apply Drawn0.step)⟩
  case round =>
   clear H'
   try clear c1
   try clear p2
   try clear c3
   try clear c3b0
   try clear c3b1
   try clear c3b2
   obtain ⟨x5_1, rfl, HA, HK1, ⟨m1, rfl⟩⟩ := hrel
   cases gk with
   | zero => exact absurd HA.out (by simp [laws_sameInts.l0])
   | succ k1 =>
    have H := HA.out
    clear HA
    simp only [laws_sameInts.l0] at H
    by_cases c4 : x5_1 < (l0.length : Int)
    ·rw [if_pos c4] at H
     have c4b0 : decide (x5_1 < (l0.length : Int)) = true := decide_eq_true c4
     clear c4
     by_cases c5 : 0 ≤ x5_1
     ·rw [if_pos c5] at H
      have c5b0 : decide (0 ≤ x5_1) = true := decide_eq_true c5
      clear c5
      by_cases c6 : x5_1 < (l1.length : Int)
      ·rw [if_pos c6] at H
       have c6b0 : decide (x5_1 < (l1.length : Int)) = true := decide_eq_true c6
       clear c6
       by_cases c7 : (rd l0 x5_1) = (rd l1 x5_1)
       ·rw [if_pos c7] at H
        have c7b0 : ((rd l0 x5_1) == (rd l1 x5_1)) = true := beq_iff_eq.mpr c7
        have c7b1 : ((rd l0 x5_1) != (rd l1 x5_1)) = false := bne_eq_false_iff_eq.mpr c7
        clear c7
        have H' := Aside0.mk H
        clear H
        have p543 : 0 ≤ (x5_1 : Int) := sqD
        have q543 : x5_1 < (l0.length : Int) := sqD
        obtain ⟨ad543, e543, hx543_0⟩ := Kd.at_int HR0.out x5_1 p543 q543
        cases e543
        replace p543 := eq_true p543
        replace q543 := eq_true q543
        have p544 : 0 ≤ (x5_1 : Int) := sqD
        have q544 : x5_1 < (l1.length : Int) := sqD
        obtain ⟨ad544, e544, hx544_0⟩ := Kd.at_int HR1.out x5_1 p544 q544
        cases e544
        replace p544 := eq_true p544
        replace q544 := eq_true q544
        go_wp2
        repeat (go_quiet (fail); try go_wp2)
        go_roundg k1
        case measure => have := HK1.out; omega
        case rel => exact ⟨(wrap64 (x5_1 + 1)), (by first | rfl | (simp; done) | (simp [*]; done)), H', ⟨by have := HK1.out; omega⟩, by repeat (first | exact Drawn0.refl _ | apply Drawn0.step)⟩
       ·rw [if_neg c7] at H
        have c7b0 : ((rd l0 x5_1) == (rd l1 x5_1)) = false := beq_eq_false_iff_ne.mpr c7
        have c7b1 : ((rd l0 x5_1) != (rd l1 x5_1)) = true := bne_iff_ne.mpr c7
        obtain rfl := Option.some.inj H
        have p543 : 0 ≤ (x5_1 : Int) := sqD
        have q543 : x5_1 < (l0.length : Int) := sqD
        obtain ⟨ad543, e543, hx543_0⟩ := Kd.at_int HR0.out x5_1 p543 q543
        cases e543
        replace p543 := eq_true p543
        replace q543 := eq_true q543
        have p544 : 0 ≤ (x5_1 : Int) := sqD
        have q544 : x5_1 < (l1.length : Int) := sqD
        obtain ⟨ad544, e544, hx544_0⟩ := Kd.at_int HR1.out x5_1 p544 q544
        cases e544
        replace p544 := eq_true p544
        replace q544 := eq_true q544
        go_wp2
        repeat (go_quiet (fail); try go_wp2)
        go_ret
        exact ⟨by first | rfl | (simp; done) | (simp [*]; done), by repeat (first | exact Drawn0.refl _ | apply Drawn0.step)⟩
      ·rw [if_neg c6] at H
       exact absurd H (by simp)
     ·rw [if_neg c5] at H
      exact absurd H (by simp)
    ·rw [if_neg c4] at H
     have c4b0 : decide (x5_1 < (l0.length : Int)) = false := decide_eq_false c4
     clear c4
     obtain rfl := Option.some.inj H
     go_wp2
     repeat (go_quiet (fail); try go_wp2)
     go_ret
     exact ⟨by first | rfl | (simp; done) | (simp [*]; done), by repeat (first | exact Drawn0.refl _ | apply Drawn0.step)⟩
 ·rw [if_neg c3] at H
  have c3b0 : ((l0.length : Int) == (l1.length : Int)) = false := beq_eq_false_iff_ne.mpr c3
  have c3b1 : ((l0.length : Int) != (l1.length : Int)) = true := bne_iff_ne.mpr c3
  have c3b2 : (l0.length == l1.length) = false := by first | simpa using c3 | (simp at c3 ⊢; omega)
  obtain rfl := Option.some.inj H
  go_enter Try.func41, Try.ntmps41
  go_wp2
  repeat (go_quiet (fail); try go_wp2)
  go_ret
  exact ⟨by first | rfl | (simp; done) | (simp [*]; done), by repeat (first | exact Drawn0.refl _ | apply Drawn0.step)⟩

/-! ### laws_sameCreds: function 42 -/
def laws_sameCreds.l0 : Nat → List (S29) → List (S29) → Int → Option (Bool)
 | 0, _, _, _ => none
 | k + 1, x0, x1, x5 => if x5 < (x0.length : Int) then (if 0 ≤ x5 then (if x5 < (x1.length : Int) then (if (!(((rd_T29 x0 x5).f0) == ((rd_T29 x1 x5).f0)) || ((!(((rd_T29 x0 x5).f1.f0) == ((rd_T29 x1 x5).f1.f0)) || (!(((rd_T29 x0 x5).f1.f1) == ((rd_T29 x1 x5).f1.f1)))) || (!(((rd_T29 x0 x5).f2) == ((rd_T29 x1 x5).f2)) || ((!(((rd_T29 x0 x5).f3.f0) == ((rd_T29 x1 x5).f3.f0)) || (!(((rd_T29 x0 x5).f3.f1) == ((rd_T29 x1 x5).f3.f1)))) || ((!(((rd_T29 x0 x5).f4.f0) == ((rd_T29 x1 x5).f4.f0)) || (!(((rd_T29 x0 x5).f4.f1) == ((rd_T29 x1 x5).f4.f1)))) || (!(((rd_T29 x0 x5).f5) == ((rd_T29 x1 x5).f5)) || (!(((rd_T29 x0 x5).f6) == ((rd_T29 x1 x5).f6))))))))) = true then (some false) else (laws_sameCreds.l0 k x0 x1 (wrap64 (x5 + 1)))) else (none)) else (none)) else (some true)
def laws_sameCreds.f (k : Nat) (l0 : List (S29)) (l1 : List (S29)) : Option (Bool) := if (l0.length : Int) = (l1.length : Int) then (laws_sameCreds.l0 k l0 l1 0) else (some false)
theorem laws_sameCreds.mono_l : ∀ k, (∀ y0 y1 y2, LeO (laws_sameCreds.l0 k y0 y1 y2) (laws_sameCreds.l0 (k + 1) y0 y1 y2))
 | 0 => fun _ _ _ r h => by simp [laws_sameCreds.l0] at h
 | k + 1 => by
  have ih0 := laws_sameCreds.mono_l k
  ·intro y0 y1 y2
   unfold laws_sameCreds.l0
   repeat' first
   | (with_reducible exact ih0 _ _ _)
   | (with_reducible exact LeO.refl _)
   | (with_reducible exact LeO.none _)
   | (with_reducible refine LeO.ite ?_ ?_)
   | (with_reducible refine LeO.bind ?_ (fun _ => ?_))
   | exact ih0 _ _ _
   | exact LeO.none _
   | refine LeO.ite ?_ ?_
   | refine LeO.bind ?_ (fun _ => ?_)
theorem laws_sameCreds.mono : ∀ a0 a1 k, LeO (laws_sameCreds.f k a0 a1) (laws_sameCreds.f (k + 1) a0 a1) := by
 intro a0 a1 k
 have ih0 := laws_sameCreds.mono_l k
 unfold laws_sameCreds.f
 repeat' first
   | (with_reducible exact ih0 _ _ _)
   | (with_reducible exact LeO.refl _)
   | (with_reducible exact LeO.none _)
   | (with_reducible refine LeO.ite ?_ ?_)
   | (with_reducible refine LeO.bind ?_ (fun _ => ?_))
   | exact ih0 _ _ _
   | exact LeO.none _
   | refine LeO.ite ?_ ?_
   | refine LeO.bind ?_ (fun _ => ?_)
set_option maxHeartbeats 8000000 in
set_option maxRecDepth 100000 in
theorem laws_sameCreds.calls (k : Nat) (A0 : Option Addr) (c0 : Nat) (l0 : List (S29)) (A1 : Option Addr) (c1 : Nat) (l1 : List (S29)) (r : Bool) (w : World) (hr0 : Kd.C k29 w A0 l0.length l0) (hc0 : l0.length ≤ c0) (hr1 : Kd.C k29 w A1 l1.length l1) (hc1 : l1.length ≤ c1) (h : laws_sameCreds.f k l0 l1 = some r) :
  Calls Try.prog 42 #[.slice A0 l0.length c0, .slice A1 l1.length c1] w fun e w' => e = .returned (.bool r) ∧ Drawn0 w w' := by
 have hu29 := Try.underlying29
 have HR0 := Aside0.mk hr0
 have HC0 := Aside0.mk hc0
 clear hr0 hc0
 have HR1 := Aside0.mk hr1
 have HC1 := Aside0.mk hc1
 clear hr1 hc1
 have H : (if (l0.length : Int) = (l1.length : Int) then (laws_sameCreds.l0 k l0 l1 0) else (some false)) = some r := h
 clear h
 by_cases c3 : (l0.length : Int) = (l1.length : Int)
 ·rw [if_pos c3] at H
  have c3b0 : ((l0.length : Int) == (l1.length : Int)) = true := beq_iff_eq.mpr c3
  have c3b1 : ((l0.length : Int) != (l1.length : Int)) = false := bne_eq_false_iff_eq.mpr c3
  have c3b2 : (l0.length == l1.length) = true := by first | simpa using c3 | (simp at c3 ⊢; omega)
  clear c3
  have H' := Aside0.mk H
  clear H
  go_enter Try.func42, Try.ntmps42
  go_wp2
  repeat (go_quiet (fail); try go_wp2)
  go_loopg [5] k (fun kq v5 w' => ∃ (x5_1 : Int), v5 = .int .i64 x5_1 ∧ Aside0 (laws_sameCreds.l0 kq l0 l1 x5_1 = some r) ∧ Aside0 (kq ≤ k) ∧ Drawn0 w w')
  case atStart => exact ⟨(0), (by first | rfl | (simp; done) | (simp [*]; done)), H', ⟨Nat.le_refl _⟩, by repeat (first | exact Drawn0.refl _ | apply Drawn0.step)⟩
  case round =>
   clear H'
   try clear c1
   try clear p2
   try clear c3
   try clear c3b0
   try clear c3b1
   try clear c3b2
   obtain ⟨x5_1, rfl, HA, HK1, ⟨m1, rfl⟩⟩ := hrel
   cases gk with
   | zero => exact absurd HA.out (by simp [laws_sameCreds.l0])
   | succ k1 =>
    have H := HA.out
    clear HA
    simp only [laws_sameCreds.l0] at H
    by_cases c4 : x5_1 < (l0.length : Int)
    ·rw [if_pos c4] at H
     have c4b0 : decide (x5_1 < (l0.length : Int)) = true := decide_eq_true c4
     clear c4
     by_cases c5 : 0 ≤ x5_1
     ·rw [if_pos c5] at H
      have c5b0 : decide (0 ≤ x5_1) = true := decide_eq_true c5
      clear c5
      by_cases c6 : x5_1 < (l1.length : Int)
      ·rw [if_pos c6] at H
       have c6b0 : decide (x5_1 < (l1.length : Int)) = true := decide_eq_true c6
       clear c6
       by_cases c7 : (!(((rd_T29 l0 x5_1).f0) == ((rd_T29 l1 x5_1).f0)) || ((!(((rd_T29 l0 x5_1).f1.f0) == ((rd_T29 l1 x5_1).f1.f0)) || (!(((rd_T29 l0 x5_1).f1.f1) == ((rd_T29 l1 x5_1).f1.f1)))) || (!(((rd_T29 l0 x5_1).f2) == ((rd_T29 l1 x5_1).f2)) || ((!(((rd_T29 l0 x5_1).f3.f0) == ((rd_T29 l1 x5_1).f3.f0)) || (!(((rd_T29 l0 x5_1).f3.f1) == ((rd_T29 l1 x5_1).f3.f1)))) || ((!(((rd_T29 l0 x5_1).f4.f0) == ((rd_T29 l1 x5_1).f4.f0)) || (!(((rd_T29 l0 x5_1).f4.f1) == ((rd_T29 l1 x5_1).f4.f1)))) || (!(((rd_T29 l0 x5_1).f5) == ((rd_T29 l1 x5_1).f5)) || (!(((rd_T29 l0 x5_1).f6) == ((rd_T29 l1 x5_1).f6))))))))) = true
       ·rw [if_pos c7] at H
        have c7b0 : (!(((rd_T29 l0 x5_1).f0) == ((rd_T29 l1 x5_1).f0)) || ((!(((rd_T29 l0 x5_1).f1.f0) == ((rd_T29 l1 x5_1).f1.f0)) || (!(((rd_T29 l0 x5_1).f1.f1) == ((rd_T29 l1 x5_1).f1.f1)))) || (!(((rd_T29 l0 x5_1).f2) == ((rd_T29 l1 x5_1).f2)) || ((!(((rd_T29 l0 x5_1).f3.f0) == ((rd_T29 l1 x5_1).f3.f0)) || (!(((rd_T29 l0 x5_1).f3.f1) == ((rd_T29 l1 x5_1).f3.f1)))) || ((!(((rd_T29 l0 x5_1).f4.f0) == ((rd_T29 l1 x5_1).f4.f0)) || (!(((rd_T29 l0 x5_1).f4.f1) == ((rd_T29 l1 x5_1).f4.f1)))) || (!(((rd_T29 l0 x5_1).f5) == ((rd_T29 l1 x5_1).f5)) || (!(((rd_T29 l0 x5_1).f6) == ((rd_T29 l1 x5_1).f6))))))))) = true := c7
        clear c7
        obtain rfl := Option.some.inj H
        have p545 : 0 ≤ (x5_1 : Int) := sqD
        have q545 : x5_1 < (l0.length : Int) := sqD
        obtain ⟨ad545, e545, hx545_0, hx545_1, hx545_2, hx545_3, hx545_4, hx545_5, hx545_6, hx545_7, hx545_8, hx545_9⟩ := at_T29 HR0.out x5_1 p545 q545
        cases e545
        replace p545 := eq_true p545
        replace q545 := eq_true q545
        have p546 : 0 ≤ (x5_1 : Int) := sqD
        have q546 : x5_1 < (l1.length : Int) := sqD
        obtain ⟨ad546, e546, hx546_0, hx546_1, hx546_2, hx546_3, hx546_4, hx546_5, hx546_6, hx546_7, hx546_8, hx546_9⟩ := at_T29 HR1.out x5_1 p546 q546
        cases e546
        replace p546 := eq_true p546
        replace q546 := eq_true q546
        go_wp2
        repeat (go_quiet (fail); try go_wp2)
        go_ret
        exact ⟨by first | rfl | (simp; done) | (simp [*]; done), by repeat (first | exact Drawn0.refl _ | apply Drawn0.step)⟩
       ·rw [if_neg c7] at H
        have c7b0 : (!(((rd_T29 l0 x5_1).f0) == ((rd_T29 l1 x5_1).f0)) || ((!(((rd_T29 l0 x5_1).f1.f0) == ((rd_T29 l1 x5_1).f1.f0)) || (!(((rd_T29 l0 x5_1).f1.f1) == ((rd_T29 l1 x5_1).f1.f1)))) || (!(((rd_T29 l0 x5_1).f2) == ((rd_T29 l1 x5_1).f2)) || ((!(((rd_T29 l0 x5_1).f3.f0) == ((rd_T29 l1 x5_1).f3.f0)) || (!(((rd_T29 l0 x5_1).f3.f1) == ((rd_T29 l1 x5_1).f3.f1)))) || ((!(((rd_T29 l0 x5_1).f4.f0) == ((rd_T29 l1 x5_1).f4.f0)) || (!(((rd_T29 l0 x5_1).f4.f1) == ((rd_T29 l1 x5_1).f4.f1)))) || (!(((rd_T29 l0 x5_1).f5) == ((rd_T29 l1 x5_1).f5)) || (!(((rd_T29 l0 x5_1).f6) == ((rd_T29 l1 x5_1).f6))))))))) = false := by simpa using c7
        clear c7
        have H' := Aside0.mk H
        clear H
        have p545 : 0 ≤ (x5_1 : Int) := sqD
        have q545 : x5_1 < (l0.length : Int) := sqD
        obtain ⟨ad545, e545, hx545_0, hx545_1, hx545_2, hx545_3, hx545_4, hx545_5, hx545_6, hx545_7, hx545_8, hx545_9⟩ := at_T29 HR0.out x5_1 p545 q545
        cases e545
        replace p545 := eq_true p545
        replace q545 := eq_true q545
        have p546 : 0 ≤ (x5_1 : Int) := sqD
        have q546 : x5_1 < (l1.length : Int) := sqD
        obtain ⟨ad546, e546, hx546_0, hx546_1, hx546_2, hx546_3, hx546_4, hx546_5, hx546_6, hx546_7, hx546_8, hx546_9⟩ := at_T29 HR1.out x5_1 p546 q546
        cases e546
        replace p546 := eq_true p546
        replace q546 := eq_true q546
        go_wp2
        repeat (go_quiet (fail); try go_wp2)
        go_roundg k1
        case measure => have := HK1.out; omega
        case rel => exact ⟨(wrap64 (x5_1 + 1)), (by first | rfl | (simp; done) | (simp [*]; done)), H', ⟨by have := HK1.out; omega⟩, by repeat (first | exact Drawn0.refl _ | apply Drawn0.step)⟩
      ·rw [if_neg c6] at H
       exact absurd H (by simp)
     ·rw [if_neg c5] at H
      exact absurd H (by simp)
    ·rw [if_neg c4] at H
     have c4b0 : decide (x5_1 < (l0.length : Int)) = false := decide_eq_false c4
     clear c4
     obtain rfl := Option.some.inj H
     go_wp2
     repeat (go_quiet (fail); try go_wp2)
     go_ret
     exact ⟨by first | rfl | (simp; done) | (simp [*]; done), by repeat (first | exact Drawn0.refl _ | apply Drawn0.step)⟩
 ·rw [if_neg c3] at H
  have c3b0 : ((l0.length : Int) == (l1.length : Int)) = false := beq_eq_false_iff_ne.mpr c3
  have c3b1 : ((l0.length : Int) != (l1.length : Int)) = true := bne_iff_ne.mpr c3
  have c3b2 : (l0.length == l1.length) = false := by first | simpa using c3 | (simp at c3 ⊢; omega)
  obtain rfl := Option.some.inj H
  go_enter Try.func42, Try.ntmps42
  go_wp2
  repeat (go_quiet (fail); try go_wp2)
  go_ret
  exact ⟨by first | rfl | (simp; done) | (simp [*]; done), by repeat (first | exact Drawn0.refl _ | apply Drawn0.step)⟩

/-! ### impl_Alive: function 43 -/
def impl_Alive.l0 : Nat → Int → List (S29) → List (S29) → Int → Int → Option ((List (S29)))
 | 0, _, _, _, _, _ => none
 | k + 1, x1, x5, x9, x10, x11 => if x11 < x10 then (if 0 ≤ x11 then (if x11 < (x9.length : Int) then ((impl_CredOk.f k ((rd_T29 x9 x11).f0) ((rd_T29 x9 x11).f1.f0) ((rd_T29 x9 x11).f1.f1) ((rd_T29 x9 x11).f2) ((rd_T29 x9 x11).f3.f0) ((rd_T29 x9 x11).f3.f1) ((rd_T29 x9 x11).f4.f0) ((rd_T29 x9 x11).f4.f1) ((rd_T29 x9 x11).f5) ((rd_T29 x9 x11).f6)).bind fun t552 => (if t552 = true then (if ((rd_T29 x9 x11).f5) ≥ x1 then (if x5.length < 1759218604441 then (impl_Alive.l0 k x1 (x5 ++ [(⟨(rd_T29 x9 x11).f0, (⟨(rd_T29 x9 x11).f1.f0, (rd_T29 x9 x11).f1.f1⟩ : S27), (rd_T29 x9 x11).f2, (⟨(rd_T29 x9 x11).f3.f0, (rd_T29 x9 x11).f3.f1⟩ : S27), (⟨(rd_T29 x9 x11).f4.f0, (rd_T29 x9 x11).f4.f1⟩ : S27), (rd_T29 x9 x11).f5, (rd_T29 x9 x11).f6⟩ : S29)]) x9 x10 (wrap64 (x11 + 1))) else (none)) else (impl_Alive.l0 k x1 x5 x9 x10 (wrap64 (x11 + 1)))) else (impl_Alive.l0 k x1 x5 x9 x10 (wrap64 (x11 + 1))))) else (none)) else (none)) else (some x5)
def impl_Alive.f (k : Nat) (l0 : List (S29)) (a1 : Int) : Option ((List (S29))) := impl_Alive.l0 k a1 (([] : List (S29))) l0 (l0.length : Int) 0
theorem impl_Alive.mono_l : ∀ k, (∀ y0 y1 y2 y3 y4, LeO (impl_Alive.l0 k y0 y1 y2 y3 y4) (impl_Alive.l0 (k + 1) y0 y1 y2 y3 y4))
 | 0 => fun _ _ _ _ _ r h => by simp [impl_Alive.l0] at h
 | k + 1 => by
  have ih0 := impl_Alive.mono_l k
  ·intro y0 y1 y2 y3 y4
   unfold impl_Alive.l0
   repeat' first
   | (with_reducible exact ih0 _ _ _ _ _)
   | (with_reducible exact impl_CredOk.mono _ _ _ _ _ _ _ _ _ _ _)
   | (with_reducible exact LeO.refl _)
   | (with_reducible exact LeO.none _)
   | (with_reducible refine LeO.ite ?_ ?_)
   | (with_reducible refine LeO.bind ?_ (fun _ => ?_))
   | exact ih0 _ _ _ _ _
   | exact impl_CredOk.mono _ _ _ _ _ _ _ _ _ _ _
   | exact LeO.none _
   | refine LeO.ite ?_ ?_
   | refine LeO.bind ?_ (fun _ => ?_)
theorem impl_Alive.mono : ∀ a0 a1 k, LeO (impl_Alive.f k a0 a1) (impl_Alive.f (k + 1) a0 a1) := by
 intro a0 a1 k
 have ih0 := impl_Alive.mono_l k
 unfold impl_Alive.f
 repeat' first
   | (with_reducible exact ih0 _ _ _ _ _)
   | (with_reducible exact impl_CredOk.mono _ _ _ _ _ _ _ _ _ _ _)
   | (with_reducible exact LeO.refl _)
   | (with_reducible exact LeO.none _)
   | (with_reducible refine LeO.ite ?_ ?_)
   | (with_reducible refine LeO.bind ?_ (fun _ => ?_))
   | exact ih0 _ _ _ _ _
   | exact impl_CredOk.mono _ _ _ _ _ _ _ _ _ _ _
   | exact LeO.none _
   | refine LeO.ite ?_ ?_
   | refine LeO.bind ?_ (fun _ => ?_)
set_option maxHeartbeats 8000000 in
set_option maxRecDepth 100000 in
theorem impl_Alive.calls (k : Nat) (A0 : Option Addr) (c0 : Nat) (l0 : List (S29)) (a1 : Int) (r : List (S29)) (w : World) (hr0 : Kd.C k29 w A0 l0.length l0) (hc0 : l0.length ≤ c0) (h : impl_Alive.f k l0 a1 = some r) :
  Calls Try.prog 43 #[.slice A0 l0.length c0, .int .i64 a1] w fun e w' => ∃ v0_ : Value, e = .returned (v0_) ∧ Kd.R k29 29 w' w.heap.size (fun _ => True) v0_ r ∧ Below w.heap.size w w' := by
 have hu29 := Try.underlying29
 have HR0 := Aside0.mk hr0
 have HC0 := Aside0.mk hc0
 clear hr0 hc0
 have HB := Aside0.mk (Below.refl w.heap.size w)
 have H : (impl_Alive.l0 k a1 (([] : List (S29))) l0 (l0.length : Int) 0) = some r := h
 clear h
 obtain ⟨y547, hy547⟩ : ∃ y_ : List (S29), y_ = (([] : List (S29))) := ⟨_, rfl⟩
 replace H : (impl_Alive.l0 k a1 y547 l0 (l0.length : Int) 0) = some r := by first | (rw [hy547]; with_reducible exact H) | (have H2_ := (Option.bind_some _ _).symm.trans H; rw [hy547]; with_reducible exact H2_) | (have H2_ := (Option.bind_some _ _).symm.trans H; with_reducible exact H2_) | with_reducible exact H | (rw [hy547]; exact H) | exact H
 have Ny547 := Aside0.mk hy547
 clear hy547
 have H' := Aside0.mk H
 clear H
 go_enter Try.func43, Try.ntmps43
 go_wp2_with (first | ((with_reducible refine gate_dst (N := 8) rfl ?_); refine Kd.R_lit k29 _ 29 ?hg (N := 8) ?hd (xs := ([] : List (S29))) (inner := []) (ok := fun _ => True) (okp := fun _ => True) ?hr ?hp (fun _ hk => hk) trivial (Below.refl _ _) (Nat.le_refl _) (by simp) ?_; (case hd => rfl); (case hg => rfl); (case hr => first | (go_simp; done) | (go_simp; rfl)); (case hp => exact (Reps.none _ _)); intro v548 w3 ho4 hb hg_ hnew_; clear hg_ hnew_; (first | rw [← Ny547.out] at ho4 | (simp only [Int.reduceToNat] at ho4; rw [← Ny547.out] at ho4)); have HO549 := Aside0.mk (Kd.R_lower ho4 (below_size (sqB))); replace HB := sqS hb; clear hb ho4))
 go_loopg [5, 11] k (fun kq v5 v11 w' => ∃ (x5_1 : List (S29)) (x11_1 : Int), v11 = .int .i64 x11_1 ∧ Aside0 (impl_Alive.l0 kq a1 x5_1 l0 (l0.length : Int) x11_1 = some r) ∧ Aside0 (kq ≤ k) ∧ Aside0 (Kd.R k29 29 w' w.heap.size (fun _ => True) v5 x5_1) ∧ Aside0 (Below w.heap.size w w'))
 case atStart => exact ⟨(y547), (0), (by first | rfl | (simp; done) | (simp [*]; done)), H', ⟨Nat.le_refl _⟩, ⟨sqR HO549⟩, ⟨sqB⟩⟩
 case round =>
  clear H'
  try clear p2
  try clear c4
  obtain ⟨x5_1, x11_1, rfl, HA, HK1, HO_5, HB⟩ := hrel
  cases gk with
  | zero => exact absurd HA.out (by simp [impl_Alive.l0])
  | succ k1 =>
   have H := HA.out
   clear HA
   simp only [impl_Alive.l0] at H
   by_cases c5 : x11_1 < (l0.length : Int)
   ·rw [if_pos c5] at H
    have c5b0 : decide (x11_1 < (l0.length : Int)) = true := decide_eq_true c5
    clear c5
    by_cases c6 : 0 ≤ x11_1
    ·rw [if_pos c6] at H
     have c6b0 : decide (0 ≤ x11_1) = true := decide_eq_true c6
     clear c6
     by_cases c7 : x11_1 < (l0.length : Int)
     ·rw [if_pos c7] at H
      have c7b0 : decide (x11_1 < (l0.length : Int)) = true := decide_eq_true c7
      clear c7
      replace H := Option.bind_eq_some_iff.mp H
      obtain ⟨t552, A80, H⟩ := H
      try dsimp only at H
      have A8 := Aside0.mk A80
      clear A80
      by_cases c9 : t552 = true
      ·subst c9
       rw [if_pos rfl] at H
       by_cases c10 : ((rd_T29 l0 x11_1).f5) ≥ a1
       ·rw [if_pos c10] at H
        have c10b0 : decide (a1 ≤ ((rd_T29 l0 x11_1).f5)) = true := decide_eq_true c10
        clear c10
        by_cases c11 : x5_1.length < 1759218604441
        ·rw [if_pos c11] at H
         have LMc11 := Aside0.mk c11
         clear c11
         obtain ⟨y553, hy553⟩ : ∃ y_ : List (S29), y_ = (x5_1 ++ [(⟨(rd_T29 l0 x11_1).f0, (⟨(rd_T29 l0 x11_1).f1.f0, (rd_T29 l0 x11_1).f1.f1⟩ : S27), (rd_T29 l0 x11_1).f2, (⟨(rd_T29 l0 x11_1).f3.f0, (rd_T29 l0 x11_1).f3.f1⟩ : S27), (⟨(rd_T29 l0 x11_1).f4.f0, (rd_T29 l0 x11_1).f4.f1⟩ : S27), (rd_T29 l0 x11_1).f5, (rd_T29 l0 x11_1).f6⟩ : S29)]) := ⟨_, rfl⟩
         replace H : (impl_Alive.l0 k1 a1 y553 l0 (l0.length : Int) (wrap64 (x11_1 + 1))) = some r := by first | (rw [hy553]; with_reducible exact H) | (have H2_ := (Option.bind_some _ _).symm.trans H; rw [hy553]; with_reducible exact H2_) | (have H2_ := (Option.bind_some _ _).symm.trans H; with_reducible exact H2_) | with_reducible exact H | (rw [hy553]; exact H) | exact H
         have Ny553 := Aside0.mk hy553
         clear hy553
         have H' := Aside0.mk H
         clear H
         have p550 : 0 ≤ (x11_1 : Int) := sqD
         have q550 : x11_1 < (l0.length : Int) := sqD
         obtain ⟨ad550, e550, hx550_0, hx550_1, hx550_2, hx550_3, hx550_4, hx550_5, hx550_6, hx550_7, hx550_8, hx550_9⟩ := at_T29 HR0.out x11_1 p550 q550
         cases e550
         replace hx550_0 := sqH HB hx550_0
         replace hx550_1 := sqH HB hx550_1
         replace hx550_2 := sqH HB hx550_2
         replace hx550_3 := sqH HB hx550_3
         replace hx550_4 := sqH HB hx550_4
         replace hx550_5 := sqH HB hx550_5
         replace hx550_6 := sqH HB hx550_6
         replace hx550_7 := sqH HB hx550_7
         replace hx550_8 := sqH HB hx550_8
         replace hx550_9 := sqH HB hx550_9
         replace p550 := eq_true p550
         replace q550 := eq_true q550
         go_wp2_with (first | ((with_reducible refine gate_dst (N := 7) rfl ?_); refine sqX (N := 7) (cs := #[.int .i64 0, .int .i64 0, .int .i64 0, .int .i64 0, .int .i64 0, .int .i64 0, .int .i64 0, .int .i64 0, .int .i64 0, .int .i64 0]) (t := 29) ?_; intro gb551 hg w12 hbox hb; replace HO_5 := Aside0.mk (Kd.R_below (Kd.R_elderB (sqR HO_5) gb551 (Nat.le_of_eq hg.symm)) hb); have BK551 := Aside0.mk (hbox); have GW551 := sqG hg; have GE551 := sqG hg; replace HB := sqS hb; clear hb hbox hg; obtain ⟨hcz13_0, hcz13_1, hcz13_2, hcz13_3, hcz13_4, hcz13_5, hcz13_6, hcz13_7, hcz13_8, hcz13_9, hfz13_0, hfz13_1, hfz13_2, hfz13_3, hfz13_4, hfz13_5, hfz13_6, hfz13_7, hfz13_8, hfz13_9⟩ := sqC10 BK551) | ((with_reducible refine gate_callee (f := 50) rfl ?_); refine goesL_ (some 16) rfl rfl Try.func50 (by kernel_rfl) rfl #[.agg #[.int .i64 ((rd_T29 l0 x11_1).f0), .int .i64 ((rd_T29 l0 x11_1).f1.f0), .int .i64 ((rd_T29 l0 x11_1).f1.f1), .int .i64 ((rd_T29 l0 x11_1).f2), .int .i64 ((rd_T29 l0 x11_1).f3.f0), .int .i64 ((rd_T29 l0 x11_1).f3.f1), .int .i64 ((rd_T29 l0 x11_1).f4.f0), .int .i64 ((rd_T29 l0 x11_1).f4.f1), .int .i64 ((rd_T29 l0 x11_1).f5), .int .i64 ((rd_T29 l0 x11_1).f6)]] rfl sqA ?_; (with_reducible refine (impl_CredOk.calls k1 ((rd_T29 l0 x11_1).f0) ((rd_T29 l0 x11_1).f1.f0) ((rd_T29 l0 x11_1).f1.f1) ((rd_T29 l0 x11_1).f2) ((rd_T29 l0 x11_1).f3.f0) ((rd_T29 l0 x11_1).f3.f1) ((rd_T29 l0 x11_1).f4.f0) ((rd_T29 l0 x11_1).f4.f1) ((rd_T29 l0 x11_1).f5) ((rd_T29 l0 x11_1).f6) true _ A8.out).mono ?_); rintro e w14 ⟨rfl, hb⟩; refine ⟨_, rfl, ?_⟩; replace HO_5 := Aside0.mk (Kd.R_below (by (with_reducible repeat (first | apply Kd.R_alloc | apply Kd.R_drewN | apply Kd.R_drew)); exact (Kd.R_mono (Kd.R_far (p := ⟨gb551, 9, none⟩) (Kd.R_far (p := ⟨gb551, 8, none⟩) (Kd.R_far (p := ⟨gb551, 7, none⟩) (Kd.R_far (p := ⟨gb551, 6, none⟩) (Kd.R_far (p := ⟨gb551, 5, none⟩) (Kd.R_far (p := ⟨gb551, 4, none⟩) (Kd.R_far (p := ⟨gb551, 3, none⟩) (Kd.R_far (p := ⟨gb551, 2, none⟩) (Kd.R_far (p := ⟨gb551, 1, none⟩) (Kd.R_far (p := ⟨gb551, 0, none⟩) (Kd.R_mono HO_5.out (fun k_ hk => (⟨hk, hk.2⟩ : _ ∧ k_ ≠ gb551))) (fun _ hk => hk.2) (.int .i64 ((rd_T29 l0 x11_1).f0))) (fun _ hk => hk.2) (.int .i64 ((rd_T29 l0 x11_1).f1.f0))) (fun _ hk => hk.2) (.int .i64 ((rd_T29 l0 x11_1).f1.f1))) (fun _ hk => hk.2) (.int .i64 ((rd_T29 l0 x11_1).f2))) (fun _ hk => hk.2) (.int .i64 ((rd_T29 l0 x11_1).f3.f0))) (fun _ hk => hk.2) (.int .i64 ((rd_T29 l0 x11_1).f3.f1))) (fun _ hk => hk.2) (.int .i64 ((rd_T29 l0 x11_1).f4.f0))) (fun _ hk => hk.2) (.int .i64 ((rd_T29 l0 x11_1).f4.f1))) (fun _ hk => hk.2) (.int .i64 ((rd_T29 l0 x11_1).f5))) (fun _ hk => hk.2) (.int .i64 ((rd_T29 l0 x11_1).f6))) (fun _ h_ => h_.1))) hb); replace BK551 := sqLW (o' := .cells #[.int .i64 ((rd_T29 l0 x11_1).f0), .int .i64 ((rd_T29 l0 x11_1).f1.f0), .int .i64 ((rd_T29 l0 x11_1).f1.f1), .int .i64 ((rd_T29 l0 x11_1).f2), .int .i64 ((rd_T29 l0 x11_1).f3.f0), .int .i64 ((rd_T29 l0 x11_1).f3.f1), .int .i64 ((rd_T29 l0 x11_1).f4.f0), .int .i64 ((rd_T29 l0 x11_1).f4.f1), .int .i64 ((rd_T29 l0 x11_1).f5), .int .i64 ((rd_T29 l0 x11_1).f6)] 29 (0, 0)) BK551 hb; replace HB := sqS hb; (try clear hb); (try clear hb2); (try clear hk); (try clear hi); obtain ⟨hcz15_0, hcz15_1, hcz15_2, hcz15_3, hcz15_4, hcz15_5, hcz15_6, hcz15_7, hcz15_8, hcz15_9, hfz15_0, hfz15_1, hfz15_2, hfz15_3, hfz15_4, hfz15_5, hfz15_6, hfz15_7, hfz15_8, hfz15_9⟩ := sqC10 BK551) | ((with_reducible refine gate_builtin (b := .append) (xs := #[.tmp 23, .tmp 25]) rfl ?_); at_builtin; refine Kd.R_append k29 (w0 := w) w.heap.size rfl (.tmp 23) (.tmp 25) 24 29 (.agg #[(.int .i64 0), (.int .i64 0), (.int .i64 0), (.int .i64 0), (.int .i64 0), (.int .i64 0), (.int .i64 0), (.int .i64 0), (.int .i64 0), (.int .i64 0)]) 80 rfl Try.underlying24 info29 rfl (by decide) (by omega) u5 x5_1 (⟨(rd_T29 l0 x11_1).f0, (⟨(rd_T29 l0 x11_1).f1.f0, (rd_T29 l0 x11_1).f1.f1⟩ : S27), (rd_T29 l0 x11_1).f2, (⟨(rd_T29 l0 x11_1).f3.f0, (rd_T29 l0 x11_1).f3.f1⟩ : S27), (⟨(rd_T29 l0 x11_1).f4.f0, (rd_T29 l0 x11_1).f4.f1⟩ : S27), (rd_T29 l0 x11_1).f5, (rd_T29 l0 x11_1).f6⟩ : S29) [.int .i64 ((rd_T29 l0 x11_1).f0), .int .i64 ((rd_T29 l0 x11_1).f1.f0), .int .i64 ((rd_T29 l0 x11_1).f1.f1), .int .i64 ((rd_T29 l0 x11_1).f2), .int .i64 ((rd_T29 l0 x11_1).f3.f0), .int .i64 ((rd_T29 l0 x11_1).f3.f1), .int .i64 ((rd_T29 l0 x11_1).f4.f0), .int .i64 ((rd_T29 l0 x11_1).f4.f1), .int .i64 ((rd_T29 l0 x11_1).f5), .int .i64 ((rd_T29 l0 x11_1).f6)] (fun k_ => k_ ≠ gb551) (fun _ => False) rfl rfl ?aP (fun _ hk => hk.elim) ?aF ?aO ?aB ?aS ?aL ?_; (case aP => exact k29_mkM _ _ _ (⟨(rd_T29 l0 x11_1).f0, (⟨(rd_T29 l0 x11_1).f1.f0, (rd_T29 l0 x11_1).f1.f1⟩ : S27), (rd_T29 l0 x11_1).f2, (⟨(rd_T29 l0 x11_1).f3.f0, (rd_T29 l0 x11_1).f3.f1⟩ : S27), (⟨(rd_T29 l0 x11_1).f4.f0, (rd_T29 l0 x11_1).f4.f1⟩ : S27), (rd_T29 l0 x11_1).f5, (rd_T29 l0 x11_1).f6⟩ : S29)); (case aB => exact (sqB)); (case aF => exact (fun k_ hk => Kd.freshB (g := gb551) (o := .cells #[.int .i64 ((rd_T29 l0 x11_1).f0), .int .i64 ((rd_T29 l0 x11_1).f1.f0), .int .i64 ((rd_T29 l0 x11_1).f1.f1), .int .i64 ((rd_T29 l0 x11_1).f2), .int .i64 ((rd_T29 l0 x11_1).f3.f0), .int .i64 ((rd_T29 l0 x11_1).f3.f1), .int .i64 ((rd_T29 l0 x11_1).f4.f0), .int .i64 ((rd_T29 l0 x11_1).f4.f1), .int .i64 ((rd_T29 l0 x11_1).f5), .int .i64 ((rd_T29 l0 x11_1).f6)] 29 (0, 0)) (sqK BK551) k_ hk)); (case aO => exact (by (with_reducible repeat (first | apply Kd.R_alloc | apply Kd.R_drewN | apply Kd.R_drew)); exact Kd.R_mono HO_5.out (fun _ hk => hk.2))); (case aS => exact (below_size (sqB))); (case aL => have := LMc11.out; omega); intro v554 w16 ho hb hg hat; rw [← Ny553.out] at ho; have n0_ := Aside0.mk (blk_grown (g := gb551) (o := .cells #[.int .i64 ((rd_T29 l0 x11_1).f0), .int .i64 ((rd_T29 l0 x11_1).f1.f0), .int .i64 ((rd_T29 l0 x11_1).f1.f1), .int .i64 ((rd_T29 l0 x11_1).f2), .int .i64 ((rd_T29 l0 x11_1).f3.f0), .int .i64 ((rd_T29 l0 x11_1).f3.f1), .int .i64 ((rd_T29 l0 x11_1).f4.f0), .int .i64 ((rd_T29 l0 x11_1).f4.f1), .int .i64 ((rd_T29 l0 x11_1).f5), .int .i64 ((rd_T29 l0 x11_1).f6)] 29 (0, 0)) (sqK BK551) hg (Kd.R_away HO_5.out (fun _ hk => hk.2))); have n1_ := Aside0.mk (hb); have n2_ := Aside0.mk (ho); clear BK551; clear HB; clear HO_5; have BK551 := n0_; have HB := n1_; have HO555 := n2_; clear n0_ n1_ n2_; clear ho hb hg hat))
         go_roundg k1
         case measure => have := HK1.out; omega
         case rel => exact ⟨(y553), (wrap64 (x11_1 + 1)), (by first | rfl | (simp; done) | (simp [*]; done)), H', ⟨by have := HK1.out; omega⟩, ⟨by (with_reducible repeat (first | apply Kd.R_alloc | apply Kd.R_drewN | apply Kd.R_drew)); exact Kd.R_mono HO555.out (fun _ hk => trivial)⟩, ⟨sqB⟩⟩
        ·rw [if_neg c11] at H
         exact absurd H (by simp)
       ·rw [if_neg c10] at H
        have c10b0 : decide (a1 ≤ ((rd_T29 l0 x11_1).f5)) = false := decide_eq_false c10
        clear c10
        have H' := Aside0.mk H
        clear H
        have p550 : 0 ≤ (x11_1 : Int) := sqD
        have q550 : x11_1 < (l0.length : Int) := sqD
        obtain ⟨ad550, e550, hx550_0, hx550_1, hx550_2, hx550_3, hx550_4, hx550_5, hx550_6, hx550_7, hx550_8, hx550_9⟩ := at_T29 HR0.out x11_1 p550 q550
        cases e550
        replace hx550_0 := sqH HB hx550_0
        replace hx550_1 := sqH HB hx550_1
        replace hx550_2 := sqH HB hx550_2
        replace hx550_3 := sqH HB hx550_3
        replace hx550_4 := sqH HB hx550_4
        replace hx550_5 := sqH HB hx550_5
        replace hx550_6 := sqH HB hx550_6
        replace hx550_7 := sqH HB hx550_7
        replace hx550_8 := sqH HB hx550_8
        replace hx550_9 := sqH HB hx550_9
        replace p550 := eq_true p550
        replace q550 := eq_true q550
        go_wp2_with (first | ((with_reducible refine gate_dst (N := 7) rfl ?_); refine sqX (N := 7) (cs := #[.int .i64 0, .int .i64 0, .int .i64 0, .int .i64 0, .int .i64 0, .int .i64 0, .int .i64 0, .int .i64 0, .int .i64 0, .int .i64 0]) (t := 29) ?_; intro gb551 hg w17 hbox hb; replace HO_5 := Aside0.mk (Kd.R_below (Kd.R_elderB (sqR HO_5) gb551 (Nat.le_of_eq hg.symm)) hb); have BK551 := Aside0.mk (hbox); have GW551 := sqG hg; have GE551 := sqG hg; replace HB := sqS hb; clear hb hbox hg; obtain ⟨hcz18_0, hcz18_1, hcz18_2, hcz18_3, hcz18_4, hcz18_5, hcz18_6, hcz18_7, hcz18_8, hcz18_9, hfz18_0, hfz18_1, hfz18_2, hfz18_3, hfz18_4, hfz18_5, hfz18_6, hfz18_7, hfz18_8, hfz18_9⟩ := sqC10 BK551) | ((with_reducible refine gate_callee (f := 50) rfl ?_); refine goesL_ (some 16) rfl rfl Try.func50 (by kernel_rfl) rfl #[.agg #[.int .i64 ((rd_T29 l0 x11_1).f0), .int .i64 ((rd_T29 l0 x11_1).f1.f0), .int .i64 ((rd_T29 l0 x11_1).f1.f1), .int .i64 ((rd_T29 l0 x11_1).f2), .int .i64 ((rd_T29 l0 x11_1).f3.f0), .int .i64 ((rd_T29 l0 x11_1).f3.f1), .int .i64 ((rd_T29 l0 x11_1).f4.f0), .int .i64 ((rd_T29 l0 x11_1).f4.f1), .int .i64 ((rd_T29 l0 x11_1).f5), .int .i64 ((rd_T29 l0 x11_1).f6)]] rfl sqA ?_; (with_reducible refine (impl_CredOk.calls k1 ((rd_T29 l0 x11_1).f0) ((rd_T29 l0 x11_1).f1.f0) ((rd_T29 l0 x11_1).f1.f1) ((rd_T29 l0 x11_1).f2) ((rd_T29 l0 x11_1).f3.f0) ((rd_T29 l0 x11_1).f3.f1) ((rd_T29 l0 x11_1).f4.f0) ((rd_T29 l0 x11_1).f4.f1) ((rd_T29 l0 x11_1).f5) ((rd_T29 l0 x11_1).f6) true _ A8.out).mono ?_); rintro e w19 ⟨rfl, hb⟩; refine ⟨_, rfl, ?_⟩; replace HO_5 := Aside0.mk (Kd.R_below (by (with_reducible repeat (first | apply Kd.R_alloc | apply Kd.R_drewN | apply Kd.R_drew)); exact (Kd.R_mono (Kd.R_far (p := ⟨gb551, 9, none⟩) (Kd.R_far (p := ⟨gb551, 8, none⟩) (Kd.R_far (p := ⟨gb551, 7, none⟩) (Kd.R_far (p := ⟨gb551, 6, none⟩) (Kd.R_far (p := ⟨gb551, 5, none⟩) (Kd.R_far (p := ⟨gb551, 4, none⟩) (Kd.R_far (p := ⟨gb551, 3, none⟩) (Kd.R_far (p := ⟨gb551, 2, none⟩) (Kd.R_far (p := ⟨gb551, 1, none⟩) (Kd.R_far (p := ⟨gb551, 0, none⟩) (Kd.R_mono HO_5.out (fun k_ hk => (⟨hk, hk.2⟩ : _ ∧ k_ ≠ gb551))) (fun _ hk => hk.2) (.int .i64 ((rd_T29 l0 x11_1).f0))) (fun _ hk => hk.2) (.int .i64 ((rd_T29 l0 x11_1).f1.f0))) (fun _ hk => hk.2) (.int .i64 ((rd_T29 l0 x11_1).f1.f1))) (fun _ hk => hk.2) (.int .i64 ((rd_T29 l0 x11_1).f2))) (fun _ hk => hk.2) (.int .i64 ((rd_T29 l0 x11_1).f3.f0))) (fun _ hk => hk.2) (.int .i64 ((rd_T29 l0 x11_1).f3.f1))) (fun _ hk => hk.2) (.int .i64 ((rd_T29 l0 x11_1).f4.f0))) (fun _ hk => hk.2) (.int .i64 ((rd_T29 l0 x11_1).f4.f1))) (fun _ hk => hk.2) (.int .i64 ((rd_T29 l0 x11_1).f5))) (fun _ hk => hk.2) (.int .i64 ((rd_T29 l0 x11_1).f6))) (fun _ h_ => h_.1))) hb); replace BK551 := sqLW (o' := .cells #[.int .i64 ((rd_T29 l0 x11_1).f0), .int .i64 ((rd_T29 l0 x11_1).f1.f0), .int .i64 ((rd_T29 l0 x11_1).f1.f1), .int .i64 ((rd_T29 l0 x11_1).f2), .int .i64 ((rd_T29 l0 x11_1).f3.f0), .int .i64 ((rd_T29 l0 x11_1).f3.f1), .int .i64 ((rd_T29 l0 x11_1).f4.f0), .int .i64 ((rd_T29 l0 x11_1).f4.f1), .int .i64 ((rd_T29 l0 x11_1).f5), .int .i64 ((rd_T29 l0 x11_1).f6)] 29 (0, 0)) BK551 hb; replace HB := sqS hb; (try clear hb); (try clear hb2); (try clear hk); (try clear hi); obtain ⟨hcz20_0, hcz20_1, hcz20_2, hcz20_3, hcz20_4, hcz20_5, hcz20_6, hcz20_7, hcz20_8, hcz20_9, hfz20_0, hfz20_1, hfz20_2, hfz20_3, hfz20_4, hfz20_5, hfz20_6, hfz20_7, hfz20_8, hfz20_9⟩ := sqC10 BK551))
        go_roundg k1
        case measure => have := HK1.out; omega
        case rel => exact ⟨(x5_1), (wrap64 (x11_1 + 1)), (by first | rfl | (simp; done) | (simp [*]; done)), H', ⟨by have := HK1.out; omega⟩, ⟨by (with_reducible repeat (first | apply Kd.R_alloc | apply Kd.R_drewN | apply Kd.R_drew)); exact Kd.R_mono HO_5.out (fun _ hk => trivial)⟩, ⟨sqB⟩⟩
      ·replace c9 := Bool.eq_false_iff.mpr c9
       subst c9
       rw [if_neg (show ¬ (false = true) by decide)] at H
       have H' := Aside0.mk H
       clear H
       have p550 : 0 ≤ (x11_1 : Int) := sqD
       have q550 : x11_1 < (l0.length : Int) := sqD
       obtain ⟨ad550, e550, hx550_0, hx550_1, hx550_2, hx550_3, hx550_4, hx550_5, hx550_6, hx550_7, hx550_8, hx550_9⟩ := at_T29 HR0.out x11_1 p550 q550
       cases e550
       replace hx550_0 := sqH HB hx550_0
       replace hx550_1 := sqH HB hx550_1
       replace hx550_2 := sqH HB hx550_2
       replace hx550_3 := sqH HB hx550_3
       replace hx550_4 := sqH HB hx550_4
       replace hx550_5 := sqH HB hx550_5
       replace hx550_6 := sqH HB hx550_6
       replace hx550_7 := sqH HB hx550_7
       replace hx550_8 := sqH HB hx550_8
       replace hx550_9 := sqH HB hx550_9
       replace p550 := eq_true p550
       replace q550 := eq_true q550
       go_wp2_with (first | ((with_reducible refine gate_dst (N := 7) rfl ?_); refine sqX (N := 7) (cs := #[.int .i64 0, .int .i64 0, .int .i64 0, .int .i64 0, .int .i64 0, .int .i64 0, .int .i64 0, .int .i64 0, .int .i64 0, .int .i64 0]) (t := 29) ?_; intro gb551 hg w21 hbox hb; replace HO_5 := Aside0.mk (Kd.R_below (Kd.R_elderB (sqR HO_5) gb551 (Nat.le_of_eq hg.symm)) hb); have BK551 := Aside0.mk (hbox); have GW551 := sqG hg; have GE551 := sqG hg; replace HB := sqS hb; clear hb hbox hg; obtain ⟨hcz22_0, hcz22_1, hcz22_2, hcz22_3, hcz22_4, hcz22_5, hcz22_6, hcz22_7, hcz22_8, hcz22_9, hfz22_0, hfz22_1, hfz22_2, hfz22_3, hfz22_4, hfz22_5, hfz22_6, hfz22_7, hfz22_8, hfz22_9⟩ := sqC10 BK551) | ((with_reducible refine gate_callee (f := 50) rfl ?_); refine goesL_ (some 16) rfl rfl Try.func50 (by kernel_rfl) rfl #[.agg #[.int .i64 ((rd_T29 l0 x11_1).f0), .int .i64 ((rd_T29 l0 x11_1).f1.f0), .int .i64 ((rd_T29 l0 x11_1).f1.f1), .int .i64 ((rd_T29 l0 x11_1).f2), .int .i64 ((rd_T29 l0 x11_1).f3.f0), .int .i64 ((rd_T29 l0 x11_1).f3.f1), .int .i64 ((rd_T29 l0 x11_1).f4.f0), .int .i64 ((rd_T29 l0 x11_1).f4.f1), .int .i64 ((rd_T29 l0 x11_1).f5), .int .i64 ((rd_T29 l0 x11_1).f6)]] rfl sqA ?_; (with_reducible refine (impl_CredOk.calls k1 ((rd_T29 l0 x11_1).f0) ((rd_T29 l0 x11_1).f1.f0) ((rd_T29 l0 x11_1).f1.f1) ((rd_T29 l0 x11_1).f2) ((rd_T29 l0 x11_1).f3.f0) ((rd_T29 l0 x11_1).f3.f1) ((rd_T29 l0 x11_1).f4.f0) ((rd_T29 l0 x11_1).f4.f1) ((rd_T29 l0 x11_1).f5) ((rd_T29 l0 x11_1).f6) false _ A8.out).mono ?_); rintro e w23 ⟨rfl, hb⟩; refine ⟨_, rfl, ?_⟩; replace HO_5 := Aside0.mk (Kd.R_below (by (with_reducible repeat (first | apply Kd.R_alloc | apply Kd.R_drewN | apply Kd.R_drew)); exact (Kd.R_mono (Kd.R_far (p := ⟨gb551, 9, none⟩) (Kd.R_far (p := ⟨gb551, 8, none⟩) (Kd.R_far (p := ⟨gb551, 7, none⟩) (Kd.R_far (p := ⟨gb551, 6, none⟩) (Kd.R_far (p := ⟨gb551, 5, none⟩) (Kd.R_far (p := ⟨gb551, 4, none⟩) (Kd.R_far (p := ⟨gb551, 3, none⟩) (Kd.R_far (p := ⟨gb551, 2, none⟩) (Kd.R_far (p := ⟨gb551, 1, none⟩) (Kd.R_far (p := ⟨gb551, 0, none⟩) (Kd.R_mono HO_5.out (fun k_ hk => (⟨hk, hk.2⟩ : _ ∧ k_ ≠ gb551))) (fun _ hk => hk.2) (.int .i64 ((rd_T29 l0 x11_1).f0))) (fun _ hk => hk.2) (.int .i64 ((rd_T29 l0 x11_1).f1.f0))) (fun _ hk => hk.2) (.int .i64 ((rd_T29 l0 x11_1).f1.f1))) (fun _ hk => hk.2) (.int .i64 ((rd_T29 l0 x11_1).f2))) (fun _ hk => hk.2) (.int .i64 ((rd_T29 l0 x11_1).f3.f0))) (fun _ hk => hk.2) (.int .i64 ((rd_T29 l0 x11_1).f3.f1))) (fun _ hk => hk.2) (.int .i64 ((rd_T29 l0 x11_1).f4.f0))) (fun _ hk => hk.2) (.int .i64 ((rd_T29 l0 x11_1).f4.f1))) (fun _ hk => hk.2) (.int .i64 ((rd_T29 l0 x11_1).f5))) (fun _ hk => hk.2) (.int .i64 ((rd_T29 l0 x11_1).f6))) (fun _ h_ => h_.1))) hb); replace BK551 := sqLW (o' := .cells #[.int .i64 ((rd_T29 l0 x11_1).f0), .int .i64 ((rd_T29 l0 x11_1).f1.f0), .int .i64 ((rd_T29 l0 x11_1).f1.f1), .int .i64 ((rd_T29 l0 x11_1).f2), .int .i64 ((rd_T29 l0 x11_1).f3.f0), .int .i64 ((rd_T29 l0 x11_1).f3.f1), .int .i64 ((rd_T29 l0 x11_1).f4.f0), .int .i64 ((rd_T29 l0 x11_1).f4.f1), .int .i64 ((rd_T29 l0 x11_1).f5), .int .i64 ((rd_T29 l0 x11_1).f6)] 29 (0, 0)) BK551 hb; replace HB := sqS hb; (try clear hb); (try clear hb2); (try clear hk); (try clear hi)))
       go_roundg k1
       case measure => have := HK1.out; omega
       case rel => exact ⟨(x5_1), (wrap64 (x11_1 + 1)), (by first | rfl | (simp; done) | (simp [*]; done)), H', ⟨by have := HK1.out; omega⟩, ⟨by (with_reducible repeat (first | apply Kd.R_alloc | apply Kd.R_drewN | apply Kd.R_drew)); exact Kd.R_mono HO_5.out (fun _ hk => trivial)⟩, ⟨sqB⟩⟩
     ·rw [if_neg c7] at H
      exact absurd H (by simp)
    ·rw [if_neg c6] at H
     exact absurd H (by simp)
   ·rw [if_neg c5] at H
    have c5b0 : decide (x11_1 < (l0.length : Int)) = false := decide_eq_false c5
    clear c5
    obtain rfl := Option.some.inj H
    go_wp2
    go_ret
    exact ⟨_, sqE, sqR HO_5, sqB⟩

end Go.Proofs.Ytnebbjcgkoaloaa.PFnMembersTold
