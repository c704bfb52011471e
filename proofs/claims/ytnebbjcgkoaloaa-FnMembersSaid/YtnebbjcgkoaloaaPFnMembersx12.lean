/- What the code that one law of the given program reaches computes, function by function, each with its proof over the given translation.
Conditions: none of our own. (Laid by a program of this session, wip/xp/xp.py; some contracts are typed by hand.) -/
import Derived.Test.YtnebbjcgkoaloaaPFnMembersx0
import Derived.Test.YtnebbjcgkoaloaaPFnMembersx1
import Derived.Test.YtnebbjcgkoaloaaPFnMembersx6
import Derived.Test.YtnebbjcgkoaloaaPFnMembersx11
namespace Go.Proofs.Ytnebbjcgkoaloaa.PFnMembers
open Go.RowKit Go.Proofs.YtnebbjcgkoaloaaW.PrintWords Go.Proofs.YtnebbjcgkoaloaaW.PrintLast Go.Proofs.YtnebbjcgkoaloaaW.PrintMore
attribute [local go_sem] max2_int min2_int max_two min_two max_three min_three max_four min_four   -- for this text's walks alone
set_option linter.unusedVariables false
set_option linter.unusedSimpArgs false

attribute [local go_sem high] eqA27
/-! ### impl_MembersOf: function 18 -/
def impl_MembersOf.l0 : Nat → List Int → List (S36) → Int → Int → Int → Int → Option (List Int)
 | 0, _, _, _, _, _, _ => none
 | k + 1, x5, x10, x11, x12, x391000, x391001 => if x12 < x11 then (if 0 ≤ x12 then (if x12 < (x10.length : Int) then (if (((rd_T36 x10 x12).f0.f0) == x391000 && (((rd_T36 x10 x12).f0.f1) == x391001)) = true then (if x5.length < 17592186044416 then (impl_MembersOf.l0 k (x5 ++ [(rd_T36 x10 x12).f1]) x10 x11 (wrap64 (x12 + 1)) x391000 x391001) else (none)) else (impl_MembersOf.l0 k x5 x10 x11 (wrap64 (x12 + 1)) x391000 x391001)) else (none)) else (none)) else ((slices_Sort_int_int.f k x5).bind fun t402 => (some t402))
def impl_MembersOf.f (k : Nat) (l0 : List (S29)) (a1_0 : Int) (a1_1 : Int) : Option (List Int) := (impl_FactsOf.f k l0).bind fun t394 => (impl_MembersOf.l0 k (([] : List Int)) t394 (t394.length : Int) 0 a1_0 a1_1)
theorem impl_MembersOf.mono_l : ∀ k, (∀ y0 y1 y2 y3 y4 y5, LeO (impl_MembersOf.l0 k y0 y1 y2 y3 y4 y5) (impl_MembersOf.l0 (k + 1) y0 y1 y2 y3 y4 y5))
 | 0 => fun _ _ _ _ _ _ r h => by simp [impl_MembersOf.l0] at h
 | k + 1 => by
  have ih0 := impl_MembersOf.mono_l k
  ·intro y0 y1 y2 y3 y4 y5
   unfold impl_MembersOf.l0
   repeat' first
   | (with_reducible exact ih0 _ _ _ _ _ _)
   | (with_reducible exact impl_FactsOf.mono _ _)
   | (with_reducible exact slices_Sort_int_int.mono _ _)
   | (with_reducible exact LeO.refl _)
   | (with_reducible exact LeO.none _)
   | (with_reducible refine LeO.ite ?_ ?_)
   | (with_reducible refine LeO.bind ?_ (fun _ => ?_))
   | exact ih0 _ _ _ _ _ _
   | exact impl_FactsOf.mono _ _
   | exact slices_Sort_int_int.mono _ _
   | exact LeO.none _
   | refine LeO.ite ?_ ?_
   | refine LeO.bind ?_ (fun _ => ?_)
theorem impl_MembersOf.mono : ∀ a0 a1 a2 k, LeO (impl_MembersOf.f k a0 a1 a2) (impl_MembersOf.f (k + 1) a0 a1 a2) := by
 intro a0 a1 a2 k
 have ih0 := impl_MembersOf.mono_l k
 unfold impl_MembersOf.f
 repeat' first
   | (with_reducible exact ih0 _ _ _ _ _ _)
   | (with_reducible exact impl_FactsOf.mono _ _)
   | (with_reducible exact slices_Sort_int_int.mono _ _)
   | (with_reducible exact LeO.refl _)
   | (with_reducible exact LeO.none _)
   | (with_reducible refine LeO.ite ?_ ?_)
   | (with_reducible refine LeO.bind ?_ (fun _ => ?_))
   | exact ih0 _ _ _ _ _ _
   | exact impl_FactsOf.mono _ _
   | exact slices_Sort_int_int.mono _ _
   | exact LeO.none _
   | refine LeO.ite ?_ ?_
   | refine LeO.bind ?_ (fun _ => ?_)
set_option maxHeartbeats 8000000 in
set_option maxRecDepth 100000 in
theorem impl_MembersOf.calls (k : Nat) (A0 : Option Addr) (c0 : Nat) (l0 : List (S29)) (a1_0 : Int) (a1_1 : Int) (r : List Int) (w : World) (hr0 : Kd.C k29 w A0 l0.length l0) (hc0 : l0.length ≤ c0) (h : impl_MembersOf.f k l0 a1_0 a1_1 = some r) :
  Calls Try.prog 18 #[.slice A0 l0.length c0, .agg #[.int .i64 a1_0, .int .i64 a1_1]] w fun e w' => ∃ v0_ : Value, e = .returned (v0_) ∧ Kd.R (Kd.int .i64) 3 w' w.heap.size (fun _ => True) v0_ r ∧ Below w.heap.size w w' := by
 have hu27 := Try.underlying27
 have hu36 := Try.underlying36
 have HR0 := Aside0.mk hr0
 have HC0 := Aside0.mk hc0
 clear hr0 hc0
 have HB := Aside0.mk (Below.refl w.heap.size w)
 have H : ((impl_FactsOf.f k l0).bind fun t394 => (impl_MembersOf.l0 k (([] : List Int)) t394 (t394.length : Int) 0 a1_0 a1_1)) = some r := h
 clear h
 obtain ⟨y391, hy391⟩ : ∃ y_ : List Int, y_ = (([] : List Int)) := ⟨_, rfl⟩
 replace H : ((impl_FactsOf.f k l0).bind fun t394 => (impl_MembersOf.l0 k y391 t394 (t394.length : Int) 0 a1_0 a1_1)) = some r := by first | (rw [hy391]; with_reducible exact H) | (have H2_ := (Option.bind_some _ _).symm.trans H; rw [hy391]; with_reducible exact H2_) | (have H2_ := (Option.bind_some _ _).symm.trans H; with_reducible exact H2_) | with_reducible exact H | (rw [hy391]; exact H) | exact H
 have Ny391 := Aside0.mk hy391
 clear hy391
 replace H := Option.bind_eq_some_iff.mp H
 obtain ⟨t394, A30, H⟩ := H
 replace H : (impl_MembersOf.l0 k y391 t394 (t394.length : Int) 0 a1_0 a1_1) = some r := H
 have A3 := Aside0.mk A30
 clear A30
 have H' := Aside0.mk H
 clear H
 go_enter Try.func18, Try.ntmps18
 go_wp2_with (first | ((with_reducible refine gate_dst (N := 3) rfl ?_); refine sqX (N := 3) (cs := #[.int .i64 a1_0, .int .i64 a1_1]) (t := 27) ?_; intro gb390 hg w4 hbox hb; have BK390 := Aside0.mk (hbox); have GW390 := sqG hg; have GE390 := sqG hg; replace HB := sqS hb; clear hb hbox hg) | ((with_reducible refine gate_dst (N := 8) rfl ?_); refine Kd.R_lit (Kd.int .i64) _ 3 ?hg (N := 8) ?hd (xs := ([] : List Int)) (inner := []) (ok := fun _ => True) (okp := fun _ => True) ?hr ?hp (fun _ hk => hk) trivial (Below.refl _ _) (Nat.le_refl _) (by simp) ?_; (case hd => rfl); (case hg => rfl); (case hr => first | (go_simp; done) | (go_simp; rfl)); (case hp => exact (Reps.none _ _)); intro v392 w5 ho6 hb hg_ hnew_; clear hg_ hnew_; (first | rw [← Ny391.out] at ho6 | (simp only [Int.reduceToNat] at ho6; rw [← Ny391.out] at ho6)); have HO393 := Aside0.mk (Kd.R_lower ho6 (below_size (sqB))); replace BK390 := sqL BK390 hb; replace HB := sqS hb; clear hb ho6) | ((with_reducible refine gate_callee (f := 12) rfl ?_); refine goesL_ (some 10) rfl rfl Try.func12 (by kernel_rfl) rfl #[.slice A0 l0.length c0] rfl sqA ?_; (with_reducible refine (impl_FactsOf.calls k _ _ l0 t394 _ ?side1 ?side2 A3.out).mono ?_); (case side1 => repeat (first | exact (Kd.C_below HR0.out HB.out) | (with_reducible refine Kd.C_alloc ?_ _) | (with_reducible refine Kd.C_drewN ?_ _) | (with_reducible refine Kd.C_drew ?_))); (case side2 => exact HC0.out); rintro e w7 ⟨v395, rfl, ho0, hb⟩; refine ⟨_, rfl, ?_⟩; replace HO393 := Aside0.mk (Kd.R_below (sqR HO393) hb); have HO396 := Aside0.mk (Kd.R_lower ho0 (below_size (sqB))); replace BK390 := sqL BK390 hb; replace HB := sqS hb; (try clear hb); (try clear hb2); (try clear hk); (try clear hi); (try clear ho0); obtain ⟨Ao8, co8, eo8⟩ := Kd.R_slice HO396.out; subst eo8))
 go_loopg [5, 12] k (fun kq v5 v12 w' => ∃ (x5_1 : List Int) (x12_1 : Int), v12 = .int .i64 x12_1 ∧ Aside0 (impl_MembersOf.l0 kq x5_1 t394 (t394.length : Int) x12_1 a1_0 a1_1 = some r) ∧ Aside0 (kq ≤ k) ∧ Aside0 (Kd.R (Kd.int .i64) 3 w' w.heap.size (fun _ => True) v5 x5_1) ∧ Aside0 (Kd.R k36 36 w' w.heap.size (fun _ => True) (.slice Ao8 t394.length co8) t394) ∧ Aside0 (w'.heap[gb390]? = some (.cells #[.int .i64 a1_0, .int .i64 a1_1] 27 (0, 0))) ∧ Aside0 (Below w.heap.size w w'))
 case atStart => exact ⟨(y391), (0), (by first | rfl | (simp; done) | (simp [*]; done)), H', ⟨Nat.le_refl _⟩, ⟨sqR HO393⟩, ⟨sqR HO396⟩, ⟨sqK BK390⟩, ⟨sqB⟩⟩
 case round =>
  clear H'
  try clear c1
  try clear p2
  obtain ⟨x5_1, x12_1, rfl, HA, HK1, HO_5, HO_10, BK390, HB⟩ := hrel
  cases gk with
  | zero => exact absurd HA.out (by simp [impl_MembersOf.l0])
  | succ k1 =>
   have H := HA.out
   clear HA
   simp only [impl_MembersOf.l0] at H
   by_cases c9 : x12_1 < (t394.length : Int)
   ·rw [if_pos c9] at H
    have c9b0 : decide (x12_1 < (t394.length : Int)) = true := decide_eq_true c9
    clear c9
    by_cases c10 : 0 ≤ x12_1
    ·rw [if_pos c10] at H
     have c10b0 : decide (0 ≤ x12_1) = true := decide_eq_true c10
     clear c10
     by_cases c11 : x12_1 < (t394.length : Int)
     ·rw [if_pos c11] at H
      have c11b0 : decide (x12_1 < (t394.length : Int)) = true := decide_eq_true c11
      clear c11
      by_cases c12 : (((rd_T36 t394 x12_1).f0.f0) == a1_0 && (((rd_T36 t394 x12_1).f0.f1) == a1_1)) = true
      ·rw [if_pos c12] at H
       have c12b0 : (((rd_T36 t394 x12_1).f0.f0) == a1_0 && (((rd_T36 t394 x12_1).f0.f1) == a1_1)) = true := c12
       (try (have c12b1 : decide (((rd_T36 t394 x12_1).f0.f0) = a1_0 && (((rd_T36 t394 x12_1).f0.f1) == a1_1)) = true := by simpa using c12))
       (try (have c12b2 : (((rd_T36 t394 x12_1).f0.f0) == a1_0 && (((rd_T36 t394 x12_1).f0.f1) == a1_1)) = true := by simpa using c12))
       clear c12
       by_cases c13 : x5_1.length < 17592186044416
       ·rw [if_pos c13] at H
        have LMc13 := Aside0.mk c13
        clear c13
        obtain ⟨y399, hy399⟩ : ∃ y_ : List Int, y_ = (x5_1 ++ [(rd_T36 t394 x12_1).f1]) := ⟨_, rfl⟩
        replace H : (impl_MembersOf.l0 k1 y399 t394 (t394.length : Int) (wrap64 (x12_1 + 1)) a1_0 a1_1) = some r := by first | (rw [hy399]; with_reducible exact H) | (have H2_ := (Option.bind_some _ _).symm.trans H; rw [hy399]; with_reducible exact H2_) | (have H2_ := (Option.bind_some _ _).symm.trans H; with_reducible exact H2_) | with_reducible exact H | (rw [hy399]; exact H) | exact H
        have Ny399 := Aside0.mk hy399
        clear hy399
        have H' := Aside0.mk H
        clear H
        have p397 : 0 ≤ (x12_1 : Int) := sqD
        have q397 : x12_1 < (t394.length : Int) := sqD
        obtain ⟨ad397, e397, hx397_0, hx397_1, hx397_2⟩ := at_T36 (Kd.R_reads' HO_10.out).2.2 x12_1 p397 q397
        cases e397
        replace p397 := eq_true p397
        replace q397 := eq_true q397
        go_wp2_with (first | ((with_reducible refine gate_dst (N := 7) rfl ?_); refine sqX (N := 7) (cs := #[.int .i64 0, .int .i64 0, .int .i64 0]) (t := 36) ?_; intro gb398 hg w14 hbox hb; have n0_ := Aside0.mk (Kd.R_below (sqR HO_5) hb); have n1_ := Aside0.mk (Kd.R_below (Kd.R_elderB (sqR HO_10) gb398 (Nat.le_of_eq hg.symm)) hb); have n2_ := sqL BK390 hb; have n3_ := sqS hb; have n4_ := Aside0.mk (hbox); have n5_ := sqG hg; have n6_ := sqG hg; have n7_ := sqN BK390 hg; have n8_ := sqM BK390 hg; clear HO_5; clear HO_10; clear BK390; clear HB; have HO_5 := n0_; have HO_10 := n1_; have BK390 := n2_; have HB := n3_; have BK398 := n4_; have GW398 := n5_; have GE398 := n6_; have NB390_398 := n7_; have NB398_390 := n8_; clear n0_ n1_ n2_ n3_ n4_ n5_ n6_ n7_ n8_; clear hb hbox hg; have hnb15 := NB398_390.out; have hnc15 := NB390_398.out; obtain ⟨hcz16_0, hcz16_1, hcz16_2, hfz16_0, hfz16_1, hfz16_2⟩ := sqC3 BK398; obtain ⟨hcz17_0, hcz17_1, hfz17_0, hfz17_1⟩ := sqC2 BK390) | ((with_reducible refine gate_builtin (b := .append) (xs := #[.tmp 20, .tmp 23]) rfl ?_); at_builtin; refine Kd.R_append (Kd.int .i64) (w0 := w) w.heap.size rfl (.tmp 20) (.tmp 23) 40 3 (.int .i64 0) 8 rfl Try.underlying40 info3 rfl (by decide) (by omega) u5 x5_1 ((rd_T36 t394 x12_1).f1) [.int .i64 ((rd_T36 t394 x12_1).f1)] (fun _ => True) (fun _ => False) rfl (by first | (go_simp; done) | (go_simp; rfl)) ?aP (fun _ hk => hk.elim) ?aF ?aO ?aB ?aS ?aL ?_; (case aP => exact rfl); (case aB => exact (sqB)); (case aF => exact (fun _ _ => trivial)); (case aO => exact (by (with_reducible repeat (first | apply Kd.R_alloc | apply Kd.R_drewN | apply Kd.R_drew)); exact Kd.R_mono (Kd.R_far (p := ⟨gb398, 2, none⟩) (Kd.R_far (p := ⟨gb398, 1, none⟩) (Kd.R_far (p := ⟨gb398, 0, none⟩) (Kd.R_types HO_5.out BK398.out (by decide)) (fun _ hk => hk.2) (.int .i64 ((rd_T36 t394 x12_1).f0.f0))) (fun _ hk => hk.2) (.int .i64 ((rd_T36 t394 x12_1).f0.f1))) (fun _ hk => hk.2) (.int .i64 ((rd_T36 t394 x12_1).f1))) (fun _ hk => trivial))); (case aS => exact (below_size (sqB))); (case aL => have := LMc13.out; omega); intro v400 w18 ho hb hg hat; rw [← Ny399.out] at ho; have n0_ := Aside0.mk (Kd.R_over' (by (with_reducible repeat (first | apply Kd.R_alloc | apply Kd.R_drewN | apply Kd.R_drew)); exact (Kd.R_mono (Kd.R_far (p := ⟨gb398, 2, none⟩) (Kd.R_far (p := ⟨gb398, 1, none⟩) (Kd.R_far (p := ⟨gb398, 0, none⟩) (Kd.R_mono HO_10.out (fun k_ hk => (⟨hk, hk.2⟩ : _ ∧ k_ ≠ gb398))) (fun _ hk => hk.2) (.int .i64 ((rd_T36 t394 x12_1).f0.f0))) (fun _ hk => hk.2) (.int .i64 ((rd_T36 t394 x12_1).f0.f1))) (fun _ hk => hk.2) (.int .i64 ((rd_T36 t394 x12_1).f1))) (fun _ h_ => h_.1))) (Kd.R_typed (by (with_reducible repeat (first | apply Kd.R_alloc | apply Kd.R_drewN | apply Kd.R_drew)); exact (Kd.R_mono (Kd.R_far (p := ⟨gb398, 2, none⟩) (Kd.R_far (p := ⟨gb398, 1, none⟩) (Kd.R_far (p := ⟨gb398, 0, none⟩) (Kd.R_types HO_5.out BK398.out (by decide)) (fun _ hk => hk.2) (.int .i64 ((rd_T36 t394 x12_1).f0.f0))) (fun _ hk => hk.2) (.int .i64 ((rd_T36 t394 x12_1).f0.f1))) (fun _ hk => hk.2) (.int .i64 ((rd_T36 t394 x12_1).f1))) (fun _ h_ => h_.1)))) (by decide) hg); have n1_ := Aside0.mk (blk_grown (g := gb390) (o := .cells #[.int .i64 a1_0, .int .i64 a1_1] 27 (0, 0)) (by (with_reducible repeat (first | refine blk_drewN ?_ _ | refine blk_drew ?_ | refine blk_alloc ?_ _)); refine blk_far ?_ NB390_398.out _; (with_reducible repeat (first | refine blk_drewN ?_ _ | refine blk_drew ?_ | refine blk_alloc ?_ _)); refine blk_far ?_ NB390_398.out _; (with_reducible repeat (first | refine blk_drewN ?_ _ | refine blk_drew ?_ | refine blk_alloc ?_ _)); refine blk_far ?_ NB390_398.out _; (with_reducible repeat (first | refine blk_drewN ?_ _ | refine blk_drew ?_ | refine blk_alloc ?_ _)); exact BK390.out) hg (Kd.R_ne HO_5.out BK390.out (by decide))); have n2_ := Aside0.mk (blk_grown (g := gb398) (o := .cells #[.int .i64 ((rd_T36 t394 x12_1).f0.f0), .int .i64 ((rd_T36 t394 x12_1).f0.f1), .int .i64 ((rd_T36 t394 x12_1).f1)] 36 (0, 0)) (by (with_reducible repeat (first | refine blk_drewN ?_ _ | refine blk_drew ?_ | refine blk_alloc ?_ _)); refine blk_put (cs := #[.int .i64 ((rd_T36 t394 x12_1).f0.f0), .int .i64 ((rd_T36 t394 x12_1).f0.f1), .int .i64 0]) ?_ 2 _ rfl; (with_reducible repeat (first | refine blk_drewN ?_ _ | refine blk_drew ?_ | refine blk_alloc ?_ _)); refine blk_put (cs := #[.int .i64 ((rd_T36 t394 x12_1).f0.f0), .int .i64 0, .int .i64 0]) ?_ 1 _ rfl; (with_reducible repeat (first | refine blk_drewN ?_ _ | refine blk_drew ?_ | refine blk_alloc ?_ _)); refine blk_put (cs := #[.int .i64 0, .int .i64 0, .int .i64 0]) ?_ 0 _ rfl; (with_reducible repeat (first | refine blk_drewN ?_ _ | refine blk_drew ?_ | refine blk_alloc ?_ _)); exact BK398.out) hg (Kd.R_ne HO_5.out BK398.out (by decide))); have n3_ := Aside0.mk (hb); have n4_ := Aside0.mk (ho); clear HO_10; clear BK390; clear BK398; clear HB; clear HO_5; have HO_10 := n0_; have BK390 := n1_; have BK398 := n2_; have HB := n3_; have HO401 := n4_; clear n0_ n1_ n2_ n3_ n4_; clear ho hb hg hat))
        go_roundg k1
        case measure => have := HK1.out; omega
        case rel => exact ⟨(y399), (wrap64 (x12_1 + 1)), (by first | rfl | (simp; done) | (simp [*]; done)), H', ⟨by have := HK1.out; omega⟩, ⟨sqR HO401⟩, ⟨by (with_reducible repeat (first | apply Kd.R_alloc | apply Kd.R_drewN | apply Kd.R_drew)); exact Kd.R_mono HO_10.out (fun _ hk => trivial)⟩, ⟨sqK BK390⟩, ⟨sqB⟩⟩
       ·rw [if_neg c13] at H
        exact absurd H (by simp)
      ·rw [if_neg c12] at H
       have c12b0 : (((rd_T36 t394 x12_1).f0.f0) == a1_0 && (((rd_T36 t394 x12_1).f0.f1) == a1_1)) = false := by simpa using c12
       (try (have c12b1 : decide (((rd_T36 t394 x12_1).f0.f0) = a1_0 && (((rd_T36 t394 x12_1).f0.f1) == a1_1)) = false := by simpa using c12))
       (try (have c12b2 : (((rd_T36 t394 x12_1).f0.f0) == a1_0 && (((rd_T36 t394 x12_1).f0.f1) == a1_1)) = false := by simpa using c12))
       (try (have c12b3 : ¬ (((rd_T36 t394 x12_1).f0.f0) = a1_0 && (((rd_T36 t394 x12_1).f0.f1) == a1_1)) := by simpa using c12))
       clear c12
       have H' := Aside0.mk H
       clear H
       have p397 : 0 ≤ (x12_1 : Int) := sqD
       have q397 : x12_1 < (t394.length : Int) := sqD
       obtain ⟨ad397, e397, hx397_0, hx397_1, hx397_2⟩ := at_T36 (Kd.R_reads' HO_10.out).2.2 x12_1 p397 q397
       cases e397
       replace p397 := eq_true p397
       replace q397 := eq_true q397
       go_wp2_with (first | ((with_reducible refine gate_dst (N := 7) rfl ?_); refine sqX (N := 7) (cs := #[.int .i64 0, .int .i64 0, .int .i64 0]) (t := 36) ?_; intro gb398 hg w19 hbox hb; have n0_ := Aside0.mk (Kd.R_below (sqR HO_5) hb); have n1_ := Aside0.mk (Kd.R_below (Kd.R_elderB (sqR HO_10) gb398 (Nat.le_of_eq hg.symm)) hb); have n2_ := sqL BK390 hb; have n3_ := sqS hb; have n4_ := Aside0.mk (hbox); have n5_ := sqG hg; have n6_ := sqG hg; have n7_ := sqN BK390 hg; have n8_ := sqM BK390 hg; clear HO_5; clear HO_10; clear BK390; clear HB; have HO_5 := n0_; have HO_10 := n1_; have BK390 := n2_; have HB := n3_; have BK398 := n4_; have GW398 := n5_; have GE398 := n6_; have NB390_398 := n7_; have NB398_390 := n8_; clear n0_ n1_ n2_ n3_ n4_ n5_ n6_ n7_ n8_; clear hb hbox hg; have hnb20 := NB398_390.out; have hnc20 := NB390_398.out; obtain ⟨hcz21_0, hcz21_1, hcz21_2, hfz21_0, hfz21_1, hfz21_2⟩ := sqC3 BK398; obtain ⟨hcz22_0, hcz22_1, hfz22_0, hfz22_1⟩ := sqC2 BK390))
       go_roundg k1
       case measure => have := HK1.out; omega
       case rel => exact ⟨(x5_1), (wrap64 (x12_1 + 1)), (by first | rfl | (simp; done) | (simp [*]; done)), H', ⟨by have := HK1.out; omega⟩, ⟨by (with_reducible repeat (first | apply Kd.R_alloc | apply Kd.R_drewN | apply Kd.R_drew)); exact Kd.R_mono (Kd.R_far (p := ⟨gb398, 2, none⟩) (Kd.R_far (p := ⟨gb398, 1, none⟩) (Kd.R_far (p := ⟨gb398, 0, none⟩) (Kd.R_types HO_5.out BK398.out (by decide)) (fun _ hk => hk.2) (.int .i64 ((rd_T36 t394 x12_1).f0.f0))) (fun _ hk => hk.2) (.int .i64 ((rd_T36 t394 x12_1).f0.f1))) (fun _ hk => hk.2) (.int .i64 ((rd_T36 t394 x12_1).f1))) (fun _ hk => trivial)⟩, ⟨by (with_reducible repeat (first | apply Kd.R_alloc | apply Kd.R_drewN | apply Kd.R_drew)); exact Kd.R_mono (Kd.R_far (p := ⟨gb398, 2, none⟩) (Kd.R_far (p := ⟨gb398, 1, none⟩) (Kd.R_far (p := ⟨gb398, 0, none⟩) (Kd.R_mono HO_10.out (fun k_ hk => (⟨hk, hk.2⟩ : _ ∧ k_ ≠ gb398))) (fun _ hk => hk.2) (.int .i64 ((rd_T36 t394 x12_1).f0.f0))) (fun _ hk => hk.2) (.int .i64 ((rd_T36 t394 x12_1).f0.f1))) (fun _ hk => hk.2) (.int .i64 ((rd_T36 t394 x12_1).f1))) (fun _ hk => trivial)⟩, ⟨by (with_reducible repeat (first | refine blk_drewN ?_ _ | refine blk_drew ?_ | refine blk_alloc ?_ _)); refine blk_far ?_ NB390_398.out _; (with_reducible repeat (first | refine blk_drewN ?_ _ | refine blk_drew ?_ | refine blk_alloc ?_ _)); refine blk_far ?_ NB390_398.out _; (with_reducible repeat (first | refine blk_drewN ?_ _ | refine blk_drew ?_ | refine blk_alloc ?_ _)); refine blk_far ?_ NB390_398.out _; (with_reducible repeat (first | refine blk_drewN ?_ _ | refine blk_drew ?_ | refine blk_alloc ?_ _)); exact BK390.out⟩, ⟨sqB⟩⟩
     ·rw [if_neg c11] at H
      exact absurd H (by simp)
    ·rw [if_neg c10] at H
     exact absurd H (by simp)
   ·rw [if_neg c9] at H
    have c9b0 : decide (x12_1 < (t394.length : Int)) = false := decide_eq_false c9
    clear c9
    replace H := Option.bind_eq_some_iff.mp H
    obtain ⟨t402, A230, H⟩ := H
    replace H : (some t402) = some r := H
    have A23 := Aside0.mk A230
    clear A230
    obtain rfl := Option.some.inj H
    obtain ⟨Ao24, co24, eo24⟩ := Kd.R_slice HO_5.out
    subst eo24
    go_wp2_with (first | ((with_reducible refine gate_callee (f := 55) rfl ?_); refine goesL_ (some 27) rfl rfl Try.func55 (by kernel_rfl) rfl #[.slice Ao24 x5_1.length co24] rfl sqA ?_; (with_reducible refine (slices_Sort_int_int.calls k1 (fun k_ => some k_ = (.slice Ao24 x5_1.length co24 : Value).ownBlock) (.slice Ao24 x5_1.length co24) x5_1 t402 w _ ?side1 ?side2 A23.out).mono ?_); (case side1 => repeat (first | (with_reducible first | exact HB.out | apply below_alloc | apply pw_below_drewN | apply below_drew1 | refine below_set ?_ GE390.out) | exact HB.out)); (case side2 => exact Kd.R_tight rfl HO_5.out); rintro e w25 ⟨rfl, hy0, hb, hkp⟩; refine ⟨_, rfl, ?_⟩; have n0_ := Aside0.mk (Kd.R_reok rfl hy0 (fun k_ e_ => HO_5.out.1 k_ e_)); have n1_ := Aside0.mk (Kd.R_mono (ok' := fun k_ => True) (Kd.R_keptB ((Kd.R_apart' HO_10.out (Kd.R_typed HO_5.out) (by decide))) hkp (fun k_ hk_ hs_ => (hk_.2) hs_)) (fun k_ hk_ => trivial)); have n2_ := Aside0.mk (blk_kept (sqK BK390) hkp (fun hs_ => (fun e_ => (Kd.R_ne HO_5.out BK390.out (by decide)) e_) hs_)); have n3_ := Aside0.mk (hb); clear HO_5; clear HO_10; clear BK390; clear HB; have HO_5 := n0_; have HO_10 := n1_; have BK390 := n2_; have HB := n3_; clear n0_ n1_ n2_ n3_; (try clear hb); (try clear hkp); (try clear hy0)))
    go_ret
    exact ⟨_, sqE, sqR HO_5, sqB⟩

end Go.Proofs.Ytnebbjcgkoaloaa.PFnMembers
