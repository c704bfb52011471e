/- What the code that one law of the given program reaches computes, function by function, each with its proof over the given translation.
Conditions: none of our own. (Laid by a program of this session, wip/xp/xp.py; some contracts are typed by hand.) -/
import Derived.Test.YtnebbjcgkoaloaaPFnMembersx0
import Derived.Test.YtnebbjcgkoaloaaPFnMembersx1
import Derived.Test.YtnebbjcgkoaloaaPFnMembersx2
import Derived.Test.YtnebbjcgkoaloaaPFnMembersx4
namespace Go.Proofs.Ytnebbjcgkoaloaa.PFnMembers
open Go.RowKit Go.Proofs.YtnebbjcgkoaloaaW.PrintWords Go.Proofs.YtnebbjcgkoaloaaW.PrintLast Go.Proofs.YtnebbjcgkoaloaaW.PrintMore
attribute [local go_sem] max2_int min2_int max_two min_two max_three min_three max_four min_four   -- for this text's walks alone
set_option linter.unusedVariables false
set_option linter.unusedSimpArgs false

attribute [local go_sem high] eqA27 eqA36
/-! ### impl_whoOf: function 73 -/
def impl_whoOf.l0 : Nat → List Int → List (S36) → Int → Int → Int → Int → Option (List Int)
 | 0, _, _, _, _, _, _ => none
 | k + 1, x5, x9, x10, x11, x240000, x240001 => if x11 < x10 then (if 0 ≤ x11 then (if x11 < (x9.length : Int) then (if (((rd_T36 x9 x11).f0.f0) == x240000 && (((rd_T36 x9 x11).f0.f1) == x240001)) = true then ((impl_factOk.f ((rd_T36 x9 x11).f0.f0) ((rd_T36 x9 x11).f0.f1) ((rd_T36 x9 x11).f1)).bind fun t245 => (if t245 = true then (if x5.length < 17592186044416 then (impl_whoOf.l0 k (x5 ++ [x11]) x9 x10 (wrap64 (x11 + 1)) x240000 x240001) else (none)) else (impl_whoOf.l0 k x5 x9 x10 (wrap64 (x11 + 1)) x240000 x240001))) else (impl_whoOf.l0 k x5 x9 x10 (wrap64 (x11 + 1)) x240000 x240001)) else (none)) else (none)) else (some x5)
def impl_whoOf.f (k : Nat) (l0 : List (S36)) (a1_0 : Int) (a1_1 : Int) : Option (List Int) := impl_whoOf.l0 k (([] : List Int)) l0 (l0.length : Int) 0 a1_0 a1_1
theorem impl_whoOf.mono_l : ∀ k, (∀ y0 y1 y2 y3 y4 y5, LeO (impl_whoOf.l0 k y0 y1 y2 y3 y4 y5) (impl_whoOf.l0 (k + 1) y0 y1 y2 y3 y4 y5))
 | 0 => fun _ _ _ _ _ _ r h => by simp [impl_whoOf.l0] at h
 | k + 1 => by
  have ih0 := impl_whoOf.mono_l k
  ·intro y0 y1 y2 y3 y4 y5
   unfold impl_whoOf.l0
   repeat' first
   | (with_reducible exact ih0 _ _ _ _ _ _)
   | (with_reducible exact LeO.refl _)
   | (with_reducible exact LeO.none _)
   | (with_reducible refine LeO.ite ?_ ?_)
   | (with_reducible refine LeO.bind ?_ (fun _ => ?_))
   | exact ih0 _ _ _ _ _ _
   | exact LeO.none _
   | refine LeO.ite ?_ ?_
   | refine LeO.bind ?_ (fun _ => ?_)
theorem impl_whoOf.mono : ∀ a0 a1 a2 k, LeO (impl_whoOf.f k a0 a1 a2) (impl_whoOf.f (k + 1) a0 a1 a2) := by
 intro a0 a1 a2 k
 have ih0 := impl_whoOf.mono_l k
 unfold impl_whoOf.f
 repeat' first
   | (with_reducible exact ih0 _ _ _ _ _ _)
   | (with_reducible exact LeO.refl _)
   | (with_reducible exact LeO.none _)
   | (with_reducible refine LeO.ite ?_ ?_)
   | (with_reducible refine LeO.bind ?_ (fun _ => ?_))
   | exact ih0 _ _ _ _ _ _
   | exact LeO.none _
   | refine LeO.ite ?_ ?_
   | refine LeO.bind ?_ (fun _ => ?_)
set_option maxHeartbeats 8000000 in
set_option maxRecDepth 100000 in
theorem impl_whoOf.calls (k : Nat) (A0 : Option Addr) (c0 : Nat) (l0 : List (S36)) (a1_0 : Int) (a1_1 : Int) (r : List Int) (w : World) (hr0 : Kd.C k36 w A0 l0.length l0) (hc0 : l0.length ≤ c0) (h : impl_whoOf.f k l0 a1_0 a1_1 = some r) :
  Calls Try.prog 73 #[.slice A0 l0.length c0, .agg #[.int .i64 a1_0, .int .i64 a1_1]] w fun e w' => ∃ v0_ : Value, e = .returned (v0_) ∧ Kd.R (Kd.int .i64) 3 w' w.heap.size (fun _ => True) v0_ r ∧ Below w.heap.size w w' := by
 have hu27 := Try.underlying27
 have hu36 := Try.underlying36
 have HR0 := Aside0.mk hr0
 have HC0 := Aside0.mk hc0
 clear hr0 hc0
 have HB := Aside0.mk (Below.refl w.heap.size w)
 have H : (impl_whoOf.l0 k (([] : List Int)) l0 (l0.length : Int) 0 a1_0 a1_1) = some r := h
 clear h
 obtain ⟨y240, hy240⟩ : ∃ y_ : List Int, y_ = (([] : List Int)) := ⟨_, rfl⟩
 replace H : (impl_whoOf.l0 k y240 l0 (l0.length : Int) 0 a1_0 a1_1) = some r := by first | (rw [hy240]; with_reducible exact H) | (have H2_ := (Option.bind_some _ _).symm.trans H; rw [hy240]; with_reducible exact H2_) | (have H2_ := (Option.bind_some _ _).symm.trans H; with_reducible exact H2_) | with_reducible exact H | (rw [hy240]; exact H) | exact H
 have Ny240 := Aside0.mk hy240
 clear hy240
 have H' := Aside0.mk H
 clear H
 go_enter Try.func73, Try.ntmps73
 go_wp2_with (first | ((with_reducible refine gate_dst (N := 3) rfl ?_); refine sqX (N := 3) (cs := #[.int .i64 a1_0, .int .i64 a1_1]) (t := 27) ?_; intro gb239 hg w3 hbox hb; have BK239 := Aside0.mk (hbox); have GW239 := sqG hg; have GE239 := sqG hg; replace HB := sqS hb; clear hb hbox hg) | ((with_reducible refine gate_dst (N := 8) rfl ?_); refine Kd.R_lit (Kd.int .i64) _ 3 ?hg (N := 8) ?hd (xs := ([] : List Int)) (inner := []) (ok := fun _ => True) (okp := fun _ => True) ?hr ?hp (fun _ hk => hk) trivial (Below.refl _ _) (Nat.le_refl _) (by simp) ?_; (case hd => rfl); (case hg => rfl); (case hr => first | (go_simp; done) | (go_simp; rfl)); (case hp => exact (Reps.none _ _)); intro v241 w4 ho5 hb hg_ hnew_; clear hg_ hnew_; (first | rw [← Ny240.out] at ho5 | (simp only [Int.reduceToNat] at ho5; rw [← Ny240.out] at ho5)); have HO242 := Aside0.mk (Kd.R_lower ho5 (below_size (sqB))); replace BK239 := sqL BK239 hb; replace HB := sqS hb; clear hb ho5))
 go_loopg [5, 11] k (fun kq v5 v11 w' => ∃ (x5_1 : List Int) (x11_1 : Int), v11 = .int .i64 x11_1 ∧ Aside0 (impl_whoOf.l0 kq x5_1 l0 (l0.length : Int) x11_1 a1_0 a1_1 = some r) ∧ Aside0 (kq ≤ k) ∧ Aside0 (Kd.R (Kd.int .i64) 3 w' w.heap.size (fun _ => True) v5 x5_1) ∧ Aside0 (w'.heap[gb239]? = some (.cells #[.int .i64 a1_0, .int .i64 a1_1] 27 (0, 0))) ∧ Aside0 (Below w.heap.size w w'))
 case atStart => exact ⟨(y240), (0), (by first | rfl | (simp; done) | (simp [*]; done)), H', ⟨Nat.le_refl _⟩, ⟨sqR HO242⟩, ⟨sqK BK239⟩, ⟨sqB⟩⟩
 case round =>
  clear H'
  try clear p2
  obtain ⟨x5_1, x11_1, rfl, HA, HK1, HO_5, BK239, HB⟩ := hrel
  cases gk with
  | zero => exact absurd HA.out (by simp [impl_whoOf.l0])
  | succ k1 =>
   have H := HA.out
   clear HA
   simp only [impl_whoOf.l0] at H
   by_cases c6 : x11_1 < (l0.length : Int)
   ·rw [if_pos c6] at H
    have c6b0 : decide (x11_1 < (l0.length : Int)) = true := decide_eq_true c6
    clear c6
    by_cases c7 : 0 ≤ x11_1
    ·rw [if_pos c7] at H
     have c7b0 : decide (0 ≤ x11_1) = true := decide_eq_true c7
     clear c7
     by_cases c8 : x11_1 < (l0.length : Int)
     ·rw [if_pos c8] at H
      have c8b0 : decide (x11_1 < (l0.length : Int)) = true := decide_eq_true c8
      clear c8
      by_cases c9 : (((rd_T36 l0 x11_1).f0.f0) == a1_0 && (((rd_T36 l0 x11_1).f0.f1) == a1_1)) = true
      ·rw [if_pos c9] at H
       have c9b0 : (((rd_T36 l0 x11_1).f0.f0) == a1_0 && (((rd_T36 l0 x11_1).f0.f1) == a1_1)) = true := c9
       (try (have c9b1 : decide (((rd_T36 l0 x11_1).f0.f0) = a1_0 && (((rd_T36 l0 x11_1).f0.f1) == a1_1)) = true := by simpa using c9))
       (try (have c9b2 : (((rd_T36 l0 x11_1).f0.f0) == a1_0 && (((rd_T36 l0 x11_1).f0.f1) == a1_1)) = true := by simpa using c9))
       clear c9
       replace H := Option.bind_eq_some_iff.mp H
       obtain ⟨t245, A100, H⟩ := H
       replace H : (if t245 = true then (if x5_1.length < 17592186044416 then (impl_whoOf.l0 k1 (x5_1 ++ [x11_1]) l0 (l0.length : Int) (wrap64 (x11_1 + 1)) a1_0 a1_1) else (none)) else (impl_whoOf.l0 k1 x5_1 l0 (l0.length : Int) (wrap64 (x11_1 + 1)) a1_0 a1_1)) = some r := H
       have A10 := Aside0.mk A100
       clear A100
       by_cases c11 : t245 = true
       ·subst c11
        have H1 : (if x5_1.length < 17592186044416 then (impl_whoOf.l0 k1 (x5_1 ++ [x11_1]) l0 (l0.length : Int) (wrap64 (x11_1 + 1)) a1_0 a1_1) else (none)) = some r := by rw [if_pos rfl] at H; exact H
        clear H
        have H := H1
        clear H1
        by_cases c12 : x5_1.length < 17592186044416
        ·rw [if_pos c12] at H
         have LMc12 := Aside0.mk c12
         clear c12
         obtain ⟨y246, hy246⟩ : ∃ y_ : List Int, y_ = (x5_1 ++ [x11_1]) := ⟨_, rfl⟩
         replace H : (impl_whoOf.l0 k1 y246 l0 (l0.length : Int) (wrap64 (x11_1 + 1)) a1_0 a1_1) = some r := by first | (rw [hy246]; with_reducible exact H) | (have H2_ := (Option.bind_some _ _).symm.trans H; rw [hy246]; with_reducible exact H2_) | (have H2_ := (Option.bind_some _ _).symm.trans H; with_reducible exact H2_) | with_reducible exact H | (rw [hy246]; exact H) | exact H
         have Ny246 := Aside0.mk hy246
         clear hy246
         have H' := Aside0.mk H
         clear H
         have p243 : 0 ≤ (x11_1 : Int) := sqD
         have q243 : x11_1 < (l0.length : Int) := sqD
         obtain ⟨ad243, e243, hx243_0, hx243_1, hx243_2⟩ := at_T36 HR0.out x11_1 p243 q243
         cases e243
         replace hx243_0 := sqH HB hx243_0
         replace hx243_1 := sqH HB hx243_1
         replace hx243_2 := sqH HB hx243_2
         replace p243 := eq_true p243
         replace q243 := eq_true q243
         go_wp2_with (first | ((with_reducible refine gate_dst (N := 7) rfl ?_); refine sqX (N := 7) (cs := #[.int .i64 0, .int .i64 0, .int .i64 0]) (t := 36) ?_; intro gb244 hg w13 hbox hb; have n0_ := Aside0.mk (Kd.R_below (sqR HO_5) hb); have n1_ := sqL BK239 hb; have n2_ := sqS hb; have n3_ := Aside0.mk (hbox); have n4_ := sqG hg; have n5_ := sqG hg; have n6_ := sqN BK239 hg; have n7_ := sqM BK239 hg; clear HO_5; clear BK239; clear HB; have HO_5 := n0_; have BK239 := n1_; have HB := n2_; have BK244 := n3_; have GW244 := n4_; have GE244 := n5_; have NB239_244 := n6_; have NB244_239 := n7_; clear n0_ n1_ n2_ n3_ n4_ n5_ n6_ n7_; clear hb hbox hg; have hnb14 := NB244_239.out; have hnc14 := NB239_244.out; obtain ⟨hcz15_0, hcz15_1, hcz15_2, hfz15_0, hfz15_1, hfz15_2⟩ := sqC3 BK244; obtain ⟨hcz16_0, hcz16_1, hfz16_0, hfz16_1⟩ := sqC2 BK239) | (go_at_call 82; (with_reducible refine (impl_factOk.calls ((rd_T36 l0 x11_1).f0.f0) ((rd_T36 l0 x11_1).f0.f1) ((rd_T36 l0 x11_1).f1) true _ A10.out).mono ?_); rintro e w17 ⟨rfl, hb⟩; have n0_ := Aside0.mk (Kd.R_below (by (with_reducible repeat (first | apply Kd.R_alloc | apply Kd.R_drewN | apply Kd.R_drew)); exact (Kd.R_mono (Kd.R_far (p := ⟨gb244, 2, none⟩) (Kd.R_far (p := ⟨gb244, 1, none⟩) (Kd.R_far (p := ⟨gb244, 0, none⟩) (Kd.R_types HO_5.out BK244.out (by decide)) (fun _ hk => hk.2) (.int .i64 ((rd_T36 l0 x11_1).f0.f0))) (fun _ hk => hk.2) (.int .i64 ((rd_T36 l0 x11_1).f0.f1))) (fun _ hk => hk.2) (.int .i64 ((rd_T36 l0 x11_1).f1))) (fun _ h_ => h_.1))) hb); have n1_ := Aside0.mk (blk_below (g := gb239) (o := .cells #[.int .i64 a1_0, .int .i64 a1_1] 27 (0, 0)) (by (with_reducible repeat (first | refine blk_drewN ?_ _ | refine blk_drew ?_ | refine blk_alloc ?_ _)); refine blk_far ?_ NB239_244.out _; (with_reducible repeat (first | refine blk_drewN ?_ _ | refine blk_drew ?_ | refine blk_alloc ?_ _)); refine blk_far ?_ NB239_244.out _; (with_reducible repeat (first | refine blk_drewN ?_ _ | refine blk_drew ?_ | refine blk_alloc ?_ _)); refine blk_far ?_ NB239_244.out _; (with_reducible repeat (first | refine blk_drewN ?_ _ | refine blk_drew ?_ | refine blk_alloc ?_ _)); exact BK239.out) hb); have n2_ := Aside0.mk (blk_below (g := gb244) (o := .cells #[.int .i64 ((rd_T36 l0 x11_1).f0.f0), .int .i64 ((rd_T36 l0 x11_1).f0.f1), .int .i64 ((rd_T36 l0 x11_1).f1)] 36 (0, 0)) (by (with_reducible repeat (first | refine blk_drewN ?_ _ | refine blk_drew ?_ | refine blk_alloc ?_ _)); refine blk_put (cs := #[.int .i64 ((rd_T36 l0 x11_1).f0.f0), .int .i64 ((rd_T36 l0 x11_1).f0.f1), .int .i64 0]) ?_ 2 _ rfl; (with_reducible repeat (first | refine blk_drewN ?_ _ | refine blk_drew ?_ | refine blk_alloc ?_ _)); refine blk_put (cs := #[.int .i64 ((rd_T36 l0 x11_1).f0.f0), .int .i64 0, .int .i64 0]) ?_ 1 _ rfl; (with_reducible repeat (first | refine blk_drewN ?_ _ | refine blk_drew ?_ | refine blk_alloc ?_ _)); refine blk_put (cs := #[.int .i64 0, .int .i64 0, .int .i64 0]) ?_ 0 _ rfl; (with_reducible repeat (first | refine blk_drewN ?_ _ | refine blk_drew ?_ | refine blk_alloc ?_ _)); exact BK244.out) hb); have n3_ := sqS hb; clear HO_5; clear BK239; clear BK244; clear HB; have HO_5 := n0_; have BK239 := n1_; have BK244 := n2_; have HB := n3_; clear n0_ n1_ n2_ n3_; (try clear hb); (try clear hb2); (try clear hk); (try clear hi)) | ((with_reducible refine gate_builtin (b := .append) (xs := #[.tmp 24, .tmp 26]) rfl ?_); at_builtin; refine Kd.R_append (Kd.int .i64) (w0 := w) w.heap.size rfl (.tmp 24) (.tmp 26) 40 3 (.int .i64 0) 8 rfl Try.underlying40 info3 rfl (by decide) (by omega) u5 x5_1 x11_1 [.int .i64 x11_1] (fun _ => True) (fun _ => False) rfl rfl ?aP (fun _ hk => hk.elim) ?aF ?aO ?aB ?aS ?aL ?_; (case aP => exact rfl); (case aB => exact (sqB)); (case aF => exact (fun _ _ => trivial)); (case aO => exact (sqR HO_5)); (case aS => exact (below_size (sqB))); (case aL => have := LMc12.out; omega); intro v247 w18 ho hb hg hat; rw [← Ny246.out] at ho; have n0_ := Aside0.mk (blk_grown (g := gb239) (o := .cells #[.int .i64 a1_0, .int .i64 a1_1] 27 (0, 0)) (sqK BK239) hg (Kd.R_ne HO_5.out BK239.out (by decide))); have n1_ := Aside0.mk (blk_grown (g := gb244) (o := .cells #[.int .i64 ((rd_T36 l0 x11_1).f0.f0), .int .i64 ((rd_T36 l0 x11_1).f0.f1), .int .i64 ((rd_T36 l0 x11_1).f1)] 36 (0, 0)) (sqK BK244) hg (Kd.R_ne HO_5.out BK244.out (by decide))); have n2_ := Aside0.mk (hb); have n3_ := Aside0.mk (ho); clear BK239; clear BK244; clear HB; clear HO_5; have BK239 := n0_; have BK244 := n1_; have HB := n2_; have HO248 := n3_; clear n0_ n1_ n2_ n3_; clear ho hb hg hat))
         go_roundg k1
         case measure => have := HK1.out; omega
         case rel => exact ⟨(y246), (wrap64 (x11_1 + 1)), (by first | rfl | (simp; done) | (simp [*]; done)), H', ⟨by have := HK1.out; omega⟩, ⟨sqR HO248⟩, ⟨sqK BK239⟩, ⟨sqB⟩⟩
        ·rw [if_neg c12] at H
         exact absurd H (by simp)
       ·replace c11 := Bool.eq_false_iff.mpr c11
        subst c11
        have H1 : (impl_whoOf.l0 k1 x5_1 l0 (l0.length : Int) (wrap64 (x11_1 + 1)) a1_0 a1_1) = some r := by rw [if_neg (show ¬ (false = true) by decide)] at H; exact H
        clear H
        have H := H1
        clear H1
        have H' := Aside0.mk H
        clear H
        have p243 : 0 ≤ (x11_1 : Int) := sqD
        have q243 : x11_1 < (l0.length : Int) := sqD
        obtain ⟨ad243, e243, hx243_0, hx243_1, hx243_2⟩ := at_T36 HR0.out x11_1 p243 q243
        cases e243
        replace hx243_0 := sqH HB hx243_0
        replace hx243_1 := sqH HB hx243_1
        replace hx243_2 := sqH HB hx243_2
        replace p243 := eq_true p243
        replace q243 := eq_true q243
        go_wp2_with (first | ((with_reducible refine gate_dst (N := 7) rfl ?_); refine sqX (N := 7) (cs := #[.int .i64 0, .int .i64 0, .int .i64 0]) (t := 36) ?_; intro gb244 hg w19 hbox hb; have n0_ := Aside0.mk (Kd.R_below (sqR HO_5) hb); have n1_ := sqL BK239 hb; have n2_ := sqS hb; have n3_ := Aside0.mk (hbox); have n4_ := sqG hg; have n5_ := sqG hg; have n6_ := sqN BK239 hg; have n7_ := sqM BK239 hg; clear HO_5; clear BK239; clear HB; have HO_5 := n0_; have BK239 := n1_; have HB := n2_; have BK244 := n3_; have GW244 := n4_; have GE244 := n5_; have NB239_244 := n6_; have NB244_239 := n7_; clear n0_ n1_ n2_ n3_ n4_ n5_ n6_ n7_; clear hb hbox hg; have hnb20 := NB244_239.out; have hnc20 := NB239_244.out; obtain ⟨hcz21_0, hcz21_1, hcz21_2, hfz21_0, hfz21_1, hfz21_2⟩ := sqC3 BK244; obtain ⟨hcz22_0, hcz22_1, hfz22_0, hfz22_1⟩ := sqC2 BK239) | (go_at_call 82; (with_reducible refine (impl_factOk.calls ((rd_T36 l0 x11_1).f0.f0) ((rd_T36 l0 x11_1).f0.f1) ((rd_T36 l0 x11_1).f1) false _ A10.out).mono ?_); rintro e w23 ⟨rfl, hb⟩; have n0_ := Aside0.mk (Kd.R_below (by (with_reducible repeat (first | apply Kd.R_alloc | apply Kd.R_drewN | apply Kd.R_drew)); exact (Kd.R_mono (Kd.R_far (p := ⟨gb244, 2, none⟩) (Kd.R_far (p := ⟨gb244, 1, none⟩) (Kd.R_far (p := ⟨gb244, 0, none⟩) (Kd.R_types HO_5.out BK244.out (by decide)) (fun _ hk => hk.2) (.int .i64 ((rd_T36 l0 x11_1).f0.f0))) (fun _ hk => hk.2) (.int .i64 ((rd_T36 l0 x11_1).f0.f1))) (fun _ hk => hk.2) (.int .i64 ((rd_T36 l0 x11_1).f1))) (fun _ h_ => h_.1))) hb); have n1_ := Aside0.mk (blk_below (g := gb239) (o := .cells #[.int .i64 a1_0, .int .i64 a1_1] 27 (0, 0)) (by (with_reducible repeat (first | refine blk_drewN ?_ _ | refine blk_drew ?_ | refine blk_alloc ?_ _)); refine blk_far ?_ NB239_244.out _; (with_reducible repeat (first | refine blk_drewN ?_ _ | refine blk_drew ?_ | refine blk_alloc ?_ _)); refine blk_far ?_ NB239_244.out _; (with_reducible repeat (first | refine blk_drewN ?_ _ | refine blk_drew ?_ | refine blk_alloc ?_ _)); refine blk_far ?_ NB239_244.out _; (with_reducible repeat (first | refine blk_drewN ?_ _ | refine blk_drew ?_ | refine blk_alloc ?_ _)); exact BK239.out) hb); have n2_ := Aside0.mk (blk_below (g := gb244) (o := .cells #[.int .i64 ((rd_T36 l0 x11_1).f0.f0), .int .i64 ((rd_T36 l0 x11_1).f0.f1), .int .i64 ((rd_T36 l0 x11_1).f1)] 36 (0, 0)) (by (with_reducible repeat (first | refine blk_drewN ?_ _ | refine blk_drew ?_ | refine blk_alloc ?_ _)); refine blk_put (cs := #[.int .i64 ((rd_T36 l0 x11_1).f0.f0), .int .i64 ((rd_T36 l0 x11_1).f0.f1), .int .i64 0]) ?_ 2 _ rfl; (with_reducible repeat (first | refine blk_drewN ?_ _ | refine blk_drew ?_ | refine blk_alloc ?_ _)); refine blk_put (cs := #[.int .i64 ((rd_T36 l0 x11_1).f0.f0), .int .i64 0, .int .i64 0]) ?_ 1 _ rfl; (with_reducible repeat (first | refine blk_drewN ?_ _ | refine blk_drew ?_ | refine blk_alloc ?_ _)); refine blk_put (cs := #[.int .i64 0, .int .i64 0, .int .i64 0]) ?_ 0 _ rfl; (with_reducible repeat (first | refine blk_drewN ?_ _ | refine blk_drew ?_ | refine blk_alloc ?_ _)); exact BK244.out) hb); have n3_ := sqS hb; clear HO_5; clear BK239; clear BK244; clear HB; have HO_5 := n0_; have BK239 := n1_; have BK244 := n2_; have HB := n3_; clear n0_ n1_ n2_ n3_; (try clear hb); (try clear hb2); (try clear hk); (try clear hi)))
        go_roundg k1
        case measure => have := HK1.out; omega
        case rel => exact ⟨(x5_1), (wrap64 (x11_1 + 1)), (by first | rfl | (simp; done) | (simp [*]; done)), H', ⟨by have := HK1.out; omega⟩, ⟨sqR HO_5⟩, ⟨sqK BK239⟩, ⟨sqB⟩⟩
      ·rw [if_neg c9] at H
       have c9b0 : (((rd_T36 l0 x11_1).f0.f0) == a1_0 && (((rd_T36 l0 x11_1).f0.f1) == a1_1)) = false := by simpa using c9
       (try (have c9b1 : decide (((rd_T36 l0 x11_1).f0.f0) = a1_0 && (((rd_T36 l0 x11_1).f0.f1) == a1_1)) = false := by simpa using c9))
       (try (have c9b2 : (((rd_T36 l0 x11_1).f0.f0) == a1_0 && (((rd_T36 l0 x11_1).f0.f1) == a1_1)) = false := by simpa using c9))
       (try (have c9b3 : ¬ (((rd_T36 l0 x11_1).f0.f0) = a1_0 && (((rd_T36 l0 x11_1).f0.f1) == a1_1)) := by simpa using c9))
       clear c9
       have H' := Aside0.mk H
       clear H
       have p243 : 0 ≤ (x11_1 : Int) := sqD
       have q243 : x11_1 < (l0.length : Int) := sqD
       obtain ⟨ad243, e243, hx243_0, hx243_1, hx243_2⟩ := at_T36 HR0.out x11_1 p243 q243
       cases e243
       replace hx243_0 := sqH HB hx243_0
       replace hx243_1 := sqH HB hx243_1
       replace hx243_2 := sqH HB hx243_2
       replace p243 := eq_true p243
       replace q243 := eq_true q243
       go_wp2_with (first | ((with_reducible refine gate_dst (N := 7) rfl ?_); refine sqX (N := 7) (cs := #[.int .i64 0, .int .i64 0, .int .i64 0]) (t := 36) ?_; intro gb244 hg w24 hbox hb; have n0_ := Aside0.mk (Kd.R_below (sqR HO_5) hb); have n1_ := sqL BK239 hb; have n2_ := sqS hb; have n3_ := Aside0.mk (hbox); have n4_ := sqG hg; have n5_ := sqG hg; have n6_ := sqN BK239 hg; have n7_ := sqM BK239 hg; clear HO_5; clear BK239; clear HB; have HO_5 := n0_; have BK239 := n1_; have HB := n2_; have BK244 := n3_; have GW244 := n4_; have GE244 := n5_; have NB239_244 := n6_; have NB244_239 := n7_; clear n0_ n1_ n2_ n3_ n4_ n5_ n6_ n7_; clear hb hbox hg; have hnb25 := NB244_239.out; have hnc25 := NB239_244.out; obtain ⟨hcz26_0, hcz26_1, hcz26_2, hfz26_0, hfz26_1, hfz26_2⟩ := sqC3 BK244; obtain ⟨hcz27_0, hcz27_1, hfz27_0, hfz27_1⟩ := sqC2 BK239))
       go_roundg k1
       case measure => have := HK1.out; omega
       case rel => exact ⟨(x5_1), (wrap64 (x11_1 + 1)), (by first | rfl | (simp; done) | (simp [*]; done)), H', ⟨by have := HK1.out; omega⟩, ⟨by (with_reducible repeat (first | apply Kd.R_alloc | apply Kd.R_drewN | apply Kd.R_drew)); exact Kd.R_mono (Kd.R_far (p := ⟨gb244, 2, none⟩) (Kd.R_far (p := ⟨gb244, 1, none⟩) (Kd.R_far (p := ⟨gb244, 0, none⟩) (Kd.R_types HO_5.out BK244.out (by decide)) (fun _ hk => hk.2) (.int .i64 ((rd_T36 l0 x11_1).f0.f0))) (fun _ hk => hk.2) (.int .i64 ((rd_T36 l0 x11_1).f0.f1))) (fun _ hk => hk.2) (.int .i64 ((rd_T36 l0 x11_1).f1))) (fun _ hk => trivial)⟩, ⟨by (with_reducible repeat (first | refine blk_drewN ?_ _ | refine blk_drew ?_ | refine blk_alloc ?_ _)); refine blk_far ?_ NB239_244.out _; (with_reducible repeat (first | refine blk_drewN ?_ _ | refine blk_drew ?_ | refine blk_alloc ?_ _)); refine blk_far ?_ NB239_244.out _; (with_reducible repeat (first | refine blk_drewN ?_ _ | refine blk_drew ?_ | refine blk_alloc ?_ _)); refine blk_far ?_ NB239_244.out _; (with_reducible repeat (first | refine blk_drewN ?_ _ | refine blk_drew ?_ | refine blk_alloc ?_ _)); exact BK239.out⟩, ⟨sqB⟩⟩
     ·rw [if_neg c8] at H
      exact absurd H (by simp)
    ·rw [if_neg c7] at H
     exact absurd H (by simp)
   ·rw [if_neg c6] at H
    have c6b0 : decide (x11_1 < (l0.length : Int)) = false := decide_eq_false c6
    clear c6
    obtain rfl := Option.some.inj H
    go_wp2
    go_ret
    exact ⟨_, sqE, sqR HO_5, sqB⟩

/-! ### impl_Fact_74: function 74 -/
def impl_Fact_74.l0 : Nat → List (S36) → Int → Int → Int → Int → Int → Option (Int)
 | 0, _, _, _, _, _, _ => none
 | k + 1, x0, x7, x8, x250000, x250001, x250002 => if x8 < x7 then (if 0 ≤ x8 then (if x8 < (x0.length : Int) then (if ((x250000 == ((rd_T36 x0 x8).f0.f0) && (x250001 == ((rd_T36 x0 x8).f0.f1))) && (x250002 == ((rd_T36 x0 x8).f1))) = true then (some x8) else (impl_Fact_74.l0 k x0 x7 (wrap64 (x8 + 1)) x250000 x250001 x250002)) else (none)) else (none)) else (some (-1))
def impl_Fact_74.f (k : Nat) (l0 : List (S36)) (a1_0 : Int) (a1_1 : Int) (a1_2 : Int) : Option (Int) := impl_Fact_74.l0 k l0 (l0.length : Int) 0 a1_0 a1_1 a1_2
theorem impl_Fact_74.mono_l : ∀ k, (∀ y0 y1 y2 y3 y4 y5, LeO (impl_Fact_74.l0 k y0 y1 y2 y3 y4 y5) (impl_Fact_74.l0 (k + 1) y0 y1 y2 y3 y4 y5))
 | 0 => fun _ _ _ _ _ _ r h => by simp [impl_Fact_74.l0] at h
 | k + 1 => by
  have ih0 := impl_Fact_74.mono_l k
  ·intro y0 y1 y2 y3 y4 y5
   unfold impl_Fact_74.l0
   repeat' first
   | (with_reducible exact ih0 _ _ _ _ _ _)
   | (with_reducible exact LeO.refl _)
   | (with_reducible exact LeO.none _)
   | (with_reducible refine LeO.ite ?_ ?_)
   | (with_reducible refine LeO.bind ?_ (fun _ => ?_))
   | exact ih0 _ _ _ _ _ _
   | exact LeO.none _
   | refine LeO.ite ?_ ?_
   | refine LeO.bind ?_ (fun _ => ?_)
theorem impl_Fact_74.mono : ∀ a0 a1 a2 a3 k, LeO (impl_Fact_74.f k a0 a1 a2 a3) (impl_Fact_74.f (k + 1) a0 a1 a2 a3) := by
 intro a0 a1 a2 a3 k
 have ih0 := impl_Fact_74.mono_l k
 unfold impl_Fact_74.f
 repeat' first
   | (with_reducible exact ih0 _ _ _ _ _ _)
   | (with_reducible exact LeO.refl _)
   | (with_reducible exact LeO.none _)
   | (with_reducible refine LeO.ite ?_ ?_)
   | (with_reducible refine LeO.bind ?_ (fun _ => ?_))
   | exact ih0 _ _ _ _ _ _
   | exact LeO.none _
   | refine LeO.ite ?_ ?_
   | refine LeO.bind ?_ (fun _ => ?_)
set_option maxHeartbeats 8000000 in
set_option maxRecDepth 100000 in
theorem impl_Fact_74.calls (k : Nat) (A0 : Option Addr) (c0 : Nat) (l0 : List (S36)) (a1_0 : Int) (a1_1 : Int) (a1_2 : Int) (r : Int) (w : World) (hr0 : Kd.C k36 w A0 l0.length l0) (hc0 : l0.length ≤ c0) (h : impl_Fact_74.f k l0 a1_0 a1_1 a1_2 = some r) :
  Calls Try.prog 74 #[.slice A0 l0.length c0, .agg #[.int .i64 a1_0, .int .i64 a1_1, .int .i64 a1_2]] w fun e w' => e = .returned (.int .i64 r) ∧ Below w.heap.size w w' := by
 have hu36 := Try.underlying36
 have HR0 := Aside0.mk hr0
 have HC0 := Aside0.mk hc0
 clear hr0 hc0
 have HB := Aside0.mk (Below.refl w.heap.size w)
 have H : (impl_Fact_74.l0 k l0 (l0.length : Int) 0 a1_0 a1_1 a1_2) = some r := h
 clear h
 have H' := Aside0.mk H
 clear H
 go_enter Try.func74, Try.ntmps74
 go_wp2_with (first | ((with_reducible refine gate_dst (N := 3) rfl ?_); refine sqX (N := 3) (cs := #[.int .i64 a1_0, .int .i64 a1_1, .int .i64 a1_2]) (t := 36) ?_; intro gb249 hg w3 hbox hb; have BK249 := Aside0.mk (hbox); have GW249 := sqG hg; have GE249 := sqG hg; replace HB := sqS hb; clear hb hbox hg))
 repeat (go_quiet (first | ((with_reducible refine gate_dst (N := 3) rfl ?_); refine sqX (N := 3) (cs := #[.int .i64 a1_0, .int .i64 a1_1, .int .i64 a1_2]) (t := 36) ?_; intro gb249 hg w3 hbox hb; have BK249 := Aside0.mk (hbox); have GW249 := sqG hg; have GE249 := sqG hg; replace HB := sqS hb; clear hb hbox hg)); try go_wp2_with (first | ((with_reducible refine gate_dst (N := 3) rfl ?_); refine sqX (N := 3) (cs := #[.int .i64 a1_0, .int .i64 a1_1, .int .i64 a1_2]) (t := 36) ?_; intro gb249 hg w3 hbox hb; have BK249 := Aside0.mk (hbox); have GW249 := sqG hg; have GE249 := sqG hg; replace HB := sqS hb; clear hb hbox hg)))
 go_loopg [8] k (fun kq v8 w' => ∃ (x8_1 : Int), v8 = .int .i64 x8_1 ∧ Aside0 (impl_Fact_74.l0 kq l0 (l0.length : Int) x8_1 a1_0 a1_1 a1_2 = some r) ∧ Aside0 (kq ≤ k) ∧ Aside0 (w'.heap[gb249]? = some (.cells #[.int .i64 a1_0, .int .i64 a1_1, .int .i64 a1_2] 36 (0, 0))) ∧ Aside0 (Below w.heap.size w w'))
 case atStart => exact ⟨(0), (by first | rfl | (simp; done) | (simp [*]; done)), H', ⟨Nat.le_refl _⟩, ⟨sqK BK249⟩, ⟨sqB⟩⟩
 case round =>
  clear H'
  try clear p2
  obtain ⟨x8_1, rfl, HA, HK1, BK249, HB⟩ := hrel
  cases gk with
  | zero => exact absurd HA.out (by simp [impl_Fact_74.l0])
  | succ k1 =>
   have H := HA.out
   clear HA
   simp only [impl_Fact_74.l0] at H
   by_cases c4 : x8_1 < (l0.length : Int)
   ·rw [if_pos c4] at H
    have c4b0 : decide (x8_1 < (l0.length : Int)) = true := decide_eq_true c4
    clear c4
    by_cases c5 : 0 ≤ x8_1
    ·rw [if_pos c5] at H
     have c5b0 : decide (0 ≤ x8_1) = true := decide_eq_true c5
     clear c5
     by_cases c6 : x8_1 < (l0.length : Int)
     ·rw [if_pos c6] at H
      have c6b0 : decide (x8_1 < (l0.length : Int)) = true := decide_eq_true c6
      clear c6
      by_cases c7 : ((a1_0 == ((rd_T36 l0 x8_1).f0.f0) && (a1_1 == ((rd_T36 l0 x8_1).f0.f1))) && (a1_2 == ((rd_T36 l0 x8_1).f1))) = true
      ·rw [if_pos c7] at H
       have c7b0 : ((a1_0 == ((rd_T36 l0 x8_1).f0.f0) && (a1_1 == ((rd_T36 l0 x8_1).f0.f1))) && (a1_2 == ((rd_T36 l0 x8_1).f1))) = true := c7
       clear c7
       obtain rfl := Option.some.inj H
       obtain ⟨hcz8_0, hcz8_1, hcz8_2, hfz8_0, hfz8_1, hfz8_2⟩ := sqC3 BK249
       have p250 : 0 ≤ (x8_1 : Int) := sqD
       have q250 : x8_1 < (l0.length : Int) := sqD
       obtain ⟨ad250, e250, hx250_0, hx250_1, hx250_2⟩ := at_T36 HR0.out x8_1 p250 q250
       cases e250
       replace hx250_0 := sqH HB hx250_0
       replace hx250_1 := sqH HB hx250_1
       replace hx250_2 := sqH HB hx250_2
       replace p250 := eq_true p250
       replace q250 := eq_true q250
       go_wp2
       repeat (go_quiet (fail); try go_wp2)
       go_ret
       exact ⟨sqE, sqB⟩
      ·rw [if_neg c7] at H
       have c7b0 : ((a1_0 == ((rd_T36 l0 x8_1).f0.f0) && (a1_1 == ((rd_T36 l0 x8_1).f0.f1))) && (a1_2 == ((rd_T36 l0 x8_1).f1))) = false := by simpa using c7
       clear c7
       have H' := Aside0.mk H
       clear H
       obtain ⟨hcz9_0, hcz9_1, hcz9_2, hfz9_0, hfz9_1, hfz9_2⟩ := sqC3 BK249
       have p250 : 0 ≤ (x8_1 : Int) := sqD
       have q250 : x8_1 < (l0.length : Int) := sqD
       obtain ⟨ad250, e250, hx250_0, hx250_1, hx250_2⟩ := at_T36 HR0.out x8_1 p250 q250
       cases e250
       replace hx250_0 := sqH HB hx250_0
       replace hx250_1 := sqH HB hx250_1
       replace hx250_2 := sqH HB hx250_2
       replace p250 := eq_true p250
       replace q250 := eq_true q250
       go_wp2
       repeat (go_quiet (fail); try go_wp2)
       go_roundg k1
       case measure => have := HK1.out; omega
       case rel => exact ⟨(wrap64 (x8_1 + 1)), (by first | rfl | (simp; done) | (simp [*]; done)), H', ⟨by have := HK1.out; omega⟩, ⟨sqK BK249⟩, ⟨sqB⟩⟩
     ·rw [if_neg c6] at H
      exact absurd H (by simp)
    ·rw [if_neg c5] at H
     exact absurd H (by simp)
   ·rw [if_neg c4] at H
    have c4b0 : decide (x8_1 < (l0.length : Int)) = false := decide_eq_false c4
    clear c4
    obtain rfl := Option.some.inj H
    go_wp2
    repeat (go_quiet (fail); try go_wp2)
    go_ret
    exact ⟨sqE, sqB⟩

/-! ### impl_derive: function 51 -/
def impl_derive.who (k : Nat) (l0 : List S36) (x y : Int) : Option (List Int) := (impl_whoOf.f k l0 x y).bind fun p => if p.length ≤ 1000000000 then some p else none
def impl_derive.mk (d : Go.Proofs.Ytnebbjcgkoaloaa.Derive.DV) : S78 := ⟨⟨⟨d.1, d.2.1⟩, d.2.2.1⟩, d.2.2.2⟩
def impl_derive.f (k : Nat) (l0 : List S36) (a1_0 a1_1 a1_2 a1_3 a1_4 a1_5 a1_6 a1_7 a1_8 a1_9 : Int) : Option (List S78) :=
 (Go.Proofs.Ytnebbjcgkoaloaa.Derive.deriveL l0.length (impl_derive.who k l0) (fun x y z => impl_Fact_74.f k l0 x y z) (fun i => (rd_T36 l0 i).f1) a1_0 a1_1 a1_2 a1_3 a1_4 a1_5 a1_6 a1_7).bind fun r => if r.length ≤ 4000000 then some (r.map impl_derive.mk) else none
theorem impl_derive.who_mono (k : Nat) (l0 : List S36) (x y : Int) (p : List Int) (h : impl_derive.who k l0 x y = some p) : impl_derive.who (k + 1) l0 x y = some p := by
 unfold impl_derive.who at h ⊢
 obtain ⟨q, hq, h⟩ := Option.bind_eq_some_iff.1 h
 rw [impl_whoOf.mono _ _ _ k q hq]
 exact h
theorem impl_derive.mono : ∀ a0 a1 a2 a3 a4 a5 a6 a7 a8 a9 a10 k, LeO (impl_derive.f k a0 a1 a2 a3 a4 a5 a6 a7 a8 a9 a10) (impl_derive.f (k + 1) a0 a1 a2 a3 a4 a5 a6 a7 a8 a9 a10) := by
 intro a0 a1 a2 a3 a4 a5 a6 a7 a8 a9 a10 k r h
 unfold impl_derive.f at h ⊢
 obtain ⟨q, hq, h⟩ := Option.bind_eq_some_iff.1 h
 rw [Go.Proofs.Ytnebbjcgkoaloaa.Derive.deriveL_mono (fun x y p hp => impl_derive.who_mono k a0 x y p hp) (fun x y z j hj => impl_Fact_74.mono a0 x y z k j hj) hq]
 exact h
theorem impl_derive.calls (k : Nat) (A0 : Option Addr) (c0 : Nat) (l0 : List S36) (a1_0 a1_1 a1_2 a1_3 a1_4 a1_5 a1_6 a1_7 a1_8 a1_9 : Int) (r : List S78) (w : World) (hr0 : Kd.C k36 w A0 l0.length l0) (hc0 : l0.length ≤ c0) (h : impl_derive.f k l0 a1_0 a1_1 a1_2 a1_3 a1_4 a1_5 a1_6 a1_7 a1_8 a1_9 = some r) :
  Calls Try.prog 51 #[.slice A0 l0.length c0, .agg #[.int .i64 a1_0, .int .i64 a1_1, .int .i64 a1_2, .int .i64 a1_3, .int .i64 a1_4, .int .i64 a1_5, .int .i64 a1_6, .int .i64 a1_7, .int .i64 a1_8, .int .i64 a1_9]] w fun e w' => ∃ v0_ : Value, e = .returned (v0_) ∧ Kd.N k78 78 w' w.heap.size (fun k_ => (w.heap.size ≤ k_)) v0_ r ∧ Below w.heap.size w w' := by
 unfold impl_derive.f at h
 obtain ⟨q, hq, h⟩ := Option.bind_eq_some_iff.1 h
 by_cases c : q.length ≤ 4000000
 ·rw [if_pos c] at h
  obtain rfl := Option.some.inj h
  refine (Go.Proofs.Ytnebbjcgkoaloaa.Derive.derive_calls A0 l0.length c0 (impl_derive.who k l0) _ _ a1_0 a1_1 a1_2 a1_3 a1_4 a1_5 a1_6 a1_7 a1_8 a1_9 q c w (fun x y p hp W hb => ?_) (fun x y z j hj W hb => ?_) (fun W hb i h0 h1 => ?_) (fun x y p hp => ?_) hq).mono ?_
  ·unfold impl_derive.who at hp
   obtain ⟨p', hp', hp⟩ := Option.bind_eq_some_iff.1 hp
   by_cases c2 : p'.length ≤ 1000000000
   ·rw [if_pos c2] at hp
    obtain rfl := Option.some.inj hp
    exact impl_whoOf.calls k A0 c0 l0 x y p' W (Kd.C_below hr0 hb) hc0 hp'
   ·rw [if_neg c2] at hp
    cases hp
  ·exact impl_Fact_74.calls k A0 c0 l0 x y z j W (Kd.C_below hr0 hb) hc0 hj
  ·obtain ⟨ad, e, _, _, h3⟩ := at_T36 (Kd.C_below hr0 hb) i h0 h1
   exact ⟨ad, e, h3⟩
  ·unfold impl_derive.who at hp
   obtain ⟨p', _, hp⟩ := Option.bind_eq_some_iff.1 hp
   by_cases c2 : p'.length ≤ 1000000000
   ·rw [if_pos c2] at hp
    obtain rfl := Option.some.inj hp
    exact c2
   ·rw [if_neg c2] at hp
    cases hp
  ·rintro e w' ⟨v, rfl, hR, hb⟩
   refine ⟨v, rfl, Kd.R_N (Go.Proofs.Ytnebbjcgkoaloaa.Derive.R_map impl_derive.mk rfl ?_ hR), hb⟩
   rintro w base ok ⟨x1, x2, x3, x4⟩ cs ⟨_, _, rfl, rfl, _, _, rfl, rfl, _, _, rfl, rfl, v, rfl, hh⟩
   exact k78_mkM w base ok (impl_derive.mk (x1, x2, x3, x4)) hh
 ·rw [if_neg c] at h
  exact absurd h (by simp)

/-! ### impl_Fact_52: function 52 -/
def impl_Fact_52.f (k : Nat) (l0 : List (S36)) (a1_0 : Int) (a1_1 : Int) (a1_2 : Int) : Option (Bool) := (impl_Fact_74.f k l0 a1_0 a1_1 a1_2).bind fun t252 => (some (decide (t252 ≥ 0)))
theorem impl_Fact_52.mono : ∀ a0 a1 a2 a3 k, LeO (impl_Fact_52.f k a0 a1 a2 a3) (impl_Fact_52.f (k + 1) a0 a1 a2 a3) := by
 intro a0 a1 a2 a3 k
 unfold impl_Fact_52.f
 repeat' first
   | (with_reducible exact impl_Fact_74.mono _ _ _ _ _)
   | (with_reducible exact LeO.refl _)
   | (with_reducible exact LeO.none _)
   | (with_reducible refine LeO.ite ?_ ?_)
   | (with_reducible refine LeO.bind ?_ (fun _ => ?_))
   | exact impl_Fact_74.mono _ _ _ _ _
   | exact LeO.none _
   | refine LeO.ite ?_ ?_
   | refine LeO.bind ?_ (fun _ => ?_)
set_option maxHeartbeats 8000000 in
set_option maxRecDepth 100000 in
theorem impl_Fact_52.calls (k : Nat) (A0 : Option Addr) (c0 : Nat) (l0 : List (S36)) (a1_0 : Int) (a1_1 : Int) (a1_2 : Int) (r : Bool) (w : World) (hr0 : Kd.C k36 w A0 l0.length l0) (hc0 : l0.length ≤ c0) (h : impl_Fact_52.f k l0 a1_0 a1_1 a1_2 = some r) :
  Calls Try.prog 52 #[.slice A0 l0.length c0, .agg #[.int .i64 a1_0, .int .i64 a1_1, .int .i64 a1_2]] w fun e w' => e = .returned (.bool r) ∧ Below w.heap.size w w' := by
 have hu36 := Try.underlying36
 have HR0 := Aside0.mk hr0
 have HC0 := Aside0.mk hc0
 clear hr0 hc0
 have HB := Aside0.mk (Below.refl w.heap.size w)
 have H : ((impl_Fact_74.f k l0 a1_0 a1_1 a1_2).bind fun t252 => (some (decide (t252 ≥ 0)))) = some r := h
 clear h
 replace H := Option.bind_eq_some_iff.mp H
 obtain ⟨t252, A30, H⟩ := H
 replace H : (some (decide (t252 ≥ 0))) = some r := H
 have A3 := Aside0.mk A30
 clear A30
 obtain rfl := Option.some.inj H
 go_enter Try.func52, Try.ntmps52
 go_wp2_with (first | ((with_reducible refine gate_dst (N := 3) rfl ?_); refine sqX (N := 3) (cs := #[.int .i64 a1_0, .int .i64 a1_1, .int .i64 a1_2]) (t := 36) ?_; intro gb251 hg w4 hbox hb; have BK251 := Aside0.mk (hbox); have GW251 := sqG hg; have GE251 := sqG hg; replace HB := sqS hb; clear hb hbox hg; obtain ⟨hcz5_0, hcz5_1, hcz5_2, hfz5_0, hfz5_1, hfz5_2⟩ := sqC3 BK251) | ((with_reducible refine gate_callee (f := 74) rfl ?_); refine goesL_ (some 7) rfl rfl Try.func74 (by kernel_rfl) rfl #[.slice A0 l0.length c0, .agg #[.int .i64 a1_0, .int .i64 a1_1, .int .i64 a1_2]] rfl sqA ?_; (with_reducible refine (impl_Fact_74.calls k _ _ l0 a1_0 a1_1 a1_2 t252 _ ?side1 ?side2 A3.out).mono ?_); (case side1 => repeat (first | exact (Kd.C_below HR0.out HB.out) | (with_reducible refine Kd.C_alloc ?_ _) | (with_reducible refine Kd.C_drewN ?_ _) | (with_reducible refine Kd.C_drew ?_))); (case side2 => exact HC0.out); rintro e w6 ⟨rfl, hb⟩; refine ⟨_, rfl, ?_⟩; replace BK251 := sqL BK251 hb; replace HB := sqS hb; (try clear hb); (try clear hb2); (try clear hk); (try clear hi)))
 go_ret
 exact ⟨sqE, sqB⟩

end Go.Proofs.Ytnebbjcgkoaloaa.PFnMembers
