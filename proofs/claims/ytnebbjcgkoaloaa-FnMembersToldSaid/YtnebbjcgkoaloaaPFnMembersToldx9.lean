/- What the code that one law of the given program reaches computes, function by function, each with its proof over the given translation.
Conditions: none of our own. (Laid by a program of this session, wip/xp/xp.py; some contracts are typed by hand.) -/
import Derived.Test.YtnebbjcgkoaloaaPFnMembersToldx0
import Derived.Test.YtnebbjcgkoaloaaPFnMembersToldx4
import Derived.Test.YtnebbjcgkoaloaaPFnMembersToldx5
import Derived.Test.YtnebbjcgkoaloaaPFnMembersToldx6
import Derived.Test.YtnebbjcgkoaloaaPFnMembersToldx8
namespace Go.Proofs.Ytnebbjcgkoaloaa.PFnMembersTold
open Go.RowKit Go.Proofs.YtnebbjcgkoaloaaW.PrintWords Go.Proofs.YtnebbjcgkoaloaaW.PrintLast Go.Proofs.YtnebbjcgkoaloaaW.PrintMore
attribute [local go_sem] max2_int min2_int max_two min_two max_three min_three max_four min_four   -- for this text's walks alone
set_option linter.unusedVariables false
set_option linter.unusedSimpArgs false

/-! ### spec_FactsOf: function 14 -/
mutual
def spec_FactsOf.l0 : Nat → List (S29) → List (S36) → Bool → Option ((List (S36)))
 | 0, _, _, _ => none
 | k + 1, x0, x3, x4 => if x4 = true then (spec_FactsOf.l1 k x0 x3 false 0) else (some x3)
def spec_FactsOf.l1 : Nat → List (S29) → List (S36) → Bool → Int → Option ((List (S36)))
 | 0, _, _, _, _ => none
 | k + 1, x0, x3, x4, x5 => if x5 < (x0.length : Int) then (if 0 ≤ x5 then ((spec_Follows.f k x3 ((rd_T29 x0 x5).f0) ((rd_T29 x0 x5).f1.f0) ((rd_T29 x0 x5).f1.f1) ((rd_T29 x0 x5).f2) ((rd_T29 x0 x5).f3.f0) ((rd_T29 x0 x5).f3.f1) ((rd_T29 x0 x5).f4.f0) ((rd_T29 x0 x5).f4.f1) ((rd_T29 x0 x5).f5) ((rd_T29 x0 x5).f6)).bind fun t223 => (if (t223.length : Int) > (x3.length : Int) then (spec_FactsOf.l1 k x0 t223 true (wrap64 (x5 + 1))) else (spec_FactsOf.l1 k x0 t223 x4 (wrap64 (x5 + 1))))) else (none)) else (spec_FactsOf.l0 k x0 x3 x4)
end
def spec_FactsOf.f (k : Nat) (l0 : List (S29)) : Option ((List (S36))) := spec_FactsOf.l0 k l0 (([] : List (S36))) true
theorem spec_FactsOf.mono_l : ∀ k, (∀ y0 y1 y2, LeO (spec_FactsOf.l0 k y0 y1 y2) (spec_FactsOf.l0 (k + 1) y0 y1 y2)) ∧ (∀ y0 y1 y2 y3, LeO (spec_FactsOf.l1 k y0 y1 y2 y3) (spec_FactsOf.l1 (k + 1) y0 y1 y2 y3))
 | 0 => ⟨fun _ _ _ r h => by simp [spec_FactsOf.l0] at h, fun _ _ _ _ r h => by simp [spec_FactsOf.l1] at h⟩
 | k + 1 => by
  obtain ⟨ih0, ih1⟩ := spec_FactsOf.mono_l k
  refine ⟨?_, ?_⟩
  ·intro y0 y1 y2
   unfold spec_FactsOf.l0
   repeat' first
   | (with_reducible exact ih0 _ _ _)
   | (with_reducible exact ih1 _ _ _ _)
   | (with_reducible exact spec_Follows.mono _ _ _ _ _ _ _ _ _ _ _ _)
   | (with_reducible exact LeO.refl _)
   | (with_reducible exact LeO.none _)
   | (with_reducible refine LeO.ite ?_ ?_)
   | (with_reducible refine LeO.bind ?_ (fun _ => ?_))
   | exact ih0 _ _ _
   | exact ih1 _ _ _ _
   | exact spec_Follows.mono _ _ _ _ _ _ _ _ _ _ _ _
   | exact LeO.none _
   | refine LeO.ite ?_ ?_
   | refine LeO.bind ?_ (fun _ => ?_)
  ·intro y0 y1 y2 y3
   unfold spec_FactsOf.l1
   repeat' first
   | (with_reducible exact ih0 _ _ _)
   | (with_reducible exact ih1 _ _ _ _)
   | (with_reducible exact spec_Follows.mono _ _ _ _ _ _ _ _ _ _ _ _)
   | (with_reducible exact LeO.refl _)
   | (with_reducible exact LeO.none _)
   | (with_reducible refine LeO.ite ?_ ?_)
   | (with_reducible refine LeO.bind ?_ (fun _ => ?_))
   | exact ih0 _ _ _
   | exact ih1 _ _ _ _
   | exact spec_Follows.mono _ _ _ _ _ _ _ _ _ _ _ _
   | exact LeO.none _
   | refine LeO.ite ?_ ?_
   | refine LeO.bind ?_ (fun _ => ?_)
theorem spec_FactsOf.mono : ∀ a0 k, LeO (spec_FactsOf.f k a0) (spec_FactsOf.f (k + 1) a0) := by
 intro a0 k
 obtain ⟨ih0, ih1⟩ := spec_FactsOf.mono_l k
 unfold spec_FactsOf.f
 repeat' first
   | (with_reducible exact ih0 _ _ _)
   | (with_reducible exact ih1 _ _ _ _)
   | (with_reducible exact spec_Follows.mono _ _ _ _ _ _ _ _ _ _ _ _)
   | (with_reducible exact LeO.refl _)
   | (with_reducible exact LeO.none _)
   | (with_reducible refine LeO.ite ?_ ?_)
   | (with_reducible refine LeO.bind ?_ (fun _ => ?_))
   | exact ih0 _ _ _
   | exact ih1 _ _ _ _
   | exact spec_Follows.mono _ _ _ _ _ _ _ _ _ _ _ _
   | exact LeO.none _
   | refine LeO.ite ?_ ?_
   | refine LeO.bind ?_ (fun _ => ?_)
set_option maxHeartbeats 8000000 in
set_option maxRecDepth 100000 in
theorem spec_FactsOf.calls (k : Nat) (A0 : Option Addr) (c0 : Nat) (l0 : List (S29)) (r : List (S36)) (w : World) (hr0 : Kd.C k29 w A0 l0.length l0) (hc0 : l0.length ≤ c0) (h : spec_FactsOf.f k l0 = some r) :
  Calls Try.prog 14 #[.slice A0 l0.length c0] w fun e w' => ∃ v0_ : Value, e = .returned (v0_) ∧ Kd.R k36 36 w' w.heap.size (fun _ => True) v0_ r ∧ Below w.heap.size w w' := by
 have hu29 := Try.underlying29
 have HR0 := Aside0.mk hr0
 have HC0 := Aside0.mk hc0
 clear hr0 hc0
 have HB := Aside0.mk (Below.refl w.heap.size w)
 have H : (spec_FactsOf.l0 k l0 (([] : List (S36))) true) = some r := h
 clear h
 obtain ⟨y219, hy219⟩ : ∃ y_ : List (S36), y_ = (([] : List (S36))) := ⟨_, rfl⟩
 replace H : (spec_FactsOf.l0 k l0 y219 true) = some r := by first | (rw [hy219]; with_reducible exact H) | (have H2_ := (Option.bind_some _ _).symm.trans H; rw [hy219]; with_reducible exact H2_) | (have H2_ := (Option.bind_some _ _).symm.trans H; with_reducible exact H2_) | with_reducible exact H | (rw [hy219]; exact H) | exact H
 have Ny219 := Aside0.mk hy219
 clear hy219
 have H' := Aside0.mk H
 clear H
 go_enter Try.func14, Try.ntmps14
 go_wp2_with (first | ((with_reducible refine gate_dst (N := 7) rfl ?_); refine Kd.R_lit k36 _ 36 ?hg (N := 7) ?hd (xs := ([] : List (S36))) (inner := []) (ok := fun _ => True) (okp := fun _ => True) ?hr ?hp (fun _ hk => hk) trivial (Below.refl _ _) (Nat.le_refl _) (by simp) ?_; (case hd => rfl); (case hg => rfl); (case hr => first | (go_simp; done) | (go_simp; rfl)); (case hp => exact (Reps.none _ _)); intro v220 w2 ho3 hb hg_ hnew_; clear hg_ hnew_; (first | rw [← Ny219.out] at ho3 | (simp only [Int.reduceToNat] at ho3; rw [← Ny219.out] at ho3)); have HO221 := Aside0.mk (Kd.R_lower ho3 (below_size (sqB))); replace HB := sqS hb; clear hb ho3))
 go_loopg [3, 4] k (fun kq v3 v4 w' => ∃ (x3_1 : List (S36)) (x4_1 : Bool), v4 = .bool x4_1 ∧ Aside0 (spec_FactsOf.l0 kq l0 x3_1 x4_1 = some r) ∧ Aside0 (kq ≤ k) ∧ Aside0 (Kd.R k36 36 w' w.heap.size (fun _ => True) v3 x3_1) ∧ Aside0 (Below w.heap.size w w'))
 case atStart => exact ⟨(y219), (true), (by first | rfl | (simp; done) | (simp [*]; done)), H', ⟨Nat.le_refl _⟩, ⟨sqR HO221⟩, ⟨sqB⟩⟩
 case round =>
  clear H'
  try clear c1
  try clear p2
  obtain ⟨x3_1, x4_1, rfl, HA, HK1, HO_3, HB⟩ := hrel
  cases gk with
  | zero => exact absurd HA.out (by simp [spec_FactsOf.l0])
  | succ k1 =>
   have H := HA.out
   clear HA
   simp only [spec_FactsOf.l0] at H
   by_cases c4 : x4_1 = true
   ·subst c4
    rw [if_pos rfl] at H
    have H' := Aside0.mk H
    clear H
    go_wp2
    go_loopg [3, 4, 5] k1 (fun kq v3 v4 v5 w' => ∃ (x3_2 : List (S36)) (x4_2 : Bool) (x5_2 : Int), v4 = .bool x4_2 ∧ v5 = .int .i64 x5_2 ∧ Aside0 (spec_FactsOf.l1 kq l0 x3_2 x4_2 x5_2 = some r) ∧ Aside0 (kq ≤ k1) ∧ Aside0 (Kd.R k36 36 w' w.heap.size (fun _ => True) v3 x3_2) ∧ Aside0 (Below w.heap.size w w'))
    case atStart => exact ⟨(x3_1), (false), (0), (by first | rfl | (simp; done) | (simp [*]; done)), (by first | rfl | (simp; done) | (simp [*]; done)), H', ⟨Nat.le_refl _⟩, ⟨sqR HO_3⟩, ⟨sqB⟩⟩
    case round =>
     clear H'
     try clear c1
     try clear p2
     try clear c4
     try clear p2
     obtain ⟨x3_2, x4_2, x5_2, rfl, rfl, HA, HK2, HO_3, HB⟩ := hrel
     cases gk with
     | zero => exact absurd HA.out (by simp [spec_FactsOf.l1])
     | succ k2 =>
      have H := HA.out
      clear HA
      simp only [spec_FactsOf.l1] at H
      by_cases c5 : x5_2 < (l0.length : Int)
      ·rw [if_pos c5] at H
       have c5b0 : decide (x5_2 < (l0.length : Int)) = true := decide_eq_true c5
       clear c5
       by_cases c6 : 0 ≤ x5_2
       ·rw [if_pos c6] at H
        have c6b0 : decide (0 ≤ x5_2) = true := decide_eq_true c6
        clear c6
        replace H := Option.bind_eq_some_iff.mp H
        obtain ⟨t223, A70, H⟩ := H
        try dsimp only at H
        have A7 := Aside0.mk A70
        clear A70
        by_cases c8 : (t223.length : Int) > (x3_2.length : Int)
        ·rw [if_pos c8] at H
         have c8b0 : decide ((x3_2.length : Int) < (t223.length : Int)) = true := decide_eq_true c8
         have c8b1 : decide (x3_2.length < t223.length) = true := decide_eq_true (Int.ofNat_lt.mp c8)
         clear c8
         have H' := Aside0.mk H
         clear H
         have p222 : 0 ≤ (x5_2 : Int) := sqD
         have q222 : x5_2 < (l0.length : Int) := sqD
         obtain ⟨ad222, e222, hx222_0, hx222_1, hx222_2, hx222_3, hx222_4, hx222_5, hx222_6, hx222_7, hx222_8, hx222_9⟩ := at_T29 HR0.out x5_2 p222 q222
         cases e222
         replace hx222_0 := sqH HB hx222_0
         replace hx222_1 := sqH HB hx222_1
         replace hx222_2 := sqH HB hx222_2
         replace hx222_3 := sqH HB hx222_3
         replace hx222_4 := sqH HB hx222_4
         replace hx222_5 := sqH HB hx222_5
         replace hx222_6 := sqH HB hx222_6
         replace hx222_7 := sqH HB hx222_7
         replace hx222_8 := sqH HB hx222_8
         replace hx222_9 := sqH HB hx222_9
         replace p222 := eq_true p222
         replace q222 := eq_true q222
         obtain ⟨Ao9, co9, eo9⟩ := Kd.R_slice HO_3.out
         subst eo9
         go_wp2_with (first | ((with_reducible refine gate_callee (f := 40) rfl ?_); refine goesL_ (some 20) rfl rfl Try.func40 (by kernel_rfl) rfl #[.slice Ao9 x3_2.length co9, .agg #[.int .i64 ((rd_T29 l0 x5_2).f0), .int .i64 ((rd_T29 l0 x5_2).f1.f0), .int .i64 ((rd_T29 l0 x5_2).f1.f1), .int .i64 ((rd_T29 l0 x5_2).f2), .int .i64 ((rd_T29 l0 x5_2).f3.f0), .int .i64 ((rd_T29 l0 x5_2).f3.f1), .int .i64 ((rd_T29 l0 x5_2).f4.f0), .int .i64 ((rd_T29 l0 x5_2).f4.f1), .int .i64 ((rd_T29 l0 x5_2).f5), .int .i64 ((rd_T29 l0 x5_2).f6)]] rfl sqA ?_; (with_reducible refine (spec_Follows.calls k2 _ _ x3_2 ((rd_T29 l0 x5_2).f0) ((rd_T29 l0 x5_2).f1.f0) ((rd_T29 l0 x5_2).f1.f1) ((rd_T29 l0 x5_2).f2) ((rd_T29 l0 x5_2).f3.f0) ((rd_T29 l0 x5_2).f3.f1) ((rd_T29 l0 x5_2).f4.f0) ((rd_T29 l0 x5_2).f4.f1) ((rd_T29 l0 x5_2).f5) ((rd_T29 l0 x5_2).f6) t223 _ ?side1 ?side2 A7.out).mono ?_); (case side1 => repeat (first | exact (Kd.R_reads' HO_3.out).2.2 | (with_reducible refine Kd.C_alloc ?_ _) | (with_reducible refine Kd.C_drewN ?_ _) | (with_reducible refine Kd.C_drew ?_))); (case side2 => exact (Kd.R_reads' HO_3.out).2.1); rintro e w10 ⟨v224, rfl, ho0, hb⟩; refine ⟨_, rfl, ?_⟩; have HO225 := Aside0.mk (Kd.R_lower (Kd.R_new' ho0 (Kd.R_lt (sqR HO_3))) (below_size (sqB))); replace HO_3 := Aside0.mk (Kd.R_elder' (sqR HO_3) (Kd.R_base ho0) hb); replace HB := sqS hb; (try clear hb); (try clear hb2); (try clear hk); (try clear hi); (try clear ho0); obtain ⟨Ao11, co11, eo11⟩ := Kd.R_slice HO225.out; subst eo11))
         go_roundg k2
         case measure => have := HK1.out; have := HK2.out; omega
         case rel => exact ⟨(t223), (true), (wrap64 (x5_2 + 1)), (by first | rfl | (simp; done) | (simp [*]; done)), (by first | rfl | (simp; done) | (simp [*]; done)), H', ⟨by have := HK1.out; have := HK2.out; omega⟩, ⟨by (with_reducible repeat (first | apply Kd.R_alloc | apply Kd.R_drewN | apply Kd.R_drew)); exact Kd.R_mono HO225.out (fun _ hk => trivial)⟩, ⟨sqB⟩⟩
        ·rw [if_neg c8] at H
         have c8b0 : decide ((x3_2.length : Int) < (t223.length : Int)) = false := decide_eq_false c8
         have c8b1 : decide (x3_2.length < t223.length) = false := decide_eq_false (fun h => c8 (Int.ofNat_lt.mpr h))
         clear c8
         have H' := Aside0.mk H
         clear H
         have p222 : 0 ≤ (x5_2 : Int) := sqD
         have q222 : x5_2 < (l0.length : Int) := sqD
         obtain ⟨ad222, e222, hx222_0, hx222_1, hx222_2, hx222_3, hx222_4, hx222_5, hx222_6, hx222_7, hx222_8, hx222_9⟩ := at_T29 HR0.out x5_2 p222 q222
         cases e222
         replace hx222_0 := sqH HB hx222_0
         replace hx222_1 := sqH HB hx222_1
         replace hx222_2 := sqH HB hx222_2
         replace hx222_3 := sqH HB hx222_3
         replace hx222_4 := sqH HB hx222_4
         replace hx222_5 := sqH HB hx222_5
         replace hx222_6 := sqH HB hx222_6
         replace hx222_7 := sqH HB hx222_7
         replace hx222_8 := sqH HB hx222_8
         replace hx222_9 := sqH HB hx222_9
         replace p222 := eq_true p222
         replace q222 := eq_true q222
         obtain ⟨Ao12, co12, eo12⟩ := Kd.R_slice HO_3.out
         subst eo12
         go_wp2_with (first | ((with_reducible refine gate_callee (f := 40) rfl ?_); refine goesL_ (some 20) rfl rfl Try.func40 (by kernel_rfl) rfl #[.slice Ao12 x3_2.length co12, .agg #[.int .i64 ((rd_T29 l0 x5_2).f0), .int .i64 ((rd_T29 l0 x5_2).f1.f0), .int .i64 ((rd_T29 l0 x5_2).f1.f1), .int .i64 ((rd_T29 l0 x5_2).f2), .int .i64 ((rd_T29 l0 x5_2).f3.f0), .int .i64 ((rd_T29 l0 x5_2).f3.f1), .int .i64 ((rd_T29 l0 x5_2).f4.f0), .int .i64 ((rd_T29 l0 x5_2).f4.f1), .int .i64 ((rd_T29 l0 x5_2).f5), .int .i64 ((rd_T29 l0 x5_2).f6)]] rfl sqA ?_; (with_reducible refine (spec_Follows.calls k2 _ _ x3_2 ((rd_T29 l0 x5_2).f0) ((rd_T29 l0 x5_2).f1.f0) ((rd_T29 l0 x5_2).f1.f1) ((rd_T29 l0 x5_2).f2) ((rd_T29 l0 x5_2).f3.f0) ((rd_T29 l0 x5_2).f3.f1) ((rd_T29 l0 x5_2).f4.f0) ((rd_T29 l0 x5_2).f4.f1) ((rd_T29 l0 x5_2).f5) ((rd_T29 l0 x5_2).f6) t223 _ ?side1 ?side2 A7.out).mono ?_); (case side1 => repeat (first | exact (Kd.R_reads' HO_3.out).2.2 | (with_reducible refine Kd.C_alloc ?_ _) | (with_reducible refine Kd.C_drewN ?_ _) | (with_reducible refine Kd.C_drew ?_))); (case side2 => exact (Kd.R_reads' HO_3.out).2.1); rintro e w13 ⟨v224, rfl, ho0, hb⟩; refine ⟨_, rfl, ?_⟩; have HO225 := Aside0.mk (Kd.R_lower (Kd.R_new' ho0 (Kd.R_lt (sqR HO_3))) (below_size (sqB))); replace HO_3 := Aside0.mk (Kd.R_elder' (sqR HO_3) (Kd.R_base ho0) hb); replace HB := sqS hb; (try clear hb); (try clear hb2); (try clear hk); (try clear hi); (try clear ho0); obtain ⟨Ao14, co14, eo14⟩ := Kd.R_slice HO225.out; subst eo14))
         go_roundg k2
         case measure => have := HK1.out; have := HK2.out; omega
         case rel => exact ⟨(t223), (x4_2), (wrap64 (x5_2 + 1)), (by first | rfl | (simp; done) | (simp [*]; done)), (by first | rfl | (simp; done) | (simp [*]; done)), H', ⟨by have := HK1.out; have := HK2.out; omega⟩, ⟨by (with_reducible repeat (first | apply Kd.R_alloc | apply Kd.R_drewN | apply Kd.R_drew)); exact Kd.R_mono HO225.out (fun _ hk => trivial)⟩, ⟨sqB⟩⟩
       ·rw [if_neg c6] at H
        exact absurd H (by simp)
      ·rw [if_neg c5] at H
       have c5b0 : decide (x5_2 < (l0.length : Int)) = false := decide_eq_false c5
       clear c5
       have H' := Aside0.mk H
       clear H
       go_wp2
       go_roundg k2
       case measure => have := HK1.out; have := HK2.out; omega
       case rel => exact ⟨(x3_2), (x4_2), (by first | rfl | (simp; done) | (simp [*]; done)), H', ⟨by have := HK1.out; have := HK2.out; omega⟩, ⟨sqR HO_3⟩, ⟨sqB⟩⟩
   ·replace c4 := Bool.eq_false_iff.mpr c4
    subst c4
    rw [if_neg (show ¬ (false = true) by decide)] at H
    obtain rfl := Option.some.inj H
    go_wp2
    go_ret
    exact ⟨_, sqE, sqR HO_3, sqB⟩

/-! ### impl_Follows: function 15 -/
def impl_Follows.l0 : Nat → List (S36) → List (S78) → Int → Int → Option ((List (S36)))
 | 0, _, _, _, _ => none
 | k + 1, x5, x16, x17, x18 => if x18 < x17 then (if 0 ≤ x18 then (if x18 < (x16.length : Int) then ((impl_Fact_52.f k x5 ((rd_T78 x16 x18).f0.f0.f0) ((rd_T78 x16 x18).f0.f0.f1) ((rd_T78 x16 x18).f0.f1)).bind fun t236 => (if t236 = true then (impl_Follows.l0 k x5 x16 x17 (wrap64 (x18 + 1))) else (if x5.length < 5864062014805 then (impl_Follows.l0 k (x5 ++ [(⟨(⟨(rd_T78 x16 x18).f0.f0.f0, (rd_T78 x16 x18).f0.f0.f1⟩ : S27), (rd_T78 x16 x18).f0.f1⟩ : S36)]) x16 x17 (wrap64 (x18 + 1))) else (none)))) else (none)) else (none)) else (some x5)
def impl_Follows.f (k : Nat) (l0 : List (S36)) (a1_0 : Int) (a1_1 : Int) (a1_2 : Int) (a1_3 : Int) (a1_4 : Int) (a1_5 : Int) (a1_6 : Int) (a1_7 : Int) (a1_8 : Int) (a1_9 : Int) : Option ((List (S36))) := (impl_Fact_49.f l0).bind fun t227 => ((impl_CredOk.f k a1_0 a1_1 a1_2 a1_3 a1_4 a1_5 a1_6 a1_7 a1_8 a1_9).bind fun t230 => (if t230 = true then ((impl_derive.f k l0 a1_0 a1_1 a1_2 a1_3 a1_4 a1_5 a1_6 a1_7 a1_8 a1_9).bind fun t231 => (impl_Follows.l0 k t227 t231 (t231.length : Int) 0)) else (some t227)))
theorem impl_Follows.mono_l : ∀ k, (∀ y0 y1 y2 y3, LeO (impl_Follows.l0 k y0 y1 y2 y3) (impl_Follows.l0 (k + 1) y0 y1 y2 y3))
 | 0 => fun _ _ _ _ r h => by simp [impl_Follows.l0] at h
 | k + 1 => by
  have ih0 := impl_Follows.mono_l k
  ·intro y0 y1 y2 y3
   unfold impl_Follows.l0
   repeat' first
   | (with_reducible exact ih0 _ _ _ _)
   | (with_reducible exact impl_CredOk.mono _ _ _ _ _ _ _ _ _ _ _)
   | (with_reducible exact impl_Fact_52.mono _ _ _ _ _)
   | (with_reducible exact impl_derive.mono _ _ _ _ _ _ _ _ _ _ _ _)
   | (with_reducible exact LeO.refl _)
   | (with_reducible exact LeO.none _)
   | (with_reducible refine LeO.ite ?_ ?_)
   | (with_reducible refine LeO.bind ?_ (fun _ => ?_))
   | exact ih0 _ _ _ _
   | exact impl_CredOk.mono _ _ _ _ _ _ _ _ _ _ _
   | exact impl_Fact_52.mono _ _ _ _ _
   | exact impl_derive.mono _ _ _ _ _ _ _ _ _ _ _ _
   | exact LeO.none _
   | refine LeO.ite ?_ ?_
   | refine LeO.bind ?_ (fun _ => ?_)
theorem impl_Follows.mono : ∀ a0 a1 a2 a3 a4 a5 a6 a7 a8 a9 a10 k, LeO (impl_Follows.f k a0 a1 a2 a3 a4 a5 a6 a7 a8 a9 a10) (impl_Follows.f (k + 1) a0 a1 a2 a3 a4 a5 a6 a7 a8 a9 a10) := by
 intro a0 a1 a2 a3 a4 a5 a6 a7 a8 a9 a10 k
 have ih0 := impl_Follows.mono_l k
 unfold impl_Follows.f
 repeat' first
   | (with_reducible exact ih0 _ _ _ _)
   | (with_reducible exact impl_CredOk.mono _ _ _ _ _ _ _ _ _ _ _)
   | (with_reducible exact impl_Fact_52.mono _ _ _ _ _)
   | (with_reducible exact impl_derive.mono _ _ _ _ _ _ _ _ _ _ _ _)
   | (with_reducible exact LeO.refl _)
   | (with_reducible exact LeO.none _)
   | (with_reducible refine LeO.ite ?_ ?_)
   | (with_reducible refine LeO.bind ?_ (fun _ => ?_))
   | exact ih0 _ _ _ _
   | exact impl_CredOk.mono _ _ _ _ _ _ _ _ _ _ _
   | exact impl_Fact_52.mono _ _ _ _ _
   | exact impl_derive.mono _ _ _ _ _ _ _ _ _ _ _ _
   | exact LeO.none _
   | refine LeO.ite ?_ ?_
   | refine LeO.bind ?_ (fun _ => ?_)
set_option maxHeartbeats 8000000 in
set_option maxRecDepth 100000 in
theorem impl_Follows.calls (k : Nat) (A0 : Option Addr) (c0 : Nat) (l0 : List (S36)) (a1_0 : Int) (a1_1 : Int) (a1_2 : Int) (a1_3 : Int) (a1_4 : Int) (a1_5 : Int) (a1_6 : Int) (a1_7 : Int) (a1_8 : Int) (a1_9 : Int) (r : List (S36)) (w : World) (hr0 : Kd.C k36 w A0 l0.length l0) (hc0 : l0.length ≤ c0) (h : impl_Follows.f k l0 a1_0 a1_1 a1_2 a1_3 a1_4 a1_5 a1_6 a1_7 a1_8 a1_9 = some r) :
  Calls Try.prog 15 #[.slice A0 l0.length c0, .agg #[.int .i64 a1_0, .int .i64 a1_1, .int .i64 a1_2, .int .i64 a1_3, .int .i64 a1_4, .int .i64 a1_5, .int .i64 a1_6, .int .i64 a1_7, .int .i64 a1_8, .int .i64 a1_9]] w fun e w' => ∃ v0_ : Value, e = .returned (v0_) ∧ Kd.R k36 36 w' w.heap.size (fun _ => True) v0_ r ∧ Below w.heap.size w w' := by
 have hu29 := Try.underlying29
 have hu78 := Try.underlying78
 have hu36 := Try.underlying36
 have HR0 := Aside0.mk hr0
 have HC0 := Aside0.mk hc0
 clear hr0 hc0
 have HB := Aside0.mk (Below.refl w.heap.size w)
 have H : ((impl_Fact_49.f l0).bind fun t227 => ((impl_CredOk.f k a1_0 a1_1 a1_2 a1_3 a1_4 a1_5 a1_6 a1_7 a1_8 a1_9).bind fun t230 => (if t230 = true then ((impl_derive.f k l0 a1_0 a1_1 a1_2 a1_3 a1_4 a1_5 a1_6 a1_7 a1_8 a1_9).bind fun t231 => (impl_Follows.l0 k t227 t231 (t231.length : Int) 0)) else (some t227)))) = some r := h
 clear h
 replace H := Option.bind_eq_some_iff.mp H
 obtain ⟨t227, A30, H⟩ := H
 try dsimp only at H
 have A3 := Aside0.mk A30
 clear A30
 replace H := Option.bind_eq_some_iff.mp H
 obtain ⟨t230, A40, H⟩ := H
 try dsimp only at H
 have A4 := Aside0.mk A40
 clear A40
 by_cases c5 : t230 = true
 ·subst c5
  rw [if_pos rfl] at H
  replace H := Option.bind_eq_some_iff.mp H
  obtain ⟨t231, A60, H⟩ := H
  try dsimp only at H
  have A6 := Aside0.mk A60
  clear A60
  have H' := Aside0.mk H
  clear H
  go_enter Try.func15, Try.ntmps15
  go_wp2_with (first | ((with_reducible refine gate_dst (N := 3) rfl ?_); refine sqX (N := 3) (cs := #[.int .i64 a1_0, .int .i64 a1_1, .int .i64 a1_2, .int .i64 a1_3, .int .i64 a1_4, .int .i64 a1_5, .int .i64 a1_6, .int .i64 a1_7, .int .i64 a1_8, .int .i64 a1_9]) (t := 29) ?_; intro gb226 hg w7 hbox hb; have BK226 := Aside0.mk (hbox); have GW226 := sqG hg; have GE226 := sqG hg; replace HB := sqS hb; clear hb hbox hg) | ((with_reducible refine gate_callee (f := 49) rfl ?_); refine goesL_ (some 9) rfl rfl Try.func49 (by kernel_rfl) rfl #[.slice A0 l0.length c0] rfl sqA ?_; (with_reducible refine (impl_Fact_49.calls _ _ l0 t227 _ ?side1 ?side2 A3.out).mono ?_); (case side1 => repeat (first | exact (Kd.C_below HR0.out HB.out) | (with_reducible refine Kd.C_alloc ?_ _) | (with_reducible refine Kd.C_drewN ?_ _) | (with_reducible refine Kd.C_drew ?_))); (case side2 => exact HC0.out); rintro e w8 ⟨v228, rfl, ho0, hb⟩; refine ⟨_, rfl, ?_⟩; have HO229 := Aside0.mk (Kd.R_lower ho0 (below_size (sqB))); replace BK226 := sqL BK226 hb; replace HB := sqS hb; (try clear hb); (try clear hb2); (try clear hk); (try clear hi); (try clear ho0); obtain ⟨hcz9_0, hcz9_1, hcz9_2, hcz9_3, hcz9_4, hcz9_5, hcz9_6, hcz9_7, hcz9_8, hcz9_9, hfz9_0, hfz9_1, hfz9_2, hfz9_3, hfz9_4, hfz9_5, hfz9_6, hfz9_7, hfz9_8, hfz9_9⟩ := sqC10 BK226) | ((with_reducible refine gate_callee (f := 50) rfl ?_); refine goesL_ (some 11) rfl rfl Try.func50 (by kernel_rfl) rfl #[.agg #[.int .i64 a1_0, .int .i64 a1_1, .int .i64 a1_2, .int .i64 a1_3, .int .i64 a1_4, .int .i64 a1_5, .int .i64 a1_6, .int .i64 a1_7, .int .i64 a1_8, .int .i64 a1_9]] rfl sqA ?_; (with_reducible refine (impl_CredOk.calls k a1_0 a1_1 a1_2 a1_3 a1_4 a1_5 a1_6 a1_7 a1_8 a1_9 true _ A4.out).mono ?_); rintro e w10 ⟨rfl, hb⟩; refine ⟨_, rfl, ?_⟩; replace HO229 := Aside0.mk (Kd.R_below (sqR HO229) hb); replace BK226 := sqL BK226 hb; replace HB := sqS hb; (try clear hb); (try clear hb2); (try clear hk); (try clear hi); obtain ⟨hcz11_0, hcz11_1, hcz11_2, hcz11_3, hcz11_4, hcz11_5, hcz11_6, hcz11_7, hcz11_8, hcz11_9, hfz11_0, hfz11_1, hfz11_2, hfz11_3, hfz11_4, hfz11_5, hfz11_6, hfz11_7, hfz11_8, hfz11_9⟩ := sqC10 BK226) | ((with_reducible refine gate_callee (f := 51) rfl ?_); refine goesL_ (some 16) rfl rfl Try.func51 (by kernel_rfl) rfl #[.slice A0 l0.length c0, .agg #[.int .i64 a1_0, .int .i64 a1_1, .int .i64 a1_2, .int .i64 a1_3, .int .i64 a1_4, .int .i64 a1_5, .int .i64 a1_6, .int .i64 a1_7, .int .i64 a1_8, .int .i64 a1_9]] rfl sqA ?_; (with_reducible refine (impl_derive.calls k _ _ l0 a1_0 a1_1 a1_2 a1_3 a1_4 a1_5 a1_6 a1_7 a1_8 a1_9 t231 _ ?side1 ?side2 A6.out).mono ?_); (case side1 => repeat (first | exact (Kd.C_below HR0.out HB.out) | (with_reducible refine Kd.C_alloc ?_ _) | (with_reducible refine Kd.C_drewN ?_ _) | (with_reducible refine Kd.C_drew ?_))); (case side2 => exact HC0.out); rintro e w12 ⟨v232, rfl, ho0, hb⟩; refine ⟨_, rfl, ?_⟩; have hv349_ := fun (k_ : Nat) (e_ : Value.ownBlock v228 = some k_) => ((Kd.R_bound (show Kd.R k36 36 w10 w.heap.size (fun _ => True) v228 t227 from sqR HO229)).1 k_ e_).2.2.1; replace ho0 := Kd.N_mono (ok' := fun k_ => True ∧ some k_ ≠ v228.ownBlock) ho0 (fun k_ hk_ => ⟨trivial, fun e_ => Nat.lt_irrefl _ (Nat.lt_of_lt_of_le (hv349_ k_ e_.symm) hk_)⟩); clear hv349_; replace HO229 := Aside0.mk (Kd.R_below (sqR HO229) hb); have HO233 := Aside0.mk (Kd.N_lower ho0 (below_size (sqB))); replace BK226 := sqL BK226 hb; replace HB := sqS hb; (try clear hb); (try clear hb2); (try clear hk); (try clear hi); (try clear ho0); obtain ⟨Ao13, co13, eo13⟩ := Kd.N_slice HO233.out; subst eo13))
  go_loopg [5, 18] k (fun kq v5 v18 w' => ∃ (x5_1 : List (S36)) (x18_1 : Int), v18 = .int .i64 x18_1 ∧ Aside0 (impl_Follows.l0 kq x5_1 t231 (t231.length : Int) x18_1 = some r) ∧ Aside0 (kq ≤ k) ∧ Aside0 (Kd.R k36 36 w' w.heap.size (fun _ => True) v5 x5_1) ∧ Aside0 (Kd.N k78 78 w' w.heap.size (fun k_ => True ∧ some k_ ≠ v5.ownBlock) (.slice Ao13 t231.length co13) t231) ∧ Aside0 (w'.heap[gb226]? = some (.cells #[.int .i64 a1_0, .int .i64 a1_1, .int .i64 a1_2, .int .i64 a1_3, .int .i64 a1_4, .int .i64 a1_5, .int .i64 a1_6, .int .i64 a1_7, .int .i64 a1_8, .int .i64 a1_9] 29 (0, 0))) ∧ Aside0 (Below w.heap.size w w'))
  case atStart => exact ⟨(t227), (0), (by first | rfl | (simp; done) | (simp [*]; done)), H', ⟨Nat.le_refl _⟩, ⟨sqR HO229⟩, ⟨by (with_reducible repeat (first | apply Kd.N_alloc | apply Kd.N_drewN | apply Kd.N_drew)); exact HO233.out⟩, ⟨sqK BK226⟩, ⟨sqB⟩⟩
  case round =>
   clear H'
   try clear c1
   try clear p2
   try clear c4
   try clear c5
   try clear hcz11_0 hcz11_1 hcz11_2 hcz11_3 hcz11_4 hcz11_5 hcz11_6 hcz11_7 hcz11_8 hcz11_9
   try clear hcz9_0 hcz9_1 hcz9_2 hcz9_3 hcz9_4 hcz9_5 hcz9_6 hcz9_7 hcz9_8 hcz9_9
   try clear hfz11_0
   try clear hfz11_1
   try clear hfz11_2
   try clear hfz11_3
   try clear hfz11_4
   try clear hfz11_5
   try clear hfz11_6
   try clear hfz11_7
   try clear hfz11_8
   try clear hfz11_9
   try clear hfz9_0
   try clear hfz9_1
   try clear hfz9_2
   try clear hfz9_3
   try clear hfz9_4
   try clear hfz9_5
   try clear hfz9_6
   try clear hfz9_7
   try clear hfz9_8
   try clear hfz9_9
   obtain ⟨x5_1, x18_1, rfl, HA, HK1, HO_5, HO_16, BK226, HB⟩ := hrel
   cases gk with
   | zero => exact absurd HA.out (by simp [impl_Follows.l0])
   | succ k1 =>
    have H := HA.out
    clear HA
    simp only [impl_Follows.l0] at H
    by_cases c14 : x18_1 < (t231.length : Int)
    ·rw [if_pos c14] at H
     have c14b0 : decide (x18_1 < (t231.length : Int)) = true := decide_eq_true c14
     clear c14
     by_cases c15 : 0 ≤ x18_1
     ·rw [if_pos c15] at H
      have c15b0 : decide (0 ≤ x18_1) = true := decide_eq_true c15
      clear c15
      by_cases c16 : x18_1 < (t231.length : Int)
      ·rw [if_pos c16] at H
       have c16b0 : decide (x18_1 < (t231.length : Int)) = true := decide_eq_true c16
       clear c16
       replace H := Option.bind_eq_some_iff.mp H
       obtain ⟨t236, A170, H⟩ := H
       try dsimp only at H
       have A17 := Aside0.mk A170
       clear A170
       by_cases c18 : t236 = true
       ·subst c18
        rw [if_pos rfl] at H
        have H' := Aside0.mk H
        clear H
        have p234 : 0 ≤ (x18_1 : Int) := sqD
        have q234 : x18_1 < (t231.length : Int) := sqD
        obtain ⟨ad234, A234_3, c234_3, e234, hx234_0, hx234_1, hx234_2, hx234_3, hl234_3, hi234_3⟩ := at_T78 (Kd.N_reads' HO_16.out).2.2 x18_1 p234 q234
        cases e234
        have HL234_3 := Aside0.mk (Kd.R_nil (Kd.int .i64) 3 wr w.heap.size (fun _ => True))
        have HR234_3 := Aside0.mk hi234_3
        have HC234_3 := Aside0.mk hl234_3
        clear hi234_3 hl234_3
        replace p234 := eq_true p234
        replace q234 := eq_true q234
        go_wp2_with (first | ((with_reducible refine gate_dst (N := 7) rfl ?_); refine sqX (N := 7) (cs := #[.int .i64 0, .int .i64 0, .int .i64 0, .slice none 0 0]) (t := 78) ?_; intro gb235 hg w19 hbox hb; replace HO_5 := Aside0.mk (Kd.R_below (sqR HO_5) hb); replace HO_16 := Aside0.mk (Kd.N_below (Kd.N_elderB (by (with_reducible repeat (first | apply Kd.N_alloc | apply Kd.N_drewN | apply Kd.N_drew)); exact HO_16.out) gb235 (Nat.le_of_eq hg.symm)) hb); replace HL234_3 := Aside0.mk (Kd.R_below (sqR HL234_3) hb); replace HR234_3 := Aside0.mk (Kd.C_below (by repeat (first | (with_reducible exact HR234_3.out) | (with_reducible refine Kd.C_alloc ?_ _) | (with_reducible refine Kd.C_drewN ?_ _) | (with_reducible refine Kd.C_drew ?_) | exact HR234_3.out)) hb); have BK235 := Aside0.mk (hbox); have GW235 := sqG hg; have GE235 := sqG hg; have NB226_235 := sqN BK226 hg; have NB235_226 := sqM BK226 hg; replace BK226 := sqL BK226 hb; replace HB := sqS hb; clear hb hbox hg; have hnb20 := NB235_226.out; have hnc20 := NB226_235.out; obtain ⟨hcz21_0, hcz21_1, hcz21_2, hcz21_3, hfz21_0, hfz21_1, hfz21_2, hfz21_3⟩ := sqC4 BK235; obtain ⟨Ao22, co22, eo22⟩ := Kd.R_slice HO_5.out; subst eo22) | ((with_reducible refine gate_callee (f := 52) rfl ?_); refine goesL_ (some 25) rfl rfl Try.func52 (by kernel_rfl) rfl #[.slice Ao22 x5_1.length co22, .agg #[.int .i64 ((rd_T78 t231 x18_1).f0.f0.f0), .int .i64 ((rd_T78 t231 x18_1).f0.f0.f1), .int .i64 ((rd_T78 t231 x18_1).f0.f1)]] rfl sqA ?_; (with_reducible refine (impl_Fact_52.calls k1 _ _ x5_1 ((rd_T78 t231 x18_1).f0.f0.f0) ((rd_T78 t231 x18_1).f0.f0.f1) ((rd_T78 t231 x18_1).f0.f1) true _ ?side1 ?side2 A17.out).mono ?_); (case side1 => refine (Kd.R_reads' (e := 36) (base := w.heap.size) (ok := fun k_ => True) (n := x5_1.length) (c := co22) ?_).2.2; exact (by (with_reducible repeat (first | apply Kd.R_alloc | apply Kd.R_drewN | apply Kd.R_drew)); exact (Kd.R_mono (Kd.R_far (p := ⟨gb235, 3, none⟩) (Kd.R_far (p := ⟨gb235, 2, none⟩) (Kd.R_far (p := ⟨gb235, 1, none⟩) (Kd.R_far (p := ⟨gb235, 0, none⟩) (Kd.R_types HO_5.out BK235.out (by decide)) (fun _ hk => hk.2) (.int .i64 ((rd_T78 t231 x18_1).f0.f0.f0))) (fun _ hk => hk.2) (.int .i64 ((rd_T78 t231 x18_1).f0.f0.f1))) (fun _ hk => hk.2) (.int .i64 ((rd_T78 t231 x18_1).f0.f1))) (fun _ hk => hk.2) (.slice A234_3 ((rd_T78 t231 x18_1).f1).length c234_3)) (fun _ h_ => h_.1)))); (case side2 => exact (Kd.R_reads' HO_5.out).2.1); rintro e w23 ⟨rfl, hb⟩; refine ⟨_, rfl, ?_⟩; replace HO_5 := Aside0.mk (Kd.R_below (by (with_reducible repeat (first | apply Kd.R_alloc | apply Kd.R_drewN | apply Kd.R_drew)); exact (Kd.R_mono (Kd.R_far (p := ⟨gb235, 3, none⟩) (Kd.R_far (p := ⟨gb235, 2, none⟩) (Kd.R_far (p := ⟨gb235, 1, none⟩) (Kd.R_far (p := ⟨gb235, 0, none⟩) (Kd.R_types HO_5.out BK235.out (by decide)) (fun _ hk => hk.2) (.int .i64 ((rd_T78 t231 x18_1).f0.f0.f0))) (fun _ hk => hk.2) (.int .i64 ((rd_T78 t231 x18_1).f0.f0.f1))) (fun _ hk => hk.2) (.int .i64 ((rd_T78 t231 x18_1).f0.f1))) (fun _ hk => hk.2) (.slice A234_3 ((rd_T78 t231 x18_1).f1).length c234_3)) (fun _ h_ => h_.1))) hb); replace HO_16 := Aside0.mk (Kd.N_below (by (with_reducible repeat (first | apply Kd.N_alloc | apply Kd.N_drewN | apply Kd.N_drew)); exact (Kd.N_mono (Kd.N_far (p := ⟨gb235, 3, none⟩) (Kd.N_far (p := ⟨gb235, 2, none⟩) (Kd.N_far (p := ⟨gb235, 1, none⟩) (Kd.N_far (p := ⟨gb235, 0, none⟩) (Kd.N_mono HO_16.out (fun k_ hk => (⟨hk, hk.2⟩ : _ ∧ k_ ≠ gb235))) (fun _ hk => hk.2) (.int .i64 ((rd_T78 t231 x18_1).f0.f0.f0))) (fun _ hk => hk.2) (.int .i64 ((rd_T78 t231 x18_1).f0.f0.f1))) (fun _ hk => hk.2) (.int .i64 ((rd_T78 t231 x18_1).f0.f1))) (fun _ hk => hk.2) (.slice A234_3 ((rd_T78 t231 x18_1).f1).length c234_3)) (fun _ h_ => h_.1))) hb); replace BK226 := sqLW (o' := .cells #[.int .i64 a1_0, .int .i64 a1_1, .int .i64 a1_2, .int .i64 a1_3, .int .i64 a1_4, .int .i64 a1_5, .int .i64 a1_6, .int .i64 a1_7, .int .i64 a1_8, .int .i64 a1_9] 29 (0, 0)) BK226 hb; replace HR234_3 := Aside0.mk (Kd.C_below ((Kd.R_reads' (by (with_reducible repeat (first | apply Kd.R_alloc | apply Kd.R_drewN | apply Kd.R_drew)); exact (Kd.R_mono (Kd.R_far (p := ⟨gb235, 3, none⟩) (Kd.R_far (p := ⟨gb235, 2, none⟩) (Kd.R_far (p := ⟨gb235, 1, none⟩) (Kd.R_far (p := ⟨gb235, 0, none⟩) (Kd.R_types HL234_3.out BK235.out (by decide)) (fun _ hk => hk.2) (.int .i64 ((rd_T78 t231 x18_1).f0.f0.f0))) (fun _ hk => hk.2) (.int .i64 ((rd_T78 t231 x18_1).f0.f0.f1))) (fun _ hk => hk.2) (.int .i64 ((rd_T78 t231 x18_1).f0.f1))) (fun _ hk => hk.2) (.slice A234_3 ((rd_T78 t231 x18_1).f1).length c234_3)) (fun _ h_ => h_.1)))).2.2) hb); replace HL234_3 := Aside0.mk (Kd.R_below (by (with_reducible repeat (first | apply Kd.R_alloc | apply Kd.R_drewN | apply Kd.R_drew)); exact (Kd.R_mono (Kd.R_far (p := ⟨gb235, 3, none⟩) (Kd.R_far (p := ⟨gb235, 2, none⟩) (Kd.R_far (p := ⟨gb235, 1, none⟩) (Kd.R_far (p := ⟨gb235, 0, none⟩) (Kd.R_types HL234_3.out BK235.out (by decide)) (fun _ hk => hk.2) (.int .i64 ((rd_T78 t231 x18_1).f0.f0.f0))) (fun _ hk => hk.2) (.int .i64 ((rd_T78 t231 x18_1).f0.f0.f1))) (fun _ hk => hk.2) (.int .i64 ((rd_T78 t231 x18_1).f0.f1))) (fun _ hk => hk.2) (.slice A234_3 ((rd_T78 t231 x18_1).f1).length c234_3)) (fun _ h_ => h_.1))) hb); replace BK235 := sqLW (o' := .cells #[.int .i64 ((rd_T78 t231 x18_1).f0.f0.f0), .int .i64 ((rd_T78 t231 x18_1).f0.f0.f1), .int .i64 ((rd_T78 t231 x18_1).f0.f1), .slice A234_3 ((rd_T78 t231 x18_1).f1).length c234_3] 78 (0, 0)) BK235 hb; replace HB := sqS hb; (try clear hb); (try clear hb2); (try clear hk); (try clear hi)))
        go_roundg k1
        case measure => have := HK1.out; omega
        case rel => exact ⟨(x5_1), (wrap64 (x18_1 + 1)), (by first | rfl | (simp; done) | (simp [*]; done)), H', ⟨by have := HK1.out; omega⟩, ⟨sqR HO_5⟩, ⟨by (with_reducible repeat (first | apply Kd.N_alloc | apply Kd.N_drewN | apply Kd.N_drew)); exact Kd.N_mono HO_16.out (fun k_ hk => by first | exact hk | exact hk.1 | exact hk.1.1)⟩, ⟨sqK BK226⟩, ⟨sqB⟩⟩
       ·replace c18 := Bool.eq_false_iff.mpr c18
        subst c18
        rw [if_neg (show ¬ (false = true) by decide)] at H
        by_cases c24 : x5_1.length < 5864062014805
        ·rw [if_pos c24] at H
         have LMc24 := Aside0.mk c24
         clear c24
         obtain ⟨y237, hy237⟩ : ∃ y_ : List (S36), y_ = (x5_1 ++ [(⟨(⟨(rd_T78 t231 x18_1).f0.f0.f0, (rd_T78 t231 x18_1).f0.f0.f1⟩ : S27), (rd_T78 t231 x18_1).f0.f1⟩ : S36)]) := ⟨_, rfl⟩
         replace H : (impl_Follows.l0 k1 y237 t231 (t231.length : Int) (wrap64 (x18_1 + 1))) = some r := by first | (rw [hy237]; with_reducible exact H) | (have H2_ := (Option.bind_some _ _).symm.trans H; rw [hy237]; with_reducible exact H2_) | (have H2_ := (Option.bind_some _ _).symm.trans H; with_reducible exact H2_) | with_reducible exact H | (rw [hy237]; exact H) | exact H
         have Ny237 := Aside0.mk hy237
         clear hy237
         have H' := Aside0.mk H
         clear H
         have p234 : 0 ≤ (x18_1 : Int) := sqD
         have q234 : x18_1 < (t231.length : Int) := sqD
         obtain ⟨ad234, A234_3, c234_3, e234, hx234_0, hx234_1, hx234_2, hx234_3, hl234_3, hi234_3⟩ := at_T78 (Kd.N_reads' HO_16.out).2.2 x18_1 p234 q234
         cases e234
         have HL234_3 := Aside0.mk (Kd.R_nil (Kd.int .i64) 3 wr w.heap.size (fun _ => True))
         have HR234_3 := Aside0.mk hi234_3
         have HC234_3 := Aside0.mk hl234_3
         clear hi234_3 hl234_3
         replace p234 := eq_true p234
         replace q234 := eq_true q234
         go_wp2_with (first | ((with_reducible refine gate_dst (N := 7) rfl ?_); refine sqX (N := 7) (cs := #[.int .i64 0, .int .i64 0, .int .i64 0, .slice none 0 0]) (t := 78) ?_; intro gb235 hg w25 hbox hb; replace HO_5 := Aside0.mk (Kd.R_below (sqR HO_5) hb); replace HO_16 := Aside0.mk (Kd.N_below (Kd.N_elderB (by (with_reducible repeat (first | apply Kd.N_alloc | apply Kd.N_drewN | apply Kd.N_drew)); exact HO_16.out) gb235 (Nat.le_of_eq hg.symm)) hb); replace HL234_3 := Aside0.mk (Kd.R_below (sqR HL234_3) hb); replace HR234_3 := Aside0.mk (Kd.C_below (by repeat (first | (with_reducible exact HR234_3.out) | (with_reducible refine Kd.C_alloc ?_ _) | (with_reducible refine Kd.C_drewN ?_ _) | (with_reducible refine Kd.C_drew ?_) | exact HR234_3.out)) hb); have BK235 := Aside0.mk (hbox); have GW235 := sqG hg; have GE235 := sqG hg; have NB226_235 := sqN BK226 hg; have NB235_226 := sqM BK226 hg; replace BK226 := sqL BK226 hb; replace HB := sqS hb; clear hb hbox hg; have hnb26 := NB235_226.out; have hnc26 := NB226_235.out; obtain ⟨hcz27_0, hcz27_1, hcz27_2, hcz27_3, hfz27_0, hfz27_1, hfz27_2, hfz27_3⟩ := sqC4 BK235; obtain ⟨Ao28, co28, eo28⟩ := Kd.R_slice HO_5.out; subst eo28) | ((with_reducible refine gate_callee (f := 52) rfl ?_); refine goesL_ (some 25) rfl rfl Try.func52 (by kernel_rfl) rfl #[.slice Ao28 x5_1.length co28, .agg #[.int .i64 ((rd_T78 t231 x18_1).f0.f0.f0), .int .i64 ((rd_T78 t231 x18_1).f0.f0.f1), .int .i64 ((rd_T78 t231 x18_1).f0.f1)]] rfl sqA ?_; (with_reducible refine (impl_Fact_52.calls k1 _ _ x5_1 ((rd_T78 t231 x18_1).f0.f0.f0) ((rd_T78 t231 x18_1).f0.f0.f1) ((rd_T78 t231 x18_1).f0.f1) false _ ?side1 ?side2 A17.out).mono ?_); (case side1 => refine (Kd.R_reads' (e := 36) (base := w.heap.size) (ok := fun k_ => True) (n := x5_1.length) (c := co28) ?_).2.2; exact (by (with_reducible repeat (first | apply Kd.R_alloc | apply Kd.R_drewN | apply Kd.R_drew)); exact (Kd.R_mono (Kd.R_far (p := ⟨gb235, 3, none⟩) (Kd.R_far (p := ⟨gb235, 2, none⟩) (Kd.R_far (p := ⟨gb235, 1, none⟩) (Kd.R_far (p := ⟨gb235, 0, none⟩) (Kd.R_types HO_5.out BK235.out (by decide)) (fun _ hk => hk.2) (.int .i64 ((rd_T78 t231 x18_1).f0.f0.f0))) (fun _ hk => hk.2) (.int .i64 ((rd_T78 t231 x18_1).f0.f0.f1))) (fun _ hk => hk.2) (.int .i64 ((rd_T78 t231 x18_1).f0.f1))) (fun _ hk => hk.2) (.slice A234_3 ((rd_T78 t231 x18_1).f1).length c234_3)) (fun _ h_ => h_.1)))); (case side2 => exact (Kd.R_reads' HO_5.out).2.1); rintro e w29 ⟨rfl, hb⟩; refine ⟨_, rfl, ?_⟩; replace HO_5 := Aside0.mk (Kd.R_below (by (with_reducible repeat (first | apply Kd.R_alloc | apply Kd.R_drewN | apply Kd.R_drew)); exact (Kd.R_mono (Kd.R_far (p := ⟨gb235, 3, none⟩) (Kd.R_far (p := ⟨gb235, 2, none⟩) (Kd.R_far (p := ⟨gb235, 1, none⟩) (Kd.R_far (p := ⟨gb235, 0, none⟩) (Kd.R_types HO_5.out BK235.out (by decide)) (fun _ hk => hk.2) (.int .i64 ((rd_T78 t231 x18_1).f0.f0.f0))) (fun _ hk => hk.2) (.int .i64 ((rd_T78 t231 x18_1).f0.f0.f1))) (fun _ hk => hk.2) (.int .i64 ((rd_T78 t231 x18_1).f0.f1))) (fun _ hk => hk.2) (.slice A234_3 ((rd_T78 t231 x18_1).f1).length c234_3)) (fun _ h_ => h_.1))) hb); replace HO_16 := Aside0.mk (Kd.N_below (by (with_reducible repeat (first | apply Kd.N_alloc | apply Kd.N_drewN | apply Kd.N_drew)); exact (Kd.N_mono (Kd.N_far (p := ⟨gb235, 3, none⟩) (Kd.N_far (p := ⟨gb235, 2, none⟩) (Kd.N_far (p := ⟨gb235, 1, none⟩) (Kd.N_far (p := ⟨gb235, 0, none⟩) (Kd.N_mono HO_16.out (fun k_ hk => (⟨hk, hk.2⟩ : _ ∧ k_ ≠ gb235))) (fun _ hk => hk.2) (.int .i64 ((rd_T78 t231 x18_1).f0.f0.f0))) (fun _ hk => hk.2) (.int .i64 ((rd_T78 t231 x18_1).f0.f0.f1))) (fun _ hk => hk.2) (.int .i64 ((rd_T78 t231 x18_1).f0.f1))) (fun _ hk => hk.2) (.slice A234_3 ((rd_T78 t231 x18_1).f1).length c234_3)) (fun _ h_ => h_.1))) hb); replace BK226 := sqLW (o' := .cells #[.int .i64 a1_0, .int .i64 a1_1, .int .i64 a1_2, .int .i64 a1_3, .int .i64 a1_4, .int .i64 a1_5, .int .i64 a1_6, .int .i64 a1_7, .int .i64 a1_8, .int .i64 a1_9] 29 (0, 0)) BK226 hb; replace HR234_3 := Aside0.mk (Kd.C_below ((Kd.R_reads' (by (with_reducible repeat (first | apply Kd.R_alloc | apply Kd.R_drewN | apply Kd.R_drew)); exact (Kd.R_mono (Kd.R_far (p := ⟨gb235, 3, none⟩) (Kd.R_far (p := ⟨gb235, 2, none⟩) (Kd.R_far (p := ⟨gb235, 1, none⟩) (Kd.R_far (p := ⟨gb235, 0, none⟩) (Kd.R_types HL234_3.out BK235.out (by decide)) (fun _ hk => hk.2) (.int .i64 ((rd_T78 t231 x18_1).f0.f0.f0))) (fun _ hk => hk.2) (.int .i64 ((rd_T78 t231 x18_1).f0.f0.f1))) (fun _ hk => hk.2) (.int .i64 ((rd_T78 t231 x18_1).f0.f1))) (fun _ hk => hk.2) (.slice A234_3 ((rd_T78 t231 x18_1).f1).length c234_3)) (fun _ h_ => h_.1)))).2.2) hb); replace HL234_3 := Aside0.mk (Kd.R_below (by (with_reducible repeat (first | apply Kd.R_alloc | apply Kd.R_drewN | apply Kd.R_drew)); exact (Kd.R_mono (Kd.R_far (p := ⟨gb235, 3, none⟩) (Kd.R_far (p := ⟨gb235, 2, none⟩) (Kd.R_far (p := ⟨gb235, 1, none⟩) (Kd.R_far (p := ⟨gb235, 0, none⟩) (Kd.R_types HL234_3.out BK235.out (by decide)) (fun _ hk => hk.2) (.int .i64 ((rd_T78 t231 x18_1).f0.f0.f0))) (fun _ hk => hk.2) (.int .i64 ((rd_T78 t231 x18_1).f0.f0.f1))) (fun _ hk => hk.2) (.int .i64 ((rd_T78 t231 x18_1).f0.f1))) (fun _ hk => hk.2) (.slice A234_3 ((rd_T78 t231 x18_1).f1).length c234_3)) (fun _ h_ => h_.1))) hb); replace BK235 := sqLW (o' := .cells #[.int .i64 ((rd_T78 t231 x18_1).f0.f0.f0), .int .i64 ((rd_T78 t231 x18_1).f0.f0.f1), .int .i64 ((rd_T78 t231 x18_1).f0.f1), .slice A234_3 ((rd_T78 t231 x18_1).f1).length c234_3] 78 (0, 0)) BK235 hb; replace HB := sqS hb; (try clear hb); (try clear hb2); (try clear hk); (try clear hi); obtain ⟨hcz30_0, hcz30_1, hcz30_2, hcz30_3, hfz30_0, hfz30_1, hfz30_2, hfz30_3⟩ := sqC4 BK235) | ((with_reducible refine gate_builtin (b := .append) (xs := #[.tmp 27, .tmp 30]) rfl ?_); at_builtin; refine Kd.R_append k36 (w0 := w) w.heap.size rfl (.tmp 27) (.tmp 30) 31 36 (.agg #[(.int .i64 0), (.int .i64 0), (.int .i64 0)]) 24 rfl Try.underlying31 info36 rfl (by decide) (by omega) (.slice Ao28 x5_1.length co28) x5_1 (⟨(⟨(rd_T78 t231 x18_1).f0.f0.f0, (rd_T78 t231 x18_1).f0.f0.f1⟩ : S27), (rd_T78 t231 x18_1).f0.f1⟩ : S36) [.int .i64 ((rd_T78 t231 x18_1).f0.f0.f0), .int .i64 ((rd_T78 t231 x18_1).f0.f0.f1), .int .i64 ((rd_T78 t231 x18_1).f0.f1)] (fun _ => True) (fun _ => False) rfl rfl ?aP (fun _ hk => hk.elim) ?aF ?aO ?aB ?aS ?aL ?_; (case aP => exact k36_mkM _ _ _ (⟨(⟨(rd_T78 t231 x18_1).f0.f0.f0, (rd_T78 t231 x18_1).f0.f0.f1⟩ : S27), (rd_T78 t231 x18_1).f0.f1⟩ : S36)); (case aB => exact (sqB)); (case aF => exact (fun _ _ => trivial)); (case aO => exact (sqR HO_5)); (case aS => exact (below_size (sqB))); (case aL => have := LMc24.out; omega); intro v238 w31 ho hb hg hat; rw [← Ny237.out] at ho; have n0_ := Aside0.mk (Kd.N_after (Kd.N_mono (ok' := fun k_ => True ∧ some k_ ≠ (.slice Ao28 x5_1.length co28 : Value).ownBlock) (by (with_reducible repeat (first | apply Kd.N_alloc | apply Kd.N_drewN | apply Kd.N_drew)); exact HO_16.out) (fun k_ hk => by first | exact hk | exact hk.1 | exact hk.1.1 | exact ⟨trivial, hk.2⟩)) hg hat); have n1_ := Aside0.mk (blk_grown (g := gb226) (o := .cells #[.int .i64 a1_0, .int .i64 a1_1, .int .i64 a1_2, .int .i64 a1_3, .int .i64 a1_4, .int .i64 a1_5, .int .i64 a1_6, .int .i64 a1_7, .int .i64 a1_8, .int .i64 a1_9] 29 (0, 0)) (sqK BK226) hg (Kd.R_ne HO_5.out BK226.out (by decide))); have n2_ := Aside0.mk (Kd.R_over' (sqR HL234_3) (Kd.R_typed (sqR HO_5)) (by decide) hg); have n3_ := Aside0.mk (blk_grown (g := gb235) (o := .cells #[.int .i64 ((rd_T78 t231 x18_1).f0.f0.f0), .int .i64 ((rd_T78 t231 x18_1).f0.f0.f1), .int .i64 ((rd_T78 t231 x18_1).f0.f1), .slice A234_3 ((rd_T78 t231 x18_1).f1).length c234_3] 78 (0, 0)) (sqK BK235) hg (Kd.R_ne HO_5.out BK235.out (by decide))); have n4_ := Aside0.mk (hb); have n5_ := Aside0.mk (ho); clear HO_16; clear BK226; clear HL234_3; clear BK235; clear HB; clear HO_5; have HO_16 := n0_; have BK226 := n1_; have HL234_3 := n2_; have BK235 := n3_; have HB := n4_; have HO239 := n5_; clear n0_ n1_ n2_ n3_ n4_ n5_; clear ho hb hg hat))
         go_roundg k1
         case measure => have := HK1.out; omega
         case rel => exact ⟨(y237), (wrap64 (x18_1 + 1)), (by first | rfl | (simp; done) | (simp [*]; done)), H', ⟨by have := HK1.out; omega⟩, ⟨sqR HO239⟩, ⟨by (with_reducible repeat (first | apply Kd.N_alloc | apply Kd.N_drewN | apply Kd.N_drew)); exact Kd.N_mono HO_16.out (fun k_ hk => by first | exact hk | exact hk.1 | exact hk.1.1)⟩, ⟨sqK BK226⟩, ⟨sqB⟩⟩
        ·rw [if_neg c24] at H
         exact absurd H (by simp)
      ·rw [if_neg c16] at H
       exact absurd H (by simp)
     ·rw [if_neg c15] at H
      exact absurd H (by simp)
    ·rw [if_neg c14] at H
     have c14b0 : decide (x18_1 < (t231.length : Int)) = false := decide_eq_false c14
     clear c14
     obtain rfl := Option.some.inj H
     go_wp2
     go_ret
     exact ⟨_, sqE, sqR HO_5, sqB⟩
 ·replace c5 := Bool.eq_false_iff.mpr c5
  subst c5
  rw [if_neg (show ¬ (false = true) by decide)] at H
  obtain rfl := Option.some.inj H
  go_enter Try.func15, Try.ntmps15
  go_wp2_with (first | ((with_reducible refine gate_dst (N := 3) rfl ?_); refine sqX (N := 3) (cs := #[.int .i64 a1_0, .int .i64 a1_1, .int .i64 a1_2, .int .i64 a1_3, .int .i64 a1_4, .int .i64 a1_5, .int .i64 a1_6, .int .i64 a1_7, .int .i64 a1_8, .int .i64 a1_9]) (t := 29) ?_; intro gb226 hg w32 hbox hb; have BK226 := Aside0.mk (hbox); have GW226 := sqG hg; have GE226 := sqG hg; replace HB := sqS hb; clear hb hbox hg) | ((with_reducible refine gate_callee (f := 49) rfl ?_); refine goesL_ (some 9) rfl rfl Try.func49 (by kernel_rfl) rfl #[.slice A0 l0.length c0] rfl sqA ?_; (with_reducible refine (impl_Fact_49.calls _ _ l0 t227 _ ?side1 ?side2 A3.out).mono ?_); (case side1 => repeat (first | exact (Kd.C_below HR0.out HB.out) | (with_reducible refine Kd.C_alloc ?_ _) | (with_reducible refine Kd.C_drewN ?_ _) | (with_reducible refine Kd.C_drew ?_))); (case side2 => exact HC0.out); rintro e w33 ⟨v228, rfl, ho0, hb⟩; refine ⟨_, rfl, ?_⟩; have HO229 := Aside0.mk (Kd.R_lower ho0 (below_size (sqB))); replace BK226 := sqL BK226 hb; replace HB := sqS hb; (try clear hb); (try clear hb2); (try clear hk); (try clear hi); (try clear ho0); obtain ⟨hcz34_0, hcz34_1, hcz34_2, hcz34_3, hcz34_4, hcz34_5, hcz34_6, hcz34_7, hcz34_8, hcz34_9, hfz34_0, hfz34_1, hfz34_2, hfz34_3, hfz34_4, hfz34_5, hfz34_6, hfz34_7, hfz34_8, hfz34_9⟩ := sqC10 BK226) | ((with_reducible refine gate_callee (f := 50) rfl ?_); refine goesL_ (some 11) rfl rfl Try.func50 (by kernel_rfl) rfl #[.agg #[.int .i64 a1_0, .int .i64 a1_1, .int .i64 a1_2, .int .i64 a1_3, .int .i64 a1_4, .int .i64 a1_5, .int .i64 a1_6, .int .i64 a1_7, .int .i64 a1_8, .int .i64 a1_9]] rfl sqA ?_; (with_reducible refine (impl_CredOk.calls k a1_0 a1_1 a1_2 a1_3 a1_4 a1_5 a1_6 a1_7 a1_8 a1_9 false _ A4.out).mono ?_); rintro e w35 ⟨rfl, hb⟩; refine ⟨_, rfl, ?_⟩; replace HO229 := Aside0.mk (Kd.R_below (sqR HO229) hb); replace BK226 := sqL BK226 hb; replace HB := sqS hb; (try clear hb); (try clear hb2); (try clear hk); (try clear hi)))
  go_ret
  exact ⟨_, sqE, sqR HO229, sqB⟩

/-! ### impl_IsMember: function 16 -/
def impl_IsMember.f (k : Nat) (l0 : List (S29)) (a1_0 : Int) (a1_1 : Int) (a2 : Int) : Option (Bool) := (impl_FactsOf.f k l0).bind fun t241 => ((impl_Fact_52.f k t241 a1_0 a1_1 a2).bind fun t244 => (some t244))
theorem impl_IsMember.mono : ∀ a0 a1 a2 a3 k, LeO (impl_IsMember.f k a0 a1 a2 a3) (impl_IsMember.f (k + 1) a0 a1 a2 a3) := by
 intro a0 a1 a2 a3 k
 unfold impl_IsMember.f
 repeat' first
   | (with_reducible exact impl_Fact_52.mono _ _ _ _ _)
   | (with_reducible exact impl_FactsOf.mono _ _)
   | (with_reducible exact LeO.refl _)
   | (with_reducible exact LeO.none _)
   | (with_reducible refine LeO.ite ?_ ?_)
   | (with_reducible refine LeO.bind ?_ (fun _ => ?_))
   | exact impl_Fact_52.mono _ _ _ _ _
   | exact impl_FactsOf.mono _ _
   | exact LeO.none _
   | refine LeO.ite ?_ ?_
   | refine LeO.bind ?_ (fun _ => ?_)
set_option maxHeartbeats 8000000 in
set_option maxRecDepth 100000 in
theorem impl_IsMember.calls (k : Nat) (A0 : Option Addr) (c0 : Nat) (l0 : List (S29)) (a1_0 : Int) (a1_1 : Int) (a2 : Int) (r : Bool) (w : World) (hr0 : Kd.C k29 w A0 l0.length l0) (hc0 : l0.length ≤ c0) (h : impl_IsMember.f k l0 a1_0 a1_1 a2 = some r) :
  Calls Try.prog 16 #[.slice A0 l0.length c0, .agg #[.int .i64 a1_0, .int .i64 a1_1], .int .i64 a2] w fun e w' => e = .returned (.bool r) ∧ Below w.heap.size w w' := by
 have hu27 := Try.underlying27
 have hu36 := Try.underlying36
 have HR0 := Aside0.mk hr0
 have HC0 := Aside0.mk hc0
 clear hr0 hc0
 have HB := Aside0.mk (Below.refl w.heap.size w)
 have H : ((impl_FactsOf.f k l0).bind fun t241 => ((impl_Fact_52.f k t241 a1_0 a1_1 a2).bind fun t244 => (some t244))) = some r := h
 clear h
 replace H := Option.bind_eq_some_iff.mp H
 obtain ⟨t241, A40, H⟩ := H
 try dsimp only at H
 have A4 := Aside0.mk A40
 clear A40
 replace H := Option.bind_eq_some_iff.mp H
 obtain ⟨t244, A50, H⟩ := H
 try dsimp only at H
 have A5 := Aside0.mk A50
 clear A50
 obtain rfl := Option.some.inj H
 go_enter Try.func16, Try.ntmps16
 try go_wp2_with (first | ((with_reducible refine gate_dst (N := 4) rfl ?_); refine sqX (N := 4) (cs := #[.int .i64 a1_0, .int .i64 a1_1]) (t := 27) ?_; intro gb240 hg w6 hbox hb; have BK240 := Aside0.mk (hbox); have GW240 := sqG hg; have GE240 := sqG hg; replace HB := sqS hb; clear hb hbox hg))
 replace BK240 := Aside0.mk (blk_drew BK240.out); replace HB := Aside0.mk (below_drew1 HB.out)
 refine start_ (n := 7) (S := fun w' => w'.cell? ⟨gb240, 0, none⟩ = some (.int .i64 a1_0) ∧ w'.cell? ⟨gb240, 1, none⟩ = some (.int .i64 a1_1)) (ds := []) #[false, false, false, false, false, false, false] (by kernel_rfl) rfl rfl ⟨(blk_cell BK240.out 0).trans rfl, (blk_cell BK240.out 1).trans rfl⟩ (fun hHeld => ?_)
 generalize w6.drew = w7 at BK240 HB hHeld ⊢
 refine sqP (i := 0) (N := some 7) #[true, false, false, false, false, false, false] rfl rfl (by kernel_rfl) ?_
 refine sqP (i := 3) (N := some 10) #[true, false, false, true, false, false, false] rfl rfl (by kernel_rfl) ?_
 refine sqTk (i := 2) (N := some 9) #[true, false, true, true, false, false, false] rfl rfl (by kernel_rfl) hHeld ?_
 refine sqP (i := 4) (N := some 11) #[true, false, true, true, true, false, false] rfl rfl (by kernel_rfl) ?_
 refine one_ (i := 1) (N := some 8) #[true, true, true, true, true, false, false] rfl rfl (by kernel_rfl) (by decide) (fun K hK => ?_)
 refine goes_ Try.func12 (by kernel_rfl) rfl #[.slice A0 l0.length c0] (by rfl) rfl rfl sqA ?_
 with_reducible refine (impl_FactsOf.calls k _ _ l0 t241 _ ?side1 ?side2 A4.out).mono ?_
 (case side1 => repeat (first | exact (Kd.C_below HR0.out HB.out) | (with_reducible refine Kd.C_alloc ?_ _) | (with_reducible refine Kd.C_drewN ?_ _) | (with_reducible refine Kd.C_drew ?_)))
 (case side2 => exact HC0.out)
 rintro e w8 ⟨v242, rfl, ho0, hb⟩
 refine ⟨_, rfl, ?_⟩
 have HO243 := Aside0.mk (Kd.R_lower ho0 (below_size (sqB))); replace BK240 := sqL BK240 hb; replace HB := sqS hb
 (try clear hb)
 (try clear hb2)
 (try clear hk)
 (try clear hi)
 (try clear ho0)
 obtain ⟨Ao9, co9, eo9⟩ := Kd.R_slice HO243.out
 (first | subst eo9 | (injection eo9 with f1_ f2_ f3_; have f4_ := f1_.symm; have f5_ := f3_.symm; clear f1_ f2_ f3_; subst f4_; subst f5_))
 refine hK.out _ _ ⟨(blk_cell BK240.out 0).trans rfl, (blk_cell BK240.out 1).trans rfl⟩ (fun hHeld => ?_)
 clear hK K
 refine sqV (N := some 8) ?_
 refine one_ (i := 5) (N := some 12) #[true, true, true, true, true, true, false] rfl rfl (by kernel_rfl) (by decide) (fun K hK => ?_)
 refine goes_ Try.func52 (by kernel_rfl) rfl #[.slice Ao9 t241.length co9, .agg #[.int .i64 a1_0, .int .i64 a1_1, .int .i64 a2]] (by rfl) rfl rfl sqA ?_
 with_reducible refine (impl_Fact_52.calls k _ _ t241 a1_0 a1_1 a2 t244 _ ?side1 ?side2 A5.out).mono ?_
 (case side1 => repeat (first | exact (Kd.R_reads' HO243.out).2.2 | (with_reducible refine Kd.C_alloc ?_ _) | (with_reducible refine Kd.C_drewN ?_ _) | (with_reducible refine Kd.C_drew ?_)))
 (case side2 => exact (Kd.R_reads' HO243.out).2.1)
 rintro e w10 ⟨rfl, hb⟩
 refine ⟨_, rfl, ?_⟩
 replace HO243 := Aside0.mk (Kd.R_below (sqR HO243) hb); replace BK240 := sqL BK240 hb; replace HB := sqS hb
 (try clear hb)
 (try clear hb2)
 (try clear hk)
 (try clear hi)
 refine hK.out _ _ ⟨(blk_cell BK240.out 0).trans rfl, (blk_cell BK240.out 1).trans rfl⟩ (fun hHeld => ?_)
 clear hK K
 refine sqV (N := some 12) ?_
 refine sqP (i := 6) (N := some 6) #[true, true, true, true, true, true, true] rfl rfl (by kernel_rfl) ?_
 refine done_ (by kernel_rfl) ?_
 try go_wp2
 go_ret
 exact ⟨sqE, sqB⟩

-- NOT PRINTED: function 83 (impl_Role_83)

-- NOT PRINTED: function 102 (impl_Role_102)

-- NOT PRINTED: function 84 (impl_Role_84)

-- NOT PRINTED: function 91 (bits_Len32)

-- NOT PRINTED: function 92 (bits_Len64)

/-! ### bits_Len: function 76 -/
def bits_Len.f (a0 : Int) : Option (Int) := if 0 ≤ a0 ∧ a0 ≤ 18446744073709551615 then some ((Lib.bitLen a0.toNat : Nat) : Int) else none
theorem bits_Len.calls (a0 : Int) (r : Int) (w : World) (h : bits_Len.f a0 = some r) :
  Calls Try.prog 76 #[.int .u64 a0] w fun e w' => e = .returned (.int .i64 r) ∧ Drawn0 w w' := by
 unfold bits_Len.f at h
 by_cases c : 0 ≤ a0 ∧ a0 ≤ 18446744073709551615
 ·rw [if_pos c] at h
  obtain rfl := Option.some.inj h
  exact (SortR.len_calls a0 w c.1 c.2).mono fun e w' ⟨he, hw⟩ => ⟨he, hw ▸ Drawn0.refl _⟩
 ·rw [if_neg c] at h
  cases h

-- NOT PRINTED: function 103 (slices_nextPowerOfTwo)

-- NOT PRINTED: function 104 (slices_xorshift_Next)

-- NOT PRINTED: function 85 (impl_Role_85)

-- NOT PRINTED: function 111 (impl_Role_111)

-- NOT PRINTED: function 106 (impl_Role_106)

-- NOT PRINTED: function 105 (impl_Role_105)

-- NOT PRINTED: function 86 (impl_Role_86)

-- NOT PRINTED: function 87 (impl_Role_87)

-- NOT PRINTED: function 88 (impl_Role_88)

-- NOT PRINTED: function 89 (impl_Role_89)

-- NOT PRINTED: function 90 (impl_Role_90)

-- NOT PRINTED: function 75 (impl_Role_75)

/-! ### impl_Role_53: function 53 -/
def sortTo_ (x : S27) : SortR.RS := (⟨x.f0.toNat % 6, Nat.mod_lt _ (by decide)⟩, ⟨x.f1.toNat % 4, Nat.mod_lt _ (by decide)⟩)
def sortOf_ (x : SortR.RS) : S27 := ⟨(x.1.val : Int), (x.2.val : Int)⟩
def sortOk_ (x : S27) : Prop := (0 ≤ x.f0 ∧ x.f0 ≤ 5) ∧ (0 ≤ x.f1 ∧ x.f1 ≤ 3)
instance (x : S27) : Decidable (sortOk_ x) := inferInstanceAs (Decidable (_ ∧ _))
theorem sortEnc_ (x : S27) (h : sortOk_ x) : SortR.enc (sortTo_ x) = [.int .i64 x.f0, .int .i64 x.f1] := by
 obtain ⟨⟨h1, h2⟩, h3, h4⟩ := h
 unfold SortR.enc sortTo_
 have e1 : ((x.f0.toNat % 6 : Nat) : Int) = x.f0 := by omega
 have e2 : ((x.f1.toNat % 4 : Nat) : Int) = x.f1 := by omega
 dsimp only
 rw [e1, e2]
theorem repsFlat_ {α : Type} {R : α → List Value → Prop} {f : α → List Value} : ∀ (ps : List α) (cs : List Value), (∀ p ∈ ps, ∀ c, R p c → c = f p) → Reps R 2 ps cs → cs = ps.flatMap f
 | [], cs, hR, h => by
  have h1 := h.1
  rw [List.length_nil, Nat.zero_mul] at h1
  rw [List.length_eq_zero_iff.1 h1]
  rfl
 | p :: ps, cs, hR, h => by
  have h0 := hR p (List.mem_cons_self ..) _ (h.2 0 p rfl)
  have h1 := repsFlat_ ps (cs.drop 2) (fun q hq => hR q (List.mem_cons_of_mem _ hq)) ⟨by have := h.1; rw [List.length_cons] at this; rw [List.length_drop]; omega, fun j q hq => by
   have h2 := h.2 (j + 1) q (by simpa using hq)
   rw [List.drop_drop]
   rw [show (j + 1) * 2 = 2 + j * 2 by omega] at h2
   exact h2⟩
  rw [Nat.zero_mul, List.drop_zero] at h0
  rw [List.flatMap_cons, ← h1, ← h0, List.take_append_drop]
theorem flatReps_ {α : Type} {R : α → List Value → Prop} {f : α → List Value} (hf : ∀ p, R p (f p)) (h2 : ∀ p, (f p).length = 2) : ∀ ps : List α, Reps R 2 ps (ps.flatMap f)
 | [] => ⟨rfl, fun j p h => by simp at h⟩
 | p :: ps => by
  have ih := flatReps_ hf h2 ps
  refine ⟨by rw [List.flatMap_cons, List.length_append, ih.1, h2, List.length_cons]; omega, fun j q hq => ?_⟩
  cases j with
  | zero =>
   have : p = q := by simpa using hq
   subst this
   rw [Nat.zero_mul, List.drop_zero, List.flatMap_cons, List.take_append_of_le_length (by rw [h2]; exact Nat.le_refl _), List.take_of_length_le (by rw [h2]; exact Nat.le_refl _)]
   exact hf p
  | succ j =>
   have h3 := ih.2 j q (by simpa using hq)
   rw [List.flatMap_cons, show (j + 1) * 2 = (f p).length + j * 2 by rw [h2]; omega, List.drop_length_add_append]
   exact h3
def impl_Role_53.f (l0 : List S27) : Option (List S27) := if l0.length ≤ 4000000 ∧ ∀ x ∈ l0, sortOk_ x then some ((SortR.sortL (l0.map sortTo_)).map sortOf_) else none
set_option maxHeartbeats 4000000 in
theorem impl_Role_53.calls (P0_ : Nat → Prop) (u9000_ : Value) (l0 : List S27) (r : List S27) (w0 w : World) (hB : Below w0.heap.size w0 w) (ho0 : Kd.R k27 27 w w0.heap.size P0_ u9000_ l0) (h : impl_Role_53.f l0 = some r) :
  Calls Try.prog 53 #[u9000_, .func (.func 54) #[] #[]] w fun e w' => e = .returned (.tuple #[]) ∧ Kd.R k27 27 w' w0.heap.size (fun k_ => (P0_ k_ ∨ w.heap.size ≤ k_)) u9000_ r ∧ Below w0.heap.size w0 w' ∧ Kept w w' (fun k_ => P0_ k_) := by
 unfold impl_Role_53.f at h
 by_cases c : l0.length ≤ 4000000 ∧ ∀ x ∈ l0, sortOk_ x
 ·rw [if_pos c] at h
  obtain rfl := Option.some.inj h
  obtain ⟨c1, c2⟩ := c
  obtain ⟨h0, inner, ⟨hlen, hcase⟩, hreps⟩ := ho0
  rcases hcase with ⟨rfl, hn⟩ | ⟨g, cap, cur, rfl, hg, hh, hn, hm, hs, ht⟩
  ·obtain rfl := List.length_eq_zero_iff.1 hn
   have hz : (SortR.sortL (([] : List S27).map sortTo_)).map sortOf_ = [] := by
    have := (SortR.sortL_spec (([] : List S27).map sortTo_)).1
    rw [List.length_eq_zero_iff.1 this]
    rfl
   refine (SortR.sort_none none 0 _ w).mono ?_
   rintro e w' ⟨rfl, rfl⟩
   exact ⟨rfl, by rw [hz]; exact Kd.R_nil _ _ _ _ _, hB, Kept.refl _ _⟩
  ·have hi : inner = (l0.map sortTo_).flatMap SortR.enc := by
    rw [List.flatMap_map]
    exact repsFlat_ l0 inner (fun p hp cs hcs => by rw [sortEnc_ p (c2 p hp)]; exact k27_openM hcs) hreps
   have hl := SortR.sort_calls (l0.map sortTo_) g cap cur w hh hs (by rw [List.length_map]; exact hn) (by rw [List.length_map]; exact c1) (by rw [List.length_map, ← hi]; exact ht)
   have hsl := (SortR.sortL_spec (l0.map sortTo_)).1
   rw [List.length_map] at hl hsl
   refine hl.mono ?_
   rintro e w' ⟨rfl, ⟨cur', q1, q2, q3⟩, q4, q5, q6, q7, q8⟩
   have hgo : P0_ g := h0 g rfl
   have hrl : ((SortR.sortL (l0.map sortTo_)).map sortOf_).length = l0.length := by rw [List.length_map]; exact hsl
   refine ⟨rfl, ⟨fun k hk => Or.inl (h0 k hk), (SortR.sortL (l0.map sortTo_)).flatMap SortR.enc, ⟨?_, Or.inr ⟨g, cap, cur', ?_, hg, q1, ?_, hm, q2, ?_⟩⟩, ?_⟩, ?_, ?_⟩
   ·rw [SortR.flat_len, hrl, hsl]
    rfl
   ·rw [hrl]
   ·rw [hrl]
    exact hn
   ·rw [hrl]
    exact q3
   ·have hq : (SortR.sortL (l0.map sortTo_)).flatMap SortR.enc = ((SortR.sortL (l0.map sortTo_)).map sortOf_).flatMap fun x => [Value.int .i64 x.f0, Value.int .i64 x.f1] := by rw [List.flatMap_map]; rfl
    rw [hq]
    exact flatReps_ (fun p => k27_mkM _ _ _ p) (fun _ => rfl) _
   ·exact ⟨q4.trans hB.os, q5.trans hB.tape, q6.trans hB.output, Nat.le_trans hB.size q7, fun k hk => (q8 k (Nat.lt_of_lt_of_le hk hB.size) (by omega)).trans (hB.block k hk)⟩
   ·exact ⟨q7, fun i hi hni => q8 i hi (fun e => hni (e ▸ hgo))⟩
 ·rw [if_neg c] at h
  cases h

/-! ### impl_byRole: function 54 -/
def impl_byRole.f (a0_0 : Int) (a0_1 : Int) (a1_0 : Int) (a1_1 : Int) : Option (Int) := if a0_0 = a1_0 then (some (wrap64 (a0_1 - a1_1))) else (some (wrap64 (a0_0 - a1_0)))
set_option maxHeartbeats 8000000 in
set_option maxRecDepth 100000 in
theorem impl_byRole.calls (a0_0 : Int) (a0_1 : Int) (a1_0 : Int) (a1_1 : Int) (r : Int) (w : World) (h : impl_byRole.f a0_0 a0_1 a1_0 a1_1 = some r) :
  Calls Try.prog 54 #[.agg #[.int .i64 a0_0, .int .i64 a0_1], .agg #[.int .i64 a1_0, .int .i64 a1_1]] w fun e w' => e = .returned (.int .i64 r) ∧ Below w.heap.size w w' := by
 have hu27 := Try.underlying27
 have HB := Aside0.mk (Below.refl w.heap.size w)
 have H : (if a0_0 = a1_0 then (some (wrap64 (a0_1 - a1_1))) else (some (wrap64 (a0_0 - a1_0)))) = some r := h
 clear h
 by_cases c3 : a0_0 = a1_0
 ·rw [if_pos c3] at H
  have c3b0 : (a0_0 == a1_0) = true := beq_iff_eq.mpr c3
  have c3b1 : (a0_0 != a1_0) = false := bne_eq_false_iff_eq.mpr c3
  clear c3
  obtain rfl := Option.some.inj H
  go_enter Try.func54, Try.ntmps54
  go_wp2_with (first | ((with_reducible refine gate_dst (N := 2) rfl ?_); refine sqX (N := 2) (cs := #[.int .i64 a0_0, .int .i64 a0_1]) (t := 27) ?_; intro gb245 hg w4 hbox hb; have BK245 := Aside0.mk (hbox); have GW245 := sqG hg; have GE245 := sqG hg; replace HB := sqS hb; clear hb hbox hg) | ((with_reducible refine gate_dst (N := 3) rfl ?_); refine sqX (N := 3) (cs := #[.int .i64 a1_0, .int .i64 a1_1]) (t := 27) ?_; intro gb246 hg w5 hbox hb; have BK246 := Aside0.mk (hbox); have GW246 := sqG hg; have GE246 := sqG hg; have NB245_246 := sqN BK245 hg; have NB246_245 := sqM BK245 hg; replace BK245 := sqL BK245 hb; replace HB := sqS hb; clear hb hbox hg; have hnb6 := NB245_246.out; have hnc6 := NB246_245.out; obtain ⟨hcz7_0, hcz7_1, hfz7_0, hfz7_1⟩ := sqC2 BK245; obtain ⟨hcz8_0, hcz8_1, hfz8_0, hfz8_1⟩ := sqC2 BK246))
  go_ret
  exact ⟨sqE, sqB⟩
 ·rw [if_neg c3] at H
  have c3b0 : (a0_0 == a1_0) = false := beq_eq_false_iff_ne.mpr c3
  have c3b1 : (a0_0 != a1_0) = true := bne_iff_ne.mpr c3
  obtain rfl := Option.some.inj H
  go_enter Try.func54, Try.ntmps54
  go_wp2_with (first | ((with_reducible refine gate_dst (N := 2) rfl ?_); refine sqX (N := 2) (cs := #[.int .i64 a0_0, .int .i64 a0_1]) (t := 27) ?_; intro gb245 hg w9 hbox hb; have BK245 := Aside0.mk (hbox); have GW245 := sqG hg; have GE245 := sqG hg; replace HB := sqS hb; clear hb hbox hg) | ((with_reducible refine gate_dst (N := 3) rfl ?_); refine sqX (N := 3) (cs := #[.int .i64 a1_0, .int .i64 a1_1]) (t := 27) ?_; intro gb246 hg w10 hbox hb; have BK246 := Aside0.mk (hbox); have GW246 := sqG hg; have GE246 := sqG hg; have NB245_246 := sqN BK245 hg; have NB246_245 := sqM BK245 hg; replace BK245 := sqL BK245 hb; replace HB := sqS hb; clear hb hbox hg; have hnb11 := NB245_246.out; have hnc11 := NB246_245.out; obtain ⟨hcz12_0, hcz12_1, hfz12_0, hfz12_1⟩ := sqC2 BK245; obtain ⟨hcz13_0, hcz13_1, hfz13_0, hfz13_1⟩ := sqC2 BK246))
  go_ret
  exact ⟨sqE, sqB⟩

end Go.Proofs.Ytnebbjcgkoaloaa.PFnMembersTold
