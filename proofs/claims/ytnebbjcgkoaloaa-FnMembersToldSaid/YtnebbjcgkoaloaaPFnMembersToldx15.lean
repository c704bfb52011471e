/- What the code that one law of the given program reaches computes, function by function, each with its proof over the given translation.
Conditions: none of our own. (Laid by a program of this session, wip/xp/xp.py; some contracts are typed by hand.) -/
import Derived.Test.YtnebbjcgkoaloaaPFnMembersToldx0
import Derived.Test.YtnebbjcgkoaloaaPFnMembersToldx7
namespace Go.Proofs.Ytnebbjcgkoaloaa.PFnMembersTold
open Go.RowKit Go.Proofs.YtnebbjcgkoaloaaW.PrintWords Go.Proofs.YtnebbjcgkoaloaaW.PrintLast Go.Proofs.YtnebbjcgkoaloaaW.PrintMore
attribute [local go_sem] max2_int min2_int max_two min_two max_three min_three max_four min_four   -- for this text's walks alone
set_option linter.unusedVariables false
set_option linter.unusedSimpArgs false

/-! ### spec_Alive: function 44 -/
def spec_Alive.l0 : Nat → List (S29) → Int → List (S29) → Int → Option ((List (S29)))
 | 0, _, _, _, _ => none
 | k + 1, x0, x1, x5, x6 => if x6 < (x0.length : Int) then (if 0 ≤ x6 then ((spec_CredOk.f k ((rd_T29 x0 x6).f0) ((rd_T29 x0 x6).f1.f0) ((rd_T29 x0 x6).f1.f1) ((rd_T29 x0 x6).f2) ((rd_T29 x0 x6).f3.f0) ((rd_T29 x0 x6).f3.f1) ((rd_T29 x0 x6).f4.f0) ((rd_T29 x0 x6).f4.f1) ((rd_T29 x0 x6).f5) ((rd_T29 x0 x6).f6)).bind fun t560 => (if t560 = true then (if ((rd_T29 x0 x6).f5) ≥ x1 then (if x5.length < 1759218604441 then (spec_Alive.l0 k x0 x1 (x5 ++ [(⟨(rd_T29 x0 x6).f0, (⟨(rd_T29 x0 x6).f1.f0, (rd_T29 x0 x6).f1.f1⟩ : S27), (rd_T29 x0 x6).f2, (⟨(rd_T29 x0 x6).f3.f0, (rd_T29 x0 x6).f3.f1⟩ : S27), (⟨(rd_T29 x0 x6).f4.f0, (rd_T29 x0 x6).f4.f1⟩ : S27), (rd_T29 x0 x6).f5, (rd_T29 x0 x6).f6⟩ : S29)]) (wrap64 (x6 + 1))) else (none)) else (spec_Alive.l0 k x0 x1 x5 (wrap64 (x6 + 1)))) else (spec_Alive.l0 k x0 x1 x5 (wrap64 (x6 + 1))))) else (none)) else (some x5)
def spec_Alive.f (k : Nat) (l0 : List (S29)) (a1 : Int) : Option ((List (S29))) := spec_Alive.l0 k l0 a1 (([] : List (S29))) 0
theorem spec_Alive.mono_l : ∀ k, (∀ y0 y1 y2 y3, LeO (spec_Alive.l0 k y0 y1 y2 y3) (spec_Alive.l0 (k + 1) y0 y1 y2 y3))
 | 0 => fun _ _ _ _ r h => by simp [spec_Alive.l0] at h
 | k + 1 => by
  have ih0 := spec_Alive.mono_l k
  ·intro y0 y1 y2 y3
   unfold spec_Alive.l0
   repeat' first
   | (with_reducible exact ih0 _ _ _ _)
   | (with_reducible exact spec_CredOk.mono _ _ _ _ _ _ _ _ _ _ _)
   | (with_reducible exact LeO.refl _)
   | (with_reducible exact LeO.none _)
   | (with_reducible refine LeO.ite ?_ ?_)
   | (with_reducible refine LeO.bind ?_ (fun _ => ?_))
   | exact ih0 _ _ _ _
   | exact spec_CredOk.mono _ _ _ _ _ _ _ _ _ _ _
   | exact LeO.none _
   | refine LeO.ite ?_ ?_
   | refine LeO.bind ?_ (fun _ => ?_)
theorem spec_Alive.mono : ∀ a0 a1 k, LeO (spec_Alive.f k a0 a1) (spec_Alive.f (k + 1) a0 a1) := by
 intro a0 a1 k
 have ih0 := spec_Alive.mono_l k
 unfold spec_Alive.f
 repeat' first
   | (with_reducible exact ih0 _ _ _ _)
   | (with_reducible exact spec_CredOk.mono _ _ _ _ _ _ _ _ _ _ _)
   | (with_reducible exact LeO.refl _)
   | (with_reducible exact LeO.none _)
   | (with_reducible refine LeO.ite ?_ ?_)
   | (with_reducible refine LeO.bind ?_ (fun _ => ?_))
   | exact ih0 _ _ _ _
   | exact spec_CredOk.mono _ _ _ _ _ _ _ _ _ _ _
   | exact LeO.none _
   | refine LeO.ite ?_ ?_
   | refine LeO.bind ?_ (fun _ => ?_)
set_option maxHeartbeats 8000000 in
set_option maxRecDepth 100000 in
theorem spec_Alive.calls (k : Nat) (A0 : Option Addr) (c0 : Nat) (l0 : List (S29)) (a1 : Int) (r : List (S29)) (w : World) (hr0 : Kd.C k29 w A0 l0.length l0) (hc0 : l0.length ≤ c0) (h : spec_Alive.f k l0 a1 = some r) :
  Calls Try.prog 44 #[.slice A0 l0.length c0, .int .i64 a1] w fun e w' => ∃ v0_ : Value, e = .returned (v0_) ∧ Kd.R k29 29 w' w.heap.size (fun _ => True) v0_ r ∧ Below w.heap.size w w' := by
 have hu29 := Try.underlying29
 have HR0 := Aside0.mk hr0
 have HC0 := Aside0.mk hc0
 clear hr0 hc0
 have HB := Aside0.mk (Below.refl w.heap.size w)
 have H : (spec_Alive.l0 k l0 a1 (([] : List (S29))) 0) = some r := h
 clear h
 obtain ⟨y556, hy556⟩ : ∃ y_ : List (S29), y_ = (([] : List (S29))) := ⟨_, rfl⟩
 replace H : (spec_Alive.l0 k l0 a1 y556 0) = some r := by first | (rw [hy556]; with_reducible exact H) | (have H2_ := (Option.bind_some _ _).symm.trans H; rw [hy556]; with_reducible exact H2_) | (have H2_ := (Option.bind_some _ _).symm.trans H; with_reducible exact H2_) | with_reducible exact H | (rw [hy556]; exact H) | exact H
 have Ny556 := Aside0.mk hy556
 clear hy556
 have H' := Aside0.mk H
 clear H
 go_enter Try.func44, Try.ntmps44
 go_wp2_with (first | ((with_reducible refine gate_dst (N := 7) rfl ?_); refine Kd.R_lit k29 _ 29 ?hg (N := 7) ?hd (xs := ([] : List (S29))) (inner := []) (ok := fun _ => True) (okp := fun _ => True) ?hr ?hp (fun _ hk => hk) trivial (Below.refl _ _) (Nat.le_refl _) (by simp) ?_; (case hd => rfl); (case hg => rfl); (case hr => first | (go_simp; done) | (go_simp; rfl)); (case hp => exact (Reps.none _ _)); intro v557 w3 ho4 hb hg_ hnew_; clear hg_ hnew_; (first | rw [← Ny556.out] at ho4 | (simp only [Int.reduceToNat] at ho4; rw [← Ny556.out] at ho4)); have HO558 := Aside0.mk (Kd.R_lower ho4 (below_size (sqB))); replace HB := sqS hb; clear hb ho4))
 go_loopg [5, 6] k (fun kq v5 v6 w' => ∃ (x5_1 : List (S29)) (x6_1 : Int), v6 = .int .i64 x6_1 ∧ Aside0 (spec_Alive.l0 kq l0 a1 x5_1 x6_1 = some r) ∧ Aside0 (kq ≤ k) ∧ Aside0 (Kd.R k29 29 w' w.heap.size (fun _ => True) v5 x5_1) ∧ Aside0 (Below w.heap.size w w'))
 case atStart => exact ⟨(y556), (0), (by first | rfl | (simp; done) | (simp [*]; done)), H', ⟨Nat.le_refl _⟩, ⟨sqR HO558⟩, ⟨sqB⟩⟩
 case round =>
  clear H'
  try clear p2
  try clear c4
  obtain ⟨x5_1, x6_1, rfl, HA, HK1, HO_5, HB⟩ := hrel
  cases gk with
  | zero => exact absurd HA.out (by simp [spec_Alive.l0])
  | succ k1 =>
   have H := HA.out
   clear HA
   simp only [spec_Alive.l0] at H
   by_cases c5 : x6_1 < (l0.length : Int)
   ·rw [if_pos c5] at H
    have c5b0 : decide (x6_1 < (l0.length : Int)) = true := decide_eq_true c5
    clear c5
    by_cases c6 : 0 ≤ x6_1
    ·rw [if_pos c6] at H
     have c6b0 : decide (0 ≤ x6_1) = true := decide_eq_true c6
     clear c6
     replace H := Option.bind_eq_some_iff.mp H
     obtain ⟨t560, A70, H⟩ := H
     try dsimp only at H
     have A7 := Aside0.mk A70
     clear A70
     by_cases c8 : t560 = true
     ·subst c8
      rw [if_pos rfl] at H
      by_cases c9 : ((rd_T29 l0 x6_1).f5) ≥ a1
      ·rw [if_pos c9] at H
       have c9b0 : decide (a1 ≤ ((rd_T29 l0 x6_1).f5)) = true := decide_eq_true c9
       clear c9
       by_cases c10 : x5_1.length < 1759218604441
       ·rw [if_pos c10] at H
        have LMc10 := Aside0.mk c10
        clear c10
        obtain ⟨y563, hy563⟩ : ∃ y_ : List (S29), y_ = (x5_1 ++ [(⟨(rd_T29 l0 x6_1).f0, (⟨(rd_T29 l0 x6_1).f1.f0, (rd_T29 l0 x6_1).f1.f1⟩ : S27), (rd_T29 l0 x6_1).f2, (⟨(rd_T29 l0 x6_1).f3.f0, (rd_T29 l0 x6_1).f3.f1⟩ : S27), (⟨(rd_T29 l0 x6_1).f4.f0, (rd_T29 l0 x6_1).f4.f1⟩ : S27), (rd_T29 l0 x6_1).f5, (rd_T29 l0 x6_1).f6⟩ : S29)]) := ⟨_, rfl⟩
        replace H : (spec_Alive.l0 k1 l0 a1 y563 (wrap64 (x6_1 + 1))) = some r := by first | (rw [hy563]; with_reducible exact H) | (have H2_ := (Option.bind_some _ _).symm.trans H; rw [hy563]; with_reducible exact H2_) | (have H2_ := (Option.bind_some _ _).symm.trans H; with_reducible exact H2_) | with_reducible exact H | (rw [hy563]; exact H) | exact H
        have Ny563 := Aside0.mk hy563
        clear hy563
        have H' := Aside0.mk H
        clear H
        have p559 : 0 ≤ (x6_1 : Int) := sqD
        have q559 : x6_1 < (l0.length : Int) := sqD
        obtain ⟨ad559, e559, hx559_0, hx559_1, hx559_2, hx559_3, hx559_4, hx559_5, hx559_6, hx559_7, hx559_8, hx559_9⟩ := at_T29 HR0.out x6_1 p559 q559
        cases e559
        replace hx559_0 := sqH HB hx559_0
        replace hx559_1 := sqH HB hx559_1
        replace hx559_2 := sqH HB hx559_2
        replace hx559_3 := sqH HB hx559_3
        replace hx559_4 := sqH HB hx559_4
        replace hx559_5 := sqH HB hx559_5
        replace hx559_6 := sqH HB hx559_6
        replace hx559_7 := sqH HB hx559_7
        replace hx559_8 := sqH HB hx559_8
        replace hx559_9 := sqH HB hx559_9
        replace p559 := eq_true p559
        replace q559 := eq_true q559
        go_wp2_with (first | ((with_reducible refine gate_callee (f := 66) rfl ?_); refine goesL_ (some 18) rfl rfl Try.func66 (by kernel_rfl) rfl #[.agg #[.int .i64 ((rd_T29 l0 x6_1).f0), .int .i64 ((rd_T29 l0 x6_1).f1.f0), .int .i64 ((rd_T29 l0 x6_1).f1.f1), .int .i64 ((rd_T29 l0 x6_1).f2), .int .i64 ((rd_T29 l0 x6_1).f3.f0), .int .i64 ((rd_T29 l0 x6_1).f3.f1), .int .i64 ((rd_T29 l0 x6_1).f4.f0), .int .i64 ((rd_T29 l0 x6_1).f4.f1), .int .i64 ((rd_T29 l0 x6_1).f5), .int .i64 ((rd_T29 l0 x6_1).f6)]] rfl sqA ?_; (with_reducible refine (spec_CredOk.calls k1 ((rd_T29 l0 x6_1).f0) ((rd_T29 l0 x6_1).f1.f0) ((rd_T29 l0 x6_1).f1.f1) ((rd_T29 l0 x6_1).f2) ((rd_T29 l0 x6_1).f3.f0) ((rd_T29 l0 x6_1).f3.f1) ((rd_T29 l0 x6_1).f4.f0) ((rd_T29 l0 x6_1).f4.f1) ((rd_T29 l0 x6_1).f5) ((rd_T29 l0 x6_1).f6) true _ A7.out).mono ?_); rintro e w11 ⟨rfl, hb⟩; refine ⟨_, rfl, ?_⟩; replace HO_5 := Aside0.mk (Kd.R_below (sqR HO_5) hb); replace HB := sqS hb; (try clear hb); (try clear hb2); (try clear hk); (try clear hi); have p561 : 0 ≤ (x6_1 : Int) := sqD; have q561 : x6_1 < (l0.length : Int) := sqD; obtain ⟨ad561, e561, hx561_0, hx561_1, hx561_2, hx561_3, hx561_4, hx561_5, hx561_6, hx561_7, hx561_8, hx561_9⟩ := at_T29 HR0.out x6_1 p561 q561; obtain rfl : ad559 = ad561 := (by injection e561); replace hx561_0 := sqH HB hx561_0; replace hx561_1 := sqH HB hx561_1; replace hx561_2 := sqH HB hx561_2; replace hx561_3 := sqH HB hx561_3; replace hx561_4 := sqH HB hx561_4; replace hx561_5 := sqH HB hx561_5; replace hx561_6 := sqH HB hx561_6; replace hx561_7 := sqH HB hx561_7; replace hx561_8 := sqH HB hx561_8; replace hx561_9 := sqH HB hx561_9; replace p561 := eq_true p561; replace q561 := eq_true q561; have p562 : 0 ≤ (x6_1 : Int) := sqD; have q562 : x6_1 < (l0.length : Int) := sqD; obtain ⟨ad562, e562, hx562_0, hx562_1, hx562_2, hx562_3, hx562_4, hx562_5, hx562_6, hx562_7, hx562_8, hx562_9⟩ := at_T29 HR0.out x6_1 p562 q562; obtain rfl : ad559 = ad562 := (by injection e562); replace hx562_0 := sqH HB hx562_0; replace hx562_1 := sqH HB hx562_1; replace hx562_2 := sqH HB hx562_2; replace hx562_3 := sqH HB hx562_3; replace hx562_4 := sqH HB hx562_4; replace hx562_5 := sqH HB hx562_5; replace hx562_6 := sqH HB hx562_6; replace hx562_7 := sqH HB hx562_7; replace hx562_8 := sqH HB hx562_8; replace hx562_9 := sqH HB hx562_9; replace p562 := eq_true p562; replace q562 := eq_true q562) | ((with_reducible refine gate_builtin (b := .append) (xs := #[.tmp 28, .tmp 33]) rfl ?_); at_builtin; refine Kd.R_append k29 (w0 := w) w.heap.size rfl (.tmp 28) (.tmp 33) 24 29 (.agg #[(.int .i64 0), (.int .i64 0), (.int .i64 0), (.int .i64 0), (.int .i64 0), (.int .i64 0), (.int .i64 0), (.int .i64 0), (.int .i64 0), (.int .i64 0)]) 80 rfl Try.underlying24 info29 rfl (by decide) (by omega) u5 x5_1 (⟨(rd_T29 l0 x6_1).f0, (⟨(rd_T29 l0 x6_1).f1.f0, (rd_T29 l0 x6_1).f1.f1⟩ : S27), (rd_T29 l0 x6_1).f2, (⟨(rd_T29 l0 x6_1).f3.f0, (rd_T29 l0 x6_1).f3.f1⟩ : S27), (⟨(rd_T29 l0 x6_1).f4.f0, (rd_T29 l0 x6_1).f4.f1⟩ : S27), (rd_T29 l0 x6_1).f5, (rd_T29 l0 x6_1).f6⟩ : S29) [.int .i64 ((rd_T29 l0 x6_1).f0), .int .i64 ((rd_T29 l0 x6_1).f1.f0), .int .i64 ((rd_T29 l0 x6_1).f1.f1), .int .i64 ((rd_T29 l0 x6_1).f2), .int .i64 ((rd_T29 l0 x6_1).f3.f0), .int .i64 ((rd_T29 l0 x6_1).f3.f1), .int .i64 ((rd_T29 l0 x6_1).f4.f0), .int .i64 ((rd_T29 l0 x6_1).f4.f1), .int .i64 ((rd_T29 l0 x6_1).f5), .int .i64 ((rd_T29 l0 x6_1).f6)] (fun _ => True) (fun _ => False) rfl rfl ?aP (fun _ hk => hk.elim) ?aF ?aO ?aB ?aS ?aL ?_; (case aP => exact k29_mkM _ _ _ (⟨(rd_T29 l0 x6_1).f0, (⟨(rd_T29 l0 x6_1).f1.f0, (rd_T29 l0 x6_1).f1.f1⟩ : S27), (rd_T29 l0 x6_1).f2, (⟨(rd_T29 l0 x6_1).f3.f0, (rd_T29 l0 x6_1).f3.f1⟩ : S27), (⟨(rd_T29 l0 x6_1).f4.f0, (rd_T29 l0 x6_1).f4.f1⟩ : S27), (rd_T29 l0 x6_1).f5, (rd_T29 l0 x6_1).f6⟩ : S29)); (case aB => exact (sqB)); (case aF => exact (fun _ _ => trivial)); (case aO => exact (sqR HO_5)); (case aS => exact (below_size (sqB))); (case aL => have := LMc10.out; omega); intro v564 w12 ho hb hg hat; rw [← Ny563.out] at ho; have n0_ := Aside0.mk (hb); have n1_ := Aside0.mk (ho); clear HB; clear HO_5; have HB := n0_; have HO565 := n1_; clear n0_ n1_; clear ho hb hg hat))
        go_roundg k1
        case measure => have := HK1.out; omega
        case rel => exact ⟨(y563), (wrap64 (x6_1 + 1)), (by first | rfl | (simp; done) | (simp [*]; done)), H', ⟨by have := HK1.out; omega⟩, ⟨sqR HO565⟩, ⟨sqB⟩⟩
       ·rw [if_neg c10] at H
        exact absurd H (by simp)
      ·rw [if_neg c9] at H
       have c9b0 : decide (a1 ≤ ((rd_T29 l0 x6_1).f5)) = false := decide_eq_false c9
       clear c9
       have H' := Aside0.mk H
       clear H
       have p559 : 0 ≤ (x6_1 : Int) := sqD
       have q559 : x6_1 < (l0.length : Int) := sqD
       obtain ⟨ad559, e559, hx559_0, hx559_1, hx559_2, hx559_3, hx559_4, hx559_5, hx559_6, hx559_7, hx559_8, hx559_9⟩ := at_T29 HR0.out x6_1 p559 q559
       cases e559
       replace hx559_0 := sqH HB hx559_0
       replace hx559_1 := sqH HB hx559_1
       replace hx559_2 := sqH HB hx559_2
       replace hx559_3 := sqH HB hx559_3
       replace hx559_4 := sqH HB hx559_4
       replace hx559_5 := sqH HB hx559_5
       replace hx559_6 := sqH HB hx559_6
       replace hx559_7 := sqH HB hx559_7
       replace hx559_8 := sqH HB hx559_8
       replace hx559_9 := sqH HB hx559_9
       replace p559 := eq_true p559
       replace q559 := eq_true q559
       go_wp2_with (first | ((with_reducible refine gate_callee (f := 66) rfl ?_); refine goesL_ (some 18) rfl rfl Try.func66 (by kernel_rfl) rfl #[.agg #[.int .i64 ((rd_T29 l0 x6_1).f0), .int .i64 ((rd_T29 l0 x6_1).f1.f0), .int .i64 ((rd_T29 l0 x6_1).f1.f1), .int .i64 ((rd_T29 l0 x6_1).f2), .int .i64 ((rd_T29 l0 x6_1).f3.f0), .int .i64 ((rd_T29 l0 x6_1).f3.f1), .int .i64 ((rd_T29 l0 x6_1).f4.f0), .int .i64 ((rd_T29 l0 x6_1).f4.f1), .int .i64 ((rd_T29 l0 x6_1).f5), .int .i64 ((rd_T29 l0 x6_1).f6)]] rfl sqA ?_; (with_reducible refine (spec_CredOk.calls k1 ((rd_T29 l0 x6_1).f0) ((rd_T29 l0 x6_1).f1.f0) ((rd_T29 l0 x6_1).f1.f1) ((rd_T29 l0 x6_1).f2) ((rd_T29 l0 x6_1).f3.f0) ((rd_T29 l0 x6_1).f3.f1) ((rd_T29 l0 x6_1).f4.f0) ((rd_T29 l0 x6_1).f4.f1) ((rd_T29 l0 x6_1).f5) ((rd_T29 l0 x6_1).f6) true _ A7.out).mono ?_); rintro e w13 ⟨rfl, hb⟩; refine ⟨_, rfl, ?_⟩; replace HO_5 := Aside0.mk (Kd.R_below (sqR HO_5) hb); replace HB := sqS hb; (try clear hb); (try clear hb2); (try clear hk); (try clear hi); have p561 : 0 ≤ (x6_1 : Int) := sqD; have q561 : x6_1 < (l0.length : Int) := sqD; obtain ⟨ad561, e561, hx561_0, hx561_1, hx561_2, hx561_3, hx561_4, hx561_5, hx561_6, hx561_7, hx561_8, hx561_9⟩ := at_T29 HR0.out x6_1 p561 q561; obtain rfl : ad559 = ad561 := (by injection e561); replace hx561_0 := sqH HB hx561_0; replace hx561_1 := sqH HB hx561_1; replace hx561_2 := sqH HB hx561_2; replace hx561_3 := sqH HB hx561_3; replace hx561_4 := sqH HB hx561_4; replace hx561_5 := sqH HB hx561_5; replace hx561_6 := sqH HB hx561_6; replace hx561_7 := sqH HB hx561_7; replace hx561_8 := sqH HB hx561_8; replace hx561_9 := sqH HB hx561_9; replace p561 := eq_true p561; replace q561 := eq_true q561))
       go_roundg k1
       case measure => have := HK1.out; omega
       case rel => exact ⟨(x5_1), (wrap64 (x6_1 + 1)), (by first | rfl | (simp; done) | (simp [*]; done)), H', ⟨by have := HK1.out; omega⟩, ⟨sqR HO_5⟩, ⟨sqB⟩⟩
     ·replace c8 := Bool.eq_false_iff.mpr c8
      subst c8
      rw [if_neg (show ¬ (false = true) by decide)] at H
      have H' := Aside0.mk H
      clear H
      have p559 : 0 ≤ (x6_1 : Int) := sqD
      have q559 : x6_1 < (l0.length : Int) := sqD
      obtain ⟨ad559, e559, hx559_0, hx559_1, hx559_2, hx559_3, hx559_4, hx559_5, hx559_6, hx559_7, hx559_8, hx559_9⟩ := at_T29 HR0.out x6_1 p559 q559
      cases e559
      replace hx559_0 := sqH HB hx559_0
      replace hx559_1 := sqH HB hx559_1
      replace hx559_2 := sqH HB hx559_2
      replace hx559_3 := sqH HB hx559_3
      replace hx559_4 := sqH HB hx559_4
      replace hx559_5 := sqH HB hx559_5
      replace hx559_6 := sqH HB hx559_6
      replace hx559_7 := sqH HB hx559_7
      replace hx559_8 := sqH HB hx559_8
      replace hx559_9 := sqH HB hx559_9
      replace p559 := eq_true p559
      replace q559 := eq_true q559
      go_wp2_with (first | ((with_reducible refine gate_callee (f := 66) rfl ?_); refine goesL_ (some 18) rfl rfl Try.func66 (by kernel_rfl) rfl #[.agg #[.int .i64 ((rd_T29 l0 x6_1).f0), .int .i64 ((rd_T29 l0 x6_1).f1.f0), .int .i64 ((rd_T29 l0 x6_1).f1.f1), .int .i64 ((rd_T29 l0 x6_1).f2), .int .i64 ((rd_T29 l0 x6_1).f3.f0), .int .i64 ((rd_T29 l0 x6_1).f3.f1), .int .i64 ((rd_T29 l0 x6_1).f4.f0), .int .i64 ((rd_T29 l0 x6_1).f4.f1), .int .i64 ((rd_T29 l0 x6_1).f5), .int .i64 ((rd_T29 l0 x6_1).f6)]] rfl sqA ?_; (with_reducible refine (spec_CredOk.calls k1 ((rd_T29 l0 x6_1).f0) ((rd_T29 l0 x6_1).f1.f0) ((rd_T29 l0 x6_1).f1.f1) ((rd_T29 l0 x6_1).f2) ((rd_T29 l0 x6_1).f3.f0) ((rd_T29 l0 x6_1).f3.f1) ((rd_T29 l0 x6_1).f4.f0) ((rd_T29 l0 x6_1).f4.f1) ((rd_T29 l0 x6_1).f5) ((rd_T29 l0 x6_1).f6) false _ A7.out).mono ?_); rintro e w14 ⟨rfl, hb⟩; refine ⟨_, rfl, ?_⟩; replace HO_5 := Aside0.mk (Kd.R_below (sqR HO_5) hb); replace HB := sqS hb; (try clear hb); (try clear hb2); (try clear hk); (try clear hi)))
      go_roundg k1
      case measure => have := HK1.out; omega
      case rel => exact ⟨(x5_1), (wrap64 (x6_1 + 1)), (by first | rfl | (simp; done) | (simp [*]; done)), H', ⟨by have := HK1.out; omega⟩, ⟨sqR HO_5⟩, ⟨sqB⟩⟩
    ·rw [if_neg c6] at H
     exact absurd H (by simp)
   ·rw [if_neg c5] at H
    have c5b0 : decide (x6_1 < (l0.length : Int)) = false := decide_eq_false c5
    clear c5
    obtain rfl := Option.some.inj H
    go_wp2
    go_ret
    exact ⟨_, sqE, sqR HO_5, sqB⟩

end Go.Proofs.Ytnebbjcgkoaloaa.PFnMembersTold
