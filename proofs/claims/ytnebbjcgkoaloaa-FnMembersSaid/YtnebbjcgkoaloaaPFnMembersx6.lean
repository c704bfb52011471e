/- What the code that one law of the given program reaches computes, function by function, each with its proof over the given translation.
Conditions: none of our own. (Laid by a program of this session, wip/xp/xp.py; some contracts are typed by hand.) -/
import Derived.Test.YtnebbjcgkoaloaaPFnMembersx0
import Derived.Test.YtnebbjcgkoaloaaPFnMembersx2
import Derived.Test.YtnebbjcgkoaloaaPFnMembersx4
import Derived.Test.YtnebbjcgkoaloaaPFnMembersx5
namespace Go.Proofs.Ytnebbjcgkoaloaa.PFnMembers
open Go.RowKit Go.Proofs.YtnebbjcgkoaloaaW.PrintWords Go.Proofs.YtnebbjcgkoaloaaW.PrintLast Go.Proofs.YtnebbjcgkoaloaaW.PrintMore
attribute [local go_sem] max2_int min2_int max_two min_two max_three min_three max_four min_four   -- for this text's walks alone
set_option linter.unusedVariables false
set_option linter.unusedSimpArgs false

attribute [local go_sem high] eqA36
/-! ### impl_findFacts: function 48 -/
mutual
def impl_findFacts.l0 : Nat → List (S29) → List (S36) → List (S72) → Int → Option ((List (S72)))
 | 0, _, _, _, _ => none
 | k + 1, x0, x3, x4, x5 => if x5 < (x3.length : Int) then (impl_findFacts.l1 k x0 x3 x4 (x3.length : Int) x0 (x0.length : Int) 0) else (some x4)
def impl_findFacts.l1 : Nat → List (S29) → List (S36) → List (S72) → Int → List (S29) → Int → Int → Option ((List (S72)))
 | 0, _, _, _, _, _, _, _ => none
 | k + 1, x0, x3, x4, x5, x18, x19, x20 => if x20 < x19 then (if 0 ≤ x20 then (if x20 < (x18.length : Int) then ((impl_CredOk.f k ((rd_T29 x18 x20).f0) ((rd_T29 x18 x20).f1.f0) ((rd_T29 x18 x20).f1.f1) ((rd_T29 x18 x20).f2) ((rd_T29 x18 x20).f3.f0) ((rd_T29 x18 x20).f3.f1) ((rd_T29 x18 x20).f4.f0) ((rd_T29 x18 x20).f4.f1) ((rd_T29 x18 x20).f5) ((rd_T29 x18 x20).f6)).bind fun t261 => (if t261 = true then ((impl_Fact_49.f x3).bind fun t262 => ((impl_derive.f k t262 ((rd_T29 x18 x20).f0) ((rd_T29 x18 x20).f1.f0) ((rd_T29 x18 x20).f1.f1) ((rd_T29 x18 x20).f2) ((rd_T29 x18 x20).f3.f0) ((rd_T29 x18 x20).f3.f1) ((rd_T29 x18 x20).f4.f0) ((rd_T29 x18 x20).f4.f1) ((rd_T29 x18 x20).f5) ((rd_T29 x18 x20).f6)).bind fun t265 => (impl_findFacts.l2 k x0 x3 x4 x5 x20 x18 x19 x20 t265 (t265.length : Int) 0))) else (impl_findFacts.l1 k x0 x3 x4 x5 x18 x19 (wrap64 (x20 + 1))))) else (none)) else (none)) else (impl_findFacts.l0 k x0 x3 x4 x5)
def impl_findFacts.l2 : Nat → List (S29) → List (S36) → List (S72) → Int → Int → List (S29) → Int → Int → List (S78) → Int → Int → Option ((List (S72)))
 | 0, _, _, _, _, _, _, _, _, _, _, _ => none
 | k + 1, x0, x3, x4, x5, x6, x18, x19, x20, x31, x32, x33 => if x33 < x32 then (if 0 ≤ x33 then (if x33 < (x31.length : Int) then ((impl_Fact_52.f k x3 ((rd_T78 x31 x33).f0.f0.f0) ((rd_T78 x31 x33).f0.f0.f1) ((rd_T78 x31 x33).f0.f1)).bind fun t270 => (if t270 = true then (impl_findFacts.l2 k x0 x3 x4 x5 x6 x18 x19 x20 x31 x32 (wrap64 (x33 + 1))) else (if x3.length < 5864062014805 then (if x4.length < 2513169434916 then (impl_findFacts.l2 k x0 (x3 ++ [(⟨(⟨(rd_T78 x31 x33).f0.f0.f0, (rd_T78 x31 x33).f0.f0.f1⟩ : S27), (rd_T78 x31 x33).f0.f1⟩ : S36)]) (x4 ++ [(⟨(⟨(⟨(rd_T78 x31 x33).f0.f0.f0, (rd_T78 x31 x33).f0.f0.f1⟩ : S27), (rd_T78 x31 x33).f0.f1⟩ : S36), x6, (rd_T78 x31 x33).f1⟩ : S72)]) x5 x6 x18 x19 x20 x31 x32 (wrap64 (x33 + 1))) else (none)) else (none)))) else (none)) else (none)) else (impl_findFacts.l1 k x0 x3 x4 x5 x18 x19 (wrap64 (x20 + 1)))
end
def impl_findFacts.f (k : Nat) (l0 : List (S29)) : Option ((List (S72))) := impl_findFacts.l0 k l0 (([] : List (S36))) (([] : List (S72))) (-1)
theorem impl_findFacts.mono_l : ∀ k, (∀ y0 y1 y2 y3, LeO (impl_findFacts.l0 k y0 y1 y2 y3) (impl_findFacts.l0 (k + 1) y0 y1 y2 y3)) ∧ (∀ y0 y1 y2 y3 y4 y5 y6, LeO (impl_findFacts.l1 k y0 y1 y2 y3 y4 y5 y6) (impl_findFacts.l1 (k + 1) y0 y1 y2 y3 y4 y5 y6)) ∧ (∀ y0 y1 y2 y3 y4 y5 y6 y7 y8 y9 y10, LeO (impl_findFacts.l2 k y0 y1 y2 y3 y4 y5 y6 y7 y8 y9 y10) (impl_findFacts.l2 (k + 1) y0 y1 y2 y3 y4 y5 y6 y7 y8 y9 y10))
 | 0 => ⟨fun _ _ _ _ r h => by simp [impl_findFacts.l0] at h, fun _ _ _ _ _ _ _ r h => by simp [impl_findFacts.l1] at h, fun _ _ _ _ _ _ _ _ _ _ _ r h => by simp [impl_findFacts.l2] at h⟩
 | k + 1 => by
  obtain ⟨ih0, ih1, ih2⟩ := impl_findFacts.mono_l k
  refine ⟨?_, ?_, ?_⟩
  ·intro y0 y1 y2 y3
   unfold impl_findFacts.l0
   repeat' first
   | (with_reducible exact ih0 _ _ _ _)
   | (with_reducible exact ih1 _ _ _ _ _ _ _)
   | (with_reducible exact ih2 _ _ _ _ _ _ _ _ _ _ _)
   | (with_reducible exact impl_CredOk.mono _ _ _ _ _ _ _ _ _ _ _)
   | (with_reducible exact impl_Fact_52.mono _ _ _ _ _)
   | (with_reducible exact impl_derive.mono _ _ _ _ _ _ _ _ _ _ _ _)
   | (with_reducible exact LeO.refl _)
   | (with_reducible exact LeO.none _)
   | (with_reducible refine LeO.ite ?_ ?_)
   | (with_reducible refine LeO.bind ?_ (fun _ => ?_))
   | exact ih0 _ _ _ _
   | exact ih1 _ _ _ _ _ _ _
   | exact ih2 _ _ _ _ _ _ _ _ _ _ _
   | exact impl_CredOk.mono _ _ _ _ _ _ _ _ _ _ _
   | exact impl_Fact_52.mono _ _ _ _ _
   | exact impl_derive.mono _ _ _ _ _ _ _ _ _ _ _ _
   | exact LeO.none _
   | refine LeO.ite ?_ ?_
   | refine LeO.bind ?_ (fun _ => ?_)
  ·intro y0 y1 y2 y3 y4 y5 y6
   unfold impl_findFacts.l1
   repeat' first
   | (with_reducible exact ih0 _ _ _ _)
   | (with_reducible exact ih1 _ _ _ _ _ _ _)
   | (with_reducible exact ih2 _ _ _ _ _ _ _ _ _ _ _)
   | (with_reducible exact impl_CredOk.mono _ _ _ _ _ _ _ _ _ _ _)
   | (with_reducible exact impl_Fact_52.mono _ _ _ _ _)
   | (with_reducible exact impl_derive.mono _ _ _ _ _ _ _ _ _ _ _ _)
   | (with_reducible exact LeO.refl _)
   | (with_reducible exact LeO.none _)
   | (with_reducible refine LeO.ite ?_ ?_)
   | (with_reducible refine LeO.bind ?_ (fun _ => ?_))
   | exact ih0 _ _ _ _
   | exact ih1 _ _ _ _ _ _ _
   | exact ih2 _ _ _ _ _ _ _ _ _ _ _
   | exact impl_CredOk.mono _ _ _ _ _ _ _ _ _ _ _
   | exact impl_Fact_52.mono _ _ _ _ _
   | exact impl_derive.mono _ _ _ _ _ _ _ _ _ _ _ _
   | exact LeO.none _
   | refine LeO.ite ?_ ?_
   | refine LeO.bind ?_ (fun _ => ?_)
  ·intro y0 y1 y2 y3 y4 y5 y6 y7 y8 y9 y10
   unfold impl_findFacts.l2
   repeat' first
   | (with_reducible exact ih0 _ _ _ _)
   | (with_reducible exact ih1 _ _ _ _ _ _ _)
   | (with_reducible exact ih2 _ _ _ _ _ _ _ _ _ _ _)
   | (with_reducible exact impl_CredOk.mono _ _ _ _ _ _ _ _ _ _ _)
   | (with_reducible exact impl_Fact_52.mono _ _ _ _ _)
   | (with_reducible exact impl_derive.mono _ _ _ _ _ _ _ _ _ _ _ _)
   | (with_reducible exact LeO.refl _)
   | (with_reducible exact LeO.none _)
   | (with_reducible refine LeO.ite ?_ ?_)
   | (with_reducible refine LeO.bind ?_ (fun _ => ?_))
   | exact ih0 _ _ _ _
   | exact ih1 _ _ _ _ _ _ _
   | exact ih2 _ _ _ _ _ _ _ _ _ _ _
   | exact impl_CredOk.mono _ _ _ _ _ _ _ _ _ _ _
   | exact impl_Fact_52.mono _ _ _ _ _
   | exact impl_derive.mono _ _ _ _ _ _ _ _ _ _ _ _
   | exact LeO.none _
   | refine LeO.ite ?_ ?_
   | refine LeO.bind ?_ (fun _ => ?_)
theorem impl_findFacts.mono : ∀ a0 k, LeO (impl_findFacts.f k a0) (impl_findFacts.f (k + 1) a0) := by
 intro a0 k
 obtain ⟨ih0, ih1, ih2⟩ := impl_findFacts.mono_l k
 unfold impl_findFacts.f
 repeat' first
   | (with_reducible exact ih0 _ _ _ _)
   | (with_reducible exact ih1 _ _ _ _ _ _ _)
   | (with_reducible exact ih2 _ _ _ _ _ _ _ _ _ _ _)
   | (with_reducible exact impl_CredOk.mono _ _ _ _ _ _ _ _ _ _ _)
   | (with_reducible exact impl_Fact_52.mono _ _ _ _ _)
   | (with_reducible exact impl_derive.mono _ _ _ _ _ _ _ _ _ _ _ _)
   | (with_reducible exact LeO.refl _)
   | (with_reducible exact LeO.none _)
   | (with_reducible refine LeO.ite ?_ ?_)
   | (with_reducible refine LeO.bind ?_ (fun _ => ?_))
   | exact ih0 _ _ _ _
   | exact ih1 _ _ _ _ _ _ _
   | exact ih2 _ _ _ _ _ _ _ _ _ _ _
   | exact impl_CredOk.mono _ _ _ _ _ _ _ _ _ _ _
   | exact impl_Fact_52.mono _ _ _ _ _
   | exact impl_derive.mono _ _ _ _ _ _ _ _ _ _ _ _
   | exact LeO.none _
   | refine LeO.ite ?_ ?_
   | refine LeO.bind ?_ (fun _ => ?_)
set_option maxHeartbeats 8000000 in
set_option maxRecDepth 100000 in
theorem impl_findFacts.calls (k : Nat) (A0 : Option Addr) (c0 : Nat) (l0 : List (S29)) (r : List (S72)) (w : World) (hr0 : Kd.C k29 w A0 l0.length l0) (hc0 : l0.length ≤ c0) (h : impl_findFacts.f k l0 = some r) :
  Calls Try.prog 48 #[.slice A0 l0.length c0] w fun e w' => ∃ v0_ : Value, e = .returned (v0_) ∧ Kd.N k72 72 w' w.heap.size (fun k_ => (w.heap.size ≤ k_)) v0_ r ∧ Below w.heap.size w w' := by
 have hu29 := Try.underlying29
 have hu78 := Try.underlying78
 have hu36 := Try.underlying36
 have hu72 := Try.underlying72
 have HR0 := Aside0.mk hr0
 have HC0 := Aside0.mk hc0
 clear hr0 hc0
 have HB := Aside0.mk (Below.refl w.heap.size w)
 have H : (impl_findFacts.l0 k l0 (([] : List (S36))) (([] : List (S72))) (-1)) = some r := h
 clear h
 obtain ⟨y253, hy253⟩ : ∃ y_ : List (S36), y_ = (([] : List (S36))) := ⟨_, rfl⟩
 replace H : (impl_findFacts.l0 k l0 y253 (([] : List (S72))) (-1)) = some r := by first | (rw [hy253]; with_reducible exact H) | (have H2_ := (Option.bind_some _ _).symm.trans H; rw [hy253]; with_reducible exact H2_) | (have H2_ := (Option.bind_some _ _).symm.trans H; with_reducible exact H2_) | with_reducible exact H | (rw [hy253]; exact H) | exact H
 have Ny253 := Aside0.mk hy253
 clear hy253
 obtain ⟨y256, hy256⟩ : ∃ y_ : List (S72), y_ = (([] : List (S72))) := ⟨_, rfl⟩
 replace H : (impl_findFacts.l0 k l0 y253 y256 (-1)) = some r := by first | (rw [hy256]; with_reducible exact H) | (have H2_ := (Option.bind_some _ _).symm.trans H; rw [hy256]; with_reducible exact H2_) | (have H2_ := (Option.bind_some _ _).symm.trans H; with_reducible exact H2_) | with_reducible exact H | (rw [hy256]; exact H) | exact H
 have Ny256 := Aside0.mk hy256
 clear hy256
 have H' := Aside0.mk H
 clear H
 go_enter Try.func48, Try.ntmps48
 go_wp2_with (first | ((with_reducible refine gate_dst (N := 10) rfl ?_); refine Kd.R_lit k36 _ 36 ?hg (N := 10) ?hd (xs := ([] : List (S36))) (inner := []) (ok := fun _ => True) (okp := fun _ => True) ?hr ?hp (fun _ hk => hk) trivial (Below.refl _ _) (Nat.le_refl _) (by simp) ?_; (case hd => rfl); (case hg => rfl); (case hr => first | (go_simp; done) | (go_simp; rfl)); (case hp => exact (Reps.none _ _)); intro v254 w2 ho3 hb hg_ hnew_; clear hg_ hnew_; (first | rw [← Ny253.out] at ho3 | (simp only [Int.reduceToNat] at ho3; rw [← Ny253.out] at ho3)); have HO255 := Aside0.mk (Kd.R_lower (Kd.R_newM (M := fun k_ => (w.heap.size ≤ k_)) ho3 (below_size (sqB)) (fun k_ h_ => h_)) (below_size (sqB))); replace HB := sqS hb; clear hb ho3) | ((with_reducible refine gate_dst (N := 11) rfl ?_); refine Kd.N_lit k72 _ 72 ?hg (N' := 11) ?hd (xs := ([] : List (S72))) (inner := []) (ok := (fun k_ => (w.heap.size ≤ k_) ∧ some k_ ≠ (v254 : Value).ownBlock)) (okp := (fun k_ => (w.heap.size ≤ k_) ∧ some k_ ≠ (v254 : Value).ownBlock)) ?hr ?hp (fun _ hk => hk) ((show ∀ k_, w2.heap.size ≤ k_ → (fun k_ => (w.heap.size ≤ k_) ∧ some k_ ≠ (v254 : Value).ownBlock) k_ from fun k_ hk => ⟨(Nat.le_trans (below_size (sqB)) hk), Kd.fresh' (Kd.R_lt (sqR HO255)) k_ hk⟩) _ (Nat.le_refl _)) (Below.refl _ _) (Nat.le_refl _) (by simp) ?_; (case hd => rfl); (case hg => rfl); (case hr => first | (go_simp; done) | (go_simp; rfl)); (case hp => exact (Reps.none _ _)); intro v257 w4 ho5 hb hg_ hnew_; clear hg_ hnew_; (first | rw [← Ny256.out] at ho5 | (simp only [Int.reduceToNat] at ho5; rw [← Ny256.out] at ho5)); replace HO255 := Aside0.mk (Kd.R_below (sqR HO255) hb); have HO258 := Aside0.mk (Kd.N_lower ho5 (below_size (sqB))); replace HB := sqS hb; clear hb ho5))
 go_loopg [3, 4, 5] k (fun kq v3 v4 v5 w' => ∃ (x3_1 : List (S36)) (x4_1 : List (S72)) (x5_1 : Int), v5 = .int .i64 x5_1 ∧ Aside0 (impl_findFacts.l0 kq l0 x3_1 x4_1 x5_1 = some r) ∧ Aside0 (kq ≤ k) ∧ Aside0 (Kd.R k36 36 w' w.heap.size (fun k_ => (w.heap.size ≤ k_)) v3 x3_1) ∧ Aside0 (Kd.N k72 72 w' w.heap.size (fun k_ => (w.heap.size ≤ k_) ∧ some k_ ≠ (v3 : Value).ownBlock) v4 x4_1) ∧ Aside0 (Below w.heap.size w w'))
 case atStart => exact ⟨(y253), (y256), ((-1)), (by first | rfl | (simp; done) | (simp [*]; done)), H', ⟨Nat.le_refl _⟩, ⟨by (with_reducible repeat (first | apply Kd.R_alloc | apply Kd.R_drewN | apply Kd.R_drew)); exact Kd.R_mono HO255.out (fun _ hk => hk.1)⟩, ⟨by (with_reducible repeat (first | apply Kd.N_alloc | apply Kd.N_drewN | apply Kd.N_drew)); exact HO258.out⟩, ⟨sqB⟩⟩
 case round =>
  clear H'
  try clear p2
  try clear c4
  obtain ⟨x3_1, x4_1, x5_1, rfl, HA, HK1, HO_3, HO_4, HB⟩ := hrel
  cases gk with
  | zero => exact absurd HA.out (by simp [impl_findFacts.l0])
  | succ k1 =>
   have H := HA.out
   clear HA
   simp only [impl_findFacts.l0] at H
   by_cases c6 : x5_1 < (x3_1.length : Int)
   ·rw [if_pos c6] at H
    have c6b0 : decide (x5_1 < (x3_1.length : Int)) = true := decide_eq_true c6
    clear c6
    have H' := Aside0.mk H
    clear H
    obtain ⟨Ao7, co7, eo7⟩ := Kd.R_slice HO_3.out
    subst eo7
    go_wp2
    go_loopg [3, 4, 20] k1 (fun kq v3 v4 v20 w' => ∃ (x3_2 : List (S36)) (x4_2 : List (S72)) (x20_2 : Int), v20 = .int .i64 x20_2 ∧ Aside0 (impl_findFacts.l1 kq l0 x3_2 x4_2 (x3_1.length : Int) l0 (l0.length : Int) x20_2 = some r) ∧ Aside0 (kq ≤ k1) ∧ Aside0 (Kd.R k36 36 w' w.heap.size (fun k_ => (w.heap.size ≤ k_)) v3 x3_2) ∧ Aside0 (Kd.N k72 72 w' w.heap.size (fun k_ => (w.heap.size ≤ k_) ∧ some k_ ≠ (v3 : Value).ownBlock) v4 x4_2) ∧ Aside0 (Below w.heap.size w w'))
    case atStart => exact ⟨(x3_1), (x4_1), (0), (by first | rfl | (simp; done) | (simp [*]; done)), H', ⟨Nat.le_refl _⟩, ⟨sqR HO_3⟩, ⟨by (with_reducible repeat (first | apply Kd.N_alloc | apply Kd.N_drewN | apply Kd.N_drew)); exact HO_4.out⟩, ⟨sqB⟩⟩
    case round =>
     clear H'
     try clear p2
     try clear c4
     try clear c6
     try clear c6b0
     try clear p2
     obtain ⟨x3_2, x4_2, x20_2, rfl, HA, HK2, HO_3, HO_4, HB⟩ := hrel
     cases gk with
     | zero => exact absurd HA.out (by simp [impl_findFacts.l1])
     | succ k2 =>
      have H := HA.out
      clear HA
      simp only [impl_findFacts.l1] at H
      by_cases c8 : x20_2 < (l0.length : Int)
      ·rw [if_pos c8] at H
       have c8b0 : decide (x20_2 < (l0.length : Int)) = true := decide_eq_true c8
       clear c8
       by_cases c9 : 0 ≤ x20_2
       ·rw [if_pos c9] at H
        have c9b0 : decide (0 ≤ x20_2) = true := decide_eq_true c9
        clear c9
        by_cases c10 : x20_2 < (l0.length : Int)
        ·rw [if_pos c10] at H
         have c10b0 : decide (x20_2 < (l0.length : Int)) = true := decide_eq_true c10
         clear c10
         replace H := Option.bind_eq_some_iff.mp H
         obtain ⟨t261, A110, H⟩ := H
         replace H : (if t261 = true then ((impl_Fact_49.f x3_2).bind fun t262 => ((impl_derive.f k2 t262 ((rd_T29 l0 x20_2).f0) ((rd_T29 l0 x20_2).f1.f0) ((rd_T29 l0 x20_2).f1.f1) ((rd_T29 l0 x20_2).f2) ((rd_T29 l0 x20_2).f3.f0) ((rd_T29 l0 x20_2).f3.f1) ((rd_T29 l0 x20_2).f4.f0) ((rd_T29 l0 x20_2).f4.f1) ((rd_T29 l0 x20_2).f5) ((rd_T29 l0 x20_2).f6)).bind fun t265 => (impl_findFacts.l2 k2 l0 x3_2 x4_2 (x3_1.length : Int) x20_2 l0 (l0.length : Int) x20_2 t265 (t265.length : Int) 0))) else (impl_findFacts.l1 k2 l0 x3_2 x4_2 (x3_1.length : Int) l0 (l0.length : Int) (wrap64 (x20_2 + 1)))) = some r := H
         have A11 := Aside0.mk A110
         clear A110
         by_cases c12 : t261 = true
         ·subst c12
          have H1 : ((impl_Fact_49.f x3_2).bind fun t262 => ((impl_derive.f k2 t262 ((rd_T29 l0 x20_2).f0) ((rd_T29 l0 x20_2).f1.f0) ((rd_T29 l0 x20_2).f1.f1) ((rd_T29 l0 x20_2).f2) ((rd_T29 l0 x20_2).f3.f0) ((rd_T29 l0 x20_2).f3.f1) ((rd_T29 l0 x20_2).f4.f0) ((rd_T29 l0 x20_2).f4.f1) ((rd_T29 l0 x20_2).f5) ((rd_T29 l0 x20_2).f6)).bind fun t265 => (impl_findFacts.l2 k2 l0 x3_2 x4_2 (x3_1.length : Int) x20_2 l0 (l0.length : Int) x20_2 t265 (t265.length : Int) 0))) = some r := by rw [if_pos rfl] at H; exact H
          clear H
          have H := H1
          clear H1
          replace H := Option.bind_eq_some_iff.mp H
          obtain ⟨t262, A130, H⟩ := H
          replace H : ((impl_derive.f k2 t262 ((rd_T29 l0 x20_2).f0) ((rd_T29 l0 x20_2).f1.f0) ((rd_T29 l0 x20_2).f1.f1) ((rd_T29 l0 x20_2).f2) ((rd_T29 l0 x20_2).f3.f0) ((rd_T29 l0 x20_2).f3.f1) ((rd_T29 l0 x20_2).f4.f0) ((rd_T29 l0 x20_2).f4.f1) ((rd_T29 l0 x20_2).f5) ((rd_T29 l0 x20_2).f6)).bind fun t265 => (impl_findFacts.l2 k2 l0 x3_2 x4_2 (x3_1.length : Int) x20_2 l0 (l0.length : Int) x20_2 t265 (t265.length : Int) 0)) = some r := H
          have A13 := Aside0.mk A130
          clear A130
          replace H := Option.bind_eq_some_iff.mp H
          obtain ⟨t265, A140, H⟩ := H
          replace H : (impl_findFacts.l2 k2 l0 x3_2 x4_2 (x3_1.length : Int) x20_2 l0 (l0.length : Int) x20_2 t265 (t265.length : Int) 0) = some r := H
          have A14 := Aside0.mk A140
          clear A140
          have H' := Aside0.mk H
          clear H
          have p259 : 0 ≤ (x20_2 : Int) := sqD
          have q259 : x20_2 < (l0.length : Int) := sqD
          obtain ⟨ad259, e259, hx259_0, hx259_1, hx259_2, hx259_3, hx259_4, hx259_5, hx259_6, hx259_7, hx259_8, hx259_9⟩ := at_T29 HR0.out x20_2 p259 q259
          cases e259
          replace hx259_0 := sqH HB hx259_0
          replace hx259_1 := sqH HB hx259_1
          replace hx259_2 := sqH HB hx259_2
          replace hx259_3 := sqH HB hx259_3
          replace hx259_4 := sqH HB hx259_4
          replace hx259_5 := sqH HB hx259_5
          replace hx259_6 := sqH HB hx259_6
          replace hx259_7 := sqH HB hx259_7
          replace hx259_8 := sqH HB hx259_8
          replace hx259_9 := sqH HB hx259_9
          replace p259 := eq_true p259
          replace q259 := eq_true q259
          try go_wp2_with (first | ((with_reducible refine gate_dst (N := 7) rfl ?_); refine sqX (N := 7) (cs := #[.int .i64 0, .int .i64 0, .int .i64 0, .int .i64 0, .int .i64 0, .int .i64 0, .int .i64 0, .int .i64 0, .int .i64 0, .int .i64 0]) (t := 29) ?_; intro gb260 hg w15 hbox hb; replace HO_3 := Aside0.mk (Kd.R_below (sqR HO_3) hb); replace HO_4 := Aside0.mk (Kd.N_below (Kd.N_elderB (by (with_reducible repeat (first | apply Kd.N_alloc | apply Kd.N_drewN | apply Kd.N_drew)); exact HO_4.out) gb260 (Nat.le_of_eq hg.symm)) hb); have BK260 := Aside0.mk (hbox); have GW260 := sqG hg; have GE260 := sqG hg; replace HB := sqS hb; clear hb hbox hg; obtain ⟨hcz16_0, hcz16_1, hcz16_2, hcz16_3, hcz16_4, hcz16_5, hcz16_6, hcz16_7, hcz16_8, hcz16_9, hfz16_0, hfz16_1, hfz16_2, hfz16_3, hfz16_4, hfz16_5, hfz16_6, hfz16_7, hfz16_8, hfz16_9⟩ := sqC10 BK260) | ((with_reducible refine gate_callee (f := 50) rfl ?_); refine goesL_ (some 26) rfl rfl Try.func50 (by kernel_rfl) rfl #[.agg #[.int .i64 ((rd_T29 l0 x20_2).f0), .int .i64 ((rd_T29 l0 x20_2).f1.f0), .int .i64 ((rd_T29 l0 x20_2).f1.f1), .int .i64 ((rd_T29 l0 x20_2).f2), .int .i64 ((rd_T29 l0 x20_2).f3.f0), .int .i64 ((rd_T29 l0 x20_2).f3.f1), .int .i64 ((rd_T29 l0 x20_2).f4.f0), .int .i64 ((rd_T29 l0 x20_2).f4.f1), .int .i64 ((rd_T29 l0 x20_2).f5), .int .i64 ((rd_T29 l0 x20_2).f6)]] rfl sqA ?_; (with_reducible refine (impl_CredOk.calls k2 ((rd_T29 l0 x20_2).f0) ((rd_T29 l0 x20_2).f1.f0) ((rd_T29 l0 x20_2).f1.f1) ((rd_T29 l0 x20_2).f2) ((rd_T29 l0 x20_2).f3.f0) ((rd_T29 l0 x20_2).f3.f1) ((rd_T29 l0 x20_2).f4.f0) ((rd_T29 l0 x20_2).f4.f1) ((rd_T29 l0 x20_2).f5) ((rd_T29 l0 x20_2).f6) true _ A11.out).mono ?_); rintro e w17 ⟨rfl, hb⟩; refine ⟨_, rfl, ?_⟩; have n0_ := Aside0.mk (Kd.R_below (by (with_reducible repeat (first | apply Kd.R_alloc | apply Kd.R_drewN | apply Kd.R_drew)); exact (Kd.R_mono (Kd.R_far (p := ⟨gb260, 9, none⟩) (Kd.R_far (p := ⟨gb260, 8, none⟩) (Kd.R_far (p := ⟨gb260, 7, none⟩) (Kd.R_far (p := ⟨gb260, 6, none⟩) (Kd.R_far (p := ⟨gb260, 5, none⟩) (Kd.R_far (p := ⟨gb260, 4, none⟩) (Kd.R_far (p := ⟨gb260, 3, none⟩) (Kd.R_far (p := ⟨gb260, 2, none⟩) (Kd.R_far (p := ⟨gb260, 1, none⟩) (Kd.R_far (p := ⟨gb260, 0, none⟩) (Kd.R_types HO_3.out BK260.out (by decide)) (fun _ hk => hk.2) (.int .i64 ((rd_T29 l0 x20_2).f0))) (fun _ hk => hk.2) (.int .i64 ((rd_T29 l0 x20_2).f1.f0))) (fun _ hk => hk.2) (.int .i64 ((rd_T29 l0 x20_2).f1.f1))) (fun _ hk => hk.2) (.int .i64 ((rd_T29 l0 x20_2).f2))) (fun _ hk => hk.2) (.int .i64 ((rd_T29 l0 x20_2).f3.f0))) (fun _ hk => hk.2) (.int .i64 ((rd_T29 l0 x20_2).f3.f1))) (fun _ hk => hk.2) (.int .i64 ((rd_T29 l0 x20_2).f4.f0))) (fun _ hk => hk.2) (.int .i64 ((rd_T29 l0 x20_2).f4.f1))) (fun _ hk => hk.2) (.int .i64 ((rd_T29 l0 x20_2).f5))) (fun _ hk => hk.2) (.int .i64 ((rd_T29 l0 x20_2).f6))) (fun _ h_ => h_.1))) hb); have n1_ := Aside0.mk (Kd.N_below (by (with_reducible repeat (first | apply Kd.N_alloc | apply Kd.N_drewN | apply Kd.N_drew)); exact (Kd.N_mono (Kd.N_far (p := ⟨gb260, 9, none⟩) (Kd.N_far (p := ⟨gb260, 8, none⟩) (Kd.N_far (p := ⟨gb260, 7, none⟩) (Kd.N_far (p := ⟨gb260, 6, none⟩) (Kd.N_far (p := ⟨gb260, 5, none⟩) (Kd.N_far (p := ⟨gb260, 4, none⟩) (Kd.N_far (p := ⟨gb260, 3, none⟩) (Kd.N_far (p := ⟨gb260, 2, none⟩) (Kd.N_far (p := ⟨gb260, 1, none⟩) (Kd.N_far (p := ⟨gb260, 0, none⟩) (Kd.N_mono HO_4.out (fun k_ hk => (⟨hk, hk.2⟩ : _ ∧ k_ ≠ gb260))) (fun _ hk => hk.2) (.int .i64 ((rd_T29 l0 x20_2).f0))) (fun _ hk => hk.2) (.int .i64 ((rd_T29 l0 x20_2).f1.f0))) (fun _ hk => hk.2) (.int .i64 ((rd_T29 l0 x20_2).f1.f1))) (fun _ hk => hk.2) (.int .i64 ((rd_T29 l0 x20_2).f2))) (fun _ hk => hk.2) (.int .i64 ((rd_T29 l0 x20_2).f3.f0))) (fun _ hk => hk.2) (.int .i64 ((rd_T29 l0 x20_2).f3.f1))) (fun _ hk => hk.2) (.int .i64 ((rd_T29 l0 x20_2).f4.f0))) (fun _ hk => hk.2) (.int .i64 ((rd_T29 l0 x20_2).f4.f1))) (fun _ hk => hk.2) (.int .i64 ((rd_T29 l0 x20_2).f5))) (fun _ hk => hk.2) (.int .i64 ((rd_T29 l0 x20_2).f6))) (fun _ h_ => h_.1))) hb); have n2_ := Aside0.mk (blk_below (g := gb260) (o := .cells #[.int .i64 ((rd_T29 l0 x20_2).f0), .int .i64 ((rd_T29 l0 x20_2).f1.f0), .int .i64 ((rd_T29 l0 x20_2).f1.f1), .int .i64 ((rd_T29 l0 x20_2).f2), .int .i64 ((rd_T29 l0 x20_2).f3.f0), .int .i64 ((rd_T29 l0 x20_2).f3.f1), .int .i64 ((rd_T29 l0 x20_2).f4.f0), .int .i64 ((rd_T29 l0 x20_2).f4.f1), .int .i64 ((rd_T29 l0 x20_2).f5), .int .i64 ((rd_T29 l0 x20_2).f6)] 29 (0, 0)) (by (with_reducible repeat (first | refine blk_drewN ?_ _ | refine blk_drew ?_ | refine blk_alloc ?_ _)); refine blk_put (cs := #[.int .i64 ((rd_T29 l0 x20_2).f0), .int .i64 ((rd_T29 l0 x20_2).f1.f0), .int .i64 ((rd_T29 l0 x20_2).f1.f1), .int .i64 ((rd_T29 l0 x20_2).f2), .int .i64 ((rd_T29 l0 x20_2).f3.f0), .int .i64 ((rd_T29 l0 x20_2).f3.f1), .int .i64 ((rd_T29 l0 x20_2).f4.f0), .int .i64 ((rd_T29 l0 x20_2).f4.f1), .int .i64 ((rd_T29 l0 x20_2).f5), .int .i64 0]) ?_ 9 _ rfl; (with_reducible repeat (first | refine blk_drewN ?_ _ | refine blk_drew ?_ | refine blk_alloc ?_ _)); refine blk_put (cs := #[.int .i64 ((rd_T29 l0 x20_2).f0), .int .i64 ((rd_T29 l0 x20_2).f1.f0), .int .i64 ((rd_T29 l0 x20_2).f1.f1), .int .i64 ((rd_T29 l0 x20_2).f2), .int .i64 ((rd_T29 l0 x20_2).f3.f0), .int .i64 ((rd_T29 l0 x20_2).f3.f1), .int .i64 ((rd_T29 l0 x20_2).f4.f0), .int .i64 ((rd_T29 l0 x20_2).f4.f1), .int .i64 0, .int .i64 0]) ?_ 8 _ rfl; (with_reducible repeat (first | refine blk_drewN ?_ _ | refine blk_drew ?_ | refine blk_alloc ?_ _)); refine blk_put (cs := #[.int .i64 ((rd_T29 l0 x20_2).f0), .int .i64 ((rd_T29 l0 x20_2).f1.f0), .int .i64 ((rd_T29 l0 x20_2).f1.f1), .int .i64 ((rd_T29 l0 x20_2).f2), .int .i64 ((rd_T29 l0 x20_2).f3.f0), .int .i64 ((rd_T29 l0 x20_2).f3.f1), .int .i64 ((rd_T29 l0 x20_2).f4.f0), .int .i64 0, .int .i64 0, .int .i64 0]) ?_ 7 _ rfl; (with_reducible repeat (first | refine blk_drewN ?_ _ | refine blk_drew ?_ | refine blk_alloc ?_ _)); refine blk_put (cs := #[.int .i64 ((rd_T29 l0 x20_2).f0), .int .i64 ((rd_T29 l0 x20_2).f1.f0), .int .i64 ((rd_T29 l0 x20_2).f1.f1), .int .i64 ((rd_T29 l0 x20_2).f2), .int .i64 ((rd_T29 l0 x20_2).f3.f0), .int .i64 ((rd_T29 l0 x20_2).f3.f1), .int .i64 0, .int .i64 0, .int .i64 0, .int .i64 0]) ?_ 6 _ rfl; (with_reducible repeat (first | refine blk_drewN ?_ _ | refine blk_drew ?_ | refine blk_alloc ?_ _)); refine blk_put (cs := #[.int .i64 ((rd_T29 l0 x20_2).f0), .int .i64 ((rd_T29 l0 x20_2).f1.f0), .int .i64 ((rd_T29 l0 x20_2).f1.f1), .int .i64 ((rd_T29 l0 x20_2).f2), .int .i64 ((rd_T29 l0 x20_2).f3.f0), .int .i64 0, .int .i64 0, .int .i64 0, .int .i64 0, .int .i64 0]) ?_ 5 _ rfl; (with_reducible repeat (first | refine blk_drewN ?_ _ | refine blk_drew ?_ | refine blk_alloc ?_ _)); refine blk_put (cs := #[.int .i64 ((rd_T29 l0 x20_2).f0), .int .i64 ((rd_T29 l0 x20_2).f1.f0), .int .i64 ((rd_T29 l0 x20_2).f1.f1), .int .i64 ((rd_T29 l0 x20_2).f2), .int .i64 0, .int .i64 0, .int .i64 0, .int .i64 0, .int .i64 0, .int .i64 0]) ?_ 4 _ rfl; (with_reducible repeat (first | refine blk_drewN ?_ _ | refine blk_drew ?_ | refine blk_alloc ?_ _)); refine blk_put (cs := #[.int .i64 ((rd_T29 l0 x20_2).f0), .int .i64 ((rd_T29 l0 x20_2).f1.f0), .int .i64 ((rd_T29 l0 x20_2).f1.f1), .int .i64 0, .int .i64 0, .int .i64 0, .int .i64 0, .int .i64 0, .int .i64 0, .int .i64 0]) ?_ 3 _ rfl; (with_reducible repeat (first | refine blk_drewN ?_ _ | refine blk_drew ?_ | refine blk_alloc ?_ _)); refine blk_put (cs := #[.int .i64 ((rd_T29 l0 x20_2).f0), .int .i64 ((rd_T29 l0 x20_2).f1.f0), .int .i64 0, .int .i64 0, .int .i64 0, .int .i64 0, .int .i64 0, .int .i64 0, .int .i64 0, .int .i64 0]) ?_ 2 _ rfl; (with_reducible repeat (first | refine blk_drewN ?_ _ | refine blk_drew ?_ | refine blk_alloc ?_ _)); refine blk_put (cs := #[.int .i64 ((rd_T29 l0 x20_2).f0), .int .i64 0, .int .i64 0, .int .i64 0, .int .i64 0, .int .i64 0, .int .i64 0, .int .i64 0, .int .i64 0, .int .i64 0]) ?_ 1 _ rfl; (with_reducible repeat (first | refine blk_drewN ?_ _ | refine blk_drew ?_ | refine blk_alloc ?_ _)); refine blk_put (cs := #[.int .i64 0, .int .i64 0, .int .i64 0, .int .i64 0, .int .i64 0, .int .i64 0, .int .i64 0, .int .i64 0, .int .i64 0, .int .i64 0]) ?_ 0 _ rfl; (with_reducible repeat (first | refine blk_drewN ?_ _ | refine blk_drew ?_ | refine blk_alloc ?_ _)); exact BK260.out) hb); have n3_ := sqS hb; clear HO_3; clear HO_4; clear BK260; clear HB; have HO_3 := n0_; have HO_4 := n1_; have BK260 := n2_; have HB := n3_; clear n0_ n1_ n2_ n3_; (try clear hb); (try clear hb2); (try clear hk); (try clear hi)))
          have n0_ := Aside0.mk (Kd.R_drew HO_3.out)
          have n1_ := Aside0.mk (Kd.N_drew HO_4.out)
          have n2_ := Aside0.mk (blk_drew BK260.out)
          have n3_ := Aside0.mk (below_drew1 HB.out)
          clear HO_3
          clear HO_4
          clear BK260
          clear HB
          have HO_3 := n0_
          have HO_4 := n1_
          have BK260 := n2_
          have HB := n3_
          clear n0_ n1_ n2_ n3_
          obtain ⟨Ao19, co19, eo19⟩ := Kd.R_slice HO_3.out
          (first | subst eo19 | (injection eo19 with f1_ f2_ f3_; have f4_ := f1_.symm; have f5_ := f3_.symm; clear f1_ f2_ f3_; subst f4_; subst f5_))
          refine start_ (n := 6) (S := fun w' => w'.cell? ⟨gb260, 0, none⟩ = some (.int .i64 ((rd_T29 l0 x20_2).f0)) ∧ w'.cell? ⟨gb260, 1, none⟩ = some (.int .i64 ((rd_T29 l0 x20_2).f1.f0)) ∧ w'.cell? ⟨gb260, 2, none⟩ = some (.int .i64 ((rd_T29 l0 x20_2).f1.f1)) ∧ w'.cell? ⟨gb260, 3, none⟩ = some (.int .i64 ((rd_T29 l0 x20_2).f2)) ∧ w'.cell? ⟨gb260, 4, none⟩ = some (.int .i64 ((rd_T29 l0 x20_2).f3.f0)) ∧ w'.cell? ⟨gb260, 5, none⟩ = some (.int .i64 ((rd_T29 l0 x20_2).f3.f1)) ∧ w'.cell? ⟨gb260, 6, none⟩ = some (.int .i64 ((rd_T29 l0 x20_2).f4.f0)) ∧ w'.cell? ⟨gb260, 7, none⟩ = some (.int .i64 ((rd_T29 l0 x20_2).f4.f1)) ∧ w'.cell? ⟨gb260, 8, none⟩ = some (.int .i64 ((rd_T29 l0 x20_2).f5)) ∧ w'.cell? ⟨gb260, 9, none⟩ = some (.int .i64 ((rd_T29 l0 x20_2).f6))) (ds := []) #[false, false, false, false, false, false] (by kernel_rfl) rfl rfl ⟨(blk_cell BK260.out 0).trans rfl, (blk_cell BK260.out 1).trans rfl, (blk_cell BK260.out 2).trans rfl, (blk_cell BK260.out 3).trans rfl, (blk_cell BK260.out 4).trans rfl, (blk_cell BK260.out 5).trans rfl, (blk_cell BK260.out 6).trans rfl, (blk_cell BK260.out 7).trans rfl, (blk_cell BK260.out 8).trans rfl, (blk_cell BK260.out 9).trans rfl⟩ (fun hHeld => ?_)
          generalize w17.drew = w18 at HO_3 HO_4 BK260 HB hHeld ⊢
          refine sqP (i := 0) (N := some 28) #[true, false, false, false, false, false] rfl rfl (by kernel_rfl) ?_
          refine sqP (i := 5) (N := some 33) #[true, false, false, false, false, true] rfl rfl (by kernel_rfl) ?_
          refine take_ (i := 2) (N := some 30) (v := ?_) (a' := ?_) #[true, false, true, false, false, true] rfl rfl (by kernel_rfl) (fun _ _ _ h => h) (Or.inl ⟨by rfl, ?_⟩) hHeld ?_ ?_
          rotate_left
          ·rintro w' ⟨s0, s1, s2, s3, s4, s5, s6, s7, s8, s9⟩
           go_simp
           with_reducible rfl
          rotate_left
          ·simp only [Act.put, List.setIfInBounds_toArray, List.set_cons_zero, List.set_cons_succ, i64_w, i32_w]
           rfl
          refine one_ (i := 1) (N := some 29) #[true, true, true, false, false, true] rfl rfl (by kernel_rfl) (by decide) (fun K hK => ?_)
          refine goes_ Try.func49 (by kernel_rfl) rfl #[.slice Ao19 x3_2.length co19] (by rfl) rfl rfl sqA ?_
          with_reducible refine (impl_Fact_49.calls _ _ x3_2 t262 _ ?side1 ?side2 A13.out).mono ?_
          (case side1 => repeat (first | exact (Kd.R_reads' HO_3.out).2.2 | (with_reducible refine Kd.C_alloc ?_ _) | (with_reducible refine Kd.C_drewN ?_ _) | (with_reducible refine Kd.C_drew ?_)))
          (case side2 => exact (Kd.R_reads' HO_3.out).2.1)
          rintro e w20 ⟨v263, rfl, ho0, hb⟩
          refine ⟨_, rfl, ?_⟩
          have n0_ := Aside0.mk (Kd.R_elder' (sqR HO_3) (Kd.R_base ho0) hb)
          have n1_ := Aside0.mk (Kd.N_elder' (by (with_reducible repeat (first | apply Kd.N_alloc | apply Kd.N_drewN | apply Kd.N_drew)); exact HO_4.out) (Kd.R_base ho0) hb)
          have n2_ := Aside0.mk (Kd.R_lower (Kd.R_new' (Kd.R_newM (M := fun k_ => (w.heap.size ≤ k_)) ho0 (below_size (sqB)) (fun k_ h_ => h_)) (Kd.R_lt (sqR HO_3))) (below_size (sqB)))
          have n3_ := sqL BK260 hb
          have n4_ := sqS hb
          clear HO_3
          clear HO_4
          clear BK260
          clear HB
          have HO_3 := n0_
          have HO_4 := n1_
          have HO264 := n2_
          have BK260 := n3_
          have HB := n4_
          clear n0_ n1_ n2_ n3_ n4_
          (try clear hb)
          (try clear hb2)
          (try clear hk)
          (try clear hi)
          (try clear ho0)
          obtain ⟨Ao21, co21, eo21⟩ := Kd.R_slice HO264.out
          (first | subst eo21 | (injection eo21 with f1_ f2_ f3_; have f4_ := f1_.symm; have f5_ := f3_.symm; clear f1_ f2_ f3_; subst f4_; subst f5_))
          refine hK.out _ _ ⟨(blk_cell BK260.out 0).trans rfl, (blk_cell BK260.out 1).trans rfl, (blk_cell BK260.out 2).trans rfl, (blk_cell BK260.out 3).trans rfl, (blk_cell BK260.out 4).trans rfl, (blk_cell BK260.out 5).trans rfl, (blk_cell BK260.out 6).trans rfl, (blk_cell BK260.out 7).trans rfl, (blk_cell BK260.out 8).trans rfl, (blk_cell BK260.out 9).trans rfl⟩ (fun hHeld => ?_)
          clear hK K
          refine sqV (N := some 29) ?_
          refine one_ (i := 3) (N := some 31) #[true, true, true, true, false, true] rfl rfl (by kernel_rfl) (by decide) (fun K hK => ?_)
          refine goes_ Try.func51 (by kernel_rfl) rfl #[.slice Ao21 t262.length co21, .agg #[.int .i64 ((rd_T29 l0 x20_2).f0), .int .i64 ((rd_T29 l0 x20_2).f1.f0), .int .i64 ((rd_T29 l0 x20_2).f1.f1), .int .i64 ((rd_T29 l0 x20_2).f2), .int .i64 ((rd_T29 l0 x20_2).f3.f0), .int .i64 ((rd_T29 l0 x20_2).f3.f1), .int .i64 ((rd_T29 l0 x20_2).f4.f0), .int .i64 ((rd_T29 l0 x20_2).f4.f1), .int .i64 ((rd_T29 l0 x20_2).f5), .int .i64 ((rd_T29 l0 x20_2).f6)]] (by rfl) rfl rfl sqA ?_
          with_reducible refine (impl_derive.calls k2 _ _ t262 ((rd_T29 l0 x20_2).f0) ((rd_T29 l0 x20_2).f1.f0) ((rd_T29 l0 x20_2).f1.f1) ((rd_T29 l0 x20_2).f2) ((rd_T29 l0 x20_2).f3.f0) ((rd_T29 l0 x20_2).f3.f1) ((rd_T29 l0 x20_2).f4.f0) ((rd_T29 l0 x20_2).f4.f1) ((rd_T29 l0 x20_2).f5) ((rd_T29 l0 x20_2).f6) t265 _ ?side1 ?side2 A14.out).mono ?_
          (case side1 => repeat (first | exact (Kd.R_reads' HO264.out).2.2 | (with_reducible refine Kd.C_alloc ?_ _) | (with_reducible refine Kd.C_drewN ?_ _) | (with_reducible refine Kd.C_drew ?_)))
          (case side2 => exact (Kd.R_reads' HO264.out).2.1)
          rintro e w22 ⟨v266, rfl, ho0, hb⟩
          refine ⟨_, rfl, ?_⟩
          have n0_ := Aside0.mk (Kd.R_below (sqR HO_3) hb)
          have n1_ := Aside0.mk (Kd.N_elder' (by (with_reducible repeat (first | apply Kd.N_alloc | apply Kd.N_drewN | apply Kd.N_drew)); exact HO_4.out) (Kd.N_base ho0) hb)
          have n2_ := Aside0.mk (Kd.R_below (sqR HO264) hb)
          have n3_ := Aside0.mk (Kd.N_lower (Kd.N_mono (ok' := fun k_ => (w.heap.size ≤ k_) ∧ some k_ ≠ (.slice Ao19 x3_2.length co19 : Value).ownBlock ∧ some k_ ≠ (u4 : Value).ownBlock ∧ some k_ ≠ (.slice Ao21 t262.length co21 : Value).ownBlock ∧ k_ ≠ gb260) (Kd.N_mono ho0 (fun k_ h_ => And.intro trivial (And.intro h_ trivial))) (fun k_ hk_ => ⟨(Nat.le_trans (below_size (sqB)) hk_.2.1), (Kd.fresh' (Kd.R_lt (sqR HO_3)) k_ hk_.2.1), (Kd.fresh' (Kd.N_lt (by (with_reducible repeat (first | apply Kd.N_alloc | apply Kd.N_drewN | apply Kd.N_drew)); exact HO_4.out)) k_ hk_.2.1), (Kd.fresh' (Kd.R_lt (sqR HO264)) k_ hk_.2.1), (Kd.freshB (g := gb260) (o := .cells #[.int .i64 ((rd_T29 l0 x20_2).f0), .int .i64 ((rd_T29 l0 x20_2).f1.f0), .int .i64 ((rd_T29 l0 x20_2).f1.f1), .int .i64 ((rd_T29 l0 x20_2).f2), .int .i64 ((rd_T29 l0 x20_2).f3.f0), .int .i64 ((rd_T29 l0 x20_2).f3.f1), .int .i64 ((rd_T29 l0 x20_2).f4.f0), .int .i64 ((rd_T29 l0 x20_2).f4.f1), .int .i64 ((rd_T29 l0 x20_2).f5), .int .i64 ((rd_T29 l0 x20_2).f6)] 29 (0, 0)) (sqK BK260) k_ hk_.2.1)⟩)) (below_size (sqB)))
          have n4_ := sqL BK260 hb
          have n5_ := sqS hb
          clear HO_3
          clear HO_4
          clear HO264
          clear BK260
          clear HB
          have HO_3 := n0_
          have HO_4 := n1_
          have HO264 := n2_
          have HO267 := n3_
          have BK260 := n4_
          have HB := n5_
          clear n0_ n1_ n2_ n3_ n4_ n5_
          (try clear hb)
          (try clear hb2)
          (try clear hk)
          (try clear hi)
          (try clear ho0)
          obtain ⟨Ao23, co23, eo23⟩ := Kd.N_slice HO267.out
          (first | subst eo23 | (injection eo23 with f1_ f2_ f3_; have f4_ := f1_.symm; have f5_ := f3_.symm; clear f1_ f2_ f3_; subst f4_; subst f5_))
          refine hK.out _ _ ⟨(blk_cell BK260.out 0).trans rfl, (blk_cell BK260.out 1).trans rfl, (blk_cell BK260.out 2).trans rfl, (blk_cell BK260.out 3).trans rfl, (blk_cell BK260.out 4).trans rfl, (blk_cell BK260.out 5).trans rfl, (blk_cell BK260.out 6).trans rfl, (blk_cell BK260.out 7).trans rfl, (blk_cell BK260.out 8).trans rfl, (blk_cell BK260.out 9).trans rfl⟩ (fun hHeld => ?_)
          clear hK K
          refine sqV (N := some 31) ?_
          refine sqP (i := 4) (N := some 32) #[true, true, true, true, true, true] rfl rfl (by kernel_rfl) ?_
          refine done_ (by kernel_rfl) ?_
          try go_wp2
          go_loopg [3, 4, 33] k2 (fun kq v3 v4 v33 w' => ∃ (x3_3 : List (S36)) (x4_3 : List (S72)) (x33_3 : Int), v33 = .int .i64 x33_3 ∧ Aside0 (impl_findFacts.l2 kq l0 x3_3 x4_3 (x3_1.length : Int) x20_2 l0 (l0.length : Int) x20_2 t265 (t265.length : Int) x33_3 = some r) ∧ Aside0 (kq ≤ k2) ∧ Aside0 (Kd.R k36 36 w' w.heap.size (fun k_ => (w.heap.size ≤ k_)) v3 x3_3) ∧ Aside0 (Kd.N k72 72 w' w.heap.size (fun k_ => (w.heap.size ≤ k_) ∧ some k_ ≠ (v3 : Value).ownBlock ∧ some k_ ≠ ((.slice Ao23 t265.length co23) : Value).ownBlock ∧ k_ ≠ gb260) v4 x4_3) ∧ Aside0 (Kd.N k78 78 w' w.heap.size (fun k_ => (w.heap.size ≤ k_) ∧ some k_ ≠ (v3 : Value).ownBlock ∧ some k_ ≠ (v4 : Value).ownBlock ∧ k_ ≠ gb260) (.slice Ao23 t265.length co23) t265) ∧ Aside0 (w'.heap[gb260]? = some (.cells #[.int .i64 ((rd_T29 l0 x20_2).f0), .int .i64 ((rd_T29 l0 x20_2).f1.f0), .int .i64 ((rd_T29 l0 x20_2).f1.f1), .int .i64 ((rd_T29 l0 x20_2).f2), .int .i64 ((rd_T29 l0 x20_2).f3.f0), .int .i64 ((rd_T29 l0 x20_2).f3.f1), .int .i64 ((rd_T29 l0 x20_2).f4.f0), .int .i64 ((rd_T29 l0 x20_2).f4.f1), .int .i64 ((rd_T29 l0 x20_2).f5), .int .i64 ((rd_T29 l0 x20_2).f6)] 29 (0, 0))) ∧ Aside0 (Below w.heap.size w w'))
          case atStart => exact ⟨(x3_2), (x4_2), (0), (by first | rfl | (simp; done) | (simp [*]; done)), H', ⟨Nat.le_refl _⟩, ⟨by (with_reducible repeat (first | apply Kd.R_alloc | apply Kd.R_drewN | apply Kd.R_drew)); exact Kd.R_mono HO_3.out (fun _ hk => hk.1)⟩, ⟨by (with_reducible repeat (first | apply Kd.N_alloc | apply Kd.N_drewN | apply Kd.N_drew)); exact Kd.N_mono HO_4.out (fun _ hk => ⟨hk.1.1.1.1, ⟨hk.1.1.1.2, ⟨hk.2, hk.1.1.2⟩⟩⟩)⟩, ⟨by (with_reducible repeat (first | apply Kd.N_alloc | apply Kd.N_drewN | apply Kd.N_drew)); exact Kd.N_mono HO267.out (fun _ hk => ⟨hk.1, ⟨hk.2.1, ⟨hk.2.2.1, hk.2.2.2.2⟩⟩⟩)⟩, ⟨sqK BK260⟩, ⟨sqB⟩⟩
          case round =>
           clear H'
           try clear c1
           try clear p2
           try clear q2
           try clear hx2
           try clear c4
           try clear c5
           try clear c6
           try clear c6b0
           try clear p6
           try clear c8
           try clear c8b0
           try clear c9
           try clear c9b0
           try clear c10
           try clear c10b0
           try clear c12
           try clear hcz16_0 hcz16_1 hcz16_2 hcz16_3 hcz16_4 hcz16_5 hcz16_6 hcz16_7 hcz16_8 hcz16_9 hfz16_0 hfz16_1 hfz16_2 hfz16_3 hfz16_4 hfz16_5 hfz16_6 hfz16_7 hfz16_8 hfz16_9
           try clear hx259_0
           try clear hx259_1
           try clear hx259_2
           try clear hx259_3
           try clear hx259_4
           try clear hx259_5
           try clear hx259_6
           try clear hx259_7
           try clear hx259_8
           try clear hx259_9
           try clear p2
           try clear p259
           try clear q259
           obtain ⟨x3_3, x4_3, x33_3, rfl, HA, HK3, HO_3, HO_4, HO_31, BK260, HB⟩ := hrel
           cases gk with
           | zero => exact absurd HA.out (by simp [impl_findFacts.l2])
           | succ k3 =>
            have H := HA.out
            clear HA
            simp only [impl_findFacts.l2] at H
            by_cases c24 : x33_3 < (t265.length : Int)
            ·rw [if_pos c24] at H
             have c24b0 : decide (x33_3 < (t265.length : Int)) = true := decide_eq_true c24
             clear c24
             by_cases c25 : 0 ≤ x33_3
             ·rw [if_pos c25] at H
              have c25b0 : decide (0 ≤ x33_3) = true := decide_eq_true c25
              clear c25
              by_cases c26 : x33_3 < (t265.length : Int)
              ·rw [if_pos c26] at H
               have c26b0 : decide (x33_3 < (t265.length : Int)) = true := decide_eq_true c26
               clear c26
               replace H := Option.bind_eq_some_iff.mp H
               obtain ⟨t270, A270, H⟩ := H
               replace H : (if t270 = true then (impl_findFacts.l2 k3 l0 x3_3 x4_3 (x3_1.length : Int) x20_2 l0 (l0.length : Int) x20_2 t265 (t265.length : Int) (wrap64 (x33_3 + 1))) else (if x3_3.length < 5864062014805 then (if x4_3.length < 2513169434916 then (impl_findFacts.l2 k3 l0 (x3_3 ++ [(⟨(⟨(rd_T78 t265 x33_3).f0.f0.f0, (rd_T78 t265 x33_3).f0.f0.f1⟩ : S27), (rd_T78 t265 x33_3).f0.f1⟩ : S36)]) (x4_3 ++ [(⟨(⟨(⟨(rd_T78 t265 x33_3).f0.f0.f0, (rd_T78 t265 x33_3).f0.f0.f1⟩ : S27), (rd_T78 t265 x33_3).f0.f1⟩ : S36), x20_2, (rd_T78 t265 x33_3).f1⟩ : S72)]) (x3_1.length : Int) x20_2 l0 (l0.length : Int) x20_2 t265 (t265.length : Int) (wrap64 (x33_3 + 1))) else (none)) else (none))) = some r := H
               have A27 := Aside0.mk A270
               clear A270
               by_cases c28 : t270 = true
               ·subst c28
                have H1 : (impl_findFacts.l2 k3 l0 x3_3 x4_3 (x3_1.length : Int) x20_2 l0 (l0.length : Int) x20_2 t265 (t265.length : Int) (wrap64 (x33_3 + 1))) = some r := by rw [if_pos rfl] at H; exact H
                clear H
                have H := H1
                clear H1
                have H' := Aside0.mk H
                clear H
                have p268 : 0 ≤ (x33_3 : Int) := sqD
                have q268 : x33_3 < (t265.length : Int) := sqD
                obtain ⟨ad268, A268_3, c268_3, e268, hx268_0, hx268_1, hx268_2, hx268_3, hl268_3, hi268_3⟩ := at_T78 (Kd.N_reads' HO_31.out).2.2 x33_3 p268 q268
                cases e268
                obtain ⟨ce268, hce268, hMe268, hcc268⟩ := Kd.N_get HO_31.out z78 x33_3 p268 (by first | exact q268 | exact sqD | (have e_ := (Kd.N_reads' HO_31.out).1; omega))
                obtain ⟨ua268_3, uc268_3, rfl, ul268_3, ge268_3⟩ := k78_openF hMe268
                have hv268_3 := hcc268 3 _ rfl
                rw [add_field _ _ 3 (by omega)] at hv268_3
                replace hv268_3 := Option.some.inj (hv268_3.symm.trans hx268_3)
                injection hv268_3 with hva_ hvn_ hvc_
                rw [hva_] at ge268_3
                rw [hvc_] at ul268_3
                have HL268_3 := Aside0.mk (show Kd.V (Kd.int .i64) 3 _ w.heap.size _ _ ((rd_T78 t265 x33_3).f1) from Kd.V_mk ul268_3 ge268_3)
                clear hva_ hvn_ hvc_ ge268_3 ul268_3
                clear hcc268 hce268
                have HR268_3 := Aside0.mk hi268_3
                have HC268_3 := Aside0.mk hl268_3
                clear hi268_3 hl268_3
                replace p268 := eq_true p268
                replace q268 := eq_true q268
                go_wp2_with (first | ((with_reducible refine gate_dst (N := 9) rfl ?_); refine sqX (N := 9) (cs := #[.int .i64 0, .int .i64 0, .int .i64 0, .slice none 0 0]) (t := 78) ?_; intro gb269 hg w29 hbox hb; have n0_ := Aside0.mk (Kd.R_below (sqR HO_3) hb); have n1_ := Aside0.mk (Kd.N_below (Kd.N_elderB (by (with_reducible repeat (first | apply Kd.N_alloc | apply Kd.N_drewN | apply Kd.N_drew)); exact HO_4.out) gb269 (Nat.le_of_eq hg.symm)) hb); have n2_ := Aside0.mk (Kd.N_below (Kd.N_elderB (by (with_reducible repeat (first | apply Kd.N_alloc | apply Kd.N_drewN | apply Kd.N_drew)); exact HO_31.out) gb269 (Nat.le_of_eq hg.symm)) hb); have n3_ := Aside0.mk (Kd.V_below (Kd.V_elderB (by (with_reducible repeat (first | apply Kd.V_alloc | apply Kd.V_drewN | apply Kd.V_drew)); exact HL268_3.out) gb269 (Nat.le_of_eq hg.symm)) hb); have n4_ := sqL BK260 hb; have n5_ := Aside0.mk (Kd.C_below (by repeat (first | (with_reducible exact HR268_3.out) | (with_reducible refine Kd.C_alloc ?_ _) | (with_reducible refine Kd.C_drewN ?_ _) | (with_reducible refine Kd.C_drew ?_) | exact HR268_3.out)) hb); have n6_ := sqS hb; have n7_ := Aside0.mk (hbox); have n8_ := sqG hg; have n9_ := sqG hg; have n10_ := sqN BK260 hg; have n11_ := sqM BK260 hg; clear HO_3; clear HO_4; clear HO_31; clear HL268_3; clear BK260; clear HR268_3; clear HB; have HO_3 := n0_; have HO_4 := n1_; have HO_31 := n2_; have HL268_3 := n3_; have BK260 := n4_; have HR268_3 := n5_; have HB := n6_; have BK269 := n7_; have GW269 := n8_; have GE269 := n9_; have NB260_269 := n10_; have NB269_260 := n11_; clear n0_ n1_ n2_ n3_ n4_ n5_ n6_ n7_ n8_ n9_ n10_ n11_; clear hb hbox hg; have hnb30 := NB269_260.out; have hnc30 := NB260_269.out; obtain ⟨hcz31_0, hcz31_1, hcz31_2, hcz31_3, hfz31_0, hfz31_1, hfz31_2, hfz31_3⟩ := sqC4 BK269; obtain ⟨Ao32, co32, eo32⟩ := Kd.R_slice HO_3.out; subst eo32) | ((with_reducible refine gate_callee (f := 52) rfl ?_); refine goesL_ (some 40) rfl rfl Try.func52 (by kernel_rfl) rfl #[.slice Ao32 x3_3.length co32, .agg #[.int .i64 ((rd_T78 t265 x33_3).f0.f0.f0), .int .i64 ((rd_T78 t265 x33_3).f0.f0.f1), .int .i64 ((rd_T78 t265 x33_3).f0.f1)]] rfl sqA ?_; (with_reducible refine (impl_Fact_52.calls k3 _ _ x3_3 ((rd_T78 t265 x33_3).f0.f0.f0) ((rd_T78 t265 x33_3).f0.f0.f1) ((rd_T78 t265 x33_3).f0.f1) true _ ?side1 ?side2 A27.out).mono ?_); (case side1 => refine (Kd.R_reads' (e := 36) (base := w.heap.size) (ok := fun k_ => (w.heap.size ≤ k_)) (n := x3_3.length) (c := co32) ?_).2.2; exact (by (with_reducible repeat (first | apply Kd.R_alloc | apply Kd.R_drewN | apply Kd.R_drew)); exact (Kd.R_mono (Kd.R_far (p := ⟨gb269, 3, none⟩) (Kd.R_far (p := ⟨gb269, 2, none⟩) (Kd.R_far (p := ⟨gb269, 1, none⟩) (Kd.R_far (p := ⟨gb269, 0, none⟩) (Kd.R_types HO_3.out BK269.out (by decide)) (fun _ hk => hk.2) (.int .i64 ((rd_T78 t265 x33_3).f0.f0.f0))) (fun _ hk => hk.2) (.int .i64 ((rd_T78 t265 x33_3).f0.f0.f1))) (fun _ hk => hk.2) (.int .i64 ((rd_T78 t265 x33_3).f0.f1))) (fun _ hk => hk.2) (.slice A268_3 ((rd_T78 t265 x33_3).f1).length c268_3)) (fun _ h_ => h_.1)))); (case side2 => exact (Kd.R_reads' HO_3.out).2.1); rintro e w33 ⟨rfl, hb⟩; refine ⟨_, rfl, ?_⟩; have n0_ := Aside0.mk (Kd.R_below (by (with_reducible repeat (first | apply Kd.R_alloc | apply Kd.R_drewN | apply Kd.R_drew)); exact (Kd.R_mono (Kd.R_far (p := ⟨gb269, 3, none⟩) (Kd.R_far (p := ⟨gb269, 2, none⟩) (Kd.R_far (p := ⟨gb269, 1, none⟩) (Kd.R_far (p := ⟨gb269, 0, none⟩) (Kd.R_types HO_3.out BK269.out (by decide)) (fun _ hk => hk.2) (.int .i64 ((rd_T78 t265 x33_3).f0.f0.f0))) (fun _ hk => hk.2) (.int .i64 ((rd_T78 t265 x33_3).f0.f0.f1))) (fun _ hk => hk.2) (.int .i64 ((rd_T78 t265 x33_3).f0.f1))) (fun _ hk => hk.2) (.slice A268_3 ((rd_T78 t265 x33_3).f1).length c268_3)) (fun _ h_ => h_.1))) hb); have n1_ := Aside0.mk (Kd.N_below (by (with_reducible repeat (first | apply Kd.N_alloc | apply Kd.N_drewN | apply Kd.N_drew)); exact (Kd.N_mono (Kd.N_far (p := ⟨gb269, 3, none⟩) (Kd.N_far (p := ⟨gb269, 2, none⟩) (Kd.N_far (p := ⟨gb269, 1, none⟩) (Kd.N_far (p := ⟨gb269, 0, none⟩) (Kd.N_mono HO_4.out (fun k_ hk => (⟨hk, hk.2⟩ : _ ∧ k_ ≠ gb269))) (fun _ hk => hk.2) (.int .i64 ((rd_T78 t265 x33_3).f0.f0.f0))) (fun _ hk => hk.2) (.int .i64 ((rd_T78 t265 x33_3).f0.f0.f1))) (fun _ hk => hk.2) (.int .i64 ((rd_T78 t265 x33_3).f0.f1))) (fun _ hk => hk.2) (.slice A268_3 ((rd_T78 t265 x33_3).f1).length c268_3)) (fun _ h_ => h_.1))) hb); have n2_ := Aside0.mk (Kd.N_below (by (with_reducible repeat (first | apply Kd.N_alloc | apply Kd.N_drewN | apply Kd.N_drew)); exact (Kd.N_mono (Kd.N_far (p := ⟨gb269, 3, none⟩) (Kd.N_far (p := ⟨gb269, 2, none⟩) (Kd.N_far (p := ⟨gb269, 1, none⟩) (Kd.N_far (p := ⟨gb269, 0, none⟩) (Kd.N_mono HO_31.out (fun k_ hk => (⟨hk, hk.2⟩ : _ ∧ k_ ≠ gb269))) (fun _ hk => hk.2) (.int .i64 ((rd_T78 t265 x33_3).f0.f0.f0))) (fun _ hk => hk.2) (.int .i64 ((rd_T78 t265 x33_3).f0.f0.f1))) (fun _ hk => hk.2) (.int .i64 ((rd_T78 t265 x33_3).f0.f1))) (fun _ hk => hk.2) (.slice A268_3 ((rd_T78 t265 x33_3).f1).length c268_3)) (fun _ h_ => h_.1))) hb); have n3_ := Aside0.mk (Kd.V_below (by (with_reducible repeat (first | apply Kd.V_alloc | apply Kd.V_drewN | apply Kd.V_drew)); exact (Kd.V_mono (Kd.V_far (p := ⟨gb269, 3, none⟩) (Kd.V_far (p := ⟨gb269, 2, none⟩) (Kd.V_far (p := ⟨gb269, 1, none⟩) (Kd.V_far (p := ⟨gb269, 0, none⟩) (Kd.V_mono HL268_3.out (fun k_ hk => (⟨hk, hk.2⟩ : _ ∧ k_ ≠ gb269))) (fun _ hk => hk.2) (.int .i64 ((rd_T78 t265 x33_3).f0.f0.f0))) (fun _ hk => hk.2) (.int .i64 ((rd_T78 t265 x33_3).f0.f0.f1))) (fun _ hk => hk.2) (.int .i64 ((rd_T78 t265 x33_3).f0.f1))) (fun _ hk => hk.2) (.slice A268_3 ((rd_T78 t265 x33_3).f1).length c268_3)) (fun _ h_ => h_.1))) hb); have n4_ := Aside0.mk (blk_below (g := gb260) (o := .cells #[.int .i64 ((rd_T29 l0 x20_2).f0), .int .i64 ((rd_T29 l0 x20_2).f1.f0), .int .i64 ((rd_T29 l0 x20_2).f1.f1), .int .i64 ((rd_T29 l0 x20_2).f2), .int .i64 ((rd_T29 l0 x20_2).f3.f0), .int .i64 ((rd_T29 l0 x20_2).f3.f1), .int .i64 ((rd_T29 l0 x20_2).f4.f0), .int .i64 ((rd_T29 l0 x20_2).f4.f1), .int .i64 ((rd_T29 l0 x20_2).f5), .int .i64 ((rd_T29 l0 x20_2).f6)] 29 (0, 0)) (by (with_reducible repeat (first | refine blk_drewN ?_ _ | refine blk_drew ?_ | refine blk_alloc ?_ _)); refine blk_far ?_ NB260_269.out _; (with_reducible repeat (first | refine blk_drewN ?_ _ | refine blk_drew ?_ | refine blk_alloc ?_ _)); refine blk_far ?_ NB260_269.out _; (with_reducible repeat (first | refine blk_drewN ?_ _ | refine blk_drew ?_ | refine blk_alloc ?_ _)); refine blk_far ?_ NB260_269.out _; (with_reducible repeat (first | refine blk_drewN ?_ _ | refine blk_drew ?_ | refine blk_alloc ?_ _)); refine blk_far ?_ NB260_269.out _; (with_reducible repeat (first | refine blk_drewN ?_ _ | refine blk_drew ?_ | refine blk_alloc ?_ _)); exact BK260.out) hb); have n5_ := Aside0.mk (Kd.C_below ((Kd.V_reads' (by (with_reducible repeat (first | apply Kd.V_alloc | apply Kd.V_drewN | apply Kd.V_drew)); exact (Kd.V_mono (Kd.V_far (p := ⟨gb269, 3, none⟩) (Kd.V_far (p := ⟨gb269, 2, none⟩) (Kd.V_far (p := ⟨gb269, 1, none⟩) (Kd.V_far (p := ⟨gb269, 0, none⟩) (Kd.V_mono HL268_3.out (fun k_ hk => (⟨hk, hk.2⟩ : _ ∧ k_ ≠ gb269))) (fun _ hk => hk.2) (.int .i64 ((rd_T78 t265 x33_3).f0.f0.f0))) (fun _ hk => hk.2) (.int .i64 ((rd_T78 t265 x33_3).f0.f0.f1))) (fun _ hk => hk.2) (.int .i64 ((rd_T78 t265 x33_3).f0.f1))) (fun _ hk => hk.2) (.slice A268_3 ((rd_T78 t265 x33_3).f1).length c268_3)) (fun _ h_ => h_.1)))).2.2) hb); have n6_ := Aside0.mk (blk_below (g := gb269) (o := .cells #[.int .i64 ((rd_T78 t265 x33_3).f0.f0.f0), .int .i64 ((rd_T78 t265 x33_3).f0.f0.f1), .int .i64 ((rd_T78 t265 x33_3).f0.f1), .slice A268_3 ((rd_T78 t265 x33_3).f1).length c268_3] 78 (0, 0)) (by (with_reducible repeat (first | refine blk_drewN ?_ _ | refine blk_drew ?_ | refine blk_alloc ?_ _)); refine blk_put (cs := #[.int .i64 ((rd_T78 t265 x33_3).f0.f0.f0), .int .i64 ((rd_T78 t265 x33_3).f0.f0.f1), .int .i64 ((rd_T78 t265 x33_3).f0.f1), .slice none 0 0]) ?_ 3 _ rfl; (with_reducible repeat (first | refine blk_drewN ?_ _ | refine blk_drew ?_ | refine blk_alloc ?_ _)); refine blk_put (cs := #[.int .i64 ((rd_T78 t265 x33_3).f0.f0.f0), .int .i64 ((rd_T78 t265 x33_3).f0.f0.f1), .int .i64 0, .slice none 0 0]) ?_ 2 _ rfl; (with_reducible repeat (first | refine blk_drewN ?_ _ | refine blk_drew ?_ | refine blk_alloc ?_ _)); refine blk_put (cs := #[.int .i64 ((rd_T78 t265 x33_3).f0.f0.f0), .int .i64 0, .int .i64 0, .slice none 0 0]) ?_ 1 _ rfl; (with_reducible repeat (first | refine blk_drewN ?_ _ | refine blk_drew ?_ | refine blk_alloc ?_ _)); refine blk_put (cs := #[.int .i64 0, .int .i64 0, .int .i64 0, .slice none 0 0]) ?_ 0 _ rfl; (with_reducible repeat (first | refine blk_drewN ?_ _ | refine blk_drew ?_ | refine blk_alloc ?_ _)); exact BK269.out) hb); have n7_ := sqS hb; clear HO_3; clear HO_4; clear HO_31; clear HL268_3; clear BK260; clear HR268_3; clear BK269; clear HB; have HO_3 := n0_; have HO_4 := n1_; have HO_31 := n2_; have HL268_3 := n3_; have BK260 := n4_; have HR268_3 := n5_; have BK269 := n6_; have HB := n7_; clear n0_ n1_ n2_ n3_ n4_ n5_ n6_ n7_; (try clear hb); (try clear hb2); (try clear hk); (try clear hi)))
                go_roundg k3
                case measure => have := HK1.out; have := HK2.out; have := HK3.out; omega
                case rel => exact ⟨(x3_3), (x4_3), (wrap64 (x33_3 + 1)), (by first | rfl | (simp; done) | (simp [*]; done)), H', ⟨by have := HK1.out; have := HK2.out; have := HK3.out; omega⟩, ⟨sqR HO_3⟩, ⟨by (with_reducible repeat (first | apply Kd.N_alloc | apply Kd.N_drewN | apply Kd.N_drew)); exact Kd.N_mono HO_4.out (fun _ hk => ⟨hk.1.1, ⟨hk.1.2.1, ⟨hk.1.2.2.1, hk.1.2.2.2⟩⟩⟩)⟩, ⟨by (with_reducible repeat (first | apply Kd.N_alloc | apply Kd.N_drewN | apply Kd.N_drew)); exact Kd.N_mono HO_31.out (fun _ hk => ⟨hk.1.1, ⟨hk.1.2.1, ⟨hk.1.2.2.1, hk.1.2.2.2⟩⟩⟩)⟩, ⟨sqK BK260⟩, ⟨sqB⟩⟩
               ·replace c28 := Bool.eq_false_iff.mpr c28
                subst c28
                have H1 : (if x3_3.length < 5864062014805 then (if x4_3.length < 2513169434916 then (impl_findFacts.l2 k3 l0 (x3_3 ++ [(⟨(⟨(rd_T78 t265 x33_3).f0.f0.f0, (rd_T78 t265 x33_3).f0.f0.f1⟩ : S27), (rd_T78 t265 x33_3).f0.f1⟩ : S36)]) (x4_3 ++ [(⟨(⟨(⟨(rd_T78 t265 x33_3).f0.f0.f0, (rd_T78 t265 x33_3).f0.f0.f1⟩ : S27), (rd_T78 t265 x33_3).f0.f1⟩ : S36), x20_2, (rd_T78 t265 x33_3).f1⟩ : S72)]) (x3_1.length : Int) x20_2 l0 (l0.length : Int) x20_2 t265 (t265.length : Int) (wrap64 (x33_3 + 1))) else (none)) else (none)) = some r := by rw [if_neg (show ¬ (false = true) by decide)] at H; exact H
                clear H
                have H := H1
                clear H1
                by_cases c34 : x3_3.length < 5864062014805
                ·rw [if_pos c34] at H
                 have LMc34 := Aside0.mk c34
                 clear c34
                 obtain ⟨y271, hy271⟩ : ∃ y_ : List (S36), y_ = (x3_3 ++ [(⟨(⟨(rd_T78 t265 x33_3).f0.f0.f0, (rd_T78 t265 x33_3).f0.f0.f1⟩ : S27), (rd_T78 t265 x33_3).f0.f1⟩ : S36)]) := ⟨_, rfl⟩
                 replace H : (if x4_3.length < 2513169434916 then (impl_findFacts.l2 k3 l0 y271 (x4_3 ++ [(⟨(⟨(⟨(rd_T78 t265 x33_3).f0.f0.f0, (rd_T78 t265 x33_3).f0.f0.f1⟩ : S27), (rd_T78 t265 x33_3).f0.f1⟩ : S36), x20_2, (rd_T78 t265 x33_3).f1⟩ : S72)]) (x3_1.length : Int) x20_2 l0 (l0.length : Int) x20_2 t265 (t265.length : Int) (wrap64 (x33_3 + 1))) else (none)) = some r := by first | (rw [hy271]; with_reducible exact H) | (have H2_ := (Option.bind_some _ _).symm.trans H; rw [hy271]; with_reducible exact H2_) | (have H2_ := (Option.bind_some _ _).symm.trans H; with_reducible exact H2_) | with_reducible exact H | (rw [hy271]; exact H) | exact H
                 have Ny271 := Aside0.mk hy271
                 clear hy271
                 by_cases c35 : x4_3.length < 2513169434916
                 ·rw [if_pos c35] at H
                  have LMc35 := Aside0.mk c35
                  clear c35
                  obtain ⟨y274, hy274⟩ : ∃ y_ : List (S72), y_ = (x4_3 ++ [(⟨(⟨(⟨(rd_T78 t265 x33_3).f0.f0.f0, (rd_T78 t265 x33_3).f0.f0.f1⟩ : S27), (rd_T78 t265 x33_3).f0.f1⟩ : S36), x20_2, (rd_T78 t265 x33_3).f1⟩ : S72)]) := ⟨_, rfl⟩
                  replace H : (impl_findFacts.l2 k3 l0 y271 y274 (x3_1.length : Int) x20_2 l0 (l0.length : Int) x20_2 t265 (t265.length : Int) (wrap64 (x33_3 + 1))) = some r := by first | (rw [hy274]; with_reducible exact H) | (have H2_ := (Option.bind_some _ _).symm.trans H; rw [hy274]; with_reducible exact H2_) | (have H2_ := (Option.bind_some _ _).symm.trans H; with_reducible exact H2_) | with_reducible exact H | (rw [hy274]; exact H) | exact H
                  have Ny274 := Aside0.mk hy274
                  clear hy274
                  have H' := Aside0.mk H
                  clear H
                  have p268 : 0 ≤ (x33_3 : Int) := sqD
                  have q268 : x33_3 < (t265.length : Int) := sqD
                  obtain ⟨ad268, A268_3, c268_3, e268, hx268_0, hx268_1, hx268_2, hx268_3, hl268_3, hi268_3⟩ := at_T78 (Kd.N_reads' HO_31.out).2.2 x33_3 p268 q268
                  cases e268
                  obtain ⟨ce268, hce268, hMe268, hcc268⟩ := Kd.N_get HO_31.out z78 x33_3 p268 (by first | exact q268 | exact sqD | (have e_ := (Kd.N_reads' HO_31.out).1; omega))
                  obtain ⟨ua268_3, uc268_3, rfl, ul268_3, ge268_3⟩ := k78_openF hMe268
                  have hv268_3 := hcc268 3 _ rfl
                  rw [add_field _ _ 3 (by omega)] at hv268_3
                  replace hv268_3 := Option.some.inj (hv268_3.symm.trans hx268_3)
                  injection hv268_3 with hva_ hvn_ hvc_
                  rw [hva_] at ge268_3
                  rw [hvc_] at ul268_3
                  have HL268_3 := Aside0.mk (show Kd.V (Kd.int .i64) 3 _ w.heap.size _ _ ((rd_T78 t265 x33_3).f1) from Kd.V_mk ul268_3 ge268_3)
                  clear hva_ hvn_ hvc_ ge268_3 ul268_3
                  clear hcc268 hce268
                  have HR268_3 := Aside0.mk hi268_3
                  have HC268_3 := Aside0.mk hl268_3
                  clear hi268_3 hl268_3
                  replace p268 := eq_true p268
                  replace q268 := eq_true q268
                  go_wp2_with (first | ((with_reducible refine gate_dst (N := 9) rfl ?_); refine sqX (N := 9) (cs := #[.int .i64 0, .int .i64 0, .int .i64 0, .slice none 0 0]) (t := 78) ?_; intro gb269 hg w36 hbox hb; have n0_ := Aside0.mk (Kd.R_below (sqR HO_3) hb); have n1_ := Aside0.mk (Kd.N_below (Kd.N_elderB (by (with_reducible repeat (first | apply Kd.N_alloc | apply Kd.N_drewN | apply Kd.N_drew)); exact HO_4.out) gb269 (Nat.le_of_eq hg.symm)) hb); have n2_ := Aside0.mk (Kd.N_below (Kd.N_elderB (by (with_reducible repeat (first | apply Kd.N_alloc | apply Kd.N_drewN | apply Kd.N_drew)); exact HO_31.out) gb269 (Nat.le_of_eq hg.symm)) hb); have n3_ := Aside0.mk (Kd.V_below (Kd.V_elderB (by (with_reducible repeat (first | apply Kd.V_alloc | apply Kd.V_drewN | apply Kd.V_drew)); exact HL268_3.out) gb269 (Nat.le_of_eq hg.symm)) hb); have n4_ := sqL BK260 hb; have n5_ := Aside0.mk (Kd.C_below (by repeat (first | (with_reducible exact HR268_3.out) | (with_reducible refine Kd.C_alloc ?_ _) | (with_reducible refine Kd.C_drewN ?_ _) | (with_reducible refine Kd.C_drew ?_) | exact HR268_3.out)) hb); have n6_ := sqS hb; have n7_ := Aside0.mk (hbox); have n8_ := sqG hg; have n9_ := sqG hg; have n10_ := sqN BK260 hg; have n11_ := sqM BK260 hg; clear HO_3; clear HO_4; clear HO_31; clear HL268_3; clear BK260; clear HR268_3; clear HB; have HO_3 := n0_; have HO_4 := n1_; have HO_31 := n2_; have HL268_3 := n3_; have BK260 := n4_; have HR268_3 := n5_; have HB := n6_; have BK269 := n7_; have GW269 := n8_; have GE269 := n9_; have NB260_269 := n10_; have NB269_260 := n11_; clear n0_ n1_ n2_ n3_ n4_ n5_ n6_ n7_ n8_ n9_ n10_ n11_; clear hb hbox hg; have hnb37 := NB269_260.out; have hnc37 := NB260_269.out; obtain ⟨hcz38_0, hcz38_1, hcz38_2, hcz38_3, hfz38_0, hfz38_1, hfz38_2, hfz38_3⟩ := sqC4 BK269; obtain ⟨Ao39, co39, eo39⟩ := Kd.R_slice HO_3.out; subst eo39) | ((with_reducible refine gate_callee (f := 52) rfl ?_); refine goesL_ (some 40) rfl rfl Try.func52 (by kernel_rfl) rfl #[.slice Ao39 x3_3.length co39, .agg #[.int .i64 ((rd_T78 t265 x33_3).f0.f0.f0), .int .i64 ((rd_T78 t265 x33_3).f0.f0.f1), .int .i64 ((rd_T78 t265 x33_3).f0.f1)]] rfl sqA ?_; (with_reducible refine (impl_Fact_52.calls k3 _ _ x3_3 ((rd_T78 t265 x33_3).f0.f0.f0) ((rd_T78 t265 x33_3).f0.f0.f1) ((rd_T78 t265 x33_3).f0.f1) false _ ?side1 ?side2 A27.out).mono ?_); (case side1 => refine (Kd.R_reads' (e := 36) (base := w.heap.size) (ok := fun k_ => (w.heap.size ≤ k_)) (n := x3_3.length) (c := co39) ?_).2.2; exact (by (with_reducible repeat (first | apply Kd.R_alloc | apply Kd.R_drewN | apply Kd.R_drew)); exact (Kd.R_mono (Kd.R_far (p := ⟨gb269, 3, none⟩) (Kd.R_far (p := ⟨gb269, 2, none⟩) (Kd.R_far (p := ⟨gb269, 1, none⟩) (Kd.R_far (p := ⟨gb269, 0, none⟩) (Kd.R_types HO_3.out BK269.out (by decide)) (fun _ hk => hk.2) (.int .i64 ((rd_T78 t265 x33_3).f0.f0.f0))) (fun _ hk => hk.2) (.int .i64 ((rd_T78 t265 x33_3).f0.f0.f1))) (fun _ hk => hk.2) (.int .i64 ((rd_T78 t265 x33_3).f0.f1))) (fun _ hk => hk.2) (.slice A268_3 ((rd_T78 t265 x33_3).f1).length c268_3)) (fun _ h_ => h_.1)))); (case side2 => exact (Kd.R_reads' HO_3.out).2.1); rintro e w40 ⟨rfl, hb⟩; refine ⟨_, rfl, ?_⟩; have n0_ := Aside0.mk (Kd.R_below (by (with_reducible repeat (first | apply Kd.R_alloc | apply Kd.R_drewN | apply Kd.R_drew)); exact (Kd.R_mono (Kd.R_far (p := ⟨gb269, 3, none⟩) (Kd.R_far (p := ⟨gb269, 2, none⟩) (Kd.R_far (p := ⟨gb269, 1, none⟩) (Kd.R_far (p := ⟨gb269, 0, none⟩) (Kd.R_types HO_3.out BK269.out (by decide)) (fun _ hk => hk.2) (.int .i64 ((rd_T78 t265 x33_3).f0.f0.f0))) (fun _ hk => hk.2) (.int .i64 ((rd_T78 t265 x33_3).f0.f0.f1))) (fun _ hk => hk.2) (.int .i64 ((rd_T78 t265 x33_3).f0.f1))) (fun _ hk => hk.2) (.slice A268_3 ((rd_T78 t265 x33_3).f1).length c268_3)) (fun _ h_ => h_.1))) hb); have n1_ := Aside0.mk (Kd.N_below (by (with_reducible repeat (first | apply Kd.N_alloc | apply Kd.N_drewN | apply Kd.N_drew)); exact (Kd.N_mono (Kd.N_far (p := ⟨gb269, 3, none⟩) (Kd.N_far (p := ⟨gb269, 2, none⟩) (Kd.N_far (p := ⟨gb269, 1, none⟩) (Kd.N_far (p := ⟨gb269, 0, none⟩) (Kd.N_mono HO_4.out (fun k_ hk => (⟨hk, hk.2⟩ : _ ∧ k_ ≠ gb269))) (fun _ hk => hk.2) (.int .i64 ((rd_T78 t265 x33_3).f0.f0.f0))) (fun _ hk => hk.2) (.int .i64 ((rd_T78 t265 x33_3).f0.f0.f1))) (fun _ hk => hk.2) (.int .i64 ((rd_T78 t265 x33_3).f0.f1))) (fun _ hk => hk.2) (.slice A268_3 ((rd_T78 t265 x33_3).f1).length c268_3)) (fun _ h_ => h_.1))) hb); have n2_ := Aside0.mk (Kd.N_below (by (with_reducible repeat (first | apply Kd.N_alloc | apply Kd.N_drewN | apply Kd.N_drew)); exact (Kd.N_mono (Kd.N_far (p := ⟨gb269, 3, none⟩) (Kd.N_far (p := ⟨gb269, 2, none⟩) (Kd.N_far (p := ⟨gb269, 1, none⟩) (Kd.N_far (p := ⟨gb269, 0, none⟩) (Kd.N_mono HO_31.out (fun k_ hk => (⟨hk, hk.2⟩ : _ ∧ k_ ≠ gb269))) (fun _ hk => hk.2) (.int .i64 ((rd_T78 t265 x33_3).f0.f0.f0))) (fun _ hk => hk.2) (.int .i64 ((rd_T78 t265 x33_3).f0.f0.f1))) (fun _ hk => hk.2) (.int .i64 ((rd_T78 t265 x33_3).f0.f1))) (fun _ hk => hk.2) (.slice A268_3 ((rd_T78 t265 x33_3).f1).length c268_3)) (fun _ h_ => h_.1))) hb); have n3_ := Aside0.mk (Kd.V_below (by (with_reducible repeat (first | apply Kd.V_alloc | apply Kd.V_drewN | apply Kd.V_drew)); exact (Kd.V_mono (Kd.V_far (p := ⟨gb269, 3, none⟩) (Kd.V_far (p := ⟨gb269, 2, none⟩) (Kd.V_far (p := ⟨gb269, 1, none⟩) (Kd.V_far (p := ⟨gb269, 0, none⟩) (Kd.V_mono HL268_3.out (fun k_ hk => (⟨hk, hk.2⟩ : _ ∧ k_ ≠ gb269))) (fun _ hk => hk.2) (.int .i64 ((rd_T78 t265 x33_3).f0.f0.f0))) (fun _ hk => hk.2) (.int .i64 ((rd_T78 t265 x33_3).f0.f0.f1))) (fun _ hk => hk.2) (.int .i64 ((rd_T78 t265 x33_3).f0.f1))) (fun _ hk => hk.2) (.slice A268_3 ((rd_T78 t265 x33_3).f1).length c268_3)) (fun _ h_ => h_.1))) hb); have n4_ := Aside0.mk (blk_below (g := gb260) (o := .cells #[.int .i64 ((rd_T29 l0 x20_2).f0), .int .i64 ((rd_T29 l0 x20_2).f1.f0), .int .i64 ((rd_T29 l0 x20_2).f1.f1), .int .i64 ((rd_T29 l0 x20_2).f2), .int .i64 ((rd_T29 l0 x20_2).f3.f0), .int .i64 ((rd_T29 l0 x20_2).f3.f1), .int .i64 ((rd_T29 l0 x20_2).f4.f0), .int .i64 ((rd_T29 l0 x20_2).f4.f1), .int .i64 ((rd_T29 l0 x20_2).f5), .int .i64 ((rd_T29 l0 x20_2).f6)] 29 (0, 0)) (by (with_reducible repeat (first | refine blk_drewN ?_ _ | refine blk_drew ?_ | refine blk_alloc ?_ _)); refine blk_far ?_ NB260_269.out _; (with_reducible repeat (first | refine blk_drewN ?_ _ | refine blk_drew ?_ | refine blk_alloc ?_ _)); refine blk_far ?_ NB260_269.out _; (with_reducible repeat (first | refine blk_drewN ?_ _ | refine blk_drew ?_ | refine blk_alloc ?_ _)); refine blk_far ?_ NB260_269.out _; (with_reducible repeat (first | refine blk_drewN ?_ _ | refine blk_drew ?_ | refine blk_alloc ?_ _)); refine blk_far ?_ NB260_269.out _; (with_reducible repeat (first | refine blk_drewN ?_ _ | refine blk_drew ?_ | refine blk_alloc ?_ _)); exact BK260.out) hb); have n5_ := Aside0.mk (Kd.C_below ((Kd.V_reads' (by (with_reducible repeat (first | apply Kd.V_alloc | apply Kd.V_drewN | apply Kd.V_drew)); exact (Kd.V_mono (Kd.V_far (p := ⟨gb269, 3, none⟩) (Kd.V_far (p := ⟨gb269, 2, none⟩) (Kd.V_far (p := ⟨gb269, 1, none⟩) (Kd.V_far (p := ⟨gb269, 0, none⟩) (Kd.V_mono HL268_3.out (fun k_ hk => (⟨hk, hk.2⟩ : _ ∧ k_ ≠ gb269))) (fun _ hk => hk.2) (.int .i64 ((rd_T78 t265 x33_3).f0.f0.f0))) (fun _ hk => hk.2) (.int .i64 ((rd_T78 t265 x33_3).f0.f0.f1))) (fun _ hk => hk.2) (.int .i64 ((rd_T78 t265 x33_3).f0.f1))) (fun _ hk => hk.2) (.slice A268_3 ((rd_T78 t265 x33_3).f1).length c268_3)) (fun _ h_ => h_.1)))).2.2) hb); have n6_ := Aside0.mk (blk_below (g := gb269) (o := .cells #[.int .i64 ((rd_T78 t265 x33_3).f0.f0.f0), .int .i64 ((rd_T78 t265 x33_3).f0.f0.f1), .int .i64 ((rd_T78 t265 x33_3).f0.f1), .slice A268_3 ((rd_T78 t265 x33_3).f1).length c268_3] 78 (0, 0)) (by (with_reducible repeat (first | refine blk_drewN ?_ _ | refine blk_drew ?_ | refine blk_alloc ?_ _)); refine blk_put (cs := #[.int .i64 ((rd_T78 t265 x33_3).f0.f0.f0), .int .i64 ((rd_T78 t265 x33_3).f0.f0.f1), .int .i64 ((rd_T78 t265 x33_3).f0.f1), .slice none 0 0]) ?_ 3 _ rfl; (with_reducible repeat (first | refine blk_drewN ?_ _ | refine blk_drew ?_ | refine blk_alloc ?_ _)); refine blk_put (cs := #[.int .i64 ((rd_T78 t265 x33_3).f0.f0.f0), .int .i64 ((rd_T78 t265 x33_3).f0.f0.f1), .int .i64 0, .slice none 0 0]) ?_ 2 _ rfl; (with_reducible repeat (first | refine blk_drewN ?_ _ | refine blk_drew ?_ | refine blk_alloc ?_ _)); refine blk_put (cs := #[.int .i64 ((rd_T78 t265 x33_3).f0.f0.f0), .int .i64 0, .int .i64 0, .slice none 0 0]) ?_ 1 _ rfl; (with_reducible repeat (first | refine blk_drewN ?_ _ | refine blk_drew ?_ | refine blk_alloc ?_ _)); refine blk_put (cs := #[.int .i64 0, .int .i64 0, .int .i64 0, .slice none 0 0]) ?_ 0 _ rfl; (with_reducible repeat (first | refine blk_drewN ?_ _ | refine blk_drew ?_ | refine blk_alloc ?_ _)); exact BK269.out) hb); have n7_ := sqS hb; clear HO_3; clear HO_4; clear HO_31; clear HL268_3; clear BK260; clear HR268_3; clear BK269; clear HB; have HO_3 := n0_; have HO_4 := n1_; have HO_31 := n2_; have HL268_3 := n3_; have BK260 := n4_; have HR268_3 := n5_; have BK269 := n6_; have HB := n7_; clear n0_ n1_ n2_ n3_ n4_ n5_ n6_ n7_; (try clear hb); (try clear hb2); (try clear hk); (try clear hi); obtain ⟨hcz41_0, hcz41_1, hcz41_2, hcz41_3, hfz41_0, hfz41_1, hfz41_2, hfz41_3⟩ := sqC4 BK269) | ((with_reducible refine gate_builtin (b := .append) (xs := #[.tmp 42, .tmp 45]) rfl ?_); at_builtin; refine Kd.R_append k36 (w0 := w) w.heap.size rfl (.tmp 42) (.tmp 45) 31 36 (.agg #[(.int .i64 0), (.int .i64 0), (.int .i64 0)]) 24 rfl Try.underlying31 info36 rfl (by decide) (by omega) (.slice Ao39 x3_3.length co39) x3_3 (⟨(⟨(rd_T78 t265 x33_3).f0.f0.f0, (rd_T78 t265 x33_3).f0.f0.f1⟩ : S27), (rd_T78 t265 x33_3).f0.f1⟩ : S36) [.int .i64 ((rd_T78 t265 x33_3).f0.f0.f0), .int .i64 ((rd_T78 t265 x33_3).f0.f0.f1), .int .i64 ((rd_T78 t265 x33_3).f0.f1)] (fun k_ => (w.heap.size ≤ k_)) (fun _ => False) rfl rfl ?aP (fun _ hk => hk.elim) ?aF ?aO ?aB ?aS ?aL ?_; (case aP => exact k36_mkM _ _ _ (⟨(⟨(rd_T78 t265 x33_3).f0.f0.f0, (rd_T78 t265 x33_3).f0.f0.f1⟩ : S27), (rd_T78 t265 x33_3).f0.f1⟩ : S36)); (case aB => exact (sqB)); (case aF => exact (fun k_ hk => (Nat.le_trans (below_size (sqB)) hk))); (case aO => exact (sqR HO_3)); (case aS => exact (below_size (sqB))); (case aL => have := LMc34.out; omega); intro v272 w42 ho hb hg hat; rw [← Ny271.out] at ho; have n0_ := Aside0.mk (Kd.N_afterv (ok := (fun k_ => (w.heap.size ≤ k_) ∧ some k_ ≠ (.slice (some ad268) t265.length co23 : Value).ownBlock ∧ k_ ≠ gb260 ∧ k_ ≠ gb269)) (by (with_reducible repeat (first | apply Kd.N_alloc | apply Kd.N_drewN | apply Kd.N_drew)); exact Kd.N_mono HO_4.out (fun _ hk => ⟨⟨hk.1.1, ⟨hk.1.2.2.1, ⟨hk.1.2.2.2, hk.2⟩⟩⟩, hk.1.2.1⟩)) hg hat); have n1_ := Aside0.mk (Kd.N_afterv (ok := (fun k_ => (w.heap.size ≤ k_) ∧ some k_ ≠ (u4 : Value).ownBlock ∧ k_ ≠ gb260 ∧ k_ ≠ gb269)) (by (with_reducible repeat (first | apply Kd.N_alloc | apply Kd.N_drewN | apply Kd.N_drew)); exact Kd.N_mono HO_31.out (fun _ hk => ⟨⟨hk.1.1, ⟨hk.1.2.2.1, ⟨hk.1.2.2.2, hk.2⟩⟩⟩, hk.1.2.1⟩)) hg hat); have n2_ := Aside0.mk (blk_grown (g := gb260) (o := .cells #[.int .i64 ((rd_T29 l0 x20_2).f0), .int .i64 ((rd_T29 l0 x20_2).f1.f0), .int .i64 ((rd_T29 l0 x20_2).f1.f1), .int .i64 ((rd_T29 l0 x20_2).f2), .int .i64 ((rd_T29 l0 x20_2).f3.f0), .int .i64 ((rd_T29 l0 x20_2).f3.f1), .int .i64 ((rd_T29 l0 x20_2).f4.f0), .int .i64 ((rd_T29 l0 x20_2).f4.f1), .int .i64 ((rd_T29 l0 x20_2).f5), .int .i64 ((rd_T29 l0 x20_2).f6)] 29 (0, 0)) (sqK BK260) hg (Kd.R_ne HO_3.out BK260.out (by decide))); have n3_ := Aside0.mk (Kd.V_afterv (ok := (fun k_ => (w.heap.size ≤ k_) ∧ some k_ ≠ (u4 : Value).ownBlock ∧ some k_ ≠ (.slice (some ad268) t265.length co23 : Value).ownBlock ∧ k_ ≠ gb260 ∧ k_ ≠ gb269)) (by (with_reducible repeat (first | apply Kd.V_alloc | apply Kd.V_drewN | apply Kd.V_drew)); exact Kd.V_mono HL268_3.out (fun _ hk => ⟨⟨hk.1.1.1, ⟨hk.1.1.2.2.1, ⟨hk.1.2, ⟨hk.1.1.2.2.2, hk.2⟩⟩⟩⟩, hk.1.1.2.1⟩)) hg hat); have n4_ := Aside0.mk (blk_grown (g := gb269) (o := .cells #[.int .i64 ((rd_T78 t265 x33_3).f0.f0.f0), .int .i64 ((rd_T78 t265 x33_3).f0.f0.f1), .int .i64 ((rd_T78 t265 x33_3).f0.f1), .slice A268_3 ((rd_T78 t265 x33_3).f1).length c268_3] 78 (0, 0)) (sqK BK269) hg (Kd.R_ne HO_3.out BK269.out (by decide))); have n5_ := Aside0.mk (hb); have n6_ := Aside0.mk (ho); clear HO_4; clear HO_31; clear BK260; clear HL268_3; clear BK269; clear HB; clear HO_3; have HO_4 := n0_; have HO_31 := n1_; have BK260 := n2_; have HL268_3 := n3_; have BK269 := n4_; have HB := n5_; have HO273 := n6_; clear n0_ n1_ n2_ n3_ n4_ n5_ n6_; clear ho hb hg hat; obtain ⟨hcz43_0, hcz43_1, hcz43_2, hcz43_3, hfz43_0, hfz43_1, hfz43_2, hfz43_3⟩ := sqC4 BK269) | ((with_reducible refine gate_builtin (b := .append) (xs := #[.tmp 47, .tmp 54]) rfl ?_); at_builtin; refine Kd.N_append k72 (w0 := w) w.heap.size rfl (.tmp 47) (.tmp 54) 69 72 (.agg #[(.int .i64 0), (.int .i64 0), (.int .i64 0), (.int .i64 0), (.slice none 0 0)]) 56 rfl Try.underlying69 info72 rfl (by decide) (by omega) u4 x4_3 (⟨(⟨(⟨(rd_T78 t265 x33_3).f0.f0.f0, (rd_T78 t265 x33_3).f0.f0.f1⟩ : S27), (rd_T78 t265 x33_3).f0.f1⟩ : S36), x20_2, (rd_T78 t265 x33_3).f1⟩ : S72) [.int .i64 ((rd_T78 t265 x33_3).f0.f0.f0), .int .i64 ((rd_T78 t265 x33_3).f0.f0.f1), .int .i64 ((rd_T78 t265 x33_3).f0.f1), .int .i64 x20_2, .slice A268_3 ((rd_T78 t265 x33_3).f1).length c268_3] (fun k_ => (w.heap.size ≤ k_) ∧ some k_ ≠ (.slice (some ad268) t265.length co23 : Value).ownBlock ∧ some k_ ≠ (v272 : Value).ownBlock ∧ k_ ≠ gb260 ∧ k_ ≠ gb269) (fun k_ => ((fun k_ => (w.heap.size ≤ k_) ∧ some k_ ≠ (.slice (some ad268) t265.length co23 : Value).ownBlock ∧ some k_ ≠ (v272 : Value).ownBlock ∧ k_ ≠ gb260 ∧ k_ ≠ gb269)) k_ ∧ some k_ ≠ (u4 : Value).ownBlock) rfl rfl ?aP (fun _ hk => hk) ?aF ?aO ?aB ?aS ?aL ?_; (case aP => exact (k72_mkF _ _ (⟨(⟨(⟨(rd_T78 t265 x33_3).f0.f0.f0, (rd_T78 t265 x33_3).f0.f0.f1⟩ : S27), (rd_T78 t265 x33_3).f0.f1⟩ : S36), x20_2, (rd_T78 t265 x33_3).f1⟩ : S72) (Kd.V_reads' (Kd.V_mono (ok' := (fun k_ => ((fun k_ => (w.heap.size ≤ k_) ∧ some k_ ≠ (.slice (some ad268) t265.length co23 : Value).ownBlock ∧ some k_ ≠ (v272 : Value).ownBlock ∧ k_ ≠ gb260 ∧ k_ ≠ gb269)) k_ ∧ some k_ ≠ (u4 : Value).ownBlock)) (HL268_3.out) (fun k_ hk => ⟨⟨hk.1.1, ⟨hk.1.2.2.1, ⟨hk.2, ⟨hk.1.2.2.2.1, hk.1.2.2.2.2⟩⟩⟩⟩, hk.1.2.1⟩))).2.1 (Kd.V_F (Kd.V_mono (ok' := (fun k_ => ((fun k_ => (w.heap.size ≤ k_) ∧ some k_ ≠ (.slice (some ad268) t265.length co23 : Value).ownBlock ∧ some k_ ≠ (v272 : Value).ownBlock ∧ k_ ≠ gb260 ∧ k_ ≠ gb269)) k_ ∧ some k_ ≠ (u4 : Value).ownBlock)) (HL268_3.out) (fun k_ hk => ⟨⟨hk.1.1, ⟨hk.1.2.2.1, ⟨hk.2, ⟨hk.1.2.2.2.1, hk.1.2.2.2.2⟩⟩⟩⟩, hk.1.2.1⟩))))); (case aB => exact (sqB)); (case aF => exact (fun k_ hk => ⟨(Nat.le_trans (below_size (sqB)) hk), Kd.fresh' (Kd.N_lt (by (with_reducible repeat (first | apply Kd.N_alloc | apply Kd.N_drewN | apply Kd.N_drew)); exact HO_31.out)) k_ hk, Kd.fresh' (Kd.R_lt (sqR HO273)) k_ hk, Kd.freshB (g := gb260) (o := .cells #[.int .i64 ((rd_T29 l0 x20_2).f0), .int .i64 ((rd_T29 l0 x20_2).f1.f0), .int .i64 ((rd_T29 l0 x20_2).f1.f1), .int .i64 ((rd_T29 l0 x20_2).f2), .int .i64 ((rd_T29 l0 x20_2).f3.f0), .int .i64 ((rd_T29 l0 x20_2).f3.f1), .int .i64 ((rd_T29 l0 x20_2).f4.f0), .int .i64 ((rd_T29 l0 x20_2).f4.f1), .int .i64 ((rd_T29 l0 x20_2).f5), .int .i64 ((rd_T29 l0 x20_2).f6)] 29 (0, 0)) (sqK BK260) k_ hk, Kd.freshB (g := gb269) (o := .cells #[.int .i64 ((rd_T78 t265 x33_3).f0.f0.f0), .int .i64 ((rd_T78 t265 x33_3).f0.f0.f1), .int .i64 ((rd_T78 t265 x33_3).f0.f1), .slice A268_3 ((rd_T78 t265 x33_3).f1).length c268_3] 78 (0, 0)) (sqK BK269) k_ hk⟩)); (case aO => exact (by (with_reducible repeat (first | apply Kd.N_alloc | apply Kd.N_drewN | apply Kd.N_drew)); exact Kd.N_mono HO_4.out (fun _ hk => ⟨hk.1.1, ⟨hk.1.2.1, ⟨hk.2, ⟨hk.1.2.2.1, hk.1.2.2.2⟩⟩⟩⟩))); (case aS => exact (below_size (sqB))); (case aL => have := LMc35.out; omega); intro v275 w44 ho hb hg hat; rw [← Ny274.out] at ho; have n0_ := Aside0.mk (Kd.N_afterv (ok := (fun k_ => (w.heap.size ≤ k_) ∧ some k_ ≠ (v272 : Value).ownBlock ∧ k_ ≠ gb260 ∧ k_ ≠ gb269)) (by (with_reducible repeat (first | apply Kd.N_alloc | apply Kd.N_drewN | apply Kd.N_drew)); exact Kd.N_mono HO_31.out (fun _ hk => ⟨⟨hk.1.1, ⟨hk.2, ⟨hk.1.2.2.1, hk.1.2.2.2⟩⟩⟩, hk.1.2.1⟩)) hg hat); have n1_ := Aside0.mk (blk_grown (g := gb260) (o := .cells #[.int .i64 ((rd_T29 l0 x20_2).f0), .int .i64 ((rd_T29 l0 x20_2).f1.f0), .int .i64 ((rd_T29 l0 x20_2).f1.f1), .int .i64 ((rd_T29 l0 x20_2).f2), .int .i64 ((rd_T29 l0 x20_2).f3.f0), .int .i64 ((rd_T29 l0 x20_2).f3.f1), .int .i64 ((rd_T29 l0 x20_2).f4.f0), .int .i64 ((rd_T29 l0 x20_2).f4.f1), .int .i64 ((rd_T29 l0 x20_2).f5), .int .i64 ((rd_T29 l0 x20_2).f6)] 29 (0, 0)) (sqK BK260) hg (Kd.N_ne HO_4.out BK260.out (by decide))); have n2_ := Aside0.mk (Kd.V_afterv (ok := (fun k_ => (w.heap.size ≤ k_) ∧ some k_ ≠ (.slice (some ad268) t265.length co23 : Value).ownBlock ∧ some k_ ≠ (v272 : Value).ownBlock ∧ k_ ≠ gb260 ∧ k_ ≠ gb269)) (by (with_reducible repeat (first | apply Kd.V_alloc | apply Kd.V_drewN | apply Kd.V_drew)); exact Kd.V_mono HL268_3.out (fun _ hk => ⟨⟨hk.1.1, ⟨hk.1.2.2.1, ⟨hk.2, ⟨hk.1.2.2.2.1, hk.1.2.2.2.2⟩⟩⟩⟩, hk.1.2.1⟩)) hg hat); have n3_ := Aside0.mk (blk_grown (g := gb269) (o := .cells #[.int .i64 ((rd_T78 t265 x33_3).f0.f0.f0), .int .i64 ((rd_T78 t265 x33_3).f0.f0.f1), .int .i64 ((rd_T78 t265 x33_3).f0.f1), .slice A268_3 ((rd_T78 t265 x33_3).f1).length c268_3] 78 (0, 0)) (sqK BK269) hg (Kd.N_ne HO_4.out BK269.out (by decide))); have n4_ := Aside0.mk (Kd.R_over' (sqR HO273) (Kd.N_typed (by (with_reducible repeat (first | apply Kd.N_alloc | apply Kd.N_drewN | apply Kd.N_drew)); exact HO_4.out)) (by decide) hg); have n5_ := Aside0.mk (hb); have n6_ := Aside0.mk (ho); clear HO_31; clear BK260; clear HL268_3; clear BK269; clear HO273; clear HB; clear HO_4; have HO_31 := n0_; have BK260 := n1_; have HL268_3 := n2_; have BK269 := n3_; have HO273 := n4_; have HB := n5_; have HO276 := n6_; clear n0_ n1_ n2_ n3_ n4_ n5_ n6_; clear ho hb hg hat))
                  go_roundg k3
                  case measure => have := HK1.out; have := HK2.out; have := HK3.out; omega
                  case rel => exact ⟨(y271), (y274), (wrap64 (x33_3 + 1)), (by first | rfl | (simp; done) | (simp [*]; done)), H', ⟨by have := HK1.out; have := HK2.out; have := HK3.out; omega⟩, ⟨sqR HO273⟩, ⟨by (with_reducible repeat (first | apply Kd.N_alloc | apply Kd.N_drewN | apply Kd.N_drew)); exact Kd.N_mono HO276.out (fun _ hk => ⟨hk.1, ⟨hk.2.2.1, ⟨hk.2.1, hk.2.2.2.1⟩⟩⟩)⟩, ⟨by (with_reducible repeat (first | apply Kd.N_alloc | apply Kd.N_drewN | apply Kd.N_drew)); exact Kd.N_mono HO_31.out (fun _ hk => ⟨hk.1.1, ⟨hk.1.2.1, ⟨hk.2, hk.1.2.2.1⟩⟩⟩)⟩, ⟨sqK BK260⟩, ⟨sqB⟩⟩
                 ·rw [if_neg c35] at H
                  exact absurd H (by simp)
                ·rw [if_neg c34] at H
                 exact absurd H (by simp)
              ·rw [if_neg c26] at H
               exact absurd H (by simp)
             ·rw [if_neg c25] at H
              exact absurd H (by simp)
            ·rw [if_neg c24] at H
             have c24b0 : decide (x33_3 < (t265.length : Int)) = false := decide_eq_false c24
             clear c24
             have H' := Aside0.mk H
             clear H
             go_wp2
             go_roundg k3
             case measure => have := HK1.out; have := HK2.out; have := HK3.out; omega
             case rel => exact ⟨(x3_3), (x4_3), (wrap64 (x20_2 + 1)), (by first | rfl | (simp; done) | (simp [*]; done)), H', ⟨by have := HK1.out; have := HK2.out; have := HK3.out; omega⟩, ⟨sqR HO_3⟩, ⟨by (with_reducible repeat (first | apply Kd.N_alloc | apply Kd.N_drewN | apply Kd.N_drew)); exact Kd.N_mono HO_4.out (fun _ hk => ⟨hk.1, hk.2.1⟩)⟩, ⟨sqB⟩⟩
         ·replace c12 := Bool.eq_false_iff.mpr c12
          subst c12
          have H1 : (impl_findFacts.l1 k2 l0 x3_2 x4_2 (x3_1.length : Int) l0 (l0.length : Int) (wrap64 (x20_2 + 1))) = some r := by rw [if_neg (show ¬ (false = true) by decide)] at H; exact H
          clear H
          have H := H1
          clear H1
          have H' := Aside0.mk H
          clear H
          have p259 : 0 ≤ (x20_2 : Int) := sqD
          have q259 : x20_2 < (l0.length : Int) := sqD
          obtain ⟨ad259, e259, hx259_0, hx259_1, hx259_2, hx259_3, hx259_4, hx259_5, hx259_6, hx259_7, hx259_8, hx259_9⟩ := at_T29 HR0.out x20_2 p259 q259
          cases e259
          replace hx259_0 := sqH HB hx259_0
          replace hx259_1 := sqH HB hx259_1
          replace hx259_2 := sqH HB hx259_2
          replace hx259_3 := sqH HB hx259_3
          replace hx259_4 := sqH HB hx259_4
          replace hx259_5 := sqH HB hx259_5
          replace hx259_6 := sqH HB hx259_6
          replace hx259_7 := sqH HB hx259_7
          replace hx259_8 := sqH HB hx259_8
          replace hx259_9 := sqH HB hx259_9
          replace p259 := eq_true p259
          replace q259 := eq_true q259
          go_wp2_with (first | ((with_reducible refine gate_dst (N := 7) rfl ?_); refine sqX (N := 7) (cs := #[.int .i64 0, .int .i64 0, .int .i64 0, .int .i64 0, .int .i64 0, .int .i64 0, .int .i64 0, .int .i64 0, .int .i64 0, .int .i64 0]) (t := 29) ?_; intro gb260 hg w45 hbox hb; replace HO_3 := Aside0.mk (Kd.R_below (sqR HO_3) hb); replace HO_4 := Aside0.mk (Kd.N_below (Kd.N_elderB (by (with_reducible repeat (first | apply Kd.N_alloc | apply Kd.N_drewN | apply Kd.N_drew)); exact HO_4.out) gb260 (Nat.le_of_eq hg.symm)) hb); have BK260 := Aside0.mk (hbox); have GW260 := sqG hg; have GE260 := sqG hg; replace HB := sqS hb; clear hb hbox hg; obtain ⟨hcz46_0, hcz46_1, hcz46_2, hcz46_3, hcz46_4, hcz46_5, hcz46_6, hcz46_7, hcz46_8, hcz46_9, hfz46_0, hfz46_1, hfz46_2, hfz46_3, hfz46_4, hfz46_5, hfz46_6, hfz46_7, hfz46_8, hfz46_9⟩ := sqC10 BK260) | ((with_reducible refine gate_callee (f := 50) rfl ?_); refine goesL_ (some 26) rfl rfl Try.func50 (by kernel_rfl) rfl #[.agg #[.int .i64 ((rd_T29 l0 x20_2).f0), .int .i64 ((rd_T29 l0 x20_2).f1.f0), .int .i64 ((rd_T29 l0 x20_2).f1.f1), .int .i64 ((rd_T29 l0 x20_2).f2), .int .i64 ((rd_T29 l0 x20_2).f3.f0), .int .i64 ((rd_T29 l0 x20_2).f3.f1), .int .i64 ((rd_T29 l0 x20_2).f4.f0), .int .i64 ((rd_T29 l0 x20_2).f4.f1), .int .i64 ((rd_T29 l0 x20_2).f5), .int .i64 ((rd_T29 l0 x20_2).f6)]] rfl sqA ?_; (with_reducible refine (impl_CredOk.calls k2 ((rd_T29 l0 x20_2).f0) ((rd_T29 l0 x20_2).f1.f0) ((rd_T29 l0 x20_2).f1.f1) ((rd_T29 l0 x20_2).f2) ((rd_T29 l0 x20_2).f3.f0) ((rd_T29 l0 x20_2).f3.f1) ((rd_T29 l0 x20_2).f4.f0) ((rd_T29 l0 x20_2).f4.f1) ((rd_T29 l0 x20_2).f5) ((rd_T29 l0 x20_2).f6) false _ A11.out).mono ?_); rintro e w47 ⟨rfl, hb⟩; refine ⟨_, rfl, ?_⟩; have n0_ := Aside0.mk (Kd.R_below (by (with_reducible repeat (first | apply Kd.R_alloc | apply Kd.R_drewN | apply Kd.R_drew)); exact (Kd.R_mono (Kd.R_far (p := ⟨gb260, 9, none⟩) (Kd.R_far (p := ⟨gb260, 8, none⟩) (Kd.R_far (p := ⟨gb260, 7, none⟩) (Kd.R_far (p := ⟨gb260, 6, none⟩) (Kd.R_far (p := ⟨gb260, 5, none⟩) (Kd.R_far (p := ⟨gb260, 4, none⟩) (Kd.R_far (p := ⟨gb260, 3, none⟩) (Kd.R_far (p := ⟨gb260, 2, none⟩) (Kd.R_far (p := ⟨gb260, 1, none⟩) (Kd.R_far (p := ⟨gb260, 0, none⟩) (Kd.R_types HO_3.out BK260.out (by decide)) (fun _ hk => hk.2) (.int .i64 ((rd_T29 l0 x20_2).f0))) (fun _ hk => hk.2) (.int .i64 ((rd_T29 l0 x20_2).f1.f0))) (fun _ hk => hk.2) (.int .i64 ((rd_T29 l0 x20_2).f1.f1))) (fun _ hk => hk.2) (.int .i64 ((rd_T29 l0 x20_2).f2))) (fun _ hk => hk.2) (.int .i64 ((rd_T29 l0 x20_2).f3.f0))) (fun _ hk => hk.2) (.int .i64 ((rd_T29 l0 x20_2).f3.f1))) (fun _ hk => hk.2) (.int .i64 ((rd_T29 l0 x20_2).f4.f0))) (fun _ hk => hk.2) (.int .i64 ((rd_T29 l0 x20_2).f4.f1))) (fun _ hk => hk.2) (.int .i64 ((rd_T29 l0 x20_2).f5))) (fun _ hk => hk.2) (.int .i64 ((rd_T29 l0 x20_2).f6))) (fun _ h_ => h_.1))) hb); have n1_ := Aside0.mk (Kd.N_below (by (with_reducible repeat (first | apply Kd.N_alloc | apply Kd.N_drewN | apply Kd.N_drew)); exact (Kd.N_mono (Kd.N_far (p := ⟨gb260, 9, none⟩) (Kd.N_far (p := ⟨gb260, 8, none⟩) (Kd.N_far (p := ⟨gb260, 7, none⟩) (Kd.N_far (p := ⟨gb260, 6, none⟩) (Kd.N_far (p := ⟨gb260, 5, none⟩) (Kd.N_far (p := ⟨gb260, 4, none⟩) (Kd.N_far (p := ⟨gb260, 3, none⟩) (Kd.N_far (p := ⟨gb260, 2, none⟩) (Kd.N_far (p := ⟨gb260, 1, none⟩) (Kd.N_far (p := ⟨gb260, 0, none⟩) (Kd.N_mono HO_4.out (fun k_ hk => (⟨hk, hk.2⟩ : _ ∧ k_ ≠ gb260))) (fun _ hk => hk.2) (.int .i64 ((rd_T29 l0 x20_2).f0))) (fun _ hk => hk.2) (.int .i64 ((rd_T29 l0 x20_2).f1.f0))) (fun _ hk => hk.2) (.int .i64 ((rd_T29 l0 x20_2).f1.f1))) (fun _ hk => hk.2) (.int .i64 ((rd_T29 l0 x20_2).f2))) (fun _ hk => hk.2) (.int .i64 ((rd_T29 l0 x20_2).f3.f0))) (fun _ hk => hk.2) (.int .i64 ((rd_T29 l0 x20_2).f3.f1))) (fun _ hk => hk.2) (.int .i64 ((rd_T29 l0 x20_2).f4.f0))) (fun _ hk => hk.2) (.int .i64 ((rd_T29 l0 x20_2).f4.f1))) (fun _ hk => hk.2) (.int .i64 ((rd_T29 l0 x20_2).f5))) (fun _ hk => hk.2) (.int .i64 ((rd_T29 l0 x20_2).f6))) (fun _ h_ => h_.1))) hb); have n2_ := Aside0.mk (blk_below (g := gb260) (o := .cells #[.int .i64 ((rd_T29 l0 x20_2).f0), .int .i64 ((rd_T29 l0 x20_2).f1.f0), .int .i64 ((rd_T29 l0 x20_2).f1.f1), .int .i64 ((rd_T29 l0 x20_2).f2), .int .i64 ((rd_T29 l0 x20_2).f3.f0), .int .i64 ((rd_T29 l0 x20_2).f3.f1), .int .i64 ((rd_T29 l0 x20_2).f4.f0), .int .i64 ((rd_T29 l0 x20_2).f4.f1), .int .i64 ((rd_T29 l0 x20_2).f5), .int .i64 ((rd_T29 l0 x20_2).f6)] 29 (0, 0)) (by (with_reducible repeat (first | refine blk_drewN ?_ _ | refine blk_drew ?_ | refine blk_alloc ?_ _)); refine blk_put (cs := #[.int .i64 ((rd_T29 l0 x20_2).f0), .int .i64 ((rd_T29 l0 x20_2).f1.f0), .int .i64 ((rd_T29 l0 x20_2).f1.f1), .int .i64 ((rd_T29 l0 x20_2).f2), .int .i64 ((rd_T29 l0 x20_2).f3.f0), .int .i64 ((rd_T29 l0 x20_2).f3.f1), .int .i64 ((rd_T29 l0 x20_2).f4.f0), .int .i64 ((rd_T29 l0 x20_2).f4.f1), .int .i64 ((rd_T29 l0 x20_2).f5), .int .i64 0]) ?_ 9 _ rfl; (with_reducible repeat (first | refine blk_drewN ?_ _ | refine blk_drew ?_ | refine blk_alloc ?_ _)); refine blk_put (cs := #[.int .i64 ((rd_T29 l0 x20_2).f0), .int .i64 ((rd_T29 l0 x20_2).f1.f0), .int .i64 ((rd_T29 l0 x20_2).f1.f1), .int .i64 ((rd_T29 l0 x20_2).f2), .int .i64 ((rd_T29 l0 x20_2).f3.f0), .int .i64 ((rd_T29 l0 x20_2).f3.f1), .int .i64 ((rd_T29 l0 x20_2).f4.f0), .int .i64 ((rd_T29 l0 x20_2).f4.f1), .int .i64 0, .int .i64 0]) ?_ 8 _ rfl; (with_reducible repeat (first | refine blk_drewN ?_ _ | refine blk_drew ?_ | refine blk_alloc ?_ _)); refine blk_put (cs := #[.int .i64 ((rd_T29 l0 x20_2).f0), .int .i64 ((rd_T29 l0 x20_2).f1.f0), .int .i64 ((rd_T29 l0 x20_2).f1.f1), .int .i64 ((rd_T29 l0 x20_2).f2), .int .i64 ((rd_T29 l0 x20_2).f3.f0), .int .i64 ((rd_T29 l0 x20_2).f3.f1), .int .i64 ((rd_T29 l0 x20_2).f4.f0), .int .i64 0, .int .i64 0, .int .i64 0]) ?_ 7 _ rfl; (with_reducible repeat (first | refine blk_drewN ?_ _ | refine blk_drew ?_ | refine blk_alloc ?_ _)); refine blk_put (cs := #[.int .i64 ((rd_T29 l0 x20_2).f0), .int .i64 ((rd_T29 l0 x20_2).f1.f0), .int .i64 ((rd_T29 l0 x20_2).f1.f1), .int .i64 ((rd_T29 l0 x20_2).f2), .int .i64 ((rd_T29 l0 x20_2).f3.f0), .int .i64 ((rd_T29 l0 x20_2).f3.f1), .int .i64 0, .int .i64 0, .int .i64 0, .int .i64 0]) ?_ 6 _ rfl; (with_reducible repeat (first | refine blk_drewN ?_ _ | refine blk_drew ?_ | refine blk_alloc ?_ _)); refine blk_put (cs := #[.int .i64 ((rd_T29 l0 x20_2).f0), .int .i64 ((rd_T29 l0 x20_2).f1.f0), .int .i64 ((rd_T29 l0 x20_2).f1.f1), .int .i64 ((rd_T29 l0 x20_2).f2), .int .i64 ((rd_T29 l0 x20_2).f3.f0), .int .i64 0, .int .i64 0, .int .i64 0, .int .i64 0, .int .i64 0]) ?_ 5 _ rfl; (with_reducible repeat (first | refine blk_drewN ?_ _ | refine blk_drew ?_ | refine blk_alloc ?_ _)); refine blk_put (cs := #[.int .i64 ((rd_T29 l0 x20_2).f0), .int .i64 ((rd_T29 l0 x20_2).f1.f0), .int .i64 ((rd_T29 l0 x20_2).f1.f1), .int .i64 ((rd_T29 l0 x20_2).f2), .int .i64 0, .int .i64 0, .int .i64 0, .int .i64 0, .int .i64 0, .int .i64 0]) ?_ 4 _ rfl; (with_reducible repeat (first | refine blk_drewN ?_ _ | refine blk_drew ?_ | refine blk_alloc ?_ _)); refine blk_put (cs := #[.int .i64 ((rd_T29 l0 x20_2).f0), .int .i64 ((rd_T29 l0 x20_2).f1.f0), .int .i64 ((rd_T29 l0 x20_2).f1.f1), .int .i64 0, .int .i64 0, .int .i64 0, .int .i64 0, .int .i64 0, .int .i64 0, .int .i64 0]) ?_ 3 _ rfl; (with_reducible repeat (first | refine blk_drewN ?_ _ | refine blk_drew ?_ | refine blk_alloc ?_ _)); refine blk_put (cs := #[.int .i64 ((rd_T29 l0 x20_2).f0), .int .i64 ((rd_T29 l0 x20_2).f1.f0), .int .i64 0, .int .i64 0, .int .i64 0, .int .i64 0, .int .i64 0, .int .i64 0, .int .i64 0, .int .i64 0]) ?_ 2 _ rfl; (with_reducible repeat (first | refine blk_drewN ?_ _ | refine blk_drew ?_ | refine blk_alloc ?_ _)); refine blk_put (cs := #[.int .i64 ((rd_T29 l0 x20_2).f0), .int .i64 0, .int .i64 0, .int .i64 0, .int .i64 0, .int .i64 0, .int .i64 0, .int .i64 0, .int .i64 0, .int .i64 0]) ?_ 1 _ rfl; (with_reducible repeat (first | refine blk_drewN ?_ _ | refine blk_drew ?_ | refine blk_alloc ?_ _)); refine blk_put (cs := #[.int .i64 0, .int .i64 0, .int .i64 0, .int .i64 0, .int .i64 0, .int .i64 0, .int .i64 0, .int .i64 0, .int .i64 0, .int .i64 0]) ?_ 0 _ rfl; (with_reducible repeat (first | refine blk_drewN ?_ _ | refine blk_drew ?_ | refine blk_alloc ?_ _)); exact BK260.out) hb); have n3_ := sqS hb; clear HO_3; clear HO_4; clear BK260; clear HB; have HO_3 := n0_; have HO_4 := n1_; have BK260 := n2_; have HB := n3_; clear n0_ n1_ n2_ n3_; (try clear hb); (try clear hb2); (try clear hk); (try clear hi)))
          go_roundg k2
          case measure => have := HK1.out; have := HK2.out; omega
          case rel => exact ⟨(x3_2), (x4_2), (wrap64 (x20_2 + 1)), (by first | rfl | (simp; done) | (simp [*]; done)), H', ⟨by have := HK1.out; have := HK2.out; omega⟩, ⟨sqR HO_3⟩, ⟨by (with_reducible repeat (first | apply Kd.N_alloc | apply Kd.N_drewN | apply Kd.N_drew)); exact Kd.N_mono HO_4.out (fun _ hk => ⟨hk.1.1, hk.1.2⟩)⟩, ⟨sqB⟩⟩
        ·rw [if_neg c10] at H
         exact absurd H (by simp)
       ·rw [if_neg c9] at H
        exact absurd H (by simp)
      ·rw [if_neg c8] at H
       have c8b0 : decide (x20_2 < (l0.length : Int)) = false := decide_eq_false c8
       clear c8
       have H' := Aside0.mk H
       clear H
       go_wp2
       go_roundg k2
       case measure => have := HK1.out; have := HK2.out; omega
       case rel => exact ⟨(x3_2), (x4_2), ((x3_1.length : Int)), (by first | rfl | (simp; done) | (simp [*]; done)), H', ⟨by have := HK1.out; have := HK2.out; omega⟩, ⟨sqR HO_3⟩, ⟨by (with_reducible repeat (first | apply Kd.N_alloc | apply Kd.N_drewN | apply Kd.N_drew)); exact HO_4.out⟩, ⟨sqB⟩⟩
   ·rw [if_neg c6] at H
    have c6b0 : decide (x5_1 < (x3_1.length : Int)) = false := decide_eq_false c6
    clear c6
    obtain rfl := Option.some.inj H
    obtain ⟨Ao48, co48, eo48⟩ := Kd.R_slice HO_3.out
    subst eo48
    go_wp2
    go_ret
    exact ⟨_, sqE, by (with_reducible repeat (first | apply Kd.N_alloc | apply Kd.N_drewN | apply Kd.N_drew)); exact Kd.N_mono HO_4.out (fun _ hk => hk.1), sqB⟩

/-! ### impl_FactsOf: function 12 -/
def impl_FactsOf.l0 : Nat → List (S36) → List (S72) → Int → Int → Option ((List (S36)))
 | 0, _, _, _, _ => none
 | k + 1, x3, x8, x9, x10 => if x10 < x9 then (if 0 ≤ x10 then (if x10 < (x8.length : Int) then (if x3.length < 5864062014805 then (impl_FactsOf.l0 k (x3 ++ [(⟨(⟨(rd_T72 x8 x10).f0.f0.f0, (rd_T72 x8 x10).f0.f0.f1⟩ : S27), (rd_T72 x8 x10).f0.f1⟩ : S36)]) x8 x9 (wrap64 (x10 + 1))) else (none)) else (none)) else (none)) else (some x3)
def impl_FactsOf.f (k : Nat) (l0 : List (S29)) : Option ((List (S36))) := (impl_findFacts.f k l0).bind fun t280 => (impl_FactsOf.l0 k (([] : List (S36))) t280 (t280.length : Int) 0)
theorem impl_FactsOf.mono_l : ∀ k, (∀ y0 y1 y2 y3, LeO (impl_FactsOf.l0 k y0 y1 y2 y3) (impl_FactsOf.l0 (k + 1) y0 y1 y2 y3))
 | 0 => fun _ _ _ _ r h => by simp [impl_FactsOf.l0] at h
 | k + 1 => by
  have ih0 := impl_FactsOf.mono_l k
  ·intro y0 y1 y2 y3
   unfold impl_FactsOf.l0
   repeat' first
   | (with_reducible exact ih0 _ _ _ _)
   | (with_reducible exact impl_findFacts.mono _ _)
   | (with_reducible exact LeO.refl _)
   | (with_reducible exact LeO.none _)
   | (with_reducible refine LeO.ite ?_ ?_)
   | (with_reducible refine LeO.bind ?_ (fun _ => ?_))
   | exact ih0 _ _ _ _
   | exact impl_findFacts.mono _ _
   | exact LeO.none _
   | refine LeO.ite ?_ ?_
   | refine LeO.bind ?_ (fun _ => ?_)
theorem impl_FactsOf.mono : ∀ a0 k, LeO (impl_FactsOf.f k a0) (impl_FactsOf.f (k + 1) a0) := by
 intro a0 k
 have ih0 := impl_FactsOf.mono_l k
 unfold impl_FactsOf.f
 repeat' first
   | (with_reducible exact ih0 _ _ _ _)
   | (with_reducible exact impl_findFacts.mono _ _)
   | (with_reducible exact LeO.refl _)
   | (with_reducible exact LeO.none _)
   | (with_reducible refine LeO.ite ?_ ?_)
   | (with_reducible refine LeO.bind ?_ (fun _ => ?_))
   | exact ih0 _ _ _ _
   | exact impl_findFacts.mono _ _
   | exact LeO.none _
   | refine LeO.ite ?_ ?_
   | refine LeO.bind ?_ (fun _ => ?_)
set_option maxHeartbeats 8000000 in
set_option maxRecDepth 100000 in
theorem impl_FactsOf.calls (k : Nat) (A0 : Option Addr) (c0 : Nat) (l0 : List (S29)) (r : List (S36)) (w : World) (hr0 : Kd.C k29 w A0 l0.length l0) (hc0 : l0.length ≤ c0) (h : impl_FactsOf.f k l0 = some r) :
  Calls Try.prog 12 #[.slice A0 l0.length c0] w fun e w' => ∃ v0_ : Value, e = .returned (v0_) ∧ Kd.R k36 36 w' w.heap.size (fun _ => True) v0_ r ∧ Below w.heap.size w w' := by
 have hu72 := Try.underlying72
 have hu36 := Try.underlying36
 have HR0 := Aside0.mk hr0
 have HC0 := Aside0.mk hc0
 clear hr0 hc0
 have HB := Aside0.mk (Below.refl w.heap.size w)
 have H : ((impl_findFacts.f k l0).bind fun t280 => (impl_FactsOf.l0 k (([] : List (S36))) t280 (t280.length : Int) 0)) = some r := h
 clear h
 obtain ⟨y277, hy277⟩ : ∃ y_ : List (S36), y_ = (([] : List (S36))) := ⟨_, rfl⟩
 replace H : ((impl_findFacts.f k l0).bind fun t280 => (impl_FactsOf.l0 k y277 t280 (t280.length : Int) 0)) = some r := by first | (rw [hy277]; with_reducible exact H) | (have H2_ := (Option.bind_some _ _).symm.trans H; rw [hy277]; with_reducible exact H2_) | (have H2_ := (Option.bind_some _ _).symm.trans H; with_reducible exact H2_) | with_reducible exact H | (rw [hy277]; exact H) | exact H
 have Ny277 := Aside0.mk hy277
 clear hy277
 replace H := Option.bind_eq_some_iff.mp H
 obtain ⟨t280, A20, H⟩ := H
 replace H : (impl_FactsOf.l0 k y277 t280 (t280.length : Int) 0) = some r := H
 have A2 := Aside0.mk A20
 clear A20
 have H' := Aside0.mk H
 clear H
 go_enter Try.func12, Try.ntmps12
 go_wp2_with (first | ((with_reducible refine gate_dst (N := 6) rfl ?_); refine Kd.R_lit k36 _ 36 ?hg (N := 6) ?hd (xs := ([] : List (S36))) (inner := []) (ok := fun _ => True) (okp := fun _ => True) ?hr ?hp (fun _ hk => hk) trivial (Below.refl _ _) (Nat.le_refl _) (by simp) ?_; (case hd => rfl); (case hg => rfl); (case hr => first | (go_simp; done) | (go_simp; rfl)); (case hp => exact (Reps.none _ _)); intro v278 w3 ho4 hb hg_ hnew_; clear hg_ hnew_; (first | rw [← Ny277.out] at ho4 | (simp only [Int.reduceToNat] at ho4; rw [← Ny277.out] at ho4)); have HO279 := Aside0.mk (Kd.R_lower ho4 (below_size (sqB))); replace HB := sqS hb; clear hb ho4) | ((with_reducible refine gate_callee (f := 48) rfl ?_); refine goesL_ (some 8) rfl rfl Try.func48 (by kernel_rfl) rfl #[.slice A0 l0.length c0] rfl sqA ?_; (with_reducible refine (impl_findFacts.calls k _ _ l0 t280 _ ?side1 ?side2 A2.out).mono ?_); (case side1 => repeat (first | exact (Kd.C_below HR0.out HB.out) | (with_reducible refine Kd.C_alloc ?_ _) | (with_reducible refine Kd.C_drewN ?_ _) | (with_reducible refine Kd.C_drew ?_))); (case side2 => exact HC0.out); rintro e w5 ⟨v281, rfl, ho0, hb⟩; refine ⟨_, rfl, ?_⟩; have n0_ := Aside0.mk (Kd.R_below (sqR HO279) hb); have n1_ := Aside0.mk (Kd.N_lower (Kd.N_mono (ok' := fun k_ => some k_ ≠ (v278 : Value).ownBlock) ho0 (fun k_ hk_ => (Kd.fresh' (Kd.R_lt (sqR HO279)) k_ hk_))) (below_size (sqB))); have n2_ := sqS hb; clear HO279; clear HB; have HO279 := n0_; have HO282 := n1_; have HB := n2_; clear n0_ n1_ n2_; (try clear hb); (try clear hb2); (try clear hk); (try clear hi); (try clear ho0); obtain ⟨Ao6, co6, eo6⟩ := Kd.N_slice HO282.out; subst eo6))
 go_loopg [3, 10] k (fun kq v3 v10 w' => ∃ (x3_1 : List (S36)) (x10_1 : Int), v10 = .int .i64 x10_1 ∧ Aside0 (impl_FactsOf.l0 kq x3_1 t280 (t280.length : Int) x10_1 = some r) ∧ Aside0 (kq ≤ k) ∧ Aside0 (Kd.R k36 36 w' w.heap.size (fun _ => True) v3 x3_1) ∧ Aside0 (Kd.N k72 72 w' w.heap.size (fun k_ => some k_ ≠ (v3 : Value).ownBlock) (.slice Ao6 t280.length co6) t280) ∧ Aside0 (Below w.heap.size w w'))
 case atStart => exact ⟨(y277), (0), (by first | rfl | (simp; done) | (simp [*]; done)), H', ⟨Nat.le_refl _⟩, ⟨sqR HO279⟩, ⟨by (with_reducible repeat (first | apply Kd.N_alloc | apply Kd.N_drewN | apply Kd.N_drew)); exact HO282.out⟩, ⟨sqB⟩⟩
 case round =>
  clear H'
  try clear c1
  try clear p2
  try clear c4
  obtain ⟨x3_1, x10_1, rfl, HA, HK1, HO_3, HO_8, HB⟩ := hrel
  cases gk with
  | zero => exact absurd HA.out (by simp [impl_FactsOf.l0])
  | succ k1 =>
   have H := HA.out
   clear HA
   simp only [impl_FactsOf.l0] at H
   by_cases c7 : x10_1 < (t280.length : Int)
   ·rw [if_pos c7] at H
    have c7b0 : decide (x10_1 < (t280.length : Int)) = true := decide_eq_true c7
    clear c7
    by_cases c8 : 0 ≤ x10_1
    ·rw [if_pos c8] at H
     have c8b0 : decide (0 ≤ x10_1) = true := decide_eq_true c8
     clear c8
     by_cases c9 : x10_1 < (t280.length : Int)
     ·rw [if_pos c9] at H
      have c9b0 : decide (x10_1 < (t280.length : Int)) = true := decide_eq_true c9
      clear c9
      by_cases c10 : x3_1.length < 5864062014805
      ·rw [if_pos c10] at H
       have LMc10 := Aside0.mk c10
       clear c10
       obtain ⟨y285, hy285⟩ : ∃ y_ : List (S36), y_ = (x3_1 ++ [(⟨(⟨(rd_T72 t280 x10_1).f0.f0.f0, (rd_T72 t280 x10_1).f0.f0.f1⟩ : S27), (rd_T72 t280 x10_1).f0.f1⟩ : S36)]) := ⟨_, rfl⟩
       replace H : (impl_FactsOf.l0 k1 y285 t280 (t280.length : Int) (wrap64 (x10_1 + 1))) = some r := by first | (rw [hy285]; with_reducible exact H) | (have H2_ := (Option.bind_some _ _).symm.trans H; rw [hy285]; with_reducible exact H2_) | (have H2_ := (Option.bind_some _ _).symm.trans H; with_reducible exact H2_) | with_reducible exact H | (rw [hy285]; exact H) | exact H
       have Ny285 := Aside0.mk hy285
       clear hy285
       have H' := Aside0.mk H
       clear H
       have p283 : 0 ≤ (x10_1 : Int) := sqD
       have q283 : x10_1 < (t280.length : Int) := sqD
       obtain ⟨ad283, A283_4, c283_4, e283, hx283_0, hx283_1, hx283_2, hx283_3, hx283_4, hl283_4, hi283_4⟩ := at_T72 (Kd.N_reads' HO_8.out).2.2 x10_1 p283 q283
       cases e283
       obtain ⟨ce283, hce283, hMe283, hcc283⟩ := Kd.N_get HO_8.out z72 x10_1 p283 (by first | exact q283 | exact sqD | (have e_ := (Kd.N_reads' HO_8.out).1; omega))
       obtain ⟨ua283_4, uc283_4, rfl, ul283_4, ge283_4⟩ := k72_openF hMe283
       have hv283_4 := hcc283 4 _ rfl
       rw [add_field _ _ 4 (by omega)] at hv283_4
       replace hv283_4 := Option.some.inj (hv283_4.symm.trans hx283_4)
       injection hv283_4 with hva_ hvn_ hvc_
       rw [hva_] at ge283_4
       rw [hvc_] at ul283_4
       have HL283_4 := Aside0.mk (show Kd.V (Kd.int .i64) 3 _ w.heap.size _ _ ((rd_T72 t280 x10_1).f2) from Kd.V_mk ul283_4 ge283_4)
       clear hva_ hvn_ hvc_ ge283_4 ul283_4
       clear hcc283 hce283
       have HR283_4 := Aside0.mk hi283_4
       have HC283_4 := Aside0.mk hl283_4
       clear hi283_4 hl283_4
       replace p283 := eq_true p283
       replace q283 := eq_true q283
       go_wp2_with (first | ((with_reducible refine gate_dst (N := 5) rfl ?_); refine sqX (N := 5) (cs := #[.int .i64 0, .int .i64 0, .int .i64 0, .int .i64 0, .slice none 0 0]) (t := 72) ?_; intro gb284 hg w11 hbox hb; replace HO_3 := Aside0.mk (Kd.R_below (sqR HO_3) hb); replace HO_8 := Aside0.mk (Kd.N_below (Kd.N_elderB (by (with_reducible repeat (first | apply Kd.N_alloc | apply Kd.N_drewN | apply Kd.N_drew)); exact HO_8.out) gb284 (Nat.le_of_eq hg.symm)) hb); replace HL283_4 := Aside0.mk (Kd.V_below (Kd.V_elderB (by (with_reducible repeat (first | apply Kd.V_alloc | apply Kd.V_drewN | apply Kd.V_drew)); exact HL283_4.out) gb284 (Nat.le_of_eq hg.symm)) hb); replace HR283_4 := Aside0.mk (Kd.C_below (by repeat (first | (with_reducible exact HR283_4.out) | (with_reducible refine Kd.C_alloc ?_ _) | (with_reducible refine Kd.C_drewN ?_ _) | (with_reducible refine Kd.C_drew ?_) | exact HR283_4.out)) hb); have BK284 := Aside0.mk (hbox); have GW284 := sqG hg; have GE284 := sqG hg; replace HB := sqS hb; clear hb hbox hg; obtain ⟨hcz12_0, hcz12_1, hcz12_2, hcz12_3, hcz12_4, hfz12_0, hfz12_1, hfz12_2, hfz12_3, hfz12_4⟩ := sqC5 BK284) | ((with_reducible refine gate_builtin (b := .append) (xs := #[.tmp 14, .tmp 17]) rfl ?_); at_builtin; refine Kd.R_append k36 (w0 := w) w.heap.size rfl (.tmp 14) (.tmp 17) 31 36 (.agg #[(.int .i64 0), (.int .i64 0), (.int .i64 0)]) 24 rfl Try.underlying31 info36 rfl (by decide) (by omega) u3 x3_1 (⟨(⟨(rd_T72 t280 x10_1).f0.f0.f0, (rd_T72 t280 x10_1).f0.f0.f1⟩ : S27), (rd_T72 t280 x10_1).f0.f1⟩ : S36) [.int .i64 ((rd_T72 t280 x10_1).f0.f0.f0), .int .i64 ((rd_T72 t280 x10_1).f0.f0.f1), .int .i64 ((rd_T72 t280 x10_1).f0.f1)] (fun _ => True) (fun _ => False) rfl (by first | (go_simp; done) | (go_simp; rfl)) ?aP (fun _ hk => hk.elim) ?aF ?aO ?aB ?aS ?aL ?_; (case aP => exact k36_mkM _ _ _ (⟨(⟨(rd_T72 t280 x10_1).f0.f0.f0, (rd_T72 t280 x10_1).f0.f0.f1⟩ : S27), (rd_T72 t280 x10_1).f0.f1⟩ : S36)); (case aB => exact (sqB)); (case aF => exact (fun _ _ => trivial)); (case aO => exact (by (with_reducible repeat (first | apply Kd.R_alloc | apply Kd.R_drewN | apply Kd.R_drew)); exact Kd.R_mono (Kd.R_far (p := ⟨gb284, 4, none⟩) (Kd.R_far (p := ⟨gb284, 3, none⟩) (Kd.R_far (p := ⟨gb284, 2, none⟩) (Kd.R_far (p := ⟨gb284, 1, none⟩) (Kd.R_far (p := ⟨gb284, 0, none⟩) (Kd.R_types HO_3.out BK284.out (by decide)) (fun _ hk => hk.2) (.int .i64 ((rd_T72 t280 x10_1).f0.f0.f0))) (fun _ hk => hk.2) (.int .i64 ((rd_T72 t280 x10_1).f0.f0.f1))) (fun _ hk => hk.2) (.int .i64 ((rd_T72 t280 x10_1).f0.f1))) (fun _ hk => hk.2) (.int .i64 ((rd_T72 t280 x10_1).f1))) (fun _ hk => hk.2) (.slice A283_4 ((rd_T72 t280 x10_1).f2).length c283_4)) (fun _ hk => trivial))); (case aS => exact (below_size (sqB))); (case aL => have := LMc10.out; omega); intro v286 w13 ho hb hg hat; rw [← Ny285.out] at ho; have n0_ := Aside0.mk (Kd.N_afterv (ok := (fun k_ => k_ ≠ gb284)) (by (with_reducible repeat (first | apply Kd.N_alloc | apply Kd.N_drewN | apply Kd.N_drew)); exact Kd.N_mono (Kd.N_far (p := ⟨gb284, 4, none⟩) (Kd.N_far (p := ⟨gb284, 3, none⟩) (Kd.N_far (p := ⟨gb284, 2, none⟩) (Kd.N_far (p := ⟨gb284, 1, none⟩) (Kd.N_far (p := ⟨gb284, 0, none⟩) (Kd.N_mono HO_8.out (fun k_ hk => (⟨hk, hk.2⟩ : _ ∧ k_ ≠ gb284))) (fun _ hk => hk.2) (.int .i64 ((rd_T72 t280 x10_1).f0.f0.f0))) (fun _ hk => hk.2) (.int .i64 ((rd_T72 t280 x10_1).f0.f0.f1))) (fun _ hk => hk.2) (.int .i64 ((rd_T72 t280 x10_1).f0.f1))) (fun _ hk => hk.2) (.int .i64 ((rd_T72 t280 x10_1).f1))) (fun _ hk => hk.2) (.slice A283_4 ((rd_T72 t280 x10_1).f2).length c283_4)) (fun _ hk => ⟨hk.1.2, hk.1.1⟩)) hg hat); have n1_ := Aside0.mk (Kd.V_afterv (ok := (fun k_ => some k_ ≠ (.slice (some ad283) t280.length co6 : Value).ownBlock ∧ k_ ≠ gb284)) (by (with_reducible repeat (first | apply Kd.V_alloc | apply Kd.V_drewN | apply Kd.V_drew)); exact Kd.V_mono (Kd.V_far (p := ⟨gb284, 4, none⟩) (Kd.V_far (p := ⟨gb284, 3, none⟩) (Kd.V_far (p := ⟨gb284, 2, none⟩) (Kd.V_far (p := ⟨gb284, 1, none⟩) (Kd.V_far (p := ⟨gb284, 0, none⟩) (Kd.V_mono HL283_4.out (fun k_ hk => (⟨hk, hk.2⟩ : _ ∧ k_ ≠ gb284))) (fun _ hk => hk.2) (.int .i64 ((rd_T72 t280 x10_1).f0.f0.f0))) (fun _ hk => hk.2) (.int .i64 ((rd_T72 t280 x10_1).f0.f0.f1))) (fun _ hk => hk.2) (.int .i64 ((rd_T72 t280 x10_1).f0.f1))) (fun _ hk => hk.2) (.int .i64 ((rd_T72 t280 x10_1).f1))) (fun _ hk => hk.2) (.slice A283_4 ((rd_T72 t280 x10_1).f2).length c283_4)) (fun _ hk => ⟨⟨hk.1.1.2, hk.1.2⟩, hk.1.1.1⟩)) hg hat); have n2_ := Aside0.mk (blk_grown (g := gb284) (o := .cells #[.int .i64 ((rd_T72 t280 x10_1).f0.f0.f0), .int .i64 ((rd_T72 t280 x10_1).f0.f0.f1), .int .i64 ((rd_T72 t280 x10_1).f0.f1), .int .i64 ((rd_T72 t280 x10_1).f1), .slice A283_4 ((rd_T72 t280 x10_1).f2).length c283_4] 72 (0, 0)) (by (with_reducible repeat (first | refine blk_drewN ?_ _ | refine blk_drew ?_ | refine blk_alloc ?_ _)); refine blk_put (cs := #[.int .i64 ((rd_T72 t280 x10_1).f0.f0.f0), .int .i64 ((rd_T72 t280 x10_1).f0.f0.f1), .int .i64 ((rd_T72 t280 x10_1).f0.f1), .int .i64 ((rd_T72 t280 x10_1).f1), .slice none 0 0]) ?_ 4 _ rfl; (with_reducible repeat (first | refine blk_drewN ?_ _ | refine blk_drew ?_ | refine blk_alloc ?_ _)); refine blk_put (cs := #[.int .i64 ((rd_T72 t280 x10_1).f0.f0.f0), .int .i64 ((rd_T72 t280 x10_1).f0.f0.f1), .int .i64 ((rd_T72 t280 x10_1).f0.f1), .int .i64 0, .slice none 0 0]) ?_ 3 _ rfl; (with_reducible repeat (first | refine blk_drewN ?_ _ | refine blk_drew ?_ | refine blk_alloc ?_ _)); refine blk_put (cs := #[.int .i64 ((rd_T72 t280 x10_1).f0.f0.f0), .int .i64 ((rd_T72 t280 x10_1).f0.f0.f1), .int .i64 0, .int .i64 0, .slice none 0 0]) ?_ 2 _ rfl; (with_reducible repeat (first | refine blk_drewN ?_ _ | refine blk_drew ?_ | refine blk_alloc ?_ _)); refine blk_put (cs := #[.int .i64 ((rd_T72 t280 x10_1).f0.f0.f0), .int .i64 0, .int .i64 0, .int .i64 0, .slice none 0 0]) ?_ 1 _ rfl; (with_reducible repeat (first | refine blk_drewN ?_ _ | refine blk_drew ?_ | refine blk_alloc ?_ _)); refine blk_put (cs := #[.int .i64 0, .int .i64 0, .int .i64 0, .int .i64 0, .slice none 0 0]) ?_ 0 _ rfl; (with_reducible repeat (first | refine blk_drewN ?_ _ | refine blk_drew ?_ | refine blk_alloc ?_ _)); exact BK284.out) hg (Kd.R_ne HO_3.out BK284.out (by decide))); have n3_ := Aside0.mk (hb); have n4_ := Aside0.mk (ho); clear HO_8; clear HL283_4; clear BK284; clear HB; clear HO_3; have HO_8 := n0_; have HL283_4 := n1_; have BK284 := n2_; have HB := n3_; have HO287 := n4_; clear n0_ n1_ n2_ n3_ n4_; clear ho hb hg hat))
       go_roundg k1
       case measure => have := HK1.out; omega
       case rel => exact ⟨(y285), (wrap64 (x10_1 + 1)), (by first | rfl | (simp; done) | (simp [*]; done)), H', ⟨by have := HK1.out; omega⟩, ⟨sqR HO287⟩, ⟨by (with_reducible repeat (first | apply Kd.N_alloc | apply Kd.N_drewN | apply Kd.N_drew)); exact Kd.N_mono HO_8.out (fun _ hk => hk.2)⟩, ⟨sqB⟩⟩
      ·rw [if_neg c10] at H
       exact absurd H (by simp)
     ·rw [if_neg c9] at H
      exact absurd H (by simp)
    ·rw [if_neg c8] at H
     exact absurd H (by simp)
   ·rw [if_neg c7] at H
    have c7b0 : decide (x10_1 < (t280.length : Int)) = false := decide_eq_false c7
    clear c7
    obtain rfl := Option.some.inj H
    go_wp2
    go_ret
    exact ⟨_, sqE, sqR HO_3, sqB⟩

/-! ### laws_sameFacts: function 13 -/
def laws_sameFacts.l0 : Nat → List (S36) → List (S36) → Int → Option (Bool)
 | 0, _, _, _ => none
 | k + 1, x0, x1, x5 => if x5 < (x0.length : Int) then (if 0 ≤ x5 then (if x5 < (x1.length : Int) then (if ((!(((rd_T36 x0 x5).f0.f0) == ((rd_T36 x1 x5).f0.f0)) || (!(((rd_T36 x0 x5).f0.f1) == ((rd_T36 x1 x5).f0.f1)))) || (!(((rd_T36 x0 x5).f1) == ((rd_T36 x1 x5).f1)))) = true then (some false) else (laws_sameFacts.l0 k x0 x1 (wrap64 (x5 + 1)))) else (none)) else (none)) else (some true)
def laws_sameFacts.f (k : Nat) (l0 : List (S36)) (l1 : List (S36)) : Option (Bool) := if (l0.length : Int) = (l1.length : Int) then (laws_sameFacts.l0 k l0 l1 0) else (some false)
theorem laws_sameFacts.mono_l : ∀ k, (∀ y0 y1 y2, LeO (laws_sameFacts.l0 k y0 y1 y2) (laws_sameFacts.l0 (k + 1) y0 y1 y2))
 | 0 => fun _ _ _ r h => by simp [laws_sameFacts.l0] at h
 | k + 1 => by
  have ih0 := laws_sameFacts.mono_l k
  ·intro y0 y1 y2
   unfold laws_sameFacts.l0
   repeat' first
   | (with_reducible exact ih0 _ _ _)
   | (with_reducible exact LeO.refl _)
   | (with_reducible exact LeO.none _)
   | (with_reducible refine LeO.ite ?_ ?_)
   | (with_reducible refine LeO.bind ?_ (fun _ => ?_))
   | exact ih0 _ _ _
   | exact LeO.none _
   | refine LeO.ite ?_ ?_
   | refine LeO.bind ?_ (fun _ => ?_)
theorem laws_sameFacts.mono : ∀ a0 a1 k, LeO (laws_sameFacts.f k a0 a1) (laws_sameFacts.f (k + 1) a0 a1) := by
 intro a0 a1 k
 have ih0 := laws_sameFacts.mono_l k
 unfold laws_sameFacts.f
 repeat' first
   | (with_reducible exact ih0 _ _ _)
   | (with_reducible exact LeO.refl _)
   | (with_reducible exact LeO.none _)
   | (with_reducible refine LeO.ite ?_ ?_)
   | (with_reducible refine LeO.bind ?_ (fun _ => ?_))
   | exact ih0 _ _ _
   | exact LeO.none _
   | refine LeO.ite ?_ ?_
   | refine LeO.bind ?_ (fun _ => ?_)
set_option maxHeartbeats 8000000 in
set_option maxRecDepth 100000 in
theorem laws_sameFacts.calls (k : Nat) (A0 : Option Addr) (c0 : Nat) (l0 : List (S36)) (A1 : Option Addr) (c1 : Nat) (l1 : List (S36)) (r : Bool) (w : World) (hr0 : Kd.C k36 w A0 l0.length l0) (hc0 : l0.length ≤ c0) (hr1 : Kd.C k36 w A1 l1.length l1) (hc1 : l1.length ≤ c1) (h : laws_sameFacts.f k l0 l1 = some r) :
  Calls Try.prog 13 #[.slice A0 l0.length c0, .slice A1 l1.length c1] w fun e w' => e = .returned (.bool r) ∧ Drawn0 w w' := by
 have hu36 := Try.underlying36
 have HR0 := Aside0.mk hr0
 have HC0 := Aside0.mk hc0
 clear hr0 hc0
 have HR1 := Aside0.mk hr1
 have HC1 := Aside0.mk hc1
 clear hr1 hc1
 have H : (if (l0.length : Int) = (l1.length : Int) then (laws_sameFacts.l0 k l0 l1 0) else (some false)) = some r := h
 clear h
 by_cases c3 : (l0.length : Int) = (l1.length : Int)
 ·rw [if_pos c3] at H
  have c3b0 : ((l0.length : Int) == (l1.length : Int)) = true := beq_iff_eq.mpr c3
  have c3b1 : ((l0.length : Int) != (l1.length : Int)) = false := bne_eq_false_iff_eq.mpr c3
  have c3b2 : (l0.length == l1.length) = true := by first | simpa using c3 | (simp at c3 ⊢; omega)
  clear c3
  have H' := Aside0.mk H
  clear H
  go_enter Try.func13, Try.ntmps13
  go_wp2
  repeat (go_quiet (fail); try go_wp2)
  go_loopg [5] k (fun kq v5 w' => ∃ (x5_1 : Int), v5 = .int .i64 x5_1 ∧ Aside0 (laws_sameFacts.l0 kq l0 l1 x5_1 = some r) ∧ Aside0 (kq ≤ k) ∧ Drawn0 w w')
  case atStart => exact ⟨(0), (by first | rfl | (simp; done) | (simp [*]; done)), H', ⟨Nat.le_refl _⟩, by repeat (first | exact Drawn0.refl _ | apply Drawn0.step)⟩
  case round =>
   clear H'
   try clear c1
   try clear p2
   try clear c3
   try clear c3b0
   try clear c3b1
   try clear c3b2
   obtain ⟨x5_1, rfl, HA, HK1, ⟨m1, rfl⟩⟩ := hrel
   cases gk with
   | zero => exact absurd HA.out (by simp [laws_sameFacts.l0])
   | succ k1 =>
    have H := HA.out
    clear HA
    simp only [laws_sameFacts.l0] at H
    by_cases c4 : x5_1 < (l0.length : Int)
    ·rw [if_pos c4] at H
     have c4b0 : decide (x5_1 < (l0.length : Int)) = true := decide_eq_true c4
     clear c4
     by_cases c5 : 0 ≤ x5_1
     ·rw [if_pos c5] at H
      have c5b0 : decide (0 ≤ x5_1) = true := decide_eq_true c5
      clear c5
      by_cases c6 : x5_1 < (l1.length : Int)
      ·rw [if_pos c6] at H
       have c6b0 : decide (x5_1 < (l1.length : Int)) = true := decide_eq_true c6
       clear c6
       by_cases c7 : ((!(((rd_T36 l0 x5_1).f0.f0) == ((rd_T36 l1 x5_1).f0.f0)) || (!(((rd_T36 l0 x5_1).f0.f1) == ((rd_T36 l1 x5_1).f0.f1)))) || (!(((rd_T36 l0 x5_1).f1) == ((rd_T36 l1 x5_1).f1)))) = true
       ·rw [if_pos c7] at H
        have c7b0 : ((!(((rd_T36 l0 x5_1).f0.f0) == ((rd_T36 l1 x5_1).f0.f0)) || (!(((rd_T36 l0 x5_1).f0.f1) == ((rd_T36 l1 x5_1).f0.f1)))) || (!(((rd_T36 l0 x5_1).f1) == ((rd_T36 l1 x5_1).f1)))) = true := c7
        clear c7
        obtain rfl := Option.some.inj H
        have p288 : 0 ≤ (x5_1 : Int) := sqD
        have q288 : x5_1 < (l0.length : Int) := sqD
        obtain ⟨ad288, e288, hx288_0, hx288_1, hx288_2⟩ := at_T36 HR0.out x5_1 p288 q288
        cases e288
        replace p288 := eq_true p288
        replace q288 := eq_true q288
        have p289 : 0 ≤ (x5_1 : Int) := sqD
        have q289 : x5_1 < (l1.length : Int) := sqD
        obtain ⟨ad289, e289, hx289_0, hx289_1, hx289_2⟩ := at_T36 HR1.out x5_1 p289 q289
        cases e289
        replace p289 := eq_true p289
        replace q289 := eq_true q289
        go_wp2
        repeat (go_quiet (fail); try go_wp2)
        go_ret
        exact ⟨by first | rfl | (simp; done) | (simp [*]; done), by repeat (first | exact Drawn0.refl _ | apply Drawn0.step)⟩
       ·rw [if_neg c7] at H
        have c7b0 : ((!(((rd_T36 l0 x5_1).f0.f0) == ((rd_T36 l1 x5_1).f0.f0)) || (!(((rd_T36 l0 x5_1).f0.f1) == ((rd_T36 l1 x5_1).f0.f1)))) || (!(((rd_T36 l0 x5_1).f1) == ((rd_T36 l1 x5_1).f1)))) = false := by simpa using c7
        clear c7
        have H' := Aside0.mk H
        clear H
        have p288 : 0 ≤ (x5_1 : Int) := sqD
        have q288 : x5_1 < (l0.length : Int) := sqD
        obtain ⟨ad288, e288, hx288_0, hx288_1, hx288_2⟩ := at_T36 HR0.out x5_1 p288 q288
        cases e288
        replace p288 := eq_true p288
        replace q288 := eq_true q288
        have p289 : 0 ≤ (x5_1 : Int) := sqD
        have q289 : x5_1 < (l1.length : Int) := sqD
        obtain ⟨ad289, e289, hx289_0, hx289_1, hx289_2⟩ := at_T36 HR1.out x5_1 p289 q289
        cases e289
        replace p289 := eq_true p289
        replace q289 := eq_true q289
        go_wp2
        repeat (go_quiet (fail); try go_wp2)
        go_roundg k1
        case measure => have := HK1.out; omega
        case rel => exact ⟨(wrap64 (x5_1 + 1)), (by first | rfl | (simp; done) | (simp [*]; done)), H', ⟨by have := HK1.out; omega⟩, by repeat (first | exact Drawn0.refl _ | apply Drawn0.step)⟩
      ·rw [if_neg c6] at H
       exact absurd H (by simp)
     ·rw [if_neg c5] at H
      exact absurd H (by simp)
    ·rw [if_neg c4] at H
     have c4b0 : decide (x5_1 < (l0.length : Int)) = false := decide_eq_false c4
     clear c4
     obtain rfl := Option.some.inj H
     go_wp2
     repeat (go_quiet (fail); try go_wp2)
     go_ret
     exact ⟨by first | rfl | (simp; done) | (simp [*]; done), by repeat (first | exact Drawn0.refl _ | apply Drawn0.step)⟩
 ·rw [if_neg c3] at H
  have c3b0 : ((l0.length : Int) == (l1.length : Int)) = false := beq_eq_false_iff_ne.mpr c3
  have c3b1 : ((l0.length : Int) != (l1.length : Int)) = true := bne_iff_ne.mpr c3
  have c3b2 : (l0.length == l1.length) = false := by first | simpa using c3 | (simp at c3 ⊢; omega)
  obtain rfl := Option.some.inj H
  go_enter Try.func13, Try.ntmps13
  go_wp2
  repeat (go_quiet (fail); try go_wp2)
  go_ret
  exact ⟨by first | rfl | (simp; done) | (simp [*]; done), by repeat (first | exact Drawn0.refl _ | apply Drawn0.step)⟩

end Go.Proofs.Ytnebbjcgkoaloaa.PFnMembers
