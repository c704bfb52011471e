/- What the code that one law of the given program reaches computes, function by function, each with its proof over the given translation.
Conditions: none of our own. (Laid by a program of this session, wip/xp/xp.py; some contracts are typed by hand.) -/
import Derived.Test.YtckjobcagniieaaPFnSignsToldx0
import Derived.Test.YtckjobcagniieaaPFnSignsToldx1
import Derived.Test.YtckjobcagniieaaPFnSignsToldx4
namespace Go.Proofs.Ytckjobcagniieaa.PFnSignsTold
open Go.RowKit Go.Proofs.YtckjobcagniieaaW.PrintWords Go.Proofs.YtckjobcagniieaaW.PrintLast Go.Proofs.YtckjobcagniieaaW.PrintMore
attribute [local go_sem] max2_int min2_int max_two min_two max_three min_three max_four min_four   -- for this text's walks alone
set_option linter.unusedVariables false
set_option linter.unusedSimpArgs false

/-! ### impl_SignText: function 11 -/
mutual
def impl_SignText.j0 : Nat → Int → Int → ByteArray → Bool → Option (Int × List ByteArray × List ByteArray × Bool)
 | 0, _, _, _, _ => none
 | k + 1, x0, x1, x2, x21 => if x21 = true then (some (0, ([] : List ByteArray), ([] : List ByteArray), false)) else ((impl_QuadsOf.f k x2).bind fun t227 => (impl_SignText.l0 k x0 x1 t227 (t227.length : Int) 0 x1 ([] : List ByteArray)))
def impl_SignText.l0 : Nat → Int → Int → List Int → Int → Int → Int → List ByteArray → Option (Int × List ByteArray × List ByteArray × Bool)
 | 0, _, _, _, _, _, _, _ => none
 | k + 1, x0, x1, x26, x27, x28, x227000, x227001 => if x28 < x27 then (if 0 ≤ x28 then (if x28 < (x26.length : Int) then ((impl_SecretOf.f k x0 x1 x28).bind fun t231 => ((impl_ChainOf.f k t231 (rd x26 x28)).bind fun t232 => (if x227001.length < 8796093022208 then (impl_SignText.l0 k x0 x1 x26 x27 (wrap64 (x28 + 1)) x227000 (x227001 ++ [t232])) else (none)))) else (none)) else (none)) else ((impl_levels.f k x0).bind fun t236 => (impl_SignText.l1 k t236 x1 0 x227000 x227001 ([] : List ByteArray)))
def impl_SignText.l1 : Nat → List (List ByteArray) → Int → Int → Int → List ByteArray → List ByteArray → Option (Int × List ByteArray × List ByteArray × Bool)
 | 0, _, _, _, _, _, _ => none
 | k + 1, x11, x12, x48, x227000, x227001, x227002 => if x48 < 2 then (if 0 ≤ x48 then (if x48 < (x11.length : Int) then (if 0 ≤ (Go.bits .xor .i64 x12 1) then (if (Go.bits .xor .i64 x12 1) < ((rd_L5 x11 x48).length : Int) then (if x227002.length < 8796093022208 then (impl_SignText.l1 k x11 (wrap64 (Int.tdiv x12 2)) (wrap64 (x48 + 1)) x227000 x227001 (x227002 ++ [rdOf ByteArray.empty (rd_L5 x11 x48) (Go.bits .xor .i64 x12 1)])) else (none)) else (none)) else (none)) else (none)) else (none)) else (some (x227000, x227001, x227002, true))
end
def impl_SignText.f (k : Nat) (a0 : Int) (a1 : Int) (a2 : ByteArray) : Option (Int × List ByteArray × List ByteArray × Bool) := (impl_in.f a1 0 3).bind fun t224 => (if t224 = true then ((impl_in.f a0 0 1000000).bind fun t225 => (impl_SignText.j0 k a0 a1 a2 (!t225))) else (impl_SignText.j0 k a0 a1 a2 true))
theorem impl_SignText.mono_l : ∀ k, (∀ y0 y1 y2 y3, LeO (impl_SignText.j0 k y0 y1 y2 y3) (impl_SignText.j0 (k + 1) y0 y1 y2 y3)) ∧ (∀ y0 y1 y2 y3 y4 y5 y6, LeO (impl_SignText.l0 k y0 y1 y2 y3 y4 y5 y6) (impl_SignText.l0 (k + 1) y0 y1 y2 y3 y4 y5 y6)) ∧ (∀ y0 y1 y2 y3 y4 y5, LeO (impl_SignText.l1 k y0 y1 y2 y3 y4 y5) (impl_SignText.l1 (k + 1) y0 y1 y2 y3 y4 y5))
 | 0 => ⟨fun _ _ _ _ r h => by simp [impl_SignText.j0] at h, fun _ _ _ _ _ _ _ r h => by simp [impl_SignText.l0] at h, fun _ _ _ _ _ _ r h => by simp [impl_SignText.l1] at h⟩
 | k + 1 => by
  obtain ⟨ih0, ih1, ih2⟩ := impl_SignText.mono_l k
  refine ⟨?_, ?_, ?_⟩
  ·intro y0 y1 y2 y3
   unfold impl_SignText.j0
   repeat' first
   | (with_reducible exact ih0 _ _ _ _)
   | (with_reducible exact ih1 _ _ _ _ _ _ _)
   | (with_reducible exact ih2 _ _ _ _ _ _)
   | (with_reducible exact impl_ChainOf.mono _ _ _)
   | (with_reducible exact impl_QuadsOf.mono _ _)
   | (with_reducible exact impl_SecretOf.mono _ _ _ _)
   | (with_reducible exact impl_levels.mono _ _)
   | (with_reducible exact LeO.refl _)
   | (with_reducible exact LeO.none _)
   | (with_reducible refine LeO.ite ?_ ?_)
   | (with_reducible refine LeO.bind ?_ (fun _ => ?_))
   | exact ih0 _ _ _ _
   | exact ih1 _ _ _ _ _ _ _
   | exact ih2 _ _ _ _ _ _
   | exact impl_ChainOf.mono _ _ _
   | exact impl_QuadsOf.mono _ _
   | exact impl_SecretOf.mono _ _ _ _
   | exact impl_levels.mono _ _
   | exact LeO.none _
   | refine LeO.ite ?_ ?_
   | refine LeO.bind ?_ (fun _ => ?_)
  ·intro y0 y1 y2 y3 y4 y5 y6
   unfold impl_SignText.l0
   repeat' first
   | (with_reducible exact ih0 _ _ _ _)
   | (with_reducible exact ih1 _ _ _ _ _ _ _)
   | (with_reducible exact ih2 _ _ _ _ _ _)
   | (with_reducible exact impl_ChainOf.mono _ _ _)
   | (with_reducible exact impl_QuadsOf.mono _ _)
   | (with_reducible exact impl_SecretOf.mono _ _ _ _)
   | (with_reducible exact impl_levels.mono _ _)
   | (with_reducible exact LeO.refl _)
   | (with_reducible exact LeO.none _)
   | (with_reducible refine LeO.ite ?_ ?_)
   | (with_reducible refine LeO.bind ?_ (fun _ => ?_))
   | exact ih0 _ _ _ _
   | exact ih1 _ _ _ _ _ _ _
   | exact ih2 _ _ _ _ _ _
   | exact impl_ChainOf.mono _ _ _
   | exact impl_QuadsOf.mono _ _
   | exact impl_SecretOf.mono _ _ _ _
   | exact impl_levels.mono _ _
   | exact LeO.none _
   | refine LeO.ite ?_ ?_
   | refine LeO.bind ?_ (fun _ => ?_)
  ·intro y0 y1 y2 y3 y4 y5
   unfold impl_SignText.l1
   repeat' first
   | (with_reducible exact ih0 _ _ _ _)
   | (with_reducible exact ih1 _ _ _ _ _ _ _)
   | (with_reducible exact ih2 _ _ _ _ _ _)
   | (with_reducible exact impl_ChainOf.mono _ _ _)
   | (with_reducible exact impl_QuadsOf.mono _ _)
   | (with_reducible exact impl_SecretOf.mono _ _ _ _)
   | (with_reducible exact impl_levels.mono _ _)
   | (with_reducible exact LeO.refl _)
   | (with_reducible exact LeO.none _)
   | (with_reducible refine LeO.ite ?_ ?_)
   | (with_reducible refine LeO.bind ?_ (fun _ => ?_))
   | exact ih0 _ _ _ _
   | exact ih1 _ _ _ _ _ _ _
   | exact ih2 _ _ _ _ _ _
   | exact impl_ChainOf.mono _ _ _
   | exact impl_QuadsOf.mono _ _
   | exact impl_SecretOf.mono _ _ _ _
   | exact impl_levels.mono _ _
   | exact LeO.none _
   | refine LeO.ite ?_ ?_
   | refine LeO.bind ?_ (fun _ => ?_)
theorem impl_SignText.mono : ∀ a0 a1 a2 k, LeO (impl_SignText.f k a0 a1 a2) (impl_SignText.f (k + 1) a0 a1 a2) := by
 intro a0 a1 a2 k
 obtain ⟨ih0, ih1, ih2⟩ := impl_SignText.mono_l k
 unfold impl_SignText.f
 repeat' first
   | (with_reducible exact ih0 _ _ _ _)
   | (with_reducible exact ih1 _ _ _ _ _ _ _)
   | (with_reducible exact ih2 _ _ _ _ _ _)
   | (with_reducible exact impl_ChainOf.mono _ _ _)
   | (with_reducible exact impl_QuadsOf.mono _ _)
   | (with_reducible exact impl_SecretOf.mono _ _ _ _)
   | (with_reducible exact impl_levels.mono _ _)
   | (with_reducible exact LeO.refl _)
   | (with_reducible exact LeO.none _)
   | (with_reducible refine LeO.ite ?_ ?_)
   | (with_reducible refine LeO.bind ?_ (fun _ => ?_))
   | exact ih0 _ _ _ _
   | exact ih1 _ _ _ _ _ _ _
   | exact ih2 _ _ _ _ _ _
   | exact impl_ChainOf.mono _ _ _
   | exact impl_QuadsOf.mono _ _
   | exact impl_SecretOf.mono _ _ _ _
   | exact impl_levels.mono _ _
   | exact LeO.none _
   | refine LeO.ite ?_ ?_
   | refine LeO.bind ?_ (fun _ => ?_)
def impl_SignText.T7 : Bool × List (List Nat × List Nat) := (true, [([], []), ([0], [0]), ([], []), ([], []), ([], []), ([2, 3, 4], [2, 3, 4]), ([], []), ([5, 6, 5], [5, 6]), ([7], [7]), ([1, 8, 7], [1, 8]), ([0, 1, 2, 3, 4, 5, 6, 7, 8, 9], []), ([10, 9, 9, 0, 1, 2, 3, 4, 5, 6, 7, 8, 9], [9, 10])])
def impl_SignText.B7 : List Nat := [0, 1, 0, 0, 0, 28, 0, 124, 252, 511, 1023, 2047]
theorem impl_SignText.tab7 : rtab .any (opsOf Try.f11 7) = impl_SignText.T7 := by kernel_rfl
theorem impl_SignText.bits7 : waitsOk impl_SignText.T7.2 impl_SignText.B7 = true := by kernel_rfl
def impl_SignText.T14 : Bool × List (List Nat × List Nat) := (true, [([], []), ([0], [0]), ([], []), ([], []), ([2, 3], [2, 3]), ([4], [4]), ([], []), ([6], [6]), ([5, 7], [5, 7]), ([8], [8]), ([9], [9]), ([1, 10], [1, 10]), ([0, 1, 2, 3, 4, 5, 6, 7, 8, 9, 10, 11], []), ([12, 11, 11, 0, 1, 2, 3, 4, 5, 6, 7, 8, 9, 10, 11], [11, 12])])
def impl_SignText.B14 : List Nat := [0, 1, 0, 0, 12, 28, 0, 64, 252, 508, 1020, 2047, 4095, 8191]
theorem impl_SignText.tab14 : rtab .any (opsOf Try.f11 14) = impl_SignText.T14 := by kernel_rfl
theorem impl_SignText.bits14 : waitsOk impl_SignText.T14.2 impl_SignText.B14 = true := by kernel_rfl
set_option maxHeartbeats 8000000 in
set_option maxRecDepth 100000 in
theorem impl_SignText.calls (k : Nat) (a0 : Int) (a1 : Int) (a2 : ByteArray) (r1 : Int) (r2 : List ByteArray) (r3 : List ByteArray) (r4 : Bool) (w : World) (h : impl_SignText.f k a0 a1 a2 = some (r1, r2, r3, r4)) :
  Calls Try.prog 11 #[.int .i64 a0, .int .i64 a1, .string a2] w fun e w' => ∃ v1_ v2_ : Value, e = .returned (.tuple #[.agg #[.int .i64 r1, v1_, v2_], .bool r4]) ∧ Kd.R Kd.string 9 w' w.heap.size (fun k_ => some k_ ≠ (v2_ : Value).ownBlock) v1_ r2 ∧ Kd.R Kd.string 9 w' w.heap.size (fun k_ => some k_ ≠ (v1_ : Value).ownBlock) v2_ r3 ∧ Below w.heap.size w w' := by
 have hu29 := Try.underlying29
 have HB := Aside0.mk (Below.refl w.heap.size w)
 have H : ((impl_in.f a1 0 3).bind fun t224 => (if t224 = true then ((impl_in.f a0 0 1000000).bind fun t225 => (impl_SignText.j0 k a0 a1 a2 (!t225))) else (impl_SignText.j0 k a0 a1 a2 true))) = some (r1, r2, r3, r4) := h
 clear h
 have HC4 := Aside0.mk H
 clear H
 go_enter Try.func11, Try.ntmps11
 go_upto_region 1 with (first | ((with_reducible refine gate_dst (N := 6) rfl ?_); refine sqX (N := 6) (cs := #[.int .i64 0, .slice none 0 0, .slice none 0 0]) (t := 29) ?_; intro gb223 hg w5 hbox hb; have BK223 := Aside0.mk (hbox); have GW223 := sqG hg; have GE223 := sqG hg; replace HB := sqS hb; clear hb hbox hg))
 (try simp only [Act.put, List.setIfInBounds_toArray, List.set_cons_zero, List.set_cons_succ])
 go_cut [21] (fun v21 wc => ∃ (kq : Nat) (x21_3 : Bool), v21 = .bool x21_3 ∧ Aside0 (impl_SignText.j0 kq a0 a1 a2 x21_3 = some (r1, r2, r3, r4)) ∧ Aside0 (kq ≤ k) ∧ Aside0 (wc.heap[gb223]? = some (.cells #[.int .i64 0, (.slice none 0 0), (.slice none 0 0)] 29 (0, 0))) ∧ Aside0 (Below w.heap.size w wc))
 case first =>
  have H := HC4.out
  clear HC4
  replace H := Option.bind_eq_some_iff.mp H
  obtain ⟨t224, A60, H⟩ := H
  try dsimp only at H
  have A6 := Aside0.mk A60
  clear A60
  by_cases c7 : t224 = true
  ·subst c7
   have H1 : ((impl_in.f a0 0 1000000).bind fun t225 => (impl_SignText.j0 k a0 a1 a2 (!t225))) = some (r1, r2, r3, r4) := by rw [if_pos rfl] at H; exact H
   clear H
   have H := H1
   clear H1
   replace H := Option.bind_eq_some_iff.mp H
   obtain ⟨t225, A80, H⟩ := H
   try dsimp only at H
   have A8 := Aside0.mk A80
   clear A80
   have H' := Aside0.mk H
   clear H
   go_wp2_with (first | ((with_reducible refine gate_callee (f := 40) rfl ?_); refine goesL_ (some 15) rfl rfl Try.func40 (by kernel_rfl) rfl #[.int .i64 a1, .int .i64 0, .int .i64 3] rfl sqA ?_; (with_reducible refine (impl_in.calls a1 0 3 true _ A6.out).mono ?_); rintro e w' ⟨rfl, ⟨nd, rfl⟩⟩; refine ⟨_, rfl, ?_⟩) | (go_at_call 40; (with_reducible refine (impl_in.calls a0 0 1000000 t225 _ A8.out).mono ?_); rintro e w' ⟨rfl, ⟨nd, rfl⟩⟩))
   go_meet
   case rel => exact ⟨_, (!t225), (by first | rfl | (simp; done) | (simp [*]; done)), H', ⟨by first | omega | exact Nat.le_refl _⟩, ⟨sqK BK223⟩, ⟨sqB⟩⟩
  ·replace c7 := Bool.eq_false_iff.mpr c7
   subst c7
   have H1 : (impl_SignText.j0 k a0 a1 a2 true) = some (r1, r2, r3, r4) := by rw [if_neg (show ¬ (false = true) by decide)] at H; exact H
   clear H
   have H := H1
   clear H1
   have H' := Aside0.mk H
   clear H
   go_wp2_with (first | ((with_reducible refine gate_callee (f := 40) rfl ?_); refine goesL_ (some 15) rfl rfl Try.func40 (by kernel_rfl) rfl #[.int .i64 a1, .int .i64 0, .int .i64 3] rfl sqA ?_; (with_reducible refine (impl_in.calls a1 0 3 false _ A6.out).mono ?_); rintro e w' ⟨rfl, ⟨nd, rfl⟩⟩; refine ⟨_, rfl, ?_⟩))
   go_meet
   case rel => exact ⟨_, (true), (by first | rfl | (simp; done) | (simp [*]; done)), H', ⟨by first | omega | exact Nat.le_refl _⟩, ⟨sqK BK223⟩, ⟨sqB⟩⟩
 case rest =>
  clear HC4
  try clear c1
  try clear p2
  try clear c4
  try clear c7
  obtain ⟨kq, x21_3, rfl, HA, HJ3, BK223, HB⟩ := hcut
  cases kq with
  | zero => exact absurd HA.out (by simp [impl_SignText.j0])
  | succ kj3 =>
   have H := HA.out
   clear HA
   simp only [impl_SignText.j0] at H
   by_cases c9 : x21_3 = true
   ·subst c9
    have H1 : (some (0, ([] : List ByteArray), ([] : List ByteArray), false)) = some (r1, r2, r3, r4) := by rw [if_pos rfl] at H; exact H
    clear H
    have H := H1
    clear H1
    simp only [Option.some.injEq, Prod.mk.injEq] at H
    obtain ⟨rfl, rfl, rfl, rfl⟩ := H
    obtain ⟨hcz10_0, hcz10_1, hcz10_2, hfz10_0, hfz10_1, hfz10_2⟩ := sqC3 BK223
    go_wp2
    refine bodyPost_ret (results_ct rfl _ _ gb223 29 #[.int .i64 0, .slice none 0 0, .slice none 0 0] (0, 0) _ rfl (by (with_reducible repeat (first | refine blk_drewN ?_ _ | refine blk_drew ?_ | refine blk_alloc ?_ _)); refine blk_put (cs := #[.int .i64 0, .slice none 0 0, .slice none 0 0]) ?_ 2 _ rfl; (with_reducible repeat (first | refine blk_drewN ?_ _ | refine blk_drew ?_ | refine blk_alloc ?_ _)); refine blk_put (cs := #[.int .i64 0, .slice none 0 0, .slice none 0 0]) ?_ 1 _ rfl; (with_reducible repeat (first | refine blk_drewN ?_ _ | refine blk_drew ?_ | refine blk_alloc ?_ _)); refine blk_put (cs := #[.int .i64 0, .slice none 0 0, .slice none 0 0]) ?_ 0 _ rfl; (with_reducible repeat (first | refine blk_drewN ?_ _ | refine blk_drew ?_ | refine blk_alloc ?_ _)); exact BK223.out) Try.underlying29 rfl (by kernel_rfl)) rfl ?_
    exact ⟨_, _, sqE, by first | exact Kd.R_nil _ _ _ _ _ | exact Kd.N_nil _ _ _ _ _ | exact Kd.V_nil _ _ _ _ _ | exact Kd.Q_nil _ _ _ _ _ | exact Kd.S_nil _ _ _ _ _, by first | exact Kd.R_nil _ _ _ _ _ | exact Kd.N_nil _ _ _ _ _ | exact Kd.V_nil _ _ _ _ _ | exact Kd.Q_nil _ _ _ _ _ | exact Kd.S_nil _ _ _ _ _, sqB⟩
   ·replace c9 := Bool.eq_false_iff.mpr c9
    subst c9
    have H1 : ((impl_QuadsOf.f kj3 a2).bind fun t227 => (impl_SignText.l0 kj3 a0 a1 t227 (t227.length : Int) 0 a1 ([] : List ByteArray))) = some (r1, r2, r3, r4) := by rw [if_neg (show ¬ (false = true) by decide)] at H; exact H
    clear H
    have H := H1
    clear H1
    replace H := Option.bind_eq_some_iff.mp H
    obtain ⟨t227, A110, H⟩ := H
    try dsimp only at H
    have A11 := Aside0.mk A110
    clear A110
    have H' := Aside0.mk H
    clear H
    go_wp2_with (first | ((with_reducible refine gate_dst (N := 8) rfl ?_); refine sqX (N := 8) (cs := #[.int .i64 0, .slice none 0 0, .slice none 0 0]) (t := 29) ?_; intro gb226 hg w12 hbox hb; have BK226 := Aside0.mk (hbox); have GW226 := sqG hg; have GE226 := sqG hg; have NB223_226 := sqN BK223 hg; have NB226_223 := sqM BK223 hg; replace BK223 := sqL BK223 hb; replace HB := sqS hb; clear hb hbox hg; have hnb13 := NB226_223.out; have hnc13 := NB223_226.out; obtain ⟨hcz14_0, hcz14_1, hcz14_2, hfz14_0, hfz14_1, hfz14_2⟩ := sqC3 BK226) | ((with_reducible refine gate_callee (f := 12) rfl ?_); refine goesL_ (some 26) rfl rfl Try.func12 (by kernel_rfl) rfl #[.string a2] rfl sqA ?_; (with_reducible refine (impl_QuadsOf.calls kj3 a2 t227 _ A11.out).mono ?_); rintro e w15 ⟨v228, rfl, ho0, hb⟩; refine ⟨_, rfl, ?_⟩; have n0_ := Aside0.mk (Kd.R_lower ho0 (below_size (sqB))); have n1_ := sqLW (o' := .cells #[.int .i64 0, .slice none 0 0, .slice none 0 0] 29 (0, 0)) BK223 hb; have n2_ := Aside0.mk (blk_below (g := gb226) (o := .cells #[.int .i64 a1, .slice none 0 0, .slice none 0 0] 29 (0, 0)) (by (with_reducible repeat (first | refine blk_drewN ?_ _ | refine blk_drew ?_ | refine blk_alloc ?_ _)); refine blk_put (cs := #[.int .i64 a1, .slice none 0 0, .slice none 0 0]) ?_ 2 _ rfl; (with_reducible repeat (first | refine blk_drewN ?_ _ | refine blk_drew ?_ | refine blk_alloc ?_ _)); refine blk_put (cs := #[.int .i64 a1, .slice none 0 0, .slice none 0 0]) ?_ 1 _ rfl; (with_reducible repeat (first | refine blk_drewN ?_ _ | refine blk_drew ?_ | refine blk_alloc ?_ _)); refine blk_put (cs := #[.int .i64 0, .slice none 0 0, .slice none 0 0]) ?_ 0 _ rfl; (with_reducible repeat (first | refine blk_drewN ?_ _ | refine blk_drew ?_ | refine blk_alloc ?_ _)); exact BK226.out) hb); have n3_ := sqS hb; clear BK223; clear BK226; clear HB; have HO229 := n0_; have BK223 := n1_; have BK226 := n2_; have HB := n3_; clear n0_ n1_ n2_ n3_; (try clear hb); (try clear hb2); (try clear hk); (try clear hi); (try clear ho0); obtain ⟨Ao16, co16, eo16⟩ := Kd.R_slice HO229.out; subst eo16))
    go_loopg [28] kj3 (fun kq v28 w' => ∃ (x28_2 : Int) (x227001_2 : List ByteArray) (u227001 : Value), v28 = .int .i64 x28_2 ∧ Aside0 (impl_SignText.l0 kq a0 a1 t227 (t227.length : Int) x28_2 a1 x227001_2 = some (r1, r2, r3, r4)) ∧ Aside0 (kq ≤ kj3) ∧ Aside0 (Kd.R (Kd.int .i64) 3 w' w.heap.size (fun _ => True) (.slice Ao16 t227.length co16) t227) ∧ Aside0 (Kd.R Kd.string 9 w' w.heap.size (fun _ => True) u227001 x227001_2) ∧ Aside0 (w'.heap[gb223]? = some (.cells #[.int .i64 0, (.slice none 0 0), (.slice none 0 0)] 29 (0, 0))) ∧ Aside0 (w'.heap[gb226]? = some (.cells #[.int .i64 a1, u227001, (.slice none 0 0)] 29 (0, 0))) ∧ Aside0 (Below w.heap.size w w'))
    case atStart => exact ⟨(0), (([] : List ByteArray)), (.slice none 0 0), (by first | rfl | (simp; done) | (simp [*]; done)), H', ⟨Nat.le_refl _⟩, ⟨sqR HO229⟩, ⟨by first | exact Kd.R_nil _ _ _ _ _ | exact Kd.N_nil _ _ _ _ _ | exact Kd.V_nil _ _ _ _ _ | exact Kd.Q_nil _ _ _ _ _ | exact Kd.S_nil _ _ _ _ _⟩, ⟨sqK BK223⟩, ⟨sqK BK226⟩, ⟨sqB⟩⟩
    case round =>
     clear H'
     try clear c1
     try clear p2
     try clear c4
     try clear c7
     try clear c9
     try clear c11
     try clear c12
     try clear c13
     try clear hcz10_0 hcz10_1 hcz10_2
     try clear hcz14_0 hcz14_1 hcz14_2
     try clear hfz10_0
     try clear hfz10_1
     try clear hfz10_2
     try clear hfz14_0
     try clear hfz14_1
     try clear hfz14_2
     try clear p2
     obtain ⟨x28_2, x227001_2, u227001, rfl, HA, HK2, HO_26, HO_227001, BK223, BK226, HB⟩ := hrel
     cases gk with
     | zero => exact absurd HA.out (by simp [impl_SignText.l0])
     | succ k2 =>
      have H := HA.out
      clear HA
      simp only [impl_SignText.l0] at H
      by_cases c17 : x28_2 < (t227.length : Int)
      ·rw [if_pos c17] at H
       have c17b0 : decide (x28_2 < (t227.length : Int)) = true := decide_eq_true c17
       clear c17
       by_cases c18 : 0 ≤ x28_2
       ·rw [if_pos c18] at H
        have c18b0 : decide (0 ≤ x28_2) = true := decide_eq_true c18
        clear c18
        by_cases c19 : x28_2 < (t227.length : Int)
        ·rw [if_pos c19] at H
         have c19b0 : decide (x28_2 < (t227.length : Int)) = true := decide_eq_true c19
         clear c19
         replace H := Option.bind_eq_some_iff.mp H
         obtain ⟨t231, A200, H⟩ := H
         try dsimp only at H
         have A20 := Aside0.mk A200
         clear A200
         replace H := Option.bind_eq_some_iff.mp H
         obtain ⟨t232, A210, H⟩ := H
         try dsimp only at H
         have A21 := Aside0.mk A210
         clear A210
         by_cases c22 : x227001_2.length < 8796093022208
         ·rw [if_pos c22] at H
          have LMc22 := Aside0.mk c22
          clear c22
          obtain ⟨y233, hy233⟩ : ∃ y_ : List ByteArray, y_ = (x227001_2 ++ [t232]) := ⟨_, rfl⟩
          replace H : (impl_SignText.l0 k2 a0 a1 t227 (t227.length : Int) (wrap64 (x28_2 + 1)) a1 y233) = some (r1, r2, r3, r4) := by first | (rw [hy233]; with_reducible exact H) | (have H2_ := (Option.bind_some _ _).symm.trans H; rw [hy233]; with_reducible exact H2_) | (have H2_ := (Option.bind_some _ _).symm.trans H; with_reducible exact H2_) | with_reducible exact H | (rw [hy233]; exact H) | exact H
          have Ny233 := Aside0.mk hy233
          clear hy233
          have H' := Aside0.mk H
          clear H
          have p230 : 0 ≤ (x28_2 : Int) := sqD
          have q230 : x28_2 < (t227.length : Int) := sqD
          obtain ⟨ad230, e230, hx230_0⟩ := Kd.at_int (Kd.R_reads' HO_26.out).2.2 x28_2 p230 q230
          cases e230
          replace p230 := eq_true p230
          replace q230 := eq_true q230
          try go_wp2
          replace HO_26 := Aside0.mk (Kd.R_drew HO_26.out); replace HO_227001 := Aside0.mk (Kd.R_drew HO_227001.out); replace BK223 := Aside0.mk (blk_drew BK223.out); replace BK226 := Aside0.mk (blk_drew BK226.out); replace HB := Aside0.mk (below_drew1 HB.out)
          refine start_ (n := 12) (S := fun w' => w'.cell? ⟨gb226, 0, none⟩ = some (.int .i64 a1) ∧ w'.cell? ⟨gb226, 1, none⟩ = some (u227001) ∧ w'.cell? ⟨gb226, 2, none⟩ = some (.slice none 0 0)) (ds := [11]) (sqb 0 12) (by kernel_rfl) rfl rfl sqF (fun hHeld => ?_); refine with_tabW impl_SignText.tab7 impl_SignText.bits7 (fun HT_ HW_ => ?_)
          generalize wr.drew = w23 at HO_26 HO_227001 BK223 BK226 HB hHeld ⊢
          refine sqP (i := 0) (N := some 33) (sqb 1 11) rfl rfl (any_of HT_.out (by kernel_rfl)) ?_
          refine sqP (i := 2) (N := some 35) (sqr [1, 1, 1, 9]) rfl rfl (any_of HT_.out (by kernel_rfl)) ?_
          refine sqP (i := 3) (N := some 36) (sqr [1, 1, 2, 8]) rfl rfl (any_of HT_.out (by kernel_rfl)) ?_
          refine sqP (i := 4) (N := some 37) (sqr [1, 1, 3, 7]) rfl rfl (any_of HT_.out (by kernel_rfl)) ?_
          refine sqP (i := 6) (N := some 39) (sqr [1, 1, 3, 1, 1, 5]) rfl rfl (any_of HT_.out (by kernel_rfl)) ?_
          refine sqTk (i := 1) (N := some 34) (sqr [5, 1, 1, 5]) rfl rfl (take_ofW HT_.out HW_.out (by kernel_rfl)) hHeld ?_
          refine one_ (i := 5) (N := some 38) (sqb 7 5) rfl rfl (one_of HT_.out (by kernel_rfl)) (by decide) (fun K hK => ?_)
          refine goes_ Try.func14 (by kernel_rfl) rfl #[.int .i64 a0, .int .i64 a1, .int .i64 x28_2] (by rfl) rfl rfl sqA ?_
          with_reducible refine (impl_SecretOf.calls k2 a0 a1 x28_2 t231 _ A20.out).mono ?_
          rintro e w24 ⟨rfl, hb⟩
          refine ⟨_, rfl, ?_⟩
          replace HO_26 := Aside0.mk (Kd.R_below (sqR HO_26) hb); replace HO_227001 := Aside0.mk (Kd.R_below (sqR HO_227001) hb); replace BK223 := sqL BK223 hb; replace BK226 := sqL BK226 hb; replace HB := sqS hb
          (try clear hb)
          (try clear hb2)
          (try clear hk)
          (try clear hi)
          refine hK.out _ _ sqF (fun hHeld => ?_)
          clear hK K
          refine sqV (N := some 38) ?_
          refine one_ (i := 7) (N := some 40) (sqb 8 4) rfl rfl (one_of HT_.out (by kernel_rfl)) (by decide) (fun K hK => ?_)
          refine goes_ Try.func32 (by kernel_rfl) rfl #[.string t231, .int .i64 (rd t227 x28_2)] (by rfl) rfl rfl sqA ?_
          with_reducible refine (impl_ChainOf.calls k2 t231 (rd t227 x28_2) t232 _ A21.out).mono ?_
          rintro e w25 ⟨rfl, hb⟩
          refine ⟨_, rfl, ?_⟩
          replace HO_26 := Aside0.mk (Kd.R_below (sqR HO_26) hb); replace HO_227001 := Aside0.mk (Kd.R_below (sqR HO_227001) hb); replace BK223 := sqL BK223 hb; replace BK226 := sqL BK226 hb; replace HB := sqS hb
          (try clear hb)
          (try clear hb2)
          (try clear hk)
          (try clear hi)
          refine hK.out _ _ sqF (fun hHeld => ?_)
          clear hK K
          refine sqV (N := some 40) ?_
          refine one_ (i := 8) (N := some 41) (sqb 9 3) rfl rfl (one_of HT_.out (by kernel_rfl)) (by decide) (fun K hK => ?_)
          refine value_ (w1 := ?_) (v := ?_) (by rfl) rfl ?_ ?_
          rotate_left 2
          ·go_simp
           constructor
           ·rfl
           ·rfl
          refine hK.out _ _ ⟨(blk_cell (blk_alloc BK226.out _) 0).trans rfl, (blk_cell (blk_alloc BK226.out _) 1).trans rfl, (blk_cell (blk_alloc BK226.out _) 2).trans rfl⟩ (fun hHeld => ?_)
          clear hK K
          refine sqV (N := some 41) ?_
          refine one_ (i := 9) (N := some 42) (sqb 10 2) rfl rfl (one_of HT_.out (by kernel_rfl)) (by decide) (fun K hK => ?_)
          refine Kd.R_append_step Kd.string (w0 := w) w.heap.size (by rfl) (.tmp 34) (.tmp 41) 27 9 (.string ⟨#[]⟩) 16 rfl Try.underlying27 info9 rfl (by decide) (by omega) u227001 x227001_2 t232 [.string t232] (fun _ => True) (fun _ => False) rfl rfl ?aP (fun _ hk => hk.elim) ?aF ?aO ?aB ?aS ?aL ?_
          (case aP => exact rfl)
          (case aB => exact (sqB))
          (case aF => exact (fun _ _ => trivial))
          (case aO => exact (sqR HO_227001))
          (case aS => exact (below_size (sqB)))
          (case aL => have := LMc22.out; omega)
          intro v234 w26 ho hb hg hat
          rw [← Ny233.out] at ho
          have n0_ := Aside0.mk (Kd.R_over' (sqR HO_26) (Kd.R_typed (sqR HO_227001)) (by decide) hg)
          have n1_ := Aside0.mk (blk_grown (g := gb223) (o := .cells #[.int .i64 0, .slice none 0 0, .slice none 0 0] 29 (0, 0)) (sqK BK223) hg (Kd.R_ne HO_227001.out BK223.out (by decide)))
          have n2_ := Aside0.mk (blk_grown (g := gb226) (o := .cells #[.int .i64 a1, u227001, .slice none 0 0] 29 (0, 0)) (sqK BK226) hg (Kd.R_ne HO_227001.out BK226.out (by decide)))
          have n3_ := Aside0.mk (hb)
          have n4_ := Aside0.mk (ho)
          clear HO_26
          clear BK223
          clear BK226
          clear HB
          clear HO_227001
          have HO_26 := n0_
          have BK223 := n1_
          have BK226 := n2_
          have HB := n3_
          have HO235 := n4_
          clear n0_ n1_ n2_ n3_ n4_
          clear ho hb hg hat
          obtain ⟨Ao27, co27, eo27⟩ := Kd.R_slice HO235.out
          (first | subst eo27 | (injection eo27 with f1_ f2_ f3_; have f4_ := f1_.symm; have f5_ := f3_.symm; clear f1_ f2_ f3_; subst f4_; subst f5_))
          refine hK.out _ _ sqF (fun hHeld => ?_)
          clear hK K
          refine sqV (N := some 42) ?_
          refine sqP (i := 10) (N := some 43) (sqb 11 1) rfl rfl (any_of HT_.out (by kernel_rfl)) ?_
          refine last_ (i := 11) (N := none) (sqb 12 0) rfl rfl (one_of HT_.out (by kernel_rfl)) (by decide) (fun K hK => ?_)
          have hs28 : w26.cell? ⟨gb226, 1, none⟩ = some (u227001) := (blk_cell BK226.out 1).trans rfl
          have hfs28 := blk_frozen BK226.out 1
          have hns28_0 := NB223_226.out
          have hms28_0 := NB226_223.out
          refine skip_ (w1 := ?_) (by rfl) rfl ?_ ?_
          rotate_left
          ·go_simp
           rfl
          refine hK.out _ _ ?_
          clear hK K
          refine done_ (done_of HT_.out (by kernel_rfl)) ?_
          try go_wp2
          go_roundg k2
          case measure => have := HJ3.out; have := HK2.out; omega
          case rel => exact ⟨(wrap64 (x28_2 + 1)), (y233), (.slice Ao27 y233.length co27), (by first | rfl | (simp; done) | (simp [*]; done)), H', ⟨by have := HJ3.out; have := HK2.out; omega⟩, ⟨by (with_reducible repeat (first | apply Kd.R_alloc | apply Kd.R_drewN | apply Kd.R_drew)); exact Kd.R_mono (Kd.R_far (p := ⟨gb226, 1, none⟩) (Kd.R_types HO_26.out BK226.out (by decide)) (fun _ hk => hk.2) (.slice Ao27 y233.length co27)) (fun _ hk => trivial)⟩, ⟨by (with_reducible repeat (first | apply Kd.R_alloc | apply Kd.R_drewN | apply Kd.R_drew)); exact Kd.R_mono (Kd.R_far (p := ⟨gb226, 1, none⟩) (Kd.R_types HO235.out BK226.out (by decide)) (fun _ hk => hk.2) (.slice Ao27 y233.length co27)) (fun _ hk => trivial)⟩, ⟨sqW BK223⟩, ⟨by (with_reducible repeat (first | refine blk_drewN ?_ _ | refine blk_drew ?_ | refine blk_alloc ?_ _)); refine blk_put (cs := #[.int .i64 a1, u227001, .slice none 0 0]) ?_ 1 _ rfl; (with_reducible repeat (first | refine blk_drewN ?_ _ | refine blk_drew ?_ | refine blk_alloc ?_ _)); exact BK226.out⟩, ⟨sqB⟩⟩
         ·rw [if_neg c22] at H
          exact absurd H (by simp)
        ·rw [if_neg c19] at H
         exact absurd H (by simp)
       ·rw [if_neg c18] at H
        exact absurd H (by simp)
      ·rw [if_neg c17] at H
       have c17b0 : decide (x28_2 < (t227.length : Int)) = false := decide_eq_false c17
       clear c17
       replace H := Option.bind_eq_some_iff.mp H
       obtain ⟨t236, A290, H⟩ := H
       try dsimp only at H
       have A29 := Aside0.mk A290
       clear A290
       have H' := Aside0.mk H
       clear H
       go_wp2_with (first | ((with_reducible refine gate_callee (f := 41) rfl ?_); refine goesL_ (some 46) rfl rfl Try.func41 (by kernel_rfl) rfl #[.int .i64 a0] rfl sqA ?_; (with_reducible refine (impl_levels.calls k2 a0 t236 _ A29.out).mono ?_); rintro e w30 ⟨v237, rfl, ho0, hb⟩; refine ⟨_, rfl, ?_⟩; replace HO_26 := Aside0.mk (Kd.R_below (sqR HO_26) hb); have HO238 := Aside0.mk (Kd.S_lower (Kd.S_new' ho0 (Kd.R_lt (sqR HO_227001))) (below_size (sqB))); replace HO_227001 := Aside0.mk (Kd.R_below (sqR HO_227001) hb); replace BK223 := sqL BK223 hb; replace BK226 := sqL BK226 hb; replace HB := sqS hb; (try clear hb); (try clear hb2); (try clear hk); (try clear hi); (try clear ho0)))
       go_loopg [12, 48] k2 (fun kq v12 v48 w' => ∃ (x12_3 : Int) (x48_3 : Int) (x227002_3 : List ByteArray) (u227002 : Value), v12 = .int .i64 x12_3 ∧ v48 = .int .i64 x48_3 ∧ Aside0 (impl_SignText.l1 kq t236 x12_3 x48_3 a1 x227001_2 x227002_3 = some (r1, r2, r3, r4)) ∧ Aside0 (kq ≤ k2) ∧ Aside0 (Kd.S (Kd.slice 9 Kd.string) 27 w' w.heap.size (fun k_ => some k_ ≠ (u227001 : Value).ownBlock ∧ some k_ ≠ (u227002 : Value).ownBlock) v237 t236) ∧ Aside0 (Kd.R Kd.string 9 w' w.heap.size (fun k_ => some k_ ≠ (u227002 : Value).ownBlock) u227001 x227001_2) ∧ Aside0 (Kd.R Kd.string 9 w' w.heap.size (fun k_ => some k_ ≠ (u227001 : Value).ownBlock) u227002 x227002_3) ∧ Aside0 (w'.heap[gb223]? = some (.cells #[.int .i64 0, (.slice none 0 0), (.slice none 0 0)] 29 (0, 0))) ∧ Aside0 (w'.heap[gb226]? = some (.cells #[.int .i64 a1, u227001, u227002] 29 (0, 0))) ∧ Aside0 (Below w.heap.size w w'))
       case atStart => exact ⟨(a1), (0), (([] : List ByteArray)), (.slice none 0 0), (by first | rfl | (simp; done) | (simp [*]; done)), (by first | rfl | (simp; done) | (simp [*]; done)), H', ⟨Nat.le_refl _⟩, ⟨by (with_reducible repeat (first | apply Kd.S_alloc | apply Kd.S_drewN | apply Kd.S_drew)); exact Kd.S_mono HO238.out (fun _ hk => ⟨hk.2, (by simp [Value.ownBlock])⟩)⟩, ⟨by (with_reducible repeat (first | apply Kd.R_alloc | apply Kd.R_drewN | apply Kd.R_drew)); exact Kd.R_mono HO_227001.out (fun _ hk => (by simp [Value.ownBlock]))⟩, ⟨by first | exact Kd.R_nil _ _ _ _ _ | exact Kd.N_nil _ _ _ _ _ | exact Kd.V_nil _ _ _ _ _ | exact Kd.Q_nil _ _ _ _ _ | exact Kd.S_nil _ _ _ _ _⟩, ⟨sqK BK223⟩, ⟨sqK BK226⟩, ⟨sqB⟩⟩
       case round =>
        clear H'
        try clear c1
        try clear c2
        try clear p2
        try clear q2
        try clear hx2
        try clear c3
        try clear c4
        try clear p6
        try clear c7
        try clear c9
        try clear c11
        try clear c12
        try clear c13
        try clear c14
        try clear c17
        try clear c17b0
        try clear c18
        try clear c18b0
        try clear c19
        try clear c19b0
        try clear c22
        try clear p23
        try clear q23
        try clear hx23
        try clear hcz10_0 hcz10_1 hcz10_2
        try clear hcz14_0 hcz14_1 hcz14_2
        try clear hfz10_0
        try clear hfz10_1
        try clear hfz10_2
        try clear hfz14_0
        try clear hfz14_1
        try clear hfz14_2
        try clear hx230_0
        try clear p2
        try clear p230
        try clear q230
        obtain ⟨x12_3, x48_3, x227002_3, u227002, rfl, rfl, HA, HK3, HO_11, HO_227001, HO_227002, BK223, BK226, HB⟩ := hrel
        cases gk with
        | zero => exact absurd HA.out (by simp [impl_SignText.l1])
        | succ k3 =>
         have H := HA.out
         clear HA
         simp only [impl_SignText.l1] at H
         by_cases c31 : x48_3 < 2
         ·rw [if_pos c31] at H
          have c31b0 : decide (x48_3 < 2) = true := decide_eq_true c31
          clear c31
          by_cases c32 : 0 ≤ x48_3
          ·rw [if_pos c32] at H
           have c32b0 : decide (0 ≤ x48_3) = true := decide_eq_true c32
           clear c32
           by_cases c33 : x48_3 < (t236.length : Int)
           ·rw [if_pos c33] at H
            have c33b0 : decide (x48_3 < (t236.length : Int)) = true := decide_eq_true c33
            clear c33
            by_cases c34 : 0 ≤ (Go.bits .xor .i64 x12_3 1)
            ·rw [if_pos c34] at H
             have c34b0 : decide (0 ≤ (Go.bits .xor .i64 x12_3 1)) = true := decide_eq_true c34
             clear c34
             by_cases c35 : (Go.bits .xor .i64 x12_3 1) < ((rd_L5 t236 x48_3).length : Int)
             ·rw [if_pos c35] at H
              have c35b0 : decide ((Go.bits .xor .i64 x12_3 1) < ((rd_L5 t236 x48_3).length : Int)) = true := decide_eq_true c35
              clear c35
              by_cases c36 : x227002_3.length < 8796093022208
              ·rw [if_pos c36] at H
               have LMc36 := Aside0.mk c36
               clear c36
               obtain ⟨y241, hy241⟩ : ∃ y_ : List ByteArray, y_ = (x227002_3 ++ [rdOf ByteArray.empty (rd_L5 t236 x48_3) (Go.bits .xor .i64 x12_3 1)]) := ⟨_, rfl⟩
               replace H : (impl_SignText.l1 k3 t236 (wrap64 (Int.tdiv x12_3 2)) (wrap64 (x48_3 + 1)) a1 x227001_2 y241) = some (r1, r2, r3, r4) := by first | (rw [hy241]; with_reducible exact H) | (have H2_ := (Option.bind_some _ _).symm.trans H; rw [hy241]; with_reducible exact H2_) | (have H2_ := (Option.bind_some _ _).symm.trans H; with_reducible exact H2_) | with_reducible exact H | (rw [hy241]; exact H) | exact H
               have Ny241 := Aside0.mk hy241
               clear hy241
               have H' := Aside0.mk H
               clear H
               try go_wp2
               replace HO_11 := Aside0.mk (Kd.S_drew HO_11.out); replace HO_227001 := Aside0.mk (Kd.R_drew HO_227001.out); replace HO_227002 := Aside0.mk (Kd.R_drew HO_227002.out); replace BK223 := Aside0.mk (blk_drew BK223.out); replace BK226 := Aside0.mk (blk_drew BK226.out); replace HB := Aside0.mk (below_drew1 HB.out)
               obtain ⟨Ao38, co38, eo38⟩ := Kd.S_slice HO_11.out
               (first | subst eo38 | (injection eo38 with f1_ f2_ f3_; have f4_ := f1_.symm; have f5_ := f3_.symm; clear f1_ f2_ f3_; subst f4_; subst f5_))
               have p239 : 0 ≤ (x48_3 : Int) := sqD
               have q239 : x48_3 < (t236.length : Int) := sqD
               obtain ⟨ad239, A239_0, c239_0, e239, hx239_0, hl239_0, hi239_0⟩ := at_L5 (Kd.S_reads' HO_11.out).2.2 x48_3 p239 q239
               cases e239
               obtain ⟨ce239, hce239, hMe239, hcc239⟩ := Kd.S_get HO_11.out [] x48_3 p239 (by first | exact q239 | exact sqD | (have e_ := (Kd.S_reads' HO_11.out).1; omega))
               obtain ⟨ve239_0, rfl, ge239_0⟩ := hMe239
               have hv239_0 := hcc239 0 _ rfl
               rw [Nat.add_zero, show ((Kd.slice 9 Kd.string)).sz = 1 from rfl, Nat.mul_one] at hv239_0
               replace hv239_0 := Option.some.inj (hv239_0.symm.trans hx239_0)
               rw [hv239_0] at ge239_0
               have HL239_0 := Aside0.mk (show Kd.R Kd.string 9 _ _ _ _ (rd_L5 t236 x48_3) from ge239_0)
               clear hv239_0 ge239_0
               clear hcc239 hce239
               have HR239_0 := Aside0.mk hi239_0
               have HC239_0 := Aside0.mk hl239_0
               clear hi239_0 hl239_0
               replace p239 := eq_true p239
               replace q239 := eq_true q239
               have p240 : 0 ≤ ((Go.bits .xor .i64 x12_3 1) : Int) := sqD
               have q240 : (Go.bits .xor .i64 x12_3 1) < ((rd_L5 t236 x48_3).length : Int) := sqD
               obtain ⟨ad240, e240, hx240_0⟩ := Kd.at_string (by repeat (first | (with_reducible exact HR239_0.out) | (with_reducible refine Kd.C_alloc ?_ _) | (with_reducible refine Kd.C_drewN ?_ _) | (with_reducible refine Kd.C_drew ?_) | exact HR239_0.out)) (Go.bits .xor .i64 x12_3 1) p240 q240
               cases e240
               replace p240 := eq_true p240
               replace q240 := eq_true q240
               refine start_ (n := 14) (S := fun w' => w'.cell? ⟨gb226, 0, none⟩ = some (.int .i64 a1) ∧ w'.cell? ⟨gb226, 1, none⟩ = some (u227001) ∧ w'.cell? ⟨gb226, 2, none⟩ = some (u227002) ∧ w'.cell? (ad239.add (x48_3).toNat) = some (.slice (some ad240) (rd_L5 t236 x48_3).length c239_0) ∧ w'.cell? (ad240.add ((Go.bits .xor .i64 x12_3 1)).toNat) = some (.string (rdOf ByteArray.empty (rd_L5 t236 x48_3) (Go.bits .xor .i64 x12_3 1)))) (ds := [11, 13]) (sqb 0 14) (by kernel_rfl) rfl rfl ⟨(blk_cell BK226.out 0).trans rfl, (blk_cell BK226.out 1).trans rfl, (blk_cell BK226.out 2).trans rfl, hx239_0, hx240_0⟩ (fun hHeld => ?_); refine with_tabW impl_SignText.tab14 impl_SignText.bits14 (fun HT_ HW_ => ?_)
               generalize wr.drew = w37 at HO_11 HO_227001 HO_227002 BK223 BK226 HB HL239_0 HR239_0 hx239_0 hx240_0 hHeld ⊢
               refine sqP (i := 0) (N := some 51) (sqb 1 13) rfl rfl (any_of HT_.out (by kernel_rfl)) ?_
               refine sqP (i := 2) (N := some 53) (sqr [1, 1, 1, 11]) rfl rfl (any_of HT_.out (by kernel_rfl)) ?_
               refine sqP (i := 3) (N := some 54) (sqr [1, 1, 2, 10]) rfl rfl (any_of HT_.out (by kernel_rfl)) ?_
               refine sqP (i := 4) (N := some 55) (sqr [1, 1, 3, 9]) rfl rfl (any_of HT_.out (by kernel_rfl)) ?_
               refine sqP (i := 6) (N := some 57) (sqr [1, 1, 3, 1, 1, 7]) rfl rfl (any_of HT_.out (by kernel_rfl)) ?_
               refine sqP (i := 7) (N := some 58) (sqr [1, 1, 3, 1, 2, 6]) rfl rfl (any_of HT_.out (by kernel_rfl)) ?_
               refine sqTk (i := 1) (N := some 52) (sqr [5, 1, 2, 6]) rfl rfl (take_ofW HT_.out HW_.out (by kernel_rfl)) hHeld ?_
               refine sqTk (i := 5) (N := some 56) (sqb 8 6) rfl rfl (take_ofW HT_.out HW_.out (by kernel_rfl)) hHeld ?_
               refine sqP (i := 8) (N := some 59) (sqb 9 5) rfl rfl (any_of HT_.out (by kernel_rfl)) ?_
               refine sqTk (i := 9) (N := some 60) (sqb 10 4) rfl rfl (take_ofW HT_.out HW_.out (by kernel_rfl)) hHeld ?_
               refine one_ (i := 10) (N := some 61) (sqb 11 3) rfl rfl (one_of HT_.out (by kernel_rfl)) (by decide) (fun K hK => ?_)
               refine value_ (w1 := ?_) (v := ?_) (by rfl) rfl ?_ ?_
               rotate_left 2
               ·go_simp
                constructor
                ·rfl
                ·rfl
               refine hK.out _ _ ⟨(blk_cell (blk_alloc BK226.out _) 0).trans rfl, (blk_cell (blk_alloc BK226.out _) 1).trans rfl, (blk_cell (blk_alloc BK226.out _) 2).trans rfl, (World.cell?_alloc_lt _ _ _ (World.block_lt_of_cell? _ _ (hHeld.2.2.2.1))).trans (hHeld.2.2.2.1), (World.cell?_alloc_lt _ _ _ (World.block_lt_of_cell? _ _ (hHeld.2.2.2.2))).trans (hHeld.2.2.2.2)⟩ (fun hHeld => ?_)
               clear hK K
               refine sqV (N := some 61) ?_
               refine last_ (i := 11) (N := some 62) (sqb 12 2) rfl rfl (one_of HT_.out (by kernel_rfl)) (by decide) (fun K hK => ?_)
               refine Kd.R_append_step Kd.string (w0 := w) w.heap.size (by rfl) (.tmp 52) (.tmp 61) 27 9 (.string ⟨#[]⟩) 16 rfl Try.underlying27 info9 rfl (by decide) (by omega) u227002 x227002_3 (rdOf ByteArray.empty (rd_L5 t236 x48_3) (Go.bits .xor .i64 x12_3 1)) [.string (rdOf ByteArray.empty (rd_L5 t236 x48_3) (Go.bits .xor .i64 x12_3 1))] (fun k_ => some k_ ≠ (u227001 : Value).ownBlock) (fun _ => False) rfl rfl ?aP (fun _ hk => hk.elim) ?aF ?aO ?aB ?aS ?aL ?_
               (case aP => exact rfl)
               (case aB => exact (sqB))
               (case aF => exact (fun k_ hk => Kd.fresh' (Kd.R_lt (sqR HO_227001)) k_ hk))
               (case aO => exact (sqR HO_227002))
               (case aS => exact (below_size (sqB)))
               (case aL => have := LMc36.out; omega)
               intro v242 w39 ho hb hg hat
               rw [← Ny241.out] at ho
               have n0_ := Aside0.mk (Kd.S_after (ok := (fun k_ => some k_ ≠ (u227001 : Value).ownBlock)) (by (with_reducible repeat (first | apply Kd.S_alloc | apply Kd.S_drewN | apply Kd.S_drew)); exact HO_11.out) hg hat)
               have n1_ := Aside0.mk (Kd.R_after (ok := (fun _ => True)) (by (with_reducible repeat (first | apply Kd.R_alloc | apply Kd.R_drewN | apply Kd.R_drew)); exact Kd.R_mono HO_227001.out (fun _ hk => by (refine ⟨?_, ?_⟩ <;> first | exact hk | trivial | exact hk.1 | exact hk.2 | exact hk.1.1 | exact hk.1.2 | exact hk.2.1 | exact hk.2.2 | exact hk.1.1.1 | exact hk.1.1.2 | exact hk.1.2.1 | exact hk.1.2.2))) hg hat)
               have n2_ := Aside0.mk (blk_grown (g := gb223) (o := .cells #[.int .i64 0, .slice none 0 0, .slice none 0 0] 29 (0, 0)) (sqK BK223) hg (Kd.R_ne HO_227002.out BK223.out (by decide)))
               have n3_ := Aside0.mk (blk_grown (g := gb226) (o := .cells #[.int .i64 a1, u227001, u227002] 29 (0, 0)) (sqK BK226) hg (Kd.R_ne HO_227002.out BK226.out (by decide)))
               have n4_ := Aside0.mk (Kd.R_after (ok := (fun k_ => some k_ ≠ (.slice (some ad239) t236.length co38 : Value).ownBlock ∧ some k_ ≠ (u227001 : Value).ownBlock)) (by (with_reducible repeat (first | apply Kd.R_alloc | apply Kd.R_drewN | apply Kd.R_drew)); exact Kd.R_mono HL239_0.out (fun _ hk => ⟨⟨hk.2, hk.1.1⟩, hk.1.2⟩)) hg hat)
               have n5_ := Aside0.mk (hb)
               have n6_ := Aside0.mk (ho)
               clear HO_11
               clear HO_227001
               clear BK223
               clear BK226
               clear HL239_0
               clear HB
               clear HO_227002
               have HO_11 := n0_
               have HO_227001 := n1_
               have BK223 := n2_
               have BK226 := n3_
               have HL239_0 := n4_
               have HB := n5_
               have HO243 := n6_
               clear n0_ n1_ n2_ n3_ n4_ n5_ n6_
               clear ho hb hg hat
               obtain ⟨Ao40, co40, eo40⟩ := Kd.R_slice HO243.out
               (first | subst eo40 | (injection eo40 with f1_ f2_ f3_; have f4_ := f1_.symm; have f5_ := f3_.symm; clear f1_ f2_ f3_; subst f4_; subst f5_))
               refine hK.out _ _ ?_
               clear hK K
               refine sqV (N := some 62) ?_
               refine sqP (i := 12) (N := some 63) (sqb 13 1) rfl rfl (any_of HT_.out (by kernel_rfl)) ?_
               refine last_ (i := 13) (N := none) (sqb 14 0) rfl rfl (one_of HT_.out (by kernel_rfl)) (by decide) (fun K hK => ?_)
               have hs41 : w39.cell? ⟨gb226, 2, none⟩ = some (u227002) := (blk_cell BK226.out 2).trans rfl
               have hfs41 := blk_frozen BK226.out 2
               have hns41_0 := NB223_226.out
               have hms41_0 := NB226_223.out
               refine skip_ (w1 := ?_) (by rfl) rfl ?_ ?_
               rotate_left
               ·go_simp
                rfl
               refine hK.out _ _ ?_
               clear hK K
               refine done_ (done_of HT_.out (by kernel_rfl)) ?_
               try go_wp2
               go_roundg k3
               case measure => have := HJ3.out; have := HK2.out; have := HK3.out; omega
               case rel => exact ⟨(wrap64 (Int.tdiv x12_3 2)), (wrap64 (x48_3 + 1)), (y241), (.slice Ao40 y241.length co40), (by first | rfl | (simp; done) | (simp [*]; done)), (by first | rfl | (simp; done) | (simp [*]; done)), H', ⟨by have := HJ3.out; have := HK2.out; have := HK3.out; omega⟩, ⟨by (with_reducible repeat (first | apply Kd.S_alloc | apply Kd.S_drewN | apply Kd.S_drew)); exact Kd.S_mono (Kd.S_far (p := ⟨gb226, 2, none⟩) (Kd.S_types HO_11.out BK226.out (by decide)) (fun _ hk => hk.2) (.slice Ao40 y241.length co40)) (fun _ hk => ⟨hk.1.1, hk.1.2⟩)⟩, ⟨by (with_reducible repeat (first | apply Kd.R_alloc | apply Kd.R_drewN | apply Kd.R_drew)); exact Kd.R_mono (Kd.R_far (p := ⟨gb226, 2, none⟩) (Kd.R_types HO_227001.out BK226.out (by decide)) (fun _ hk => hk.2) (.slice Ao40 y241.length co40)) (fun _ hk => hk.1.2)⟩, ⟨by (with_reducible repeat (first | apply Kd.R_alloc | apply Kd.R_drewN | apply Kd.R_drew)); exact Kd.R_mono (Kd.R_far (p := ⟨gb226, 2, none⟩) (Kd.R_types HO243.out BK226.out (by decide)) (fun _ hk => hk.2) (.slice Ao40 y241.length co40)) (fun _ hk => hk.1)⟩, ⟨sqW BK223⟩, ⟨by (with_reducible repeat (first | refine blk_drewN ?_ _ | refine blk_drew ?_ | refine blk_alloc ?_ _)); refine blk_put (cs := #[.int .i64 a1, u227001, u227002]) ?_ 2 _ rfl; (with_reducible repeat (first | refine blk_drewN ?_ _ | refine blk_drew ?_ | refine blk_alloc ?_ _)); exact BK226.out⟩, ⟨sqB⟩⟩
              ·rw [if_neg c36] at H
               exact absurd H (by simp)
             ·rw [if_neg c35] at H
              exact absurd H (by simp)
            ·rw [if_neg c34] at H
             exact absurd H (by simp)
           ·rw [if_neg c33] at H
            exact absurd H (by simp)
          ·rw [if_neg c32] at H
           exact absurd H (by simp)
         ·rw [if_neg c31] at H
          have c31b0 : decide (x48_3 < 2) = false := decide_eq_false c31
          clear c31
          simp only [Option.some.injEq, Prod.mk.injEq] at H
          obtain ⟨rfl, rfl, rfl, rfl⟩ := H
          have hnb42 := NB226_223.out
          have hnc42 := NB223_226.out
          obtain ⟨hcz43_0, hcz43_1, hcz43_2, hfz43_0, hfz43_1, hfz43_2⟩ := sqC3 BK226
          obtain ⟨hcz44_0, hcz44_1, hcz44_2, hfz44_0, hfz44_1, hfz44_2⟩ := sqC3 BK223
          obtain ⟨Ao45, co45, eo45⟩ := Kd.R_slice HO_227001.out
          subst eo45
          obtain ⟨Ao46, co46, eo46⟩ := Kd.R_slice HO_227002.out
          subst eo46
          go_wp2
          refine bodyPost_ret (results_ct rfl _ _ gb223 29 #[.int .i64 a1, .slice Ao45 x227001_2.length co45, .slice Ao46 x227002_3.length co46] (0, 0) _ rfl (by (with_reducible repeat (first | refine blk_drewN ?_ _ | refine blk_drew ?_ | refine blk_alloc ?_ _)); refine blk_put (cs := #[.int .i64 a1, .slice Ao45 x227001_2.length co45, .slice none 0 0]) ?_ 2 _ rfl; (with_reducible repeat (first | refine blk_drewN ?_ _ | refine blk_drew ?_ | refine blk_alloc ?_ _)); refine blk_put (cs := #[.int .i64 a1, .slice none 0 0, .slice none 0 0]) ?_ 1 _ rfl; (with_reducible repeat (first | refine blk_drewN ?_ _ | refine blk_drew ?_ | refine blk_alloc ?_ _)); refine blk_put (cs := #[.int .i64 0, .slice none 0 0, .slice none 0 0]) ?_ 0 _ rfl; (with_reducible repeat (first | refine blk_drewN ?_ _ | refine blk_drew ?_ | refine blk_alloc ?_ _)); exact BK223.out) Try.underlying29 rfl (by kernel_rfl)) rfl ?_
          exact ⟨_, _, sqE, by (with_reducible repeat (first | apply Kd.R_alloc | apply Kd.R_drewN | apply Kd.R_drew)); exact Kd.R_mono (Kd.R_far (p := ⟨gb223, 2, none⟩) (Kd.R_far (p := ⟨gb223, 1, none⟩) (Kd.R_far (p := ⟨gb223, 0, none⟩) (Kd.R_types HO_227001.out BK223.out (by decide)) (fun _ hk => hk.2) (.int .i64 a1)) (fun _ hk => hk.2) (.slice Ao45 x227001_2.length co45)) (fun _ hk => hk.2) (.slice Ao46 x227002_3.length co46)) (fun _ hk => hk.1), by (with_reducible repeat (first | apply Kd.R_alloc | apply Kd.R_drewN | apply Kd.R_drew)); exact Kd.R_mono (Kd.R_far (p := ⟨gb223, 2, none⟩) (Kd.R_far (p := ⟨gb223, 1, none⟩) (Kd.R_far (p := ⟨gb223, 0, none⟩) (Kd.R_types HO_227002.out BK223.out (by decide)) (fun _ hk => hk.2) (.int .i64 a1)) (fun _ hk => hk.2) (.slice Ao45 x227001_2.length co45)) (fun _ hk => hk.2) (.slice Ao46 x227002_3.length co46)) (fun _ hk => hk.1), sqB⟩

/-! ### spec_l01In: function 52 -/
def spec_l01In.f (a0 : Int) (a1 : Int) (a2 : Int) : Option (Bool) := if a0 ≥ a1 then (some (decide (a0 ≤ a2))) else (some false)
set_option maxHeartbeats 8000000 in
set_option maxRecDepth 100000 in
theorem spec_l01In.calls (a0 : Int) (a1 : Int) (a2 : Int) (r : Bool) (w : World) (h : spec_l01In.f a0 a1 a2 = some r) :
  Calls Try.prog 52 #[.int .i64 a0, .int .i64 a1, .int .i64 a2] w fun e w' => e = .returned (.bool r) ∧ Drawn0 w w' := by
 have H : (if a0 ≥ a1 then (some (decide (a0 ≤ a2))) else (some false)) = some r := h
 clear h
 by_cases c4 : a0 ≥ a1
 ·rw [if_pos c4] at H
  have c4b0 : decide (a1 ≤ a0) = true := decide_eq_true c4
  clear c4
  obtain rfl := Option.some.inj H
  go_enter Try.func52, Try.ntmps52
  go_wp2
  go_ret
  exact ⟨by first | rfl | (simp; done) | (simp [*]; done), by repeat (first | exact Drawn0.refl _ | apply Drawn0.step)⟩
 ·rw [if_neg c4] at H
  have c4b0 : decide (a1 ≤ a0) = false := decide_eq_false c4
  clear c4
  obtain rfl := Option.some.inj H
  go_enter Try.func52, Try.ntmps52
  go_wp2
  go_ret
  exact ⟨by first | rfl | (simp; done) | (simp [*]; done), by repeat (first | exact Drawn0.refl _ | apply Drawn0.step)⟩

-- NOT PRINTED: function 74 (spec_l03First)

-- NOT PRINTED: function 75 (spec_l03Keys)

/-! ### spec_PadText: function 76 -/
def spec_PadText.f (a0 : ByteArray) : Option (ByteArray) := if a0.size ≤ 140737488351232 then some (strOfNums (Go.Proofs.Ytckjobcagniieaa.Pad.padB a0)) else none
theorem spec_PadText.calls (a0 : ByteArray) (r : ByteArray) (w : World) (h : spec_PadText.f a0 = some r) :
  Calls Try.prog 76 #[.string a0] w fun e w' => e = .returned (.string r) ∧ Below w.heap.size w w' := by
 unfold spec_PadText.f at h
 by_cases c : a0.size ≤ 140737488351232
 ·rw [if_pos c] at h
  obtain rfl := Option.some.inj h
  exact Go.Proofs.Ytckjobcagniieaa.Pad.pad_calls a0 c w
 ·rw [if_neg c] at h
  exact absurd h (by simp)

end Go.Proofs.Ytckjobcagniieaa.PFnSignsTold
