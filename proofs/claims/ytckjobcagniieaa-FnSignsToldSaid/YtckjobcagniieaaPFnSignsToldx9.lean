/- What the code that one law of the given program reaches computes, function by function, each with its proof over the given translation.
Conditions: none of our own. (Laid by a program of this session, wip/xp/xp.py; some contracts are typed by hand.) -/
import Derived.Test.YtckjobcagniieaaPFnSignsToldx0
import Derived.Test.YtckjobcagniieaaPFnSignsToldx5
import Derived.Test.YtckjobcagniieaaPFnSignsToldx6
import Derived.Test.YtckjobcagniieaaPFnSignsToldx7
import Derived.Test.YtckjobcagniieaaPFnSignsToldx8
namespace Go.Proofs.Ytckjobcagniieaa.PFnSignsTold
open Go.RowKit Go.Proofs.YtckjobcagniieaaW.PrintWords Go.Proofs.YtckjobcagniieaaW.PrintLast Go.Proofs.YtckjobcagniieaaW.PrintMore
attribute [local go_sem] max2_int min2_int max_two min_two max_three min_three max_four min_four   -- for this text's walks alone
set_option linter.unusedVariables false
set_option linter.unusedSimpArgs false

/-! ### spec_SignText: function 24 -/
mutual
def spec_SignText.j0 : Nat → Int → Int → ByteArray → Bool → Option (Int × List ByteArray × List ByteArray × Bool)
 | 0, _, _, _, _ => none
 | k + 1, x0, x1, x2, x21 => if x21 = true then (some (0, ([] : List ByteArray), ([] : List ByteArray), false)) else ((spec_QuadsOf.f k x2).bind fun t316 => (spec_SignText.l0 k x0 x1 t316 0 x1 ([] : List ByteArray)))
def spec_SignText.l0 : Nat → Int → Int → List Int → Int → Int → List ByteArray → Option (Int × List ByteArray × List ByteArray × Bool)
 | 0, _, _, _, _, _, _ => none
 | k + 1, x0, x1, x9, x10, x316000, x316001 => if x10 < 11 then ((spec_SecretOf.f k x0 x1 x10).bind fun t319 => (if 0 ≤ x10 then (if x10 < (x9.length : Int) then ((spec_ChainOf.f k t319 (rd x9 x10)).bind fun t321 => (if x316001.length < 8796093022208 then (spec_SignText.l0 k x0 x1 x9 (wrap64 (x10 + 1)) x316000 (x316001 ++ [t321])) else (none))) else (none)) else (none))) else ((spec_l04Rows.f k x0).bind fun t325 => (spec_SignText.l1 k t325 x1 0 x316000 x316001 ([] : List ByteArray)))
def spec_SignText.l1 : Nat → List (List ByteArray) → Int → Int → Int → List ByteArray → List ByteArray → Option (Int × List ByteArray × List ByteArray × Bool)
 | 0, _, _, _, _, _, _ => none
 | k + 1, x11, x12, x13, x316000, x316001, x316002 => if (wrap64 (x13 + 1)) < (x11.length : Int) then (if 0 ≤ x13 then (if x13 < (x11.length : Int) then (if 0 ≤ (Go.bits .xor .i64 x12 1) then (if (Go.bits .xor .i64 x12 1) < ((rd_L5 x11 x13).length : Int) then (if x316002.length < 8796093022208 then (spec_SignText.l1 k x11 (wrap64 (Int.tdiv x12 2)) (wrap64 (x13 + 1)) x316000 x316001 (x316002 ++ [rdOf ByteArray.empty (rd_L5 x11 x13) (Go.bits .xor .i64 x12 1)])) else (none)) else (none)) else (none)) else (none)) else (none)) else (some (x316000, x316001, x316002, true))
end
def spec_SignText.f (k : Nat) (a0 : Int) (a1 : Int) (a2 : ByteArray) : Option (Int × List ByteArray × List ByteArray × Bool) := (spec_l01In.f a1 0 3).bind fun t313 => (if t313 = true then ((spec_l04Few.f a0).bind fun t314 => (spec_SignText.j0 k a0 a1 a2 (!t314))) else (spec_SignText.j0 k a0 a1 a2 true))
theorem spec_SignText.mono_l : ∀ k, (∀ y0 y1 y2 y3, LeO (spec_SignText.j0 k y0 y1 y2 y3) (spec_SignText.j0 (k + 1) y0 y1 y2 y3)) ∧ (∀ y0 y1 y2 y3 y4 y5, LeO (spec_SignText.l0 k y0 y1 y2 y3 y4 y5) (spec_SignText.l0 (k + 1) y0 y1 y2 y3 y4 y5)) ∧ (∀ y0 y1 y2 y3 y4 y5, LeO (spec_SignText.l1 k y0 y1 y2 y3 y4 y5) (spec_SignText.l1 (k + 1) y0 y1 y2 y3 y4 y5))
 | 0 => ⟨fun _ _ _ _ r h => by simp [spec_SignText.j0] at h, fun _ _ _ _ _ _ r h => by simp [spec_SignText.l0] at h, fun _ _ _ _ _ _ r h => by simp [spec_SignText.l1] at h⟩
 | k + 1 => by
  obtain ⟨ih0, ih1, ih2⟩ := spec_SignText.mono_l k
  refine ⟨?_, ?_, ?_⟩
  ·intro y0 y1 y2 y3
   unfold spec_SignText.j0
   repeat' first
   | (with_reducible exact ih0 _ _ _ _)
   | (with_reducible exact ih1 _ _ _ _ _ _)
   | (with_reducible exact ih2 _ _ _ _ _ _)
   | (with_reducible exact spec_ChainOf.mono _ _ _)
   | (with_reducible exact spec_QuadsOf.mono _ _)
   | (with_reducible exact spec_SecretOf.mono _ _ _ _)
   | (with_reducible exact spec_l04Rows.mono _ _)
   | (with_reducible exact LeO.refl _)
   | (with_reducible exact LeO.none _)
   | (with_reducible refine LeO.ite ?_ ?_)
   | (with_reducible refine LeO.bind ?_ (fun _ => ?_))
   | exact ih0 _ _ _ _
   | exact ih1 _ _ _ _ _ _
   | exact ih2 _ _ _ _ _ _
   | exact spec_ChainOf.mono _ _ _
   | exact spec_QuadsOf.mono _ _
   | exact spec_SecretOf.mono _ _ _ _
   | exact spec_l04Rows.mono _ _
   | exact LeO.none _
   | refine LeO.ite ?_ ?_
   | refine LeO.bind ?_ (fun _ => ?_)
  ·intro y0 y1 y2 y3 y4 y5
   unfold spec_SignText.l0
   repeat' first
   | (with_reducible exact ih0 _ _ _ _)
   | (with_reducible exact ih1 _ _ _ _ _ _)
   | (with_reducible exact ih2 _ _ _ _ _ _)
   | (with_reducible exact spec_ChainOf.mono _ _ _)
   | (with_reducible exact spec_QuadsOf.mono _ _)
   | (with_reducible exact spec_SecretOf.mono _ _ _ _)
   | (with_reducible exact spec_l04Rows.mono _ _)
   | (with_reducible exact LeO.refl _)
   | (with_reducible exact LeO.none _)
   | (with_reducible refine LeO.ite ?_ ?_)
   | (with_reducible refine LeO.bind ?_ (fun _ => ?_))
   | exact ih0 _ _ _ _
   | exact ih1 _ _ _ _ _ _
   | exact ih2 _ _ _ _ _ _
   | exact spec_ChainOf.mono _ _ _
   | exact spec_QuadsOf.mono _ _
   | exact spec_SecretOf.mono _ _ _ _
   | exact spec_l04Rows.mono _ _
   | exact LeO.none _
   | refine LeO.ite ?_ ?_
   | refine LeO.bind ?_ (fun _ => ?_)
  ·intro y0 y1 y2 y3 y4 y5
   unfold spec_SignText.l1
   repeat' first
   | (with_reducible exact ih0 _ _ _ _)
   | (with_reducible exact ih1 _ _ _ _ _ _)
   | (with_reducible exact ih2 _ _ _ _ _ _)
   | (with_reducible exact spec_ChainOf.mono _ _ _)
   | (with_reducible exact spec_QuadsOf.mono _ _)
   | (with_reducible exact spec_SecretOf.mono _ _ _ _)
   | (with_reducible exact spec_l04Rows.mono _ _)
   | (with_reducible exact LeO.refl _)
   | (with_reducible exact LeO.none _)
   | (with_reducible refine LeO.ite ?_ ?_)
   | (with_reducible refine LeO.bind ?_ (fun _ => ?_))
   | exact ih0 _ _ _ _
   | exact ih1 _ _ _ _ _ _
   | exact ih2 _ _ _ _ _ _
   | exact spec_ChainOf.mono _ _ _
   | exact spec_QuadsOf.mono _ _
   | exact spec_SecretOf.mono _ _ _ _
   | exact spec_l04Rows.mono _ _
   | exact LeO.none _
   | refine LeO.ite ?_ ?_
   | refine LeO.bind ?_ (fun _ => ?_)
theorem spec_SignText.mono : ∀ a0 a1 a2 k, LeO (spec_SignText.f k a0 a1 a2) (spec_SignText.f (k + 1) a0 a1 a2) := by
 intro a0 a1 a2 k
 obtain ⟨ih0, ih1, ih2⟩ := spec_SignText.mono_l k
 unfold spec_SignText.f
 repeat' first
   | (with_reducible exact ih0 _ _ _ _)
   | (with_reducible exact ih1 _ _ _ _ _ _)
   | (with_reducible exact ih2 _ _ _ _ _ _)
   | (with_reducible exact spec_ChainOf.mono _ _ _)
   | (with_reducible exact spec_QuadsOf.mono _ _)
   | (with_reducible exact spec_SecretOf.mono _ _ _ _)
   | (with_reducible exact spec_l04Rows.mono _ _)
   | (with_reducible exact LeO.refl _)
   | (with_reducible exact LeO.none _)
   | (with_reducible refine LeO.ite ?_ ?_)
   | (with_reducible refine LeO.bind ?_ (fun _ => ?_))
   | exact ih0 _ _ _ _
   | exact ih1 _ _ _ _ _ _
   | exact ih2 _ _ _ _ _ _
   | exact spec_ChainOf.mono _ _ _
   | exact spec_QuadsOf.mono _ _
   | exact spec_SecretOf.mono _ _ _ _
   | exact spec_l04Rows.mono _ _
   | exact LeO.none _
   | refine LeO.ite ?_ ?_
   | refine LeO.bind ?_ (fun _ => ?_)
def spec_SignText.T8 : Bool × List (List Nat × List Nat) := (true, [([], []), ([0], [0]), ([], []), ([], []), ([], []), ([2, 3, 4], [2, 3, 4]), ([], []), ([], []), ([6, 7], [6, 7]), ([8], [8]), ([5, 9, 5], [5, 9]), ([10], [10]), ([1, 11, 10], [1, 11]), ([0, 1, 2, 3, 4, 5, 6, 7, 8, 9, 10, 11, 12], []), ([13, 12, 12, 0, 1, 2, 3, 4, 5, 6, 7, 8, 9, 10, 11, 12], [12, 13])])
def spec_SignText.B8 : List Nat := [0, 1, 0, 0, 0, 28, 0, 0, 192, 448, 1020, 2044, 4095, 8191, 16383]
theorem spec_SignText.tab8 : rtab .any (opsOf Try.f24 8) = spec_SignText.T8 := by kernel_rfl
theorem spec_SignText.bits8 : waitsOk spec_SignText.T8.2 spec_SignText.B8 = true := by kernel_rfl
def spec_SignText.T14 : Bool × List (List Nat × List Nat) := (true, [([], []), ([0], [0]), ([], []), ([], []), ([2, 3], [2, 3]), ([4], [4]), ([], []), ([6], [6]), ([5, 7], [5, 7]), ([8], [8]), ([9], [9]), ([1, 10], [1, 10]), ([0, 1, 2, 3, 4, 5, 6, 7, 8, 9, 10, 11], []), ([12, 11, 11, 0, 1, 2, 3, 4, 5, 6, 7, 8, 9, 10, 11], [11, 12])])
def spec_SignText.B14 : List Nat := [0, 1, 0, 0, 12, 28, 0, 64, 252, 508, 1020, 2047, 4095, 8191]
theorem spec_SignText.tab14 : rtab .any (opsOf Try.f24 14) = spec_SignText.T14 := by kernel_rfl
theorem spec_SignText.bits14 : waitsOk spec_SignText.T14.2 spec_SignText.B14 = true := by kernel_rfl
set_option maxHeartbeats 8000000 in
set_option maxRecDepth 100000 in
theorem spec_SignText.calls (k : Nat) (a0 : Int) (a1 : Int) (a2 : ByteArray) (r1 : Int) (r2 : List ByteArray) (r3 : List ByteArray) (r4 : Bool) (w : World) (h : spec_SignText.f k a0 a1 a2 = some (r1, r2, r3, r4)) :
  Calls Try.prog 24 #[.int .i64 a0, .int .i64 a1, .string a2] w fun e w' => ∃ v1_ v2_ : Value, e = .returned (.tuple #[.agg #[.int .i64 r1, v1_, v2_], .bool r4]) ∧ Kd.R Kd.string 9 w' w.heap.size (fun k_ => some k_ ≠ (v2_ : Value).ownBlock) v1_ r2 ∧ Kd.R Kd.string 9 w' w.heap.size (fun k_ => some k_ ≠ (v1_ : Value).ownBlock) v2_ r3 ∧ Below w.heap.size w w' := by
 have hu29 := Try.underlying29
 have HB := Aside0.mk (Below.refl w.heap.size w)
 have H : ((spec_l01In.f a1 0 3).bind fun t313 => (if t313 = true then ((spec_l04Few.f a0).bind fun t314 => (spec_SignText.j0 k a0 a1 a2 (!t314))) else (spec_SignText.j0 k a0 a1 a2 true))) = some (r1, r2, r3, r4) := h
 clear h
 have HC4 := Aside0.mk H
 clear H
 go_enter Try.func24, Try.ntmps24
 go_upto_region 1 with (first | ((with_reducible refine gate_dst (N := 6) rfl ?_); refine sqX (N := 6) (cs := #[.int .i64 0, .slice none 0 0, .slice none 0 0]) (t := 29) ?_; intro gb312 hg w5 hbox hb; have BK312 := Aside0.mk (hbox); have GW312 := sqG hg; have GE312 := sqG hg; replace HB := sqS hb; clear hb hbox hg))
 (try simp only [Act.put, List.setIfInBounds_toArray, List.set_cons_zero, List.set_cons_succ])
 go_cut [21] (fun v21 wc => ∃ (kq : Nat) (x21_3 : Bool), v21 = .bool x21_3 ∧ Aside0 (spec_SignText.j0 kq a0 a1 a2 x21_3 = some (r1, r2, r3, r4)) ∧ Aside0 (kq ≤ k) ∧ Aside0 (wc.heap[gb312]? = some (.cells #[.int .i64 0, (.slice none 0 0), (.slice none 0 0)] 29 (0, 0))) ∧ Aside0 (Below w.heap.size w wc))
 case first =>
  have H := HC4.out
  clear HC4
  replace H := Option.bind_eq_some_iff.mp H
  obtain ⟨t313, A60, H⟩ := H
  try dsimp only at H
  have A6 := Aside0.mk A60
  clear A60
  by_cases c7 : t313 = true
  ·subst c7
   have H1 : ((spec_l04Few.f a0).bind fun t314 => (spec_SignText.j0 k a0 a1 a2 (!t314))) = some (r1, r2, r3, r4) := by rw [if_pos rfl] at H; exact H
   clear H
   have H := H1
   clear H1
   replace H := Option.bind_eq_some_iff.mp H
   obtain ⟨t314, A80, H⟩ := H
   try dsimp only at H
   have A8 := Aside0.mk A80
   clear A80
   have H' := Aside0.mk H
   clear H
   go_wp2_with (first | ((with_reducible refine gate_callee (f := 52) rfl ?_); refine goesL_ (some 15) rfl rfl Try.func52 (by kernel_rfl) rfl #[.int .i64 a1, .int .i64 0, .int .i64 3] rfl sqA ?_; (with_reducible refine (spec_l01In.calls a1 0 3 true _ A6.out).mono ?_); rintro e w' ⟨rfl, ⟨nd, rfl⟩⟩; refine ⟨_, rfl, ?_⟩) | (go_at_call 53; (with_reducible refine (spec_l04Few.calls a0 t314 _ A8.out).mono ?_); rintro e w' ⟨rfl, ⟨nd, rfl⟩⟩))
   go_meet
   case rel => exact ⟨_, (!t314), (by first | rfl | (simp; done) | (simp [*]; done)), H', ⟨by first | omega | exact Nat.le_refl _⟩, ⟨sqK BK312⟩, ⟨sqB⟩⟩
  ·replace c7 := Bool.eq_false_iff.mpr c7
   subst c7
   have H1 : (spec_SignText.j0 k a0 a1 a2 true) = some (r1, r2, r3, r4) := by rw [if_neg (show ¬ (false = true) by decide)] at H; exact H
   clear H
   have H := H1
   clear H1
   have H' := Aside0.mk H
   clear H
   go_wp2_with (first | ((with_reducible refine gate_callee (f := 52) rfl ?_); refine goesL_ (some 15) rfl rfl Try.func52 (by kernel_rfl) rfl #[.int .i64 a1, .int .i64 0, .int .i64 3] rfl sqA ?_; (with_reducible refine (spec_l01In.calls a1 0 3 false _ A6.out).mono ?_); rintro e w' ⟨rfl, ⟨nd, rfl⟩⟩; refine ⟨_, rfl, ?_⟩))
   go_meet
   case rel => exact ⟨_, (true), (by first | rfl | (simp; done) | (simp [*]; done)), H', ⟨by first | omega | exact Nat.le_refl _⟩, ⟨sqK BK312⟩, ⟨sqB⟩⟩
 case rest =>
  clear HC4
  try clear c2
  try clear p2
  try clear c5
  try clear c7
  obtain ⟨kq, x21_3, rfl, HA, HJ3, BK312, HB⟩ := hcut
  cases kq with
  | zero => exact absurd HA.out (by simp [spec_SignText.j0])
  | succ kj3 =>
   have H := HA.out
   clear HA
   simp only [spec_SignText.j0] at H
   by_cases c9 : x21_3 = true
   ·subst c9
    have H1 : (some (0, ([] : List ByteArray), ([] : List ByteArray), false)) = some (r1, r2, r3, r4) := by rw [if_pos rfl] at H; exact H
    clear H
    have H := H1
    clear H1
    simp only [Option.some.injEq, Prod.mk.injEq] at H
    obtain ⟨rfl, rfl, rfl, rfl⟩ := H
    obtain ⟨hcz10_0, hcz10_1, hcz10_2, hfz10_0, hfz10_1, hfz10_2⟩ := sqC3 BK312
    go_wp2
    refine bodyPost_ret (results_ct rfl _ _ gb312 29 #[.int .i64 0, .slice none 0 0, .slice none 0 0] (0, 0) _ rfl (by (with_reducible repeat (first | refine blk_drewN ?_ _ | refine blk_drew ?_ | refine blk_alloc ?_ _)); refine blk_put (cs := #[.int .i64 0, .slice none 0 0, .slice none 0 0]) ?_ 2 _ rfl; (with_reducible repeat (first | refine blk_drewN ?_ _ | refine blk_drew ?_ | refine blk_alloc ?_ _)); refine blk_put (cs := #[.int .i64 0, .slice none 0 0, .slice none 0 0]) ?_ 1 _ rfl; (with_reducible repeat (first | refine blk_drewN ?_ _ | refine blk_drew ?_ | refine blk_alloc ?_ _)); refine blk_put (cs := #[.int .i64 0, .slice none 0 0, .slice none 0 0]) ?_ 0 _ rfl; (with_reducible repeat (first | refine blk_drewN ?_ _ | refine blk_drew ?_ | refine blk_alloc ?_ _)); exact BK312.out) Try.underlying29 rfl (by kernel_rfl)) rfl ?_
    exact ⟨_, _, sqE, by first | exact Kd.R_nil _ _ _ _ _ | exact Kd.N_nil _ _ _ _ _ | exact Kd.V_nil _ _ _ _ _ | exact Kd.Q_nil _ _ _ _ _ | exact Kd.S_nil _ _ _ _ _, by first | exact Kd.R_nil _ _ _ _ _ | exact Kd.N_nil _ _ _ _ _ | exact Kd.V_nil _ _ _ _ _ | exact Kd.Q_nil _ _ _ _ _ | exact Kd.S_nil _ _ _ _ _, sqB⟩
   ·replace c9 := Bool.eq_false_iff.mpr c9
    subst c9
    have H1 : ((spec_QuadsOf.f kj3 a2).bind fun t316 => (spec_SignText.l0 kj3 a0 a1 t316 0 a1 ([] : List ByteArray))) = some (r1, r2, r3, r4) := by rw [if_neg (show ¬ (false = true) by decide)] at H; exact H
    clear H
    have H := H1
    clear H1
    replace H := Option.bind_eq_some_iff.mp H
    obtain ⟨t316, A110, H⟩ := H
    try dsimp only at H
    have A11 := Aside0.mk A110
    clear A110
    have H' := Aside0.mk H
    clear H
    go_wp2_with (first | ((with_reducible refine gate_dst (N := 8) rfl ?_); refine sqX (N := 8) (cs := #[.int .i64 0, .slice none 0 0, .slice none 0 0]) (t := 29) ?_; intro gb315 hg w12 hbox hb; have BK315 := Aside0.mk (hbox); have GW315 := sqG hg; have GE315 := sqG hg; have NB312_315 := sqN BK312 hg; have NB315_312 := sqM BK312 hg; replace BK312 := sqL BK312 hb; replace HB := sqS hb; clear hb hbox hg; have hnb13 := NB315_312.out; have hnc13 := NB312_315.out; obtain ⟨hcz14_0, hcz14_1, hcz14_2, hfz14_0, hfz14_1, hfz14_2⟩ := sqC3 BK315) | ((with_reducible refine gate_callee (f := 35) rfl ?_); refine goesL_ (some 26) rfl rfl Try.func35 (by kernel_rfl) rfl #[.string a2] rfl sqA ?_; (with_reducible refine (spec_QuadsOf.calls kj3 a2 t316 _ A11.out).mono ?_); rintro e w15 ⟨v317, rfl, ho0, hb⟩; refine ⟨_, rfl, ?_⟩; have n0_ := Aside0.mk (Kd.R_lower ho0 (below_size (sqB))); have n1_ := sqLW (o' := .cells #[.int .i64 0, .slice none 0 0, .slice none 0 0] 29 (0, 0)) BK312 hb; have n2_ := Aside0.mk (blk_below (g := gb315) (o := .cells #[.int .i64 a1, .slice none 0 0, .slice none 0 0] 29 (0, 0)) (by (with_reducible repeat (first | refine blk_drewN ?_ _ | refine blk_drew ?_ | refine blk_alloc ?_ _)); refine blk_put (cs := #[.int .i64 a1, .slice none 0 0, .slice none 0 0]) ?_ 2 _ rfl; (with_reducible repeat (first | refine blk_drewN ?_ _ | refine blk_drew ?_ | refine blk_alloc ?_ _)); refine blk_put (cs := #[.int .i64 a1, .slice none 0 0, .slice none 0 0]) ?_ 1 _ rfl; (with_reducible repeat (first | refine blk_drewN ?_ _ | refine blk_drew ?_ | refine blk_alloc ?_ _)); refine blk_put (cs := #[.int .i64 0, .slice none 0 0, .slice none 0 0]) ?_ 0 _ rfl; (with_reducible repeat (first | refine blk_drewN ?_ _ | refine blk_drew ?_ | refine blk_alloc ?_ _)); exact BK315.out) hb); have n3_ := sqS hb; clear BK312; clear BK315; clear HB; have HO318 := n0_; have BK312 := n1_; have BK315 := n2_; have HB := n3_; clear n0_ n1_ n2_ n3_; (try clear hb); (try clear hb2); (try clear hk); (try clear hi); (try clear ho0)))
    go_loopg [10] kj3 (fun kq v10 w' => ∃ (x10_2 : Int) (x316001_2 : List ByteArray) (u316001 : Value), v10 = .int .i64 x10_2 ∧ Aside0 (spec_SignText.l0 kq a0 a1 t316 x10_2 a1 x316001_2 = some (r1, r2, r3, r4)) ∧ Aside0 (kq ≤ kj3) ∧ Aside0 (Kd.R (Kd.int .i64) 3 w' w.heap.size (fun _ => True) v317 t316) ∧ Aside0 (Kd.R Kd.string 9 w' w.heap.size (fun _ => True) u316001 x316001_2) ∧ Aside0 (w'.heap[gb312]? = some (.cells #[.int .i64 0, (.slice none 0 0), (.slice none 0 0)] 29 (0, 0))) ∧ Aside0 (w'.heap[gb315]? = some (.cells #[.int .i64 a1, u316001, (.slice none 0 0)] 29 (0, 0))) ∧ Aside0 (Below w.heap.size w w'))
    case atStart => exact ⟨(0), (([] : List ByteArray)), (.slice none 0 0), (by first | rfl | (simp; done) | (simp [*]; done)), H', ⟨Nat.le_refl _⟩, ⟨sqR HO318⟩, ⟨by first | exact Kd.R_nil _ _ _ _ _ | exact Kd.N_nil _ _ _ _ _ | exact Kd.V_nil _ _ _ _ _ | exact Kd.Q_nil _ _ _ _ _ | exact Kd.S_nil _ _ _ _ _⟩, ⟨sqK BK312⟩, ⟨sqK BK315⟩, ⟨sqB⟩⟩
    case round =>
     clear H'
     try clear c1
     try clear c2
     try clear p2
     try clear c3
     try clear c5
     try clear c7
     try clear c9
     try clear c13
     try clear hcz10_0 hcz10_1 hcz10_2
     try clear hcz14_0 hcz14_1 hcz14_2
     try clear hfz10_0
     try clear hfz10_1
     try clear hfz10_2
     try clear hfz14_0
     try clear hfz14_1
     try clear hfz14_2
     try clear p2
     obtain ⟨x10_2, x316001_2, u316001, rfl, HA, HK2, HO_9, HO_316001, BK312, BK315, HB⟩ := hrel
     cases gk with
     | zero => exact absurd HA.out (by simp [spec_SignText.l0])
     | succ k2 =>
      have H := HA.out
      clear HA
      simp only [spec_SignText.l0] at H
      by_cases c16 : x10_2 < 11
      ·rw [if_pos c16] at H
       have c16b0 : decide (x10_2 < 11) = true := decide_eq_true c16
       clear c16
       replace H := Option.bind_eq_some_iff.mp H
       obtain ⟨t319, A170, H⟩ := H
       try dsimp only at H
       have A17 := Aside0.mk A170
       clear A170
       by_cases c18 : 0 ≤ x10_2
       ·rw [if_pos c18] at H
        have c18b0 : decide (0 ≤ x10_2) = true := decide_eq_true c18
        clear c18
        by_cases c19 : x10_2 < (t316.length : Int)
        ·rw [if_pos c19] at H
         have c19b0 : decide (x10_2 < (t316.length : Int)) = true := decide_eq_true c19
         clear c19
         replace H := Option.bind_eq_some_iff.mp H
         obtain ⟨t321, A200, H⟩ := H
         try dsimp only at H
         have A20 := Aside0.mk A200
         clear A200
         by_cases c21 : x316001_2.length < 8796093022208
         ·rw [if_pos c21] at H
          have LMc21 := Aside0.mk c21
          clear c21
          obtain ⟨y322, hy322⟩ : ∃ y_ : List ByteArray, y_ = (x316001_2 ++ [t321]) := ⟨_, rfl⟩
          replace H : (spec_SignText.l0 k2 a0 a1 t316 (wrap64 (x10_2 + 1)) a1 y322) = some (r1, r2, r3, r4) := by first | (rw [hy322]; with_reducible exact H) | (have H2_ := (Option.bind_some _ _).symm.trans H; rw [hy322]; with_reducible exact H2_) | (have H2_ := (Option.bind_some _ _).symm.trans H; with_reducible exact H2_) | with_reducible exact H | (rw [hy322]; exact H) | exact H
          have Ny322 := Aside0.mk hy322
          clear hy322
          have H' := Aside0.mk H
          clear H
          try go_wp2
          replace HO_9 := Aside0.mk (Kd.R_drew HO_9.out); replace HO_316001 := Aside0.mk (Kd.R_drew HO_316001.out); replace BK312 := Aside0.mk (blk_drew BK312.out); replace BK315 := Aside0.mk (blk_drew BK315.out); replace HB := Aside0.mk (below_drew1 HB.out)
          obtain ⟨Ao23, co23, eo23⟩ := Kd.R_slice HO_9.out
          (first | subst eo23 | (injection eo23 with f1_ f2_ f3_; have f4_ := f1_.symm; have f5_ := f3_.symm; clear f1_ f2_ f3_; subst f4_; subst f5_))
          have p320 : 0 ≤ (x10_2 : Int) := sqD
          have q320 : x10_2 < (t316.length : Int) := sqD
          obtain ⟨ad320, e320, hx320_0⟩ := Kd.at_int (Kd.R_reads' HO_9.out).2.2 x10_2 p320 q320
          cases e320
          replace p320 := eq_true p320
          replace q320 := eq_true q320
          refine start_ (n := 15) (S := fun w' => w'.cell? ⟨gb315, 0, none⟩ = some (.int .i64 a1) ∧ w'.cell? ⟨gb315, 1, none⟩ = some (u316001) ∧ w'.cell? ⟨gb315, 2, none⟩ = some (.slice none 0 0) ∧ w'.cell? (ad320.add (x10_2).toNat) = some (.int .i64 (rd t316 x10_2))) (ds := [12, 14]) (sqb 0 15) (by kernel_rfl) rfl rfl ⟨(blk_cell BK315.out 0).trans rfl, (blk_cell BK315.out 1).trans rfl, (blk_cell BK315.out 2).trans rfl, hx320_0⟩ (fun hHeld => ?_); refine with_tabW spec_SignText.tab8 spec_SignText.bits8 (fun HT_ HW_ => ?_)
          generalize wr.drew = w22 at HO_9 HO_316001 BK312 BK315 HB hx320_0 hHeld ⊢
          refine sqP (i := 0) (N := some 31) (sqb 1 14) rfl rfl (any_of HT_.out (by kernel_rfl)) ?_
          refine sqP (i := 2) (N := some 33) (sqr [1, 1, 1, 12]) rfl rfl (any_of HT_.out (by kernel_rfl)) ?_
          refine sqP (i := 3) (N := some 34) (sqr [1, 1, 2, 11]) rfl rfl (any_of HT_.out (by kernel_rfl)) ?_
          refine sqP (i := 4) (N := some 35) (sqr [1, 1, 3, 10]) rfl rfl (any_of HT_.out (by kernel_rfl)) ?_
          refine sqP (i := 6) (N := some 37) (sqr [1, 1, 3, 1, 1, 8]) rfl rfl (any_of HT_.out (by kernel_rfl)) ?_
          refine sqP (i := 7) (N := some 38) (sqr [1, 1, 3, 1, 2, 7]) rfl rfl (any_of HT_.out (by kernel_rfl)) ?_
          refine sqP (i := 8) (N := some 39) (sqr [1, 1, 3, 1, 3, 6]) rfl rfl (any_of HT_.out (by kernel_rfl)) ?_
          refine sqTk (i := 1) (N := some 32) (sqr [5, 1, 3, 6]) rfl rfl (take_ofW HT_.out HW_.out (by kernel_rfl)) hHeld ?_
          refine sqTk (i := 9) (N := some 40) (sqr [5, 1, 4, 5]) rfl rfl (take_ofW HT_.out HW_.out (by kernel_rfl)) hHeld ?_
          refine one_ (i := 5) (N := some 36) (sqb 10 5) rfl rfl (one_of HT_.out (by kernel_rfl)) (by decide) (fun K hK => ?_)
          refine goes_ Try.func33 (by kernel_rfl) rfl #[.int .i64 a0, .int .i64 a1, .int .i64 x10_2] (by rfl) rfl rfl sqA ?_
          with_reducible refine (spec_SecretOf.calls k2 a0 a1 x10_2 t319 _ A17.out).mono ?_
          rintro e w24 ⟨rfl, hb⟩
          have HS3_ := (hb.cell (World.block_lt_of_cell? _ _ (hHeld.2.2.2))).trans (hHeld.2.2.2)
          refine ⟨_, rfl, ?_⟩
          replace HO_9 := Aside0.mk (Kd.R_below (sqR HO_9) hb); replace HO_316001 := Aside0.mk (Kd.R_below (sqR HO_316001) hb); replace BK312 := sqL BK312 hb; replace BK315 := sqL BK315 hb; replace HB := sqS hb
          (try clear hb)
          (try clear hb2)
          (try clear hk)
          (try clear hi)
          refine hK.out _ _ ⟨(blk_cell BK315.out 0).trans rfl, (blk_cell BK315.out 1).trans rfl, (blk_cell BK315.out 2).trans rfl, HS3_⟩ (fun hHeld => ?_)
          clear hK K
          refine sqV (N := some 36) ?_
          refine one_ (i := 10) (N := some 41) (sqb 11 4) rfl rfl (one_of HT_.out (by kernel_rfl)) (by decide) (fun K hK => ?_)
          refine goes_ Try.func13 (by kernel_rfl) rfl #[.string t319, .int .i64 (rd t316 x10_2)] (by rfl) rfl rfl sqA ?_
          with_reducible refine (spec_ChainOf.calls k2 t319 (rd t316 x10_2) t321 _ A20.out).mono ?_
          rintro e w25 ⟨rfl, hb⟩
          have HS3_ := (hb.cell (World.block_lt_of_cell? _ _ (hHeld.2.2.2))).trans (hHeld.2.2.2)
          refine ⟨_, rfl, ?_⟩
          replace HO_9 := Aside0.mk (Kd.R_below (sqR HO_9) hb); replace HO_316001 := Aside0.mk (Kd.R_below (sqR HO_316001) hb); replace BK312 := sqL BK312 hb; replace BK315 := sqL BK315 hb; replace HB := sqS hb
          (try clear hb)
          (try clear hb2)
          (try clear hk)
          (try clear hi)
          refine hK.out _ _ ⟨(blk_cell BK315.out 0).trans rfl, (blk_cell BK315.out 1).trans rfl, (blk_cell BK315.out 2).trans rfl, HS3_⟩ (fun hHeld => ?_)
          clear hK K
          refine sqV (N := some 41) ?_
          refine one_ (i := 11) (N := some 42) (sqb 12 3) rfl rfl (one_of HT_.out (by kernel_rfl)) (by decide) (fun K hK => ?_)
          refine value_ (w1 := ?_) (v := ?_) (by rfl) rfl ?_ ?_
          rotate_left 2
          ·go_simp
           constructor
           ·rfl
           ·rfl
          refine hK.out _ _ ⟨(blk_cell (blk_alloc BK315.out _) 0).trans rfl, (blk_cell (blk_alloc BK315.out _) 1).trans rfl, (blk_cell (blk_alloc BK315.out _) 2).trans rfl, (World.cell?_alloc_lt _ _ _ (World.block_lt_of_cell? _ _ (hHeld.2.2.2))).trans (hHeld.2.2.2)⟩ (fun hHeld => ?_)
          clear hK K
          refine sqV (N := some 42) ?_
          refine last_ (i := 12) (N := some 43) (sqb 13 2) rfl rfl (one_of HT_.out (by kernel_rfl)) (by decide) (fun K hK => ?_)
          refine Kd.R_append_step Kd.string (w0 := w) w.heap.size (by rfl) (.tmp 32) (.tmp 42) 27 9 (.string ⟨#[]⟩) 16 rfl Try.underlying27 info9 rfl (by decide) (by omega) u316001 x316001_2 t321 [.string t321] (fun _ => True) (fun _ => False) rfl rfl ?aP (fun _ hk => hk.elim) ?aF ?aO ?aB ?aS ?aL ?_
          (case aP => exact rfl)
          (case aB => exact (sqB))
          (case aF => exact (fun _ _ => trivial))
          (case aO => exact (sqR HO_316001))
          (case aS => exact (below_size (sqB)))
          (case aL => have := LMc21.out; omega)
          intro v323 w26 ho hb hg hat
          rw [← Ny322.out] at ho
          have n0_ := Aside0.mk (Kd.R_over' (sqR HO_9) (Kd.R_typed (sqR HO_316001)) (by decide) hg)
          have n1_ := Aside0.mk (blk_grown (g := gb312) (o := .cells #[.int .i64 0, .slice none 0 0, .slice none 0 0] 29 (0, 0)) (sqK BK312) hg (Kd.R_ne HO_316001.out BK312.out (by decide)))
          have n2_ := Aside0.mk (blk_grown (g := gb315) (o := .cells #[.int .i64 a1, u316001, .slice none 0 0] 29 (0, 0)) (sqK BK315) hg (Kd.R_ne HO_316001.out BK315.out (by decide)))
          have n3_ := Aside0.mk (hb)
          have n4_ := Aside0.mk (ho)
          clear HO_9
          clear BK312
          clear BK315
          clear HB
          clear HO_316001
          have HO_9 := n0_
          have BK312 := n1_
          have BK315 := n2_
          have HB := n3_
          have HO324 := n4_
          clear n0_ n1_ n2_ n3_ n4_
          clear ho hb hg hat
          obtain ⟨Ao27, co27, eo27⟩ := Kd.R_slice HO324.out
          (first | subst eo27 | (injection eo27 with f1_ f2_ f3_; have f4_ := f1_.symm; have f5_ := f3_.symm; clear f1_ f2_ f3_; subst f4_; subst f5_))
          refine hK.out _ _ ?_
          clear hK K
          refine sqV (N := some 43) ?_
          refine sqP (i := 13) (N := some 44) (sqb 14 1) rfl rfl (any_of HT_.out (by kernel_rfl)) ?_
          refine last_ (i := 14) (N := none) (sqb 15 0) rfl rfl (one_of HT_.out (by kernel_rfl)) (by decide) (fun K hK => ?_)
          have hs28 : w26.cell? ⟨gb315, 1, none⟩ = some (u316001) := (blk_cell BK315.out 1).trans rfl
          have hfs28 := blk_frozen BK315.out 1
          have hns28_0 := NB312_315.out
          have hms28_0 := NB315_312.out
          refine skip_ (w1 := ?_) (by rfl) rfl ?_ ?_
          rotate_left
          ·go_simp
           rfl
          refine hK.out _ _ ?_
          clear hK K
          refine done_ (done_of HT_.out (by kernel_rfl)) ?_
          try go_wp2
          go_roundg k2
          case measure => have := HJ3.out; have := HK2.out; omega
          case rel => exact ⟨(wrap64 (x10_2 + 1)), (y322), (.slice Ao27 y322.length co27), (by first | rfl | (simp; done) | (simp [*]; done)), H', ⟨by have := HJ3.out; have := HK2.out; omega⟩, ⟨by (with_reducible repeat (first | apply Kd.R_alloc | apply Kd.R_drewN | apply Kd.R_drew)); exact Kd.R_mono (Kd.R_far (p := ⟨gb315, 1, none⟩) (Kd.R_types HO_9.out BK315.out (by decide)) (fun _ hk => hk.2) (.slice Ao27 y322.length co27)) (fun _ hk => trivial)⟩, ⟨by (with_reducible repeat (first | apply Kd.R_alloc | apply Kd.R_drewN | apply Kd.R_drew)); exact Kd.R_mono (Kd.R_far (p := ⟨gb315, 1, none⟩) (Kd.R_types HO324.out BK315.out (by decide)) (fun _ hk => hk.2) (.slice Ao27 y322.length co27)) (fun _ hk => trivial)⟩, ⟨sqW BK312⟩, ⟨by (with_reducible repeat (first | refine blk_drewN ?_ _ | refine blk_drew ?_ | refine blk_alloc ?_ _)); refine blk_put (cs := #[.int .i64 a1, u316001, .slice none 0 0]) ?_ 1 _ rfl; (with_reducible repeat (first | refine blk_drewN ?_ _ | refine blk_drew ?_ | refine blk_alloc ?_ _)); exact BK315.out⟩, ⟨sqB⟩⟩
         ·rw [if_neg c21] at H
          exact absurd H (by simp)
        ·rw [if_neg c19] at H
         exact absurd H (by simp)
       ·rw [if_neg c18] at H
        exact absurd H (by simp)
      ·rw [if_neg c16] at H
       have c16b0 : decide (x10_2 < 11) = false := decide_eq_false c16
       clear c16
       replace H := Option.bind_eq_some_iff.mp H
       obtain ⟨t325, A290, H⟩ := H
       try dsimp only at H
       have A29 := Aside0.mk A290
       clear A290
       have H' := Aside0.mk H
       clear H
       go_wp2_with (first | ((with_reducible refine gate_callee (f := 47) rfl ?_); refine goesL_ (some 46) rfl rfl Try.func47 (by kernel_rfl) rfl #[.int .i64 a0] rfl sqA ?_; (with_reducible refine (spec_l04Rows.calls k2 a0 t325 _ A29.out).mono ?_); rintro e w30 ⟨v326, rfl, ho0, hb⟩; refine ⟨_, rfl, ?_⟩; replace HO_9 := Aside0.mk (Kd.R_below (sqR HO_9) hb); have HO327 := Aside0.mk (Kd.S_lower (Kd.S_new' ho0 (Kd.R_lt (sqR HO_316001))) (below_size (sqB))); replace HO_316001 := Aside0.mk (Kd.R_below (sqR HO_316001) hb); replace BK312 := sqL BK312 hb; replace BK315 := sqL BK315 hb; replace HB := sqS hb; (try clear hb); (try clear hb2); (try clear hk); (try clear hi); (try clear ho0)))
       go_loopg [12, 13] k2 (fun kq v12 v13 w' => ∃ (x12_3 : Int) (x13_3 : Int) (x316002_3 : List ByteArray) (u316002 : Value), v12 = .int .i64 x12_3 ∧ v13 = .int .i64 x13_3 ∧ Aside0 (spec_SignText.l1 kq t325 x12_3 x13_3 a1 x316001_2 x316002_3 = some (r1, r2, r3, r4)) ∧ Aside0 (kq ≤ k2) ∧ Aside0 (Kd.S (Kd.slice 9 Kd.string) 27 w' w.heap.size (fun k_ => some k_ ≠ (u316001 : Value).ownBlock ∧ some k_ ≠ (u316002 : Value).ownBlock) v326 t325) ∧ Aside0 (Kd.R Kd.string 9 w' w.heap.size (fun k_ => some k_ ≠ (u316002 : Value).ownBlock) u316001 x316001_2) ∧ Aside0 (Kd.R Kd.string 9 w' w.heap.size (fun k_ => some k_ ≠ (u316001 : Value).ownBlock) u316002 x316002_3) ∧ Aside0 (w'.heap[gb312]? = some (.cells #[.int .i64 0, (.slice none 0 0), (.slice none 0 0)] 29 (0, 0))) ∧ Aside0 (w'.heap[gb315]? = some (.cells #[.int .i64 a1, u316001, u316002] 29 (0, 0))) ∧ Aside0 (Below w.heap.size w w'))
       case atStart => exact ⟨(a1), (0), (([] : List ByteArray)), (.slice none 0 0), (by first | rfl | (simp; done) | (simp [*]; done)), (by first | rfl | (simp; done) | (simp [*]; done)), H', ⟨Nat.le_refl _⟩, ⟨by (with_reducible repeat (first | apply Kd.S_alloc | apply Kd.S_drewN | apply Kd.S_drew)); exact Kd.S_mono HO327.out (fun _ hk => ⟨hk.2, (by simp [Value.ownBlock])⟩)⟩, ⟨by (with_reducible repeat (first | apply Kd.R_alloc | apply Kd.R_drewN | apply Kd.R_drew)); exact Kd.R_mono HO_316001.out (fun _ hk => (by simp [Value.ownBlock]))⟩, ⟨by first | exact Kd.R_nil _ _ _ _ _ | exact Kd.N_nil _ _ _ _ _ | exact Kd.V_nil _ _ _ _ _ | exact Kd.Q_nil _ _ _ _ _ | exact Kd.S_nil _ _ _ _ _⟩, ⟨sqK BK312⟩, ⟨sqK BK315⟩, ⟨sqB⟩⟩
       case round =>
        clear H'
        try clear c1
        try clear c2
        try clear p2
        try clear c3
        try clear p3
        try clear q3
        try clear hx3
        try clear c4
        try clear c5
        try clear p6
        try clear c7
        try clear c9
        try clear c13
        try clear c16
        try clear c16b0
        try clear c18
        try clear c18b0
        try clear c19
        try clear c19b0
        try clear c21
        try clear c24
        try clear hcz10_0 hcz10_1 hcz10_2
        try clear hcz14_0 hcz14_1 hcz14_2
        try clear hfz10_0
        try clear hfz10_1
        try clear hfz10_2
        try clear hfz14_0
        try clear hfz14_1
        try clear hfz14_2
        try clear hx320_0
        try clear p2
        try clear p320
        try clear q320
        obtain ⟨x12_3, x13_3, x316002_3, u316002, rfl, rfl, HA, HK3, HO_11, HO_316001, HO_316002, BK312, BK315, HB⟩ := hrel
        cases gk with
        | zero => exact absurd HA.out (by simp [spec_SignText.l1])
        | succ k3 =>
         have H := HA.out
         clear HA
         simp only [spec_SignText.l1] at H
         by_cases c31 : (wrap64 (x13_3 + 1)) < (t325.length : Int)
         ·rw [if_pos c31] at H
          have c31b0 : decide ((wrap64 (x13_3 + 1)) < (t325.length : Int)) = true := decide_eq_true c31
          clear c31
          by_cases c32 : 0 ≤ x13_3
          ·rw [if_pos c32] at H
           have c32b0 : decide (0 ≤ x13_3) = true := decide_eq_true c32
           clear c32
           by_cases c33 : x13_3 < (t325.length : Int)
           ·rw [if_pos c33] at H
            have c33b0 : decide (x13_3 < (t325.length : Int)) = true := decide_eq_true c33
            clear c33
            by_cases c34 : 0 ≤ (Go.bits .xor .i64 x12_3 1)
            ·rw [if_pos c34] at H
             have c34b0 : decide (0 ≤ (Go.bits .xor .i64 x12_3 1)) = true := decide_eq_true c34
             clear c34
             by_cases c35 : (Go.bits .xor .i64 x12_3 1) < ((rd_L5 t325 x13_3).length : Int)
             ·rw [if_pos c35] at H
              have c35b0 : decide ((Go.bits .xor .i64 x12_3 1) < ((rd_L5 t325 x13_3).length : Int)) = true := decide_eq_true c35
              clear c35
              by_cases c36 : x316002_3.length < 8796093022208
              ·rw [if_pos c36] at H
               have LMc36 := Aside0.mk c36
               clear c36
               obtain ⟨y330, hy330⟩ : ∃ y_ : List ByteArray, y_ = (x316002_3 ++ [rdOf ByteArray.empty (rd_L5 t325 x13_3) (Go.bits .xor .i64 x12_3 1)]) := ⟨_, rfl⟩
               replace H : (spec_SignText.l1 k3 t325 (wrap64 (Int.tdiv x12_3 2)) (wrap64 (x13_3 + 1)) a1 x316001_2 y330) = some (r1, r2, r3, r4) := by first | (rw [hy330]; with_reducible exact H) | (have H2_ := (Option.bind_some _ _).symm.trans H; rw [hy330]; with_reducible exact H2_) | (have H2_ := (Option.bind_some _ _).symm.trans H; with_reducible exact H2_) | with_reducible exact H | (rw [hy330]; exact H) | exact H
               have Ny330 := Aside0.mk hy330
               clear hy330
               have H' := Aside0.mk H
               clear H
               obtain ⟨Ao37, co37, eo37⟩ := Kd.S_slice HO_11.out
               subst eo37
               try go_wp2
               replace HO_11 := Aside0.mk (Kd.S_drew HO_11.out); replace HO_316001 := Aside0.mk (Kd.R_drew HO_316001.out); replace HO_316002 := Aside0.mk (Kd.R_drew HO_316002.out); replace BK312 := Aside0.mk (blk_drew BK312.out); replace BK315 := Aside0.mk (blk_drew BK315.out); replace HB := Aside0.mk (below_drew1 HB.out)
               have p328 : 0 ≤ (x13_3 : Int) := sqD
               have q328 : x13_3 < (t325.length : Int) := sqD
               obtain ⟨ad328, A328_0, c328_0, e328, hx328_0, hl328_0, hi328_0⟩ := at_L5 (Kd.S_reads' HO_11.out).2.2 x13_3 p328 q328
               cases e328
               obtain ⟨ce328, hce328, hMe328, hcc328⟩ := Kd.S_get HO_11.out [] x13_3 p328 (by first | exact q328 | exact sqD | (have e_ := (Kd.S_reads' HO_11.out).1; omega))
               obtain ⟨ve328_0, rfl, ge328_0⟩ := hMe328
               have hv328_0 := hcc328 0 _ rfl
               rw [Nat.add_zero, show ((Kd.slice 9 Kd.string)).sz = 1 from rfl, Nat.mul_one] at hv328_0
               replace hv328_0 := Option.some.inj (hv328_0.symm.trans hx328_0)
               rw [hv328_0] at ge328_0
               have HL328_0 := Aside0.mk (show Kd.R Kd.string 9 _ _ _ _ (rd_L5 t325 x13_3) from ge328_0)
               clear hv328_0 ge328_0
               clear hcc328 hce328
               have HR328_0 := Aside0.mk hi328_0
               have HC328_0 := Aside0.mk hl328_0
               clear hi328_0 hl328_0
               replace p328 := eq_true p328
               replace q328 := eq_true q328
               have p329 : 0 ≤ ((Go.bits .xor .i64 x12_3 1) : Int) := sqD
               have q329 : (Go.bits .xor .i64 x12_3 1) < ((rd_L5 t325 x13_3).length : Int) := sqD
               obtain ⟨ad329, e329, hx329_0⟩ := Kd.at_string (by repeat (first | (with_reducible exact HR328_0.out) | (with_reducible refine Kd.C_alloc ?_ _) | (with_reducible refine Kd.C_drewN ?_ _) | (with_reducible refine Kd.C_drew ?_) | exact HR328_0.out)) (Go.bits .xor .i64 x12_3 1) p329 q329
               cases e329
               replace p329 := eq_true p329
               replace q329 := eq_true q329
               refine start_ (n := 14) (S := fun w' => w'.cell? ⟨gb315, 0, none⟩ = some (.int .i64 a1) ∧ w'.cell? ⟨gb315, 1, none⟩ = some (u316001) ∧ w'.cell? ⟨gb315, 2, none⟩ = some (u316002) ∧ w'.cell? (ad328.add (x13_3).toNat) = some (.slice (some ad329) (rd_L5 t325 x13_3).length c328_0) ∧ w'.cell? (ad329.add ((Go.bits .xor .i64 x12_3 1)).toNat) = some (.string (rdOf ByteArray.empty (rd_L5 t325 x13_3) (Go.bits .xor .i64 x12_3 1)))) (ds := [11, 13]) (sqb 0 14) (by kernel_rfl) rfl rfl ⟨(blk_cell BK315.out 0).trans rfl, (blk_cell BK315.out 1).trans rfl, (blk_cell BK315.out 2).trans rfl, hx328_0, hx329_0⟩ (fun hHeld => ?_); refine with_tabW spec_SignText.tab14 spec_SignText.bits14 (fun HT_ HW_ => ?_)
               generalize wr.drew = w38 at HO_11 HO_316001 HO_316002 BK312 BK315 HB HL328_0 HR328_0 hx328_0 hx329_0 hHeld ⊢
               refine sqP (i := 0) (N := some 55) (sqb 1 13) rfl rfl (any_of HT_.out (by kernel_rfl)) ?_
               refine sqP (i := 2) (N := some 57) (sqr [1, 1, 1, 11]) rfl rfl (any_of HT_.out (by kernel_rfl)) ?_
               refine sqP (i := 3) (N := some 58) (sqr [1, 1, 2, 10]) rfl rfl (any_of HT_.out (by kernel_rfl)) ?_
               refine sqP (i := 4) (N := some 59) (sqr [1, 1, 3, 9]) rfl rfl (any_of HT_.out (by kernel_rfl)) ?_
               refine sqP (i := 6) (N := some 61) (sqr [1, 1, 3, 1, 1, 7]) rfl rfl (any_of HT_.out (by kernel_rfl)) ?_
               refine sqP (i := 7) (N := some 62) (sqr [1, 1, 3, 1, 2, 6]) rfl rfl (any_of HT_.out (by kernel_rfl)) ?_
               refine sqTk (i := 1) (N := some 56) (sqr [5, 1, 2, 6]) rfl rfl (take_ofW HT_.out HW_.out (by kernel_rfl)) hHeld ?_
               refine sqTk (i := 5) (N := some 60) (sqb 8 6) rfl rfl (take_ofW HT_.out HW_.out (by kernel_rfl)) hHeld ?_
               refine sqP (i := 8) (N := some 63) (sqb 9 5) rfl rfl (any_of HT_.out (by kernel_rfl)) ?_
               refine sqTk (i := 9) (N := some 64) (sqb 10 4) rfl rfl (take_ofW HT_.out HW_.out (by kernel_rfl)) hHeld ?_
               refine one_ (i := 10) (N := some 65) (sqb 11 3) rfl rfl (one_of HT_.out (by kernel_rfl)) (by decide) (fun K hK => ?_)
               refine value_ (w1 := ?_) (v := ?_) (by rfl) rfl ?_ ?_
               rotate_left 2
               ·go_simp
                constructor
                ·rfl
                ·rfl
               refine hK.out _ _ ⟨(blk_cell (blk_alloc BK315.out _) 0).trans rfl, (blk_cell (blk_alloc BK315.out _) 1).trans rfl, (blk_cell (blk_alloc BK315.out _) 2).trans rfl, (World.cell?_alloc_lt _ _ _ (World.block_lt_of_cell? _ _ (hHeld.2.2.2.1))).trans (hHeld.2.2.2.1), (World.cell?_alloc_lt _ _ _ (World.block_lt_of_cell? _ _ (hHeld.2.2.2.2))).trans (hHeld.2.2.2.2)⟩ (fun hHeld => ?_)
               clear hK K
               refine sqV (N := some 65) ?_
               refine last_ (i := 11) (N := some 66) (sqb 12 2) rfl rfl (one_of HT_.out (by kernel_rfl)) (by decide) (fun K hK => ?_)
               refine Kd.R_append_step Kd.string (w0 := w) w.heap.size (by rfl) (.tmp 56) (.tmp 65) 27 9 (.string ⟨#[]⟩) 16 rfl Try.underlying27 info9 rfl (by decide) (by omega) u316002 x316002_3 (rdOf ByteArray.empty (rd_L5 t325 x13_3) (Go.bits .xor .i64 x12_3 1)) [.string (rdOf ByteArray.empty (rd_L5 t325 x13_3) (Go.bits .xor .i64 x12_3 1))] (fun k_ => some k_ ≠ (u316001 : Value).ownBlock) (fun _ => False) rfl rfl ?aP (fun _ hk => hk.elim) ?aF ?aO ?aB ?aS ?aL ?_
               (case aP => exact rfl)
               (case aB => exact (sqB))
               (case aF => exact (fun k_ hk => Kd.fresh' (Kd.R_lt (sqR HO_316001)) k_ hk))
               (case aO => exact (sqR HO_316002))
               (case aS => exact (below_size (sqB)))
               (case aL => have := LMc36.out; omega)
               intro v331 w39 ho hb hg hat
               rw [← Ny330.out] at ho
               have n0_ := Aside0.mk (Kd.S_after (ok := (fun k_ => some k_ ≠ (u316001 : Value).ownBlock)) (by (with_reducible repeat (first | apply Kd.S_alloc | apply Kd.S_drewN | apply Kd.S_drew)); exact HO_11.out) hg hat)
               have n1_ := Aside0.mk (Kd.R_after (ok := (fun _ => True)) (by (with_reducible repeat (first | apply Kd.R_alloc | apply Kd.R_drewN | apply Kd.R_drew)); exact Kd.R_mono HO_316001.out (fun _ hk => by (refine ⟨?_, ?_⟩ <;> first | exact hk | trivial | exact hk.1 | exact hk.2 | exact hk.1.1 | exact hk.1.2 | exact hk.2.1 | exact hk.2.2 | exact hk.1.1.1 | exact hk.1.1.2 | exact hk.1.2.1 | exact hk.1.2.2))) hg hat)
               have n2_ := Aside0.mk (blk_grown (g := gb312) (o := .cells #[.int .i64 0, .slice none 0 0, .slice none 0 0] 29 (0, 0)) (sqK BK312) hg (Kd.R_ne HO_316002.out BK312.out (by decide)))
               have n3_ := Aside0.mk (blk_grown (g := gb315) (o := .cells #[.int .i64 a1, u316001, u316002] 29 (0, 0)) (sqK BK315) hg (Kd.R_ne HO_316002.out BK315.out (by decide)))
               have n4_ := Aside0.mk (Kd.R_after (ok := (fun k_ => some k_ ≠ (.slice (some ad328) t325.length co37 : Value).ownBlock ∧ some k_ ≠ (u316001 : Value).ownBlock)) (by (with_reducible repeat (first | apply Kd.R_alloc | apply Kd.R_drewN | apply Kd.R_drew)); exact Kd.R_mono HL328_0.out (fun _ hk => ⟨⟨hk.2, hk.1.1⟩, hk.1.2⟩)) hg hat)
               have n5_ := Aside0.mk (hb)
               have n6_ := Aside0.mk (ho)
               clear HO_11
               clear HO_316001
               clear BK312
               clear BK315
               clear HL328_0
               clear HB
               clear HO_316002
               have HO_11 := n0_
               have HO_316001 := n1_
               have BK312 := n2_
               have BK315 := n3_
               have HL328_0 := n4_
               have HB := n5_
               have HO332 := n6_
               clear n0_ n1_ n2_ n3_ n4_ n5_ n6_
               clear ho hb hg hat
               obtain ⟨Ao40, co40, eo40⟩ := Kd.R_slice HO332.out
               (first | subst eo40 | (injection eo40 with f1_ f2_ f3_; have f4_ := f1_.symm; have f5_ := f3_.symm; clear f1_ f2_ f3_; subst f4_; subst f5_))
               refine hK.out _ _ ?_
               clear hK K
               refine sqV (N := some 66) ?_
               refine sqP (i := 12) (N := some 67) (sqb 13 1) rfl rfl (any_of HT_.out (by kernel_rfl)) ?_
               refine last_ (i := 13) (N := none) (sqb 14 0) rfl rfl (one_of HT_.out (by kernel_rfl)) (by decide) (fun K hK => ?_)
               have hs41 : w39.cell? ⟨gb315, 2, none⟩ = some (u316002) := (blk_cell BK315.out 2).trans rfl
               have hfs41 := blk_frozen BK315.out 2
               have hns41_0 := NB312_315.out
               have hms41_0 := NB315_312.out
               refine skip_ (w1 := ?_) (by rfl) rfl ?_ ?_
               rotate_left
               ·go_simp
                rfl
               refine hK.out _ _ ?_
               clear hK K
               refine done_ (done_of HT_.out (by kernel_rfl)) ?_
               try go_wp2
               go_roundg k3
               case measure => have := HJ3.out; have := HK2.out; have := HK3.out; omega
               case rel => exact ⟨(wrap64 (Int.tdiv x12_3 2)), (wrap64 (x13_3 + 1)), (y330), (.slice Ao40 y330.length co40), (by first | rfl | (simp; done) | (simp [*]; done)), (by first | rfl | (simp; done) | (simp [*]; done)), H', ⟨by have := HJ3.out; have := HK2.out; have := HK3.out; omega⟩, ⟨by (with_reducible repeat (first | apply Kd.S_alloc | apply Kd.S_drewN | apply Kd.S_drew)); exact Kd.S_mono (Kd.S_far (p := ⟨gb315, 2, none⟩) (Kd.S_types HO_11.out BK315.out (by decide)) (fun _ hk => hk.2) (.slice Ao40 y330.length co40)) (fun _ hk => ⟨hk.1.1, hk.1.2⟩)⟩, ⟨by (with_reducible repeat (first | apply Kd.R_alloc | apply Kd.R_drewN | apply Kd.R_drew)); exact Kd.R_mono (Kd.R_far (p := ⟨gb315, 2, none⟩) (Kd.R_types HO_316001.out BK315.out (by decide)) (fun _ hk => hk.2) (.slice Ao40 y330.length co40)) (fun _ hk => hk.1.2)⟩, ⟨by (with_reducible repeat (first | apply Kd.R_alloc | apply Kd.R_drewN | apply Kd.R_drew)); exact Kd.R_mono (Kd.R_far (p := ⟨gb315, 2, none⟩) (Kd.R_types HO332.out BK315.out (by decide)) (fun _ hk => hk.2) (.slice Ao40 y330.length co40)) (fun _ hk => hk.1)⟩, ⟨sqW BK312⟩, ⟨by (with_reducible repeat (first | refine blk_drewN ?_ _ | refine blk_drew ?_ | refine blk_alloc ?_ _)); refine blk_put (cs := #[.int .i64 a1, u316001, u316002]) ?_ 2 _ rfl; (with_reducible repeat (first | refine blk_drewN ?_ _ | refine blk_drew ?_ | refine blk_alloc ?_ _)); exact BK315.out⟩, ⟨sqB⟩⟩
              ·rw [if_neg c36] at H
               exact absurd H (by simp)
             ·rw [if_neg c35] at H
              exact absurd H (by simp)
            ·rw [if_neg c34] at H
             exact absurd H (by simp)
           ·rw [if_neg c33] at H
            exact absurd H (by simp)
          ·rw [if_neg c32] at H
           exact absurd H (by simp)
         ·rw [if_neg c31] at H
          have c31b0 : decide ((wrap64 (x13_3 + 1)) < (t325.length : Int)) = false := decide_eq_false c31
          clear c31
          simp only [Option.some.injEq, Prod.mk.injEq] at H
          obtain ⟨rfl, rfl, rfl, rfl⟩ := H
          obtain ⟨Ao42, co42, eo42⟩ := Kd.S_slice HO_11.out
          subst eo42
          have hnb43 := NB315_312.out
          have hnc43 := NB312_315.out
          obtain ⟨hcz44_0, hcz44_1, hcz44_2, hfz44_0, hfz44_1, hfz44_2⟩ := sqC3 BK315
          obtain ⟨hcz45_0, hcz45_1, hcz45_2, hfz45_0, hfz45_1, hfz45_2⟩ := sqC3 BK312
          obtain ⟨Ao46, co46, eo46⟩ := Kd.R_slice HO_316001.out
          subst eo46
          obtain ⟨Ao47, co47, eo47⟩ := Kd.R_slice HO_316002.out
          subst eo47
          go_wp2
          refine bodyPost_ret (results_ct rfl _ _ gb312 29 #[.int .i64 a1, .slice Ao46 x316001_2.length co46, .slice Ao47 x316002_3.length co47] (0, 0) _ rfl (by (with_reducible repeat (first | refine blk_drewN ?_ _ | refine blk_drew ?_ | refine blk_alloc ?_ _)); refine blk_put (cs := #[.int .i64 a1, .slice Ao46 x316001_2.length co46, .slice none 0 0]) ?_ 2 _ rfl; (with_reducible repeat (first | refine blk_drewN ?_ _ | refine blk_drew ?_ | refine blk_alloc ?_ _)); refine blk_put (cs := #[.int .i64 a1, .slice none 0 0, .slice none 0 0]) ?_ 1 _ rfl; (with_reducible repeat (first | refine blk_drewN ?_ _ | refine blk_drew ?_ | refine blk_alloc ?_ _)); refine blk_put (cs := #[.int .i64 0, .slice none 0 0, .slice none 0 0]) ?_ 0 _ rfl; (with_reducible repeat (first | refine blk_drewN ?_ _ | refine blk_drew ?_ | refine blk_alloc ?_ _)); exact BK312.out) Try.underlying29 rfl (by kernel_rfl)) rfl ?_
          exact ⟨_, _, sqE, by (with_reducible repeat (first | apply Kd.R_alloc | apply Kd.R_drewN | apply Kd.R_drew)); exact Kd.R_mono (Kd.R_far (p := ⟨gb312, 2, none⟩) (Kd.R_far (p := ⟨gb312, 1, none⟩) (Kd.R_far (p := ⟨gb312, 0, none⟩) (Kd.R_types HO_316001.out BK312.out (by decide)) (fun _ hk => hk.2) (.int .i64 a1)) (fun _ hk => hk.2) (.slice Ao46 x316001_2.length co46)) (fun _ hk => hk.2) (.slice Ao47 x316002_3.length co47)) (fun _ hk => hk.1), by (with_reducible repeat (first | apply Kd.R_alloc | apply Kd.R_drewN | apply Kd.R_drew)); exact Kd.R_mono (Kd.R_far (p := ⟨gb312, 2, none⟩) (Kd.R_far (p := ⟨gb312, 1, none⟩) (Kd.R_far (p := ⟨gb312, 0, none⟩) (Kd.R_types HO_316002.out BK312.out (by decide)) (fun _ hk => hk.2) (.int .i64 a1)) (fun _ hk => hk.2) (.slice Ao46 x316001_2.length co46)) (fun _ hk => hk.2) (.slice Ao47 x316002_3.length co47)) (fun _ hk => hk.1), sqB⟩

end Go.Proofs.Ytckjobcagniieaa.PFnSignsTold
