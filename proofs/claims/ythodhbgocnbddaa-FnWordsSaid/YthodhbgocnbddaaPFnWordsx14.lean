/- What the code that one law of the given program reaches computes, function by function, each with its proof over the given translation.
Conditions: none of our own. (Laid by a program of this session, wip/xp/xp.py; some contracts are typed by hand.) -/
import Derived.Test.YthodhbgocnbddaaPFnWordsx0
import Derived.Test.YthodhbgocnbddaaPFnWordsx3
import Derived.Test.YthodhbgocnbddaaPFnWordsx12
import Derived.Test.YthodhbgocnbddaaPFnWordsx13
namespace Go.Proofs.Ythodhbgocnbddaa.PFnWords
open Go.RowKit Go.Proofs.YthodhbgocnbddaaW.PrintWords Go.Proofs.YthodhbgocnbddaaW.PrintLast Go.Proofs.YthodhbgocnbddaaW.PrintMore
attribute [local go_sem] max2_int min2_int max_two min_two max_three min_three max_four min_four   -- for this text's walks alone
set_option linter.unusedVariables false
set_option linter.unusedSimpArgs false

/-! ### impl_ShaBlock: function 44 -/
mutual
def impl_ShaBlock.j0 : Nat → List Int → ByteArray → List Int → Bool → Option (List Int)
 | 0, _, _, _, _ => none
 | k + 1, x0, x1, x5, x28 => if x28 = true then (some x5) else (if 8 ≤ 70368744177664 then (impl_ShaBlock.l0 k x1 x5 (List.replicate 8 0) x0 (x0.length : Int) 0) else (none))
def impl_ShaBlock.l0 : Nat → ByteArray → List Int → List Int → List Int → Int → Int → Option (List Int)
 | 0, _, _, _, _, _, _ => none
 | k + 1, x1, x5, x6, x31, x32, x33 => if x33 < x32 then (if 0 ≤ x33 then (if x33 < (x31.length : Int) then ((impl_in.f (rd x31 x33) 0 4294967295).bind fun t503 => (if t503 = true then (if x33 < (x6.length : Int) then (impl_ShaBlock.l0 k x1 x5 (x6.set (x33 : Int).toNat ((rd x31 x33) % 4294967296)) x31 x32 (wrap64 (x33 + 1))) else (none)) else (some x5))) else (none)) else (none)) else ((impl_rounds.f).bind fun t505 => ((impl_schedule.f k x1).bind fun t508 => (impl_ShaBlock.l1 k x5 x6 t505 t508 (t508.length : Int) 0)))
def impl_ShaBlock.l1 : Nat → List Int → List Int → List Int → List Int → Int → Int → Option (List Int)
 | 0, _, _, _, _, _, _ => none
 | k + 1, x5, x6, x9, x50, x51, x52 => if x52 < x51 then (if 0 ≤ x52 then (if x52 < (x50.length : Int) then (if 4 < (x6.length : Int) then (if 0 < (x6.length : Int) then (if 7 < (x6.length : Int) then ((impl_turn.f (rd x6 4) 6).bind fun t515 => ((impl_turn.f (rd x6 4) 11).bind fun t516 => ((impl_turn.f (rd x6 4) 25).bind fun t517 => (if 5 < (x6.length : Int) then (if 6 < (x6.length : Int) then (if x52 < (x9.length : Int) then ((impl_turn.f (rd x6 0) 2).bind fun t521 => ((impl_turn.f (rd x6 0) 13).bind fun t522 => ((impl_turn.f (rd x6 0) 22).bind fun t523 => (if 1 < (x6.length : Int) then (if 2 < (x6.length : Int) then (if 3 < (x6.length : Int) then (impl_ShaBlock.l1 k x5 (([((((((((((rd x6 7) + (Go.bits .xor .u32 (Go.bits .xor .u32 t515 t516) t517)) % 4294967296) + (Go.bits .xor .u32 (Go.bits .and .u32 (rd x6 4) (rd x6 5)) (Go.bits .and .u32 (Go.bits .xor .u32 IntKind.u32.max (rd x6 4)) (rd x6 6)))) % 4294967296) + (rd x9 x52)) % 4294967296) + (rd x50 x52)) % 4294967296) + (((Go.bits .xor .u32 (Go.bits .xor .u32 t521 t522) t523) + (Go.bits .xor .u32 (Go.bits .xor .u32 (Go.bits .and .u32 (rd x6 0) (rd x6 1)) (Go.bits .and .u32 (rd x6 0) (rd x6 2))) (Go.bits .and .u32 (rd x6 1) (rd x6 2)))) % 4294967296)) % 4294967296, rd x6 0, rd x6 1, rd x6 2, ((rd x6 3) + (((((((((rd x6 7) + (Go.bits .xor .u32 (Go.bits .xor .u32 t515 t516) t517)) % 4294967296) + (Go.bits .xor .u32 (Go.bits .and .u32 (rd x6 4) (rd x6 5)) (Go.bits .and .u32 (Go.bits .xor .u32 IntKind.u32.max (rd x6 4)) (rd x6 6)))) % 4294967296) + (rd x9 x52)) % 4294967296) + (rd x50 x52)) % 4294967296)) % 4294967296, rd x6 4, rd x6 5, rd x6 6] : List Int)) x9 x50 x51 (wrap64 (x52 + 1))) else (none)) else (none)) else (none))))) else (none)) else (none)) else (none))))) else (none)) else (none)) else (none)) else (none)) else (none)) else (impl_ShaBlock.l2 k x5 x6 (x6.length : Int) 0)
def impl_ShaBlock.l2 : Nat → List Int → List Int → Int → Int → Option (List Int)
 | 0, _, _, _, _ => none
 | k + 1, x5, x151, x152, x153 => if x153 < x152 then (if 0 ≤ x153 then (if x153 < (x151.length : Int) then (if x153 < (x5.length : Int) then (impl_ShaBlock.l2 k (x5.set (x153 : Int).toNat ((((rd x5 x153) % 4294967296) + (rd x151 x153)) % 4294967296)) x151 x152 (wrap64 (x153 + 1))) else (none)) else (none)) else (none)) else (some x5)
end
def impl_ShaBlock.f (k : Nat) (l0 : List Int) (a1 : ByteArray) : Option (List Int) := (some (([] : List Int) : List Int)).bind fun y493 => (if y493.length + l0.length < 17592186044416 then ((some (y493 ++ l0 : List Int)).bind fun y496 => (if (l0.length : Int) = 8 then (impl_ShaBlock.j0 k l0 a1 y496 ((a1.size : Int) != 64)) else (impl_ShaBlock.j0 k l0 a1 y496 true))) else (none))
theorem impl_ShaBlock.mono_l : ∀ k, (∀ y0 y1 y2 y3, LeO (impl_ShaBlock.j0 k y0 y1 y2 y3) (impl_ShaBlock.j0 (k + 1) y0 y1 y2 y3)) ∧ (∀ y0 y1 y2 y3 y4 y5, LeO (impl_ShaBlock.l0 k y0 y1 y2 y3 y4 y5) (impl_ShaBlock.l0 (k + 1) y0 y1 y2 y3 y4 y5)) ∧ (∀ y0 y1 y2 y3 y4 y5, LeO (impl_ShaBlock.l1 k y0 y1 y2 y3 y4 y5) (impl_ShaBlock.l1 (k + 1) y0 y1 y2 y3 y4 y5)) ∧ (∀ y0 y1 y2 y3, LeO (impl_ShaBlock.l2 k y0 y1 y2 y3) (impl_ShaBlock.l2 (k + 1) y0 y1 y2 y3))
 | 0 => ⟨fun _ _ _ _ r h => by simp [impl_ShaBlock.j0] at h, fun _ _ _ _ _ _ r h => by simp [impl_ShaBlock.l0] at h, fun _ _ _ _ _ _ r h => by simp [impl_ShaBlock.l1] at h, fun _ _ _ _ r h => by simp [impl_ShaBlock.l2] at h⟩
 | k + 1 => by
  obtain ⟨ih0, ih1, ih2, ih3⟩ := impl_ShaBlock.mono_l k
  refine ⟨?_, ?_, ?_, ?_⟩
  ·intro y0 y1 y2 y3
   unfold impl_ShaBlock.j0
   repeat' first
   | (with_reducible exact ih0 _ _ _ _)
   | (with_reducible exact ih1 _ _ _ _ _ _)
   | (with_reducible exact ih2 _ _ _ _ _ _)
   | (with_reducible exact ih3 _ _ _ _)
   | (with_reducible exact impl_schedule.mono _ _)
   | (with_reducible exact LeO.refl _)
   | (with_reducible exact LeO.none _)
   | (with_reducible refine LeO.ite ?_ ?_)
   | (with_reducible refine LeO.bind ?_ (fun _ => ?_))
   | exact ih0 _ _ _ _
   | exact ih1 _ _ _ _ _ _
   | exact ih2 _ _ _ _ _ _
   | exact ih3 _ _ _ _
   | exact impl_schedule.mono _ _
   | exact LeO.none _
   | refine LeO.ite ?_ ?_
   | refine LeO.bind ?_ (fun _ => ?_)
  ·intro y0 y1 y2 y3 y4 y5
   unfold impl_ShaBlock.l0
   repeat' first
   | (with_reducible exact ih0 _ _ _ _)
   | (with_reducible exact ih1 _ _ _ _ _ _)
   | (with_reducible exact ih2 _ _ _ _ _ _)
   | (with_reducible exact ih3 _ _ _ _)
   | (with_reducible exact impl_schedule.mono _ _)
   | (with_reducible exact LeO.refl _)
   | (with_reducible exact LeO.none _)
   | (with_reducible refine LeO.ite ?_ ?_)
   | (with_reducible refine LeO.bind ?_ (fun _ => ?_))
   | exact ih0 _ _ _ _
   | exact ih1 _ _ _ _ _ _
   | exact ih2 _ _ _ _ _ _
   | exact ih3 _ _ _ _
   | exact impl_schedule.mono _ _
   | exact LeO.none _
   | refine LeO.ite ?_ ?_
   | refine LeO.bind ?_ (fun _ => ?_)
  ·intro y0 y1 y2 y3 y4 y5
   unfold impl_ShaBlock.l1
   repeat' first
   | (with_reducible exact ih0 _ _ _ _)
   | (with_reducible exact ih1 _ _ _ _ _ _)
   | (with_reducible exact ih2 _ _ _ _ _ _)
   | (with_reducible exact ih3 _ _ _ _)
   | (with_reducible exact impl_schedule.mono _ _)
   | (with_reducible exact LeO.refl _)
   | (with_reducible exact LeO.none _)
   | (with_reducible refine LeO.ite ?_ ?_)
   | (with_reducible refine LeO.bind ?_ (fun _ => ?_))
   | exact ih0 _ _ _ _
   | exact ih1 _ _ _ _ _ _
   | exact ih2 _ _ _ _ _ _
   | exact ih3 _ _ _ _
   | exact impl_schedule.mono _ _
   | exact LeO.none _
   | refine LeO.ite ?_ ?_
   | refine LeO.bind ?_ (fun _ => ?_)
  ·intro y0 y1 y2 y3
   unfold impl_ShaBlock.l2
   repeat' first
   | (with_reducible exact ih0 _ _ _ _)
   | (with_reducible exact ih1 _ _ _ _ _ _)
   | (with_reducible exact ih2 _ _ _ _ _ _)
   | (with_reducible exact ih3 _ _ _ _)
   | (with_reducible exact impl_schedule.mono _ _)
   | (with_reducible exact LeO.refl _)
   | (with_reducible exact LeO.none _)
   | (with_reducible refine LeO.ite ?_ ?_)
   | (with_reducible refine LeO.bind ?_ (fun _ => ?_))
   | exact ih0 _ _ _ _
   | exact ih1 _ _ _ _ _ _
   | exact ih2 _ _ _ _ _ _
   | exact ih3 _ _ _ _
   | exact impl_schedule.mono _ _
   | exact LeO.none _
   | refine LeO.ite ?_ ?_
   | refine LeO.bind ?_ (fun _ => ?_)
theorem impl_ShaBlock.mono : ∀ a0 a1 k, LeO (impl_ShaBlock.f k a0 a1) (impl_ShaBlock.f (k + 1) a0 a1) := by
 intro a0 a1 k
 obtain ⟨ih0, ih1, ih2, ih3⟩ := impl_ShaBlock.mono_l k
 unfold impl_ShaBlock.f
 repeat' first
   | (with_reducible exact ih0 _ _ _ _)
   | (with_reducible exact ih1 _ _ _ _ _ _)
   | (with_reducible exact ih2 _ _ _ _ _ _)
   | (with_reducible exact ih3 _ _ _ _)
   | (with_reducible exact impl_schedule.mono _ _)
   | (with_reducible exact LeO.refl _)
   | (with_reducible exact LeO.none _)
   | (with_reducible refine LeO.ite ?_ ?_)
   | (with_reducible refine LeO.bind ?_ (fun _ => ?_))
   | exact ih0 _ _ _ _
   | exact ih1 _ _ _ _ _ _
   | exact ih2 _ _ _ _ _ _
   | exact ih3 _ _ _ _
   | exact impl_schedule.mono _ _
   | exact LeO.none _
   | refine LeO.ite ?_ ?_
   | refine LeO.bind ?_ (fun _ => ?_)
def impl_ShaBlock.T16 : Bool × List (List Nat × List Nat) := (true, [([], []), ([0], [0]), ([1], [1]), ([], []), ([3], [3]), ([4], [4]), ([2, 0, 1, 2], [2]), ([5, 6, 0, 1, 2, 3, 4, 5, 6], [5])])
def impl_ShaBlock.B16 : List Nat := [0, 1, 3, 0, 8, 24, 7, 127]
theorem impl_ShaBlock.tab16 : rtab .any (opsOf Try.f44 16) = impl_ShaBlock.T16 := by kernel_rfl
theorem impl_ShaBlock.bits16 : waitsOk impl_ShaBlock.T16.2 impl_ShaBlock.B16 = true := by kernel_rfl
def impl_ShaBlock.T17 : Bool × List (List Nat × List Nat) := (true, [([], []), ([0], [0]), ([1], [1]), ([], []), ([3], [3]), ([], []), ([5, 4], [5]), ([4, 6], [4, 6]), ([], []), ([8, 6], [8]), ([7, 9], [7, 9]), ([2, 10], [2, 10]), ([], []), ([], []), ([13], [13]), ([14], [14]), ([12, 15], [12, 15]), ([], []), ([17], [17]), ([], []), ([19], [19]), ([20], [20]), ([18, 21], [18, 21]), ([16, 22], [16, 22]), ([11, 23], [11, 23]), ([], []), ([], []), ([25, 26], [25, 26]), ([27], [27]), ([24, 28], [24, 28]), ([], []), ([29, 30], [29, 30]), ([31, 9, 0, 1, 2, 3, 4, 5, 6, 7, 8, 9, 10, 11, 12, 13, 14, 15, 16, 17, 18, 19, 20, 21, 22, 23, 24, 25, 26, 27, 28, 29, 30, 31], [31])])
def impl_ShaBlock.B17 : List Nat := [0, 1, 3, 0, 8, 0, 56, 120, 0, 376, 1016, 2047, 0, 0, 8192, 24576, 61440, 0, 131072, 0, 524288, 1572864, 4063232, 8384512, 16777215, 0, 0, 100663296, 234881024, 536870911, 0, 2147483647, 4294967295]
theorem impl_ShaBlock.tab17 : rtab .any (opsOf Try.f44 17) = impl_ShaBlock.T17 := by kernel_rfl
theorem impl_ShaBlock.bits17 : waitsOk impl_ShaBlock.T17.2 impl_ShaBlock.B17 = true := by kernel_rfl
def impl_ShaBlock.T18 : Bool × List (List Nat × List Nat) := (true, [([], []), ([0], [0]), ([], []), ([2, 1], [2]), ([1, 3], [1, 3]), ([], []), ([5, 3], [5]), ([4, 6], [4, 6]), ([], []), ([], []), ([9], [9]), ([10], [10]), ([8, 11], [8, 11]), ([], []), ([], []), ([14], [14]), ([15], [15]), ([13, 16], [13, 16]), ([12, 17], [12, 17]), ([], []), ([19], [19]), ([20], [20]), ([], []), ([22], [22]), ([23], [23]), ([21, 24], [21, 24]), ([18, 25], [18, 25]), ([7, 26], [7, 26]), ([27, 6, 0, 1, 2, 3, 4, 5, 6, 7, 8, 9, 10, 11, 12, 13, 14, 15, 16, 17, 18, 19, 20, 21, 22, 23, 24, 25, 26, 27], [27])])
def impl_ShaBlock.B18 : List Nat := [0, 1, 0, 7, 15, 0, 47, 127, 0, 0, 512, 1536, 3840, 0, 0, 16384, 49152, 122880, 261888, 0, 524288, 1572864, 0, 4194304, 12582912, 33030144, 67108608, 134217727, 268435455]
theorem impl_ShaBlock.tab18 : rtab .any (opsOf Try.f44 18) = impl_ShaBlock.T18 := by kernel_rfl
theorem impl_ShaBlock.bits18 : waitsOk impl_ShaBlock.T18.2 impl_ShaBlock.B18 = true := by kernel_rfl
def impl_ShaBlock.T19 : Bool × List (List Nat × List Nat) := (true, [([], []), ([], []), ([0, 1], [0, 1]), ([], []), ([3], [3]), ([4], [4]), ([], []), ([6], [6]), ([7], [7]), ([], []), ([9], [9]), ([10], [10]), ([], []), ([12], [12]), ([13], [13]), ([], []), ([14, 15], [14, 15]), ([], []), ([17], [17]), ([18], [18]), ([], []), ([20], [20]), ([21], [21]), ([], []), ([23], [23]), ([24], [24]), ([2, 5, 8, 11, 16, 19, 22, 25], [2, 5, 8, 11, 16, 19, 22, 25]), ([26, 0, 1, 2, 3, 4, 5, 6, 7, 8, 9, 10, 11, 12, 13, 14, 15, 16, 17, 18, 19, 20, 21, 22, 23, 24, 25, 26], [3, 6, 9, 12, 17, 20, 23, 26])])
def impl_ShaBlock.B19 : List Nat := [0, 0, 3, 0, 8, 24, 0, 64, 192, 0, 512, 1536, 0, 4096, 12288, 0, 61440, 0, 131072, 393216, 0, 1048576, 3145728, 0, 8388608, 25165824, 67108863, 134217727]
theorem impl_ShaBlock.tab19 : rtab .any (opsOf Try.f44 19) = impl_ShaBlock.T19 := by kernel_rfl
theorem impl_ShaBlock.bits19 : waitsOk impl_ShaBlock.T19.2 impl_ShaBlock.B19 = true := by kernel_rfl
set_option maxHeartbeats 8000000 in
set_option maxRecDepth 100000 in
theorem impl_ShaBlock.calls (k : Nat) (A0 : Option Addr) (c0 : Nat) (l0 : List Int) (a1 : ByteArray) (r : List Int) (w : World) (hr0 : Kd.C (Kd.int .i64) w A0 l0.length l0) (hc0 : l0.length ≤ c0) (h : impl_ShaBlock.f k l0 a1 = some r) :
  Calls Try.prog 44 #[.slice A0 l0.length c0, .string a1] w fun e w' => ∃ v0_ : Value, e = .returned (v0_) ∧ Kd.R (Kd.int .i64) 3 w' w.heap.size (fun _ => True) v0_ r ∧ Below w.heap.size w w' := by
 have HR0 := Aside0.mk hr0
 have HC0 := Aside0.mk hc0
 clear hr0 hc0
 have HB := Aside0.mk (Below.refl w.heap.size w)
 have H : ((some (([] : List Int) : List Int)).bind fun y493 => (if y493.length + l0.length < 17592186044416 then ((some (y493 ++ l0 : List Int)).bind fun y496 => (if (l0.length : Int) = 8 then (impl_ShaBlock.j0 k l0 a1 y496 ((a1.size : Int) != 64)) else (impl_ShaBlock.j0 k l0 a1 y496 true))) else (none))) = some r := h
 clear h
 obtain ⟨y493, hy493⟩ : ∃ y_ : List Int, y_ = (([] : List Int)) := ⟨_, rfl⟩
 replace H : (if y493.length + l0.length < 17592186044416 then ((some (y493 ++ l0 : List Int)).bind fun y496 => (if (l0.length : Int) = 8 then (impl_ShaBlock.j0 k l0 a1 y496 ((a1.size : Int) != 64)) else (impl_ShaBlock.j0 k l0 a1 y496 true))) else (none)) = some r := by first | (rw [hy493]; with_reducible exact H) | (have H2_ := (Option.bind_some _ _).symm.trans H; rw [hy493]; with_reducible exact H2_) | (have H2_ := (Option.bind_some _ _).symm.trans H; with_reducible exact H2_) | with_reducible exact H | (rw [hy493]; exact H) | exact H
 have Ny493 := Aside0.mk hy493
 clear hy493
 by_cases c3 : y493.length + l0.length < 17592186044416
 ·rw [if_pos c3] at H
  have LMc3 := Aside0.mk c3
  clear c3
  obtain ⟨y496, hy496⟩ : ∃ y_ : List Int, y_ = (y493 ++ l0) := ⟨_, rfl⟩
  replace H : (if (l0.length : Int) = 8 then (impl_ShaBlock.j0 k l0 a1 y496 ((a1.size : Int) != 64)) else (impl_ShaBlock.j0 k l0 a1 y496 true)) = some r := by first | (rw [hy496]; with_reducible exact H) | (have H2_ := (Option.bind_some _ _).symm.trans H; rw [hy496]; with_reducible exact H2_) | (have H2_ := (Option.bind_some _ _).symm.trans H; with_reducible exact H2_) | with_reducible exact H | (rw [hy496]; exact H) | exact H
  have Ny496 := Aside0.mk hy496
  clear hy496
  have HC4 := Aside0.mk H
  clear H
  go_enter Try.func44, Try.ntmps44
  go_upto_region 2 with (first | ((with_reducible refine gate_dst (N := 18) rfl ?_); (try (refine gate_guard (by rfl) ?_; dsimp only)); refine Kd.R_lit (Kd.int .i64) _ 3 ?hg (N := 18) ?hd (xs := ([] : List Int)) (inner := []) (ok := fun _ => True) (okp := fun _ => True) ?hr ?hp (fun _ hk => hk) trivial (Below.refl _ _) (Nat.le_refl _) (by simp) ?_; (case hd => rfl); (case hg => rfl); (case hr => first | (go_simp; done) | (go_simp; rfl) | (go_simp; simp only [Go.IntKind.wrap_u32, Int.emod_add_emod, Int.add_emod_emod]; done) | (go_simp; simp only [Go.IntKind.wrap_u32, Int.emod_add_emod, Int.add_emod_emod]; rfl)); (case hp => exact (Reps.none _ _)); intro v494 w5 ho6 hb hg_ hnew_; clear hg_ hnew_; (first | rw [← Ny493.out] at ho6 | (simp only [Int.reduceToNat] at ho6; rw [← Ny493.out] at ho6)); have HO495 := Aside0.mk (Kd.R_lower ho6 (below_size (sqB))); replace HB := sqS hb; clear hb ho6) | ((with_reducible refine gate_builtin (b := .append) (xs := #[.tmp 18, .tmp 19]) rfl ?_); (try (refine gate_guard (by rfl) ?_; dsimp only)); at_builtin; refine Kd.R_append_rows (Kd.int .i64) (w0 := w) w.heap.size rfl (.tmp 18) (.tmp 19) 43 3 (.int .i64 0) 8 rfl Try.underlying43 info3 rfl (by decide) (by omega) v494 y493 l0 _ _ _ (fun _ => True) (fun _ => False) rfl rfl ?aO ?aR (fun _ _ h => h) (fun _ h => h.elim) ?aF ?aB ?aS ?aL ?_; (case aR => repeat (first | exact (Kd.C_below HR0.out HB.out) | (with_reducible refine Kd.C_alloc ?_ _) | (with_reducible refine Kd.C_drewN ?_ _) | (with_reducible refine Kd.C_drew ?_))); (case aB => exact (sqB)); (case aF => exact (fun _ _ => trivial)); (case aO => exact (sqR HO495)); (case aS => exact (below_size (sqB))); (case aL => have := LMc3.out; omega); intro v497 w7 ho hb hg hat; rw [← Ny496.out] at ho; have n0_ := Aside0.mk (hb); have n1_ := Aside0.mk (ho); clear HB; clear HO495; have HB := n0_; have HO498 := n1_; clear n0_ n1_; clear ho hb hg hat))
  (try simp only [Act.put, List.setIfInBounds_toArray, List.set_cons_zero, List.set_cons_succ])
  go_cut [28] (fun v28 wc => ∃ (kq : Nat) (x28_3 : Bool), v28 = .bool x28_3 ∧ Aside0 (impl_ShaBlock.j0 kq l0 a1 y496 x28_3 = some r) ∧ Aside0 (kq ≤ k) ∧ Aside0 (Kd.R (Kd.int .i64) 3 wc w.heap.size (fun _ => True) v497 y496) ∧ Aside0 (Below w.heap.size w wc))
  case first =>
   have H := HC4.out
   clear HC4
   by_cases c8 : (l0.length : Int) = 8
   ·rw [if_pos c8] at H
    have c8b0 : ((l0.length : Int) == 8) = true := beq_iff_eq.mpr c8
    have c8b1 : ((l0.length : Int) != 8) = false := bne_eq_false_iff_eq.mpr c8
    clear c8
    (first | rw [c8b0] | (simp only [i64_w, i32_w]; rw [c8b0]) | skip)
    have H' := Aside0.mk H
    clear H
    go_wp2
    go_meet
    case rel => exact ⟨_, (((a1.size : Int) != 64)), (by first | rfl | (simp; done) | (simp [*]; done)), H', ⟨by first | omega | exact Nat.le_refl _⟩, ⟨sqR HO498⟩, ⟨sqB⟩⟩
   ·rw [if_neg c8] at H
    have c8b0 : ((l0.length : Int) == 8) = false := beq_eq_false_iff_ne.mpr c8
    have c8b1 : ((l0.length : Int) != 8) = true := bne_iff_ne.mpr c8
    (first | rw [c8b0] | (simp only [i64_w, i32_w]; rw [c8b0]) | skip)
    have H' := Aside0.mk H
    clear H
    go_wp2
    go_meet
    case rel => exact ⟨_, (true), (by first | rfl | (simp; done) | (simp [*]; done)), H', ⟨by first | omega | exact Nat.le_refl _⟩, ⟨sqR HO498⟩, ⟨sqB⟩⟩
  case rest =>
   clear HC4
   try clear p2
   try clear c3
   try clear c4
   try clear c8
   try clear c8b0
   try clear c8b1
   obtain ⟨kq, x28_3, rfl, HA, HJ3, HO_5, HB⟩ := hcut
   cases kq with
   | zero => exact absurd HA.out (by simp [impl_ShaBlock.j0])
   | succ kj3 =>
    have H := HA.out
    clear HA
    simp only [impl_ShaBlock.j0] at H
    by_cases c9 : x28_3 = true
    ·subst c9
     rw [if_pos rfl] at H
     obtain rfl := Option.some.inj H
     go_wp2
     go_ret
     exact ⟨_, sqE, sqR HO_5, sqB⟩
    ·replace c9 := Bool.eq_false_iff.mpr c9
     subst c9
     rw [if_neg (show ¬ (false = true) by decide)] at H
     by_cases c10 : 8 ≤ 70368744177664
     ·rw [if_pos c10] at H
      have c10b0 := eq_true c10
      have c10b1 : decide (8 ≤ 70368744177664) = true := decide_eq_true c10
      clear c10
      obtain ⟨y499, hy499⟩ : ∃ y_ : List Int, y_ = (List.replicate 8 0) := ⟨_, rfl⟩
      replace H : (impl_ShaBlock.l0 kj3 a1 y496 y499 l0 (l0.length : Int) 0) = some r := by first | (rw [hy499]; with_reducible exact H) | (have H2_ := (Option.bind_some _ _).symm.trans H; rw [hy499]; with_reducible exact H2_) | (have H2_ := (Option.bind_some _ _).symm.trans H; with_reducible exact H2_) | with_reducible exact H | (rw [hy499]; exact H) | exact H
      have Ny499 := Aside0.mk hy499
      clear hy499
      have H' := Aside0.mk H
      clear H
      go_wp2_with (first | ((with_reducible refine gate_dst (N := 30) rfl ?_); (try (refine gate_guard (by rfl) ?_; dsimp only)); refine Kd.R_make (Kd.int .u32) _ 63 rfl (N := 30) rfl 71 _ _ rfl 8 rfl rfl Try.underlying71 (.int .u32 0) 4 info63 rfl (by decide) (by omega) 0 (ok := fun _ => True) (okp := fun _ => True) rfl (fun _ hk => hk) trivial (by omega) (by omega) (Below.refl _ _) (Nat.le_refl _) ?_; intro v500 w11 ho12 hb hg_ hnew_; clear hg_ hnew_; (first | rw [← Ny499.out] at ho12 | (simp only [Int.reduceToNat] at ho12; rw [← Ny499.out] at ho12)); replace HO_5 := Aside0.mk (Kd.R_below (sqR HO_5) hb); have HO501 := Aside0.mk (Kd.R_lower ho12 (below_size (sqB))); replace HB := sqS hb; clear hb ho12))
      go_loopg [33] kj3 (fun kq v33 w' => ∃ (x6_2 : List Int) (x33_2 : Int), v33 = .int .i64 x33_2 ∧ Aside0 (impl_ShaBlock.l0 kq a1 y496 x6_2 l0 (l0.length : Int) x33_2 = some r) ∧ Aside0 (kq ≤ kj3) ∧ Aside0 (Kd.R (Kd.int .i64) 3 w' w.heap.size (fun _ => True) v497 y496) ∧ Aside0 (Kd.R (Kd.int .u32) 63 w' w.heap.size (fun _ => True) v500 x6_2) ∧ Aside0 (Below w.heap.size w w'))
      case atStart => exact ⟨(y499), (0), (by first | rfl | (simp; done) | (simp [*]; done)), H', ⟨Nat.le_refl _⟩, ⟨sqR HO_5⟩, ⟨sqR HO501⟩, ⟨sqB⟩⟩
      case round =>
       clear H'
       try clear c1
       try clear p2
       try clear c3
       try clear c4
       try clear c8
       try clear c8b0
       try clear c8b1
       try clear c9
       try clear c10
       try clear c10b0
       try clear c10b1
       try clear p2
       obtain ⟨x6_2, x33_2, rfl, HA, HK2, HO_5, HO_6, HB⟩ := hrel
       cases gk with
       | zero => exact absurd HA.out (by simp [impl_ShaBlock.l0])
       | succ k2 =>
        have H := HA.out
        clear HA
        simp only [impl_ShaBlock.l0] at H
        by_cases c13 : x33_2 < (l0.length : Int)
        ·rw [if_pos c13] at H
         have c13b0 : decide (x33_2 < (l0.length : Int)) = true := decide_eq_true c13
         clear c13
         by_cases c14 : 0 ≤ x33_2
         ·rw [if_pos c14] at H
          have c14b0 : decide (0 ≤ x33_2) = true := decide_eq_true c14
          clear c14
          by_cases c15 : x33_2 < (l0.length : Int)
          ·rw [if_pos c15] at H
           have c15b0 : decide (x33_2 < (l0.length : Int)) = true := decide_eq_true c15
           clear c15
           replace H := Option.bind_eq_some_iff.mp H
           obtain ⟨t503, A160, H⟩ := H
           try dsimp only at H
           have A16 := Aside0.mk A160
           clear A160
           by_cases c17 : t503 = true
           ·subst c17
            rw [if_pos rfl] at H
            by_cases c18 : x33_2 < (x6_2.length : Int)
            ·rw [if_pos c18] at H
             have c18b0 : decide (x33_2 < (x6_2.length : Int)) = true := decide_eq_true c18
             clear c18
             obtain ⟨y504, hy504⟩ : ∃ y_ : List Int, y_ = (x6_2.set (x33_2 : Int).toNat ((rd l0 x33_2) % 4294967296)) := ⟨_, rfl⟩
             replace H : (impl_ShaBlock.l0 k2 a1 y496 y504 l0 (l0.length : Int) (wrap64 (x33_2 + 1))) = some r := by first | (rw [hy504]; with_reducible exact H) | (have H2_ := (Option.bind_some _ _).symm.trans H; rw [hy504]; with_reducible exact H2_) | (have H2_ := (Option.bind_some _ _).symm.trans H; with_reducible exact H2_) | with_reducible exact H | (rw [hy504]; exact H) | exact H
             have Ny504 := Aside0.mk hy504
             clear hy504
             have H' := Aside0.mk H
             clear H
             have p502 : 0 ≤ (x33_2 : Int) := sqD
             have q502 : x33_2 < (l0.length : Int) := sqD
             obtain ⟨ad502, e502, hx502_0⟩ := Kd.at_int HR0.out x33_2 p502 q502
             cases e502
             replace hx502_0 := sqH HB hx502_0
             replace p502 := eq_true p502
             replace q502 := eq_true q502
             go_wp2_with (first | ((with_reducible refine gate_callee (f := 32) rfl ?_); refine goesL_ (some 39) rfl rfl Try.func32 (by kernel_rfl) rfl #[.int .i64 (rd l0 x33_2), .int .i64 0, .int .i64 4294967295] rfl sqA ?_; (with_reducible refine (impl_in.calls (rd l0 x33_2) 0 4294967295 true _ A16.out).mono ?_); rintro e w' ⟨rfl, ⟨nd, rfl⟩⟩; refine ⟨_, rfl, ?_⟩; (try (rw [drewN_self wr]; generalize hq_ : World.drewN wr _ = wr; have n0_ : Aside0 (Kd.R (Kd.int .i64) 3 wr w.heap.size (fun _ => True) v497 y496) := ⟨by rw [← hq_]; exact (sqR HO_5)⟩; have n1_ : Aside0 (Kd.R (Kd.int .u32) 63 wr w.heap.size (fun _ => True) v500 x6_2) := ⟨by rw [← hq_]; exact (sqR HO_6)⟩; have n2_ : Aside0 (Below w.heap.size w wr) := ⟨by rw [← hq_]; exact (sqB)⟩; clear HO_5 HO_6 HB hq_; have HO_5 := n0_; have HO_6 := n1_; have HB := n2_; clear n0_ n1_ n2_)); have p19 : 0 ≤ (x33_2 : Int) := sqD; have q19 : (x33_2 : Int) < ((x6_2.length : Int) : Int) := sqD; obtain ⟨go19, co19, eo19, gb19, gl19, cl19, HG19⟩ := Kd.R_form HO_6.out (by omega); (first | cases eo19 | (injection eo19 with ea_ en_ ec_; (first | subst ea_ | (injection ea_ with ea_; subst ea_)); subst ec_; clear en_)); have GB19 := Aside0.mk gb19; have GG19 := Aside0.mk HG19; clear gb19 gl19 HG19; obtain ⟨hx19_0, hf19_0⟩ := Kd.R_celln 0 HO_6.out (x33_2 : Int) p19 q19; replace p19 := eq_true p19; replace q19 := eq_true q19; obtain ⟨hy20_, hz20_⟩ := Kd.R_celln 0 HO_6.out (x33_2 : Int) (sqD) (sqD); have HP20 := Kd.R_putg HO_6.out (x33_2 : Int) ((rd l0 x33_2) % 4294967296)) | ((with_reducible refine gate_store (t := 63) (p := 46) rfl ?_); refine store_event (t := 63) (p := 46) (v := ?vo_w21) (w1 := (wr.setCell ⟨go19, (x33_2 : Int).toNat, none⟩ (.int .u32 ((rd l0 x33_2) % 4294967296)))) ?hg ?ho ?hn ?hr ?_; (case ho => rfl); (case hg => rfl); (case hn => rfl); (case hr => first | (go_simp; done) | (go_simp; rfl) | (go_simp; simp only [Go.IntKind.wrap_u32, Int.emod_add_emod, Int.add_emod_emod]; done) | (go_simp; simp only [Go.IntKind.wrap_u32, Int.emod_add_emod, Int.add_emod_emod]; rfl)); intro w21 hw; have hg : wr.grownBy w21 (some go19) := (by rw [hw]; exact HP20.2); have hp_ : Kd.R (Kd.int .u32) 63 w21 w.heap.size (fun _ => True) (.slice (some ⟨go19, 0, none⟩) x6_2.length co19) y504 := (by rw [hw, Ny504.out]; exact HP20.1); clear HP20; replace HO_5 := Aside0.mk (Kd.R_over' (v := (.slice (some ⟨go19, 0, none⟩) x6_2.length co19)) (sqR HO_5) (Kd.R_typed HO_6.out) (by decide) hg); replace HO_6 := Aside0.mk (hp_); replace HB := Aside0.mk ((by rw [hw]; exact below_set (HB.out) GB19.out : Below w.heap.size w w21)); clear hg hw hp_))
             go_roundg k2
             case measure => have := HJ3.out; have := HK2.out; omega
             case rel => exact ⟨(y504), (wrap64 (x33_2 + 1)), (by first | rfl | (simp; done) | (simp [*]; done)), H', ⟨by have := HJ3.out; have := HK2.out; omega⟩, ⟨sqR HO_5⟩, ⟨sqR HO_6⟩, ⟨sqB⟩⟩
            ·rw [if_neg c18] at H
             exact absurd H (by simp)
           ·replace c17 := Bool.eq_false_iff.mpr c17
            subst c17
            rw [if_neg (show ¬ (false = true) by decide)] at H
            obtain rfl := Option.some.inj H
            have p502 : 0 ≤ (x33_2 : Int) := sqD
            have q502 : x33_2 < (l0.length : Int) := sqD
            obtain ⟨ad502, e502, hx502_0⟩ := Kd.at_int HR0.out x33_2 p502 q502
            cases e502
            replace hx502_0 := sqH HB hx502_0
            replace p502 := eq_true p502
            replace q502 := eq_true q502
            go_wp2_with (first | ((with_reducible refine gate_callee (f := 32) rfl ?_); refine goesL_ (some 39) rfl rfl Try.func32 (by kernel_rfl) rfl #[.int .i64 (rd l0 x33_2), .int .i64 0, .int .i64 4294967295] rfl sqA ?_; (with_reducible refine (impl_in.calls (rd l0 x33_2) 0 4294967295 false _ A16.out).mono ?_); rintro e w' ⟨rfl, ⟨nd, rfl⟩⟩; refine ⟨_, rfl, ?_⟩))
            go_ret
            exact ⟨_, sqE, sqR HO_5, sqB⟩
          ·rw [if_neg c15] at H
           exact absurd H (by simp)
         ·rw [if_neg c14] at H
          exact absurd H (by simp)
        ·rw [if_neg c13] at H
         have c13b0 : decide (x33_2 < (l0.length : Int)) = false := decide_eq_false c13
         clear c13
         replace H := Option.bind_eq_some_iff.mp H
         obtain ⟨t505, A220, H⟩ := H
         try dsimp only at H
         have A22 := Aside0.mk A220
         clear A220
         replace H := Option.bind_eq_some_iff.mp H
         obtain ⟨t508, A230, H⟩ := H
         try dsimp only at H
         have A23 := Aside0.mk A230
         clear A230
         have H' := Aside0.mk H
         clear H
         go_wp2_with (first | ((with_reducible refine gate_callee (f := 51) rfl ?_); refine goesL_ (some 48) rfl rfl Try.func51 (by kernel_rfl) rfl #[] rfl sqA ?_; (with_reducible refine (impl_rounds.calls  t505 _ A22.out).mono ?_); rintro e w24 ⟨v506, rfl, ho0, hb⟩; refine ⟨_, rfl, ?_⟩; replace HO_5 := Aside0.mk (Kd.R_below (sqR HO_5) hb); have HO507 := Aside0.mk (Kd.R_lower (Kd.R_new' ho0 (Kd.R_lt (sqR HO_6))) (below_size (sqB))); replace HO_6 := Aside0.mk (Kd.R_elder' (sqR HO_6) (Kd.R_base ho0) hb); replace HB := sqS hb; (try clear hb); (try clear hb2); (try clear hk); (try clear hi); (try clear ho0)) | ((with_reducible refine gate_callee (f := 52) rfl ?_); refine goesL_ (some 50) rfl rfl Try.func52 (by kernel_rfl) rfl #[.string a1] rfl sqA ?_; (with_reducible refine (impl_schedule.calls k2 a1 t508 _ A23.out).mono ?_); rintro e w25 ⟨v509, rfl, ho0, hb⟩; refine ⟨_, rfl, ?_⟩; replace HO_5 := Aside0.mk (Kd.R_below (sqR HO_5) hb); have HO510 := Aside0.mk (Kd.R_lower (Kd.R_new' (Kd.R_new' ho0 (Kd.R_lt (sqR HO_6))) (Kd.R_lt (sqR HO507))) (below_size (sqB))); replace HO_6 := Aside0.mk (Kd.R_elder' (sqR HO_6) (Kd.R_base ho0) hb); replace HO507 := Aside0.mk (Kd.R_elder' (sqR HO507) (Kd.R_base ho0) hb); replace HB := sqS hb; (try clear hb); (try clear hb2); (try clear hk); (try clear hi); (try clear ho0); obtain ⟨Ao26, co26, eo26⟩ := Kd.R_slice HO510.out; subst eo26))
         go_loopg [6, 52] k2 (fun kq v6 v52 w' => ∃ (x6_3 : List Int) (x52_3 : Int), v52 = .int .i64 x52_3 ∧ Aside0 (impl_ShaBlock.l1 kq y496 x6_3 t505 t508 (t508.length : Int) x52_3 = some r) ∧ Aside0 (kq ≤ k2) ∧ Aside0 (Kd.R (Kd.int .i64) 3 w' w.heap.size (fun _ => True) v497 y496) ∧ Aside0 (Kd.R (Kd.int .u32) 63 w' w.heap.size (fun k_ => some k_ ≠ (v506 : Value).ownBlock ∧ some k_ ≠ ((.slice Ao26 t508.length co26) : Value).ownBlock) v6 x6_3) ∧ Aside0 (Kd.R (Kd.int .u32) 63 w' w.heap.size (fun k_ => some k_ ≠ (v6 : Value).ownBlock ∧ some k_ ≠ ((.slice Ao26 t508.length co26) : Value).ownBlock) v506 t505) ∧ Aside0 (Kd.R (Kd.int .u32) 63 w' w.heap.size (fun k_ => some k_ ≠ (v6 : Value).ownBlock ∧ some k_ ≠ (v506 : Value).ownBlock) (.slice Ao26 t508.length co26) t508) ∧ Aside0 (Below w.heap.size w w'))
         case atStart => exact ⟨(x6_2), (0), (by first | rfl | (simp; done) | (simp [*]; done)), H', ⟨Nat.le_refl _⟩, ⟨sqR HO_5⟩, ⟨by (with_reducible repeat (first | apply Kd.R_alloc | apply Kd.R_drewN | apply Kd.R_drew)); exact Kd.R_mono HO_6.out (fun _ hk => by (refine ⟨?_, ?_⟩ <;> first | exact hk | trivial | exact hk.1 | exact hk.2 | exact hk.1.1 | exact hk.1.2 | exact hk.2.1 | exact hk.2.2 | exact hk.1.1.1 | exact hk.1.1.2 | exact hk.1.2.1 | exact hk.1.2.2))⟩, ⟨by (with_reducible repeat (first | apply Kd.R_alloc | apply Kd.R_drewN | apply Kd.R_drew)); exact Kd.R_mono HO507.out (fun _ hk => by (refine ⟨?_, ?_⟩ <;> first | exact hk | trivial | exact hk.1 | exact hk.2 | exact hk.1.1 | exact hk.1.2 | exact hk.2.1 | exact hk.2.2 | exact hk.1.1.1 | exact hk.1.1.2 | exact hk.1.2.1 | exact hk.1.2.2))⟩, ⟨by (with_reducible repeat (first | apply Kd.R_alloc | apply Kd.R_drewN | apply Kd.R_drew)); exact Kd.R_mono HO510.out (fun _ hk => by (refine ⟨?_, ?_⟩ <;> first | exact hk | trivial | exact hk.1 | exact hk.2 | exact hk.1.1 | exact hk.1.2 | exact hk.2.1 | exact hk.2.2 | exact hk.1.1.1 | exact hk.1.1.2 | exact hk.1.2.1 | exact hk.1.2.2))⟩, ⟨sqB⟩⟩
         case round =>
          clear H'
          try clear c1
          try clear p1
          try clear q1
          try clear hx1
          try clear p2
          try clear c3
          try clear c4
          try clear c5
          try clear p5
          try clear q5
          try clear hx5
          try clear p6
          try clear c8
          try clear c8b0
          try clear c8b1
          try clear c9
          try clear c10
          try clear c10b0
          try clear c10b1
          try clear c13
          try clear c13b0
          try clear c14
          try clear c14b0
          try clear c15
          try clear c15b0
          try clear c17
          try clear c18
          try clear c18b0
          try clear p19
          try clear q19
          try clear hx19
          try clear hf19
          try clear hx19_0
          try clear hx502_0
          try clear p19
          try clear p2
          try clear p502
          try clear q19
          try clear q502
          obtain ⟨x6_3, x52_3, rfl, HA, HK3, HO_5, HO_6, HO_9, HO_50, HB⟩ := hrel
          cases gk with
          | zero => exact absurd HA.out (by simp [impl_ShaBlock.l1])
          | succ k3 =>
           have H := HA.out
           clear HA
           simp only [impl_ShaBlock.l1] at H
           by_cases c27 : x52_3 < (t508.length : Int)
           ·rw [if_pos c27] at H
            have c27b0 : decide (x52_3 < (t508.length : Int)) = true := decide_eq_true c27
            clear c27
            by_cases c28 : 0 ≤ x52_3
            ·rw [if_pos c28] at H
             have c28b0 : decide (0 ≤ x52_3) = true := decide_eq_true c28
             clear c28
             by_cases c29 : x52_3 < (t508.length : Int)
             ·rw [if_pos c29] at H
              have c29b0 : decide (x52_3 < (t508.length : Int)) = true := decide_eq_true c29
              clear c29
              by_cases c30 : 4 < (x6_3.length : Int)
              ·rw [if_pos c30] at H
               have c30b0 : decide (4 < (x6_3.length : Int)) = true := decide_eq_true c30
               have c30b1 : decide (4 < x6_3.length) = true := decide_eq_true (by omega)
               clear c30
               by_cases c31 : 0 < (x6_3.length : Int)
               ·rw [if_pos c31] at H
                have c31b0 : decide (0 < (x6_3.length : Int)) = true := decide_eq_true c31
                have c31b1 : decide (0 < x6_3.length) = true := decide_eq_true (by omega)
                clear c31
                by_cases c32 : 7 < (x6_3.length : Int)
                ·rw [if_pos c32] at H
                 have c32b0 : decide (7 < (x6_3.length : Int)) = true := decide_eq_true c32
                 have c32b1 : decide (7 < x6_3.length) = true := decide_eq_true (by omega)
                 clear c32
                 replace H := Option.bind_eq_some_iff.mp H
                 obtain ⟨t515, A330, H⟩ := H
                 try dsimp only at H
                 have A33 := Aside0.mk A330
                 clear A330
                 replace H := Option.bind_eq_some_iff.mp H
                 obtain ⟨t516, A340, H⟩ := H
                 try dsimp only at H
                 have A34 := Aside0.mk A340
                 clear A340
                 replace H := Option.bind_eq_some_iff.mp H
                 obtain ⟨t517, A350, H⟩ := H
                 try dsimp only at H
                 have A35 := Aside0.mk A350
                 clear A350
                 by_cases c36 : 5 < (x6_3.length : Int)
                 ·rw [if_pos c36] at H
                  have c36b0 : decide (5 < (x6_3.length : Int)) = true := decide_eq_true c36
                  have c36b1 : decide (5 < x6_3.length) = true := decide_eq_true (by omega)
                  clear c36
                  by_cases c37 : 6 < (x6_3.length : Int)
                  ·rw [if_pos c37] at H
                   have c37b0 : decide (6 < (x6_3.length : Int)) = true := decide_eq_true c37
                   have c37b1 : decide (6 < x6_3.length) = true := decide_eq_true (by omega)
                   clear c37
                   by_cases c38 : x52_3 < (t505.length : Int)
                   ·rw [if_pos c38] at H
                    have c38b0 : decide (x52_3 < (t505.length : Int)) = true := decide_eq_true c38
                    clear c38
                    replace H := Option.bind_eq_some_iff.mp H
                    obtain ⟨t521, A390, H⟩ := H
                    try dsimp only at H
                    have A39 := Aside0.mk A390
                    clear A390
                    replace H := Option.bind_eq_some_iff.mp H
                    obtain ⟨t522, A400, H⟩ := H
                    try dsimp only at H
                    have A40 := Aside0.mk A400
                    clear A400
                    replace H := Option.bind_eq_some_iff.mp H
                    obtain ⟨t523, A410, H⟩ := H
                    try dsimp only at H
                    have A41 := Aside0.mk A410
                    clear A410
                    by_cases c42 : 1 < (x6_3.length : Int)
                    ·rw [if_pos c42] at H
                     have c42b0 : decide (1 < (x6_3.length : Int)) = true := decide_eq_true c42
                     have c42b1 : decide (1 < x6_3.length) = true := decide_eq_true (by omega)
                     clear c42
                     by_cases c43 : 2 < (x6_3.length : Int)
                     ·rw [if_pos c43] at H
                      have c43b0 : decide (2 < (x6_3.length : Int)) = true := decide_eq_true c43
                      have c43b1 : decide (2 < x6_3.length) = true := decide_eq_true (by omega)
                      clear c43
                      by_cases c44 : 3 < (x6_3.length : Int)
                      ·rw [if_pos c44] at H
                       have c44b0 : decide (3 < (x6_3.length : Int)) = true := decide_eq_true c44
                       have c44b1 : decide (3 < x6_3.length) = true := decide_eq_true (by omega)
                       clear c44
                       obtain ⟨y535, hy535⟩ : ∃ y_ : List Int, y_ = (([((((((((((rd x6_3 7) + (Go.bits .xor .u32 (Go.bits .xor .u32 t515 t516) t517)) % 4294967296) + (Go.bits .xor .u32 (Go.bits .and .u32 (rd x6_3 4) (rd x6_3 5)) (Go.bits .and .u32 (Go.bits .xor .u32 IntKind.u32.max (rd x6_3 4)) (rd x6_3 6)))) % 4294967296) + (rd t505 x52_3)) % 4294967296) + (rd t508 x52_3)) % 4294967296) + (((Go.bits .xor .u32 (Go.bits .xor .u32 t521 t522) t523) + (Go.bits .xor .u32 (Go.bits .xor .u32 (Go.bits .and .u32 (rd x6_3 0) (rd x6_3 1)) (Go.bits .and .u32 (rd x6_3 0) (rd x6_3 2))) (Go.bits .and .u32 (rd x6_3 1) (rd x6_3 2)))) % 4294967296)) % 4294967296, rd x6_3 0, rd x6_3 1, rd x6_3 2, ((rd x6_3 3) + (((((((((rd x6_3 7) + (Go.bits .xor .u32 (Go.bits .xor .u32 t515 t516) t517)) % 4294967296) + (Go.bits .xor .u32 (Go.bits .and .u32 (rd x6_3 4) (rd x6_3 5)) (Go.bits .and .u32 (Go.bits .xor .u32 IntKind.u32.max (rd x6_3 4)) (rd x6_3 6)))) % 4294967296) + (rd t505 x52_3)) % 4294967296) + (rd t508 x52_3)) % 4294967296)) % 4294967296, rd x6_3 4, rd x6_3 5, rd x6_3 6] : List Int)) := ⟨_, rfl⟩
                       replace H : (impl_ShaBlock.l1 k3 y496 y535 t505 t508 (t508.length : Int) (wrap64 (x52_3 + 1))) = some r := by first | (rw [hy535]; with_reducible exact H) | (have H2_ := (Option.bind_some _ _).symm.trans H; rw [hy535]; with_reducible exact H2_) | (have H2_ := (Option.bind_some _ _).symm.trans H; with_reducible exact H2_) | with_reducible exact H | (rw [hy535]; exact H) | exact H
                       have Ny535 := Aside0.mk hy535
                       clear hy535
                       have H' := Aside0.mk H
                       clear H
                       have p511 : 0 ≤ (x52_3 : Int) := sqD
                       have q511 : x52_3 < (t508.length : Int) := sqD
                       obtain ⟨ad511, e511, hx511_0⟩ := Kd.at_int (Kd.R_reads' HO_50.out).2.2 x52_3 p511 q511
                       cases e511
                       replace p511 := eq_true p511
                       replace q511 := eq_true q511
                       try go_wp2
                       replace HO_5 := Aside0.mk (Kd.R_drew HO_5.out); replace HO_6 := Aside0.mk (Kd.R_drew HO_6.out); replace HO_9 := Aside0.mk (Kd.R_drew HO_9.out); replace HO_50 := Aside0.mk (Kd.R_drew HO_50.out); replace HB := Aside0.mk (below_drew1 HB.out)
                       obtain ⟨Ao46, co46, eo46⟩ := Kd.R_slice HO_6.out
                       (first | subst eo46 | (injection eo46 with f1_ f2_ f3_; have f4_ := f1_.symm; have f5_ := f3_.symm; clear f1_ f2_ f3_; subst f4_; subst f5_))
                       have p512 : 0 ≤ (4 : Int) := (by omega)
                       have q512 : 4 < (x6_3.length : Int) := sqD
                       obtain ⟨ad512, e512, hx512_0⟩ := Kd.at_int (Kd.R_reads' HO_6.out).2.2 4 p512 q512
                       cases e512
                       (try simp only [show (4 : Int).toNat = 4 from rfl, Nat.reduceMul, Nat.reduceEqDiff, Go.Addr.add, ↓reduceIte] at hx512_0)
                       have qi512 : (4 < x6_3.length) = True := eq_true (by omega)
                       (try rw [show ((4 : Int)).toNat = 4 from rfl] at hx512_0)
                       replace p512 := eq_true p512
                       replace q512 := eq_true q512
                       have p513 : 0 ≤ (0 : Int) := (by omega)
                       have q513 : 0 < (x6_3.length : Int) := sqD
                       obtain ⟨ad513, e513, hx513_0⟩ := Kd.at_int (Kd.R_reads' HO_6.out).2.2 0 p513 q513
                       obtain rfl : ad512 = ad513 := (by injection e513)
                       have qi513 : (0 < x6_3.length) = True := eq_true (by omega)
                       (try rw [show ((0 : Int)).toNat = 0 from rfl] at hx513_0)
                       (try rw [Addr.add_zero'] at hx513_0)
                       replace p513 := eq_true p513
                       replace q513 := eq_true q513
                       refine start_ (n := 8) (S := fun w' => w'.cell? ⟨ad512.block, ad512.off + 4, none⟩ = some (.int .u32 (rd x6_3 4)) ∧ w'.cell? ad512 = some (.int .u32 (rd x6_3 0))) (ds := []) (sqb 0 8) (by kernel_rfl) rfl rfl ⟨hx512_0, hx513_0⟩ (fun hHeld => ?_); refine with_tabW impl_ShaBlock.tab16 impl_ShaBlock.bits16 (fun HT_ HW_ => ?_)
                       generalize wr.drew = w45 at HO_5 HO_6 HO_9 HO_50 HB hx512_0 hx513_0 hHeld ⊢
                       refine sqP (i := 0) (N := some 57) (sqb 1 7) rfl rfl (any_of HT_.out (by kernel_rfl)) ?_
                       refine sqP (i := 1) (N := some 58) (sqb 2 6) rfl rfl (any_of HT_.out (by kernel_rfl)) ?_
                       refine sqP (i := 3) (N := some 60) (sqr [2, 1, 1, 4]) rfl rfl (any_of HT_.out (by kernel_rfl)) ?_
                       refine sqP (i := 4) (N := some 61) (sqr [2, 1, 2, 3]) rfl rfl (any_of HT_.out (by kernel_rfl)) ?_
                       refine sqTk (i := 2) (N := some 59) (sqb 5 3) rfl rfl (take_ofW HT_.out HW_.out (by kernel_rfl)) hHeld ?_
                       refine sqP (i := 6) (N := some 12) (sqr [5, 1, 1, 1]) rfl rfl (any_of HT_.out (by kernel_rfl)) ?_
                       refine sqTk (i := 5) (N := some 62) (sqb 7 1) rfl rfl (take_ofW HT_.out HW_.out (by kernel_rfl)) hHeld ?_
                       refine sqP (i := 7) (N := some 13) (sqb 8 0) rfl rfl (any_of HT_.out (by kernel_rfl)) ?_
                       refine done_ (done_of HT_.out (by kernel_rfl)) ?_
                       try go_wp2
                       replace HO_5 := Aside0.mk (Kd.R_drew HO_5.out); replace HO_6 := Aside0.mk (Kd.R_drew HO_6.out); replace HO_9 := Aside0.mk (Kd.R_drew HO_9.out); replace HO_50 := Aside0.mk (Kd.R_drew HO_50.out); replace HB := Aside0.mk (below_drew1 HB.out)
                       have p514 : 0 ≤ (7 : Int) := (by omega)
                       have q514 : 7 < (x6_3.length : Int) := sqD
                       obtain ⟨ad514, e514, hx514_0⟩ := Kd.at_int (Kd.R_reads' HO_6.out).2.2 7 p514 q514
                       obtain rfl : ad512 = ad514 := (by injection e514)
                       (try simp only [show (7 : Int).toNat = 7 from rfl, Nat.reduceMul, Nat.reduceEqDiff, Go.Addr.add, ↓reduceIte] at hx514_0)
                       have qi514 : (7 < x6_3.length) = True := eq_true (by omega)
                       (try rw [show ((7 : Int)).toNat = 7 from rfl] at hx514_0)
                       replace p514 := eq_true p514
                       replace q514 := eq_true q514
                       have p518 : 0 ≤ (5 : Int) := (by omega)
                       have q518 : 5 < (x6_3.length : Int) := sqD
                       obtain ⟨ad518, e518, hx518_0⟩ := Kd.at_int (Kd.R_reads' HO_6.out).2.2 5 p518 q518
                       obtain rfl : ad512 = ad518 := (by injection e518)
                       (try simp only [show (5 : Int).toNat = 5 from rfl, Nat.reduceMul, Nat.reduceEqDiff, Go.Addr.add, ↓reduceIte] at hx518_0)
                       have qi518 : (5 < x6_3.length) = True := eq_true (by omega)
                       (try rw [show ((5 : Int)).toNat = 5 from rfl] at hx518_0)
                       replace p518 := eq_true p518
                       replace q518 := eq_true q518
                       have p519 : 0 ≤ (6 : Int) := (by omega)
                       have q519 : 6 < (x6_3.length : Int) := sqD
                       obtain ⟨ad519, e519, hx519_0⟩ := Kd.at_int (Kd.R_reads' HO_6.out).2.2 6 p519 q519
                       obtain rfl : ad512 = ad519 := (by injection e519)
                       (try simp only [show (6 : Int).toNat = 6 from rfl, Nat.reduceMul, Nat.reduceEqDiff, Go.Addr.add, ↓reduceIte] at hx519_0)
                       have qi519 : (6 < x6_3.length) = True := eq_true (by omega)
                       (try rw [show ((6 : Int)).toNat = 6 from rfl] at hx519_0)
                       replace p519 := eq_true p519
                       replace q519 := eq_true q519
                       obtain ⟨Ao48, co48, eo48⟩ := Kd.R_slice HO_9.out
                       (first | subst eo48 | (injection eo48 with f1_ f2_ f3_; have f4_ := f1_.symm; have f5_ := f3_.symm; clear f1_ f2_ f3_; subst f4_; subst f5_))
                       have p520 : 0 ≤ (x52_3 : Int) := sqD
                       have q520 : x52_3 < (t505.length : Int) := sqD
                       obtain ⟨ad520, e520, hx520_0⟩ := Kd.at_int (Kd.R_reads' HO_9.out).2.2 x52_3 p520 q520
                       cases e520
                       replace p520 := eq_true p520
                       replace q520 := eq_true q520
                       refine start_ (n := 33) (S := fun w' => w'.cell? ⟨ad512.block, ad512.off + 7, none⟩ = some (.int .u32 (rd x6_3 7)) ∧ w'.cell? ⟨ad512.block, ad512.off + 5, none⟩ = some (.int .u32 (rd x6_3 5)) ∧ w'.cell? ⟨ad512.block, ad512.off + 6, none⟩ = some (.int .u32 (rd x6_3 6)) ∧ w'.cell? (ad520.add (x52_3).toNat) = some (.int .u32 (rd t505 x52_3))) (ds := []) (sqb 0 33) (by kernel_rfl) rfl rfl ⟨hx514_0, hx518_0, hx519_0, hx520_0⟩ (fun hHeld => ?_); refine with_tabW impl_ShaBlock.tab17 impl_ShaBlock.bits17 (fun HT_ HW_ => ?_)
                       generalize w45.drew = w47 at HO_5 HO_6 HO_9 HO_50 HB hx514_0 hx518_0 hx519_0 hx520_0 hHeld ⊢
                       refine sqP (i := 0) (N := some 63) (sqb 1 32) rfl rfl (any_of HT_.out (by kernel_rfl)) ?_
                       refine sqP (i := 1) (N := some 64) (sqb 2 31) rfl rfl (any_of HT_.out (by kernel_rfl)) ?_
                       refine sqP (i := 3) (N := some 66) (sqr [2, 1, 1, 29]) rfl rfl (any_of HT_.out (by kernel_rfl)) ?_
                       refine sqP (i := 5) (N := some 68) (sqr [2, 1, 1, 1, 1, 27]) rfl rfl (any_of HT_.out (by kernel_rfl)) ?_
                       refine sqP (i := 8) (N := some 71) (sqr [2, 1, 1, 1, 1, 2, 1, 24]) rfl rfl (any_of HT_.out (by kernel_rfl)) ?_
                       refine sqP (i := 12) (N := some 75) (sqr [2, 1, 1, 1, 1, 2, 1, 3, 1, 20]) rfl rfl (any_of HT_.out (by kernel_rfl)) ?_
                       refine sqP (i := 13) (N := some 76) (sqr [2, 1, 1, 1, 1, 2, 1, 3, 2, 19]) rfl rfl (any_of HT_.out (by kernel_rfl)) ?_
                       refine sqP (i := 14) (N := some 77) (sqr [2, 1, 1, 1, 1, 2, 1, 3, 3, 18]) rfl rfl (any_of HT_.out (by kernel_rfl)) ?_
                       refine sqP (i := 17) (N := some 80) (sqr [2, 1, 1, 1, 1, 2, 1, 3, 3, 2, 1, 15]) rfl rfl (any_of HT_.out (by kernel_rfl)) ?_
                       refine sqP (i := 18) (N := some 81) (sqr [2, 1, 1, 1, 1, 2, 1, 3, 3, 2, 2, 14]) rfl rfl (any_of HT_.out (by kernel_rfl)) ?_
                       refine sqP (i := 19) (N := some 82) (sqr [2, 1, 1, 1, 1, 2, 1, 3, 3, 2, 3, 13]) rfl rfl (any_of HT_.out (by kernel_rfl)) ?_
                       refine sqP (i := 20) (N := some 83) (sqr [2, 1, 1, 1, 1, 2, 1, 3, 3, 2, 4, 12]) rfl rfl (any_of HT_.out (by kernel_rfl)) ?_
                       refine sqP (i := 25) (N := some 88) (sqr [2, 1, 1, 1, 1, 2, 1, 3, 3, 2, 4, 4, 1, 7]) rfl rfl (any_of HT_.out (by kernel_rfl)) ?_
                       refine sqP (i := 26) (N := some 89) (sqr [2, 1, 1, 1, 1, 2, 1, 3, 3, 2, 4, 4, 2, 6]) rfl rfl (any_of HT_.out (by kernel_rfl)) ?_
                       refine sqP (i := 27) (N := some 90) (sqr [2, 1, 1, 1, 1, 2, 1, 3, 3, 2, 4, 4, 3, 5]) rfl rfl (any_of HT_.out (by kernel_rfl)) ?_
                       refine sqP (i := 30) (N := some 93) (sqr [2, 1, 1, 1, 1, 2, 1, 3, 3, 2, 4, 4, 3, 2, 1, 2]) rfl rfl (any_of HT_.out (by kernel_rfl)) ?_
                       refine sqTk (i := 2) (N := some 65) (sqr [4, 1, 1, 2, 1, 3, 3, 2, 4, 4, 3, 2, 1, 2]) rfl rfl (take_ofW HT_.out HW_.out (by kernel_rfl)) hHeld ?_
                       refine sqTk (i := 15) (N := some 78) (sqr [4, 1, 1, 2, 1, 3, 4, 1, 4, 4, 3, 2, 1, 2]) rfl rfl (take_ofW HT_.out HW_.out (by kernel_rfl)) hHeld ?_
                       refine sqP (i := 16) (N := some 79) (sqr [4, 1, 1, 2, 1, 3, 9, 4, 3, 2, 1, 2]) rfl rfl (any_of HT_.out (by kernel_rfl)) ?_
                       refine sqTk (i := 21) (N := some 84) (sqr [4, 1, 1, 2, 1, 3, 10, 3, 3, 2, 1, 2]) rfl rfl (take_ofW HT_.out HW_.out (by kernel_rfl)) hHeld ?_
                       refine sqP (i := 22) (N := some 85) (sqr [4, 1, 1, 2, 1, 3, 11, 2, 3, 2, 1, 2]) rfl rfl (any_of HT_.out (by kernel_rfl)) ?_
                       refine sqP (i := 23) (N := some 86) (sqr [4, 1, 1, 2, 1, 3, 12, 1, 3, 2, 1, 2]) rfl rfl (any_of HT_.out (by kernel_rfl)) ?_
                       refine sqTk (i := 28) (N := some 91) (sqr [4, 1, 1, 2, 1, 3, 12, 1, 4, 1, 1, 2]) rfl rfl (take_ofW HT_.out HW_.out (by kernel_rfl)) hHeld ?_
                       refine one_ (i := 4) (N := some 67) (sqr [6, 2, 1, 3, 12, 1, 4, 1, 1, 2]) rfl rfl (one_of HT_.out (by kernel_rfl)) (by decide) (fun K hK => ?_)
                       refine goes_ Try.func53 (by kernel_rfl) rfl #[.int .u32 (rd x6_3 4), .int .i64 6] (by rfl) rfl rfl sqA ?_
                       with_reducible refine (impl_turn.calls (rd x6_3 4) 6 t515 _ A33.out).mono ?_
                       rintro e w' ⟨rfl, ⟨nd, rfl⟩⟩
                       refine ⟨_, rfl, ?_⟩
                       refine hK.out _ _ ⟨hHeld.1, hHeld.2.1, hHeld.2.2.1, hHeld.2.2.2⟩ (fun hHeld => ?_)
                       clear hK K
                       refine sqV (N := some 67) ?_
                       refine one_ (i := 6) (N := some 69) (sqr [7, 1, 1, 3, 12, 1, 4, 1, 1, 2]) rfl rfl (one_of HT_.out (by kernel_rfl)) (by decide) (fun K hK => ?_)
                       refine goes_ Try.func53 (by kernel_rfl) rfl #[.int .u32 (rd x6_3 4), .int .i64 11] (by rfl) rfl rfl sqA ?_
                       with_reducible refine (impl_turn.calls (rd x6_3 4) 11 t516 _ A34.out).mono ?_
                       rintro e w' ⟨rfl, ⟨nd, rfl⟩⟩
                       refine ⟨_, rfl, ?_⟩
                       refine hK.out _ _ ⟨hHeld.1, hHeld.2.1, hHeld.2.2.1, hHeld.2.2.2⟩ (fun hHeld => ?_)
                       clear hK K
                       refine sqV (N := some 69) ?_
                       refine sqP (i := 7) (N := some 70) (sqr [9, 3, 12, 1, 4, 1, 1, 2]) rfl rfl (any_of HT_.out (by kernel_rfl)) ?_
                       refine one_ (i := 9) (N := some 72) (sqr [10, 2, 12, 1, 4, 1, 1, 2]) rfl rfl (one_of HT_.out (by kernel_rfl)) (by decide) (fun K hK => ?_)
                       refine goes_ Try.func53 (by kernel_rfl) rfl #[.int .u32 (rd x6_3 4), .int .i64 25] (by rfl) rfl rfl sqA ?_
                       with_reducible refine (impl_turn.calls (rd x6_3 4) 25 t517 _ A35.out).mono ?_
                       rintro e w' ⟨rfl, ⟨nd, rfl⟩⟩
                       refine ⟨_, rfl, ?_⟩
                       refine hK.out _ _ ⟨hHeld.1, hHeld.2.1, hHeld.2.2.1, hHeld.2.2.2⟩ (fun hHeld => ?_)
                       clear hK K
                       refine sqV (N := some 72) ?_
                       refine sqP (i := 10) (N := some 73) (sqr [11, 1, 12, 1, 4, 1, 1, 2]) rfl rfl (any_of HT_.out (by kernel_rfl)) ?_
                       refine sqP (i := 11) (N := some 74) (sqr [24, 1, 4, 1, 1, 2]) rfl rfl (any_of HT_.out (by kernel_rfl)) ?_
                       refine sqP (i := 24) (N := some 87) (sqr [29, 1, 1, 2]) rfl rfl (any_of HT_.out (by kernel_rfl)) ?_
                       refine sqP (i := 29) (N := some 92) (sqb 31 2) rfl rfl (any_of HT_.out (by kernel_rfl)) ?_
                       refine sqP (i := 31) (N := some 94) (sqb 32 1) rfl rfl (any_of HT_.out (by kernel_rfl)) ?_
                       refine sqP (i := 32) (N := some 14) (sqb 33 0) rfl rfl (any_of HT_.out (by kernel_rfl)) ?_
                       refine done_ (done_of HT_.out (by kernel_rfl)) ?_
                       try go_wp2
                       (try (rw [drewN_self w47]; generalize hq_ : World.drewN w47 _ = w47; have n0_ : Aside0 (Kd.R (Kd.int .i64) 3 w47 w.heap.size (fun _ => True) v497 y496) := ⟨by rw [← hq_]; exact (sqR HO_5)⟩; have n1_ : Aside0 (Kd.R (Kd.int .u32) 63 w47 w.heap.size (fun k_ => some k_ ≠ (.slice (some ad512) x6_3.length co46 : Value).ownBlock ∧ some k_ ≠ (.slice (some ad520) t505.length co48 : Value).ownBlock) (.slice (some ad511) t508.length co26) t508) := ⟨by rw [← hq_]; exact (sqR HO_50)⟩; have n2_ : Aside0 (Kd.R (Kd.int .u32) 63 w47 w.heap.size (fun k_ => some k_ ≠ (.slice (some ad511) t508.length co26 : Value).ownBlock ∧ some k_ ≠ (.slice (some ad520) t505.length co48 : Value).ownBlock) (.slice (some ad512) x6_3.length co46) x6_3) := ⟨by rw [← hq_]; exact (by (with_reducible repeat (first | apply Kd.R_alloc | apply Kd.R_drewN | apply Kd.R_drew)); exact Kd.R_mono HO_6.out (fun _ hk => by (refine ⟨?_, ?_⟩ <;> first | exact hk | trivial | exact hk.1 | exact hk.2 | exact hk.1.1 | exact hk.1.2 | exact hk.2.1 | exact hk.2.2 | exact hk.1.1.1 | exact hk.1.1.2 | exact hk.1.2.1 | exact hk.1.2.2)))⟩; have n3_ : Aside0 (Kd.R (Kd.int .u32) 63 w47 w.heap.size (fun k_ => some k_ ≠ (.slice (some ad511) t508.length co26 : Value).ownBlock ∧ some k_ ≠ (.slice (some ad512) x6_3.length co46 : Value).ownBlock) (.slice (some ad520) t505.length co48) t505) := ⟨by rw [← hq_]; exact (by (with_reducible repeat (first | apply Kd.R_alloc | apply Kd.R_drewN | apply Kd.R_drew)); exact Kd.R_mono HO_9.out (fun _ hk => by (refine ⟨?_, ?_⟩ <;> first | exact hk | trivial | exact hk.1 | exact hk.2 | exact hk.1.1 | exact hk.1.2 | exact hk.2.1 | exact hk.2.2 | exact hk.1.1.1 | exact hk.1.1.2 | exact hk.1.2.1 | exact hk.1.2.2)))⟩; have n4_ : Aside0 (Below w.heap.size w w47) := ⟨by rw [← hq_]; exact (sqB)⟩; clear HO_5 HO_50 HO_6 HO_9 HB hq_; have HO_5 := n0_; have HO_50 := n1_; have HO_6 := n2_; have HO_9 := n3_; have HB := n4_; clear n0_ n1_ n2_ n3_ n4_))
                       replace HO_5 := Aside0.mk (Kd.R_drew HO_5.out); replace HO_6 := Aside0.mk (Kd.R_drew HO_6.out); replace HO_9 := Aside0.mk (Kd.R_drew HO_9.out); replace HO_50 := Aside0.mk (Kd.R_drew HO_50.out); replace HB := Aside0.mk (below_drew1 HB.out)
                       have p524 : 0 ≤ (1 : Int) := (by omega)
                       have q524 : 1 < (x6_3.length : Int) := sqD
                       obtain ⟨ad524, e524, hx524_0⟩ := Kd.at_int (Kd.R_reads' HO_6.out).2.2 1 p524 q524
                       obtain rfl : ad512 = ad524 := (by injection e524)
                       (try simp only [show (1 : Int).toNat = 1 from rfl, Nat.reduceMul, Nat.reduceEqDiff, Go.Addr.add, ↓reduceIte] at hx524_0)
                       have qi524 : (1 < x6_3.length) = True := eq_true (by omega)
                       (try rw [show ((1 : Int)).toNat = 1 from rfl] at hx524_0)
                       replace p524 := eq_true p524
                       replace q524 := eq_true q524
                       have p525 : 0 ≤ (2 : Int) := (by omega)
                       have q525 : 2 < (x6_3.length : Int) := sqD
                       obtain ⟨ad525, e525, hx525_0⟩ := Kd.at_int (Kd.R_reads' HO_6.out).2.2 2 p525 q525
                       obtain rfl : ad512 = ad525 := (by injection e525)
                       (try simp only [show (2 : Int).toNat = 2 from rfl, Nat.reduceMul, Nat.reduceEqDiff, Go.Addr.add, ↓reduceIte] at hx525_0)
                       have qi525 : (2 < x6_3.length) = True := eq_true (by omega)
                       (try rw [show ((2 : Int)).toNat = 2 from rfl] at hx525_0)
                       replace p525 := eq_true p525
                       replace q525 := eq_true q525
                       have p526 : 0 ≤ (1 : Int) := (by omega)
                       have q526 : 1 < (x6_3.length : Int) := sqD
                       obtain ⟨ad526, e526, hx526_0⟩ := Kd.at_int (Kd.R_reads' HO_6.out).2.2 1 p526 q526
                       obtain rfl : ad512 = ad526 := (by injection e526)
                       (try simp only [show (1 : Int).toNat = 1 from rfl, Nat.reduceMul, Nat.reduceEqDiff, Go.Addr.add, ↓reduceIte] at hx526_0)
                       have qi526 : (1 < x6_3.length) = True := eq_true (by omega)
                       (try rw [show ((1 : Int)).toNat = 1 from rfl] at hx526_0)
                       replace p526 := eq_true p526
                       replace q526 := eq_true q526
                       have p527 : 0 ≤ (2 : Int) := (by omega)
                       have q527 : 2 < (x6_3.length : Int) := sqD
                       obtain ⟨ad527, e527, hx527_0⟩ := Kd.at_int (Kd.R_reads' HO_6.out).2.2 2 p527 q527
                       obtain rfl : ad512 = ad527 := (by injection e527)
                       (try simp only [show (2 : Int).toNat = 2 from rfl, Nat.reduceMul, Nat.reduceEqDiff, Go.Addr.add, ↓reduceIte] at hx527_0)
                       have qi527 : (2 < x6_3.length) = True := eq_true (by omega)
                       (try rw [show ((2 : Int)).toNat = 2 from rfl] at hx527_0)
                       replace p527 := eq_true p527
                       replace q527 := eq_true q527
                       refine start_ (n := 29) (S := fun w' => w'.cell? ⟨ad512.block, ad512.off + 1, none⟩ = some (.int .u32 (rd x6_3 1)) ∧ w'.cell? ⟨ad512.block, ad512.off + 2, none⟩ = some (.int .u32 (rd x6_3 2)) ∧ w'.cell? ⟨ad512.block, ad512.off + 1, none⟩ = some (.int .u32 (rd x6_3 1)) ∧ w'.cell? ⟨ad512.block, ad512.off + 2, none⟩ = some (.int .u32 (rd x6_3 2))) (ds := []) (sqb 0 29) (by kernel_rfl) rfl rfl ⟨hx524_0, hx525_0, hx526_0, hx527_0⟩ (fun hHeld => ?_); refine with_tabW impl_ShaBlock.tab18 impl_ShaBlock.bits18 (fun HT_ HW_ => ?_)
                       generalize w47.drew = w49 at HO_5 HO_6 HO_9 HO_50 HB hx524_0 hx525_0 hx526_0 hx527_0 hHeld ⊢
                       refine sqP (i := 0) (N := some 95) (sqb 1 28) rfl rfl (any_of HT_.out (by kernel_rfl)) ?_
                       refine sqP (i := 2) (N := some 97) (sqr [1, 1, 1, 26]) rfl rfl (any_of HT_.out (by kernel_rfl)) ?_
                       refine sqP (i := 5) (N := some 100) (sqr [1, 1, 1, 2, 1, 23]) rfl rfl (any_of HT_.out (by kernel_rfl)) ?_
                       refine sqP (i := 8) (N := some 103) (sqr [1, 1, 1, 2, 1, 2, 1, 20]) rfl rfl (any_of HT_.out (by kernel_rfl)) ?_
                       refine sqP (i := 9) (N := some 104) (sqr [1, 1, 1, 2, 1, 2, 2, 19]) rfl rfl (any_of HT_.out (by kernel_rfl)) ?_
                       refine sqP (i := 10) (N := some 105) (sqr [1, 1, 1, 2, 1, 2, 3, 18]) rfl rfl (any_of HT_.out (by kernel_rfl)) ?_
                       refine sqP (i := 13) (N := some 108) (sqr [1, 1, 1, 2, 1, 2, 3, 2, 1, 15]) rfl rfl (any_of HT_.out (by kernel_rfl)) ?_
                       refine sqP (i := 14) (N := some 109) (sqr [1, 1, 1, 2, 1, 2, 3, 2, 2, 14]) rfl rfl (any_of HT_.out (by kernel_rfl)) ?_
                       refine sqP (i := 15) (N := some 110) (sqr [1, 1, 1, 2, 1, 2, 3, 2, 3, 13]) rfl rfl (any_of HT_.out (by kernel_rfl)) ?_
                       refine sqP (i := 19) (N := some 114) (sqr [1, 1, 1, 2, 1, 2, 3, 2, 3, 3, 1, 9]) rfl rfl (any_of HT_.out (by kernel_rfl)) ?_
                       refine sqP (i := 20) (N := some 115) (sqr [1, 1, 1, 2, 1, 2, 3, 2, 3, 3, 2, 8]) rfl rfl (any_of HT_.out (by kernel_rfl)) ?_
                       refine sqP (i := 22) (N := some 117) (sqr [1, 1, 1, 2, 1, 2, 3, 2, 3, 3, 2, 1, 1, 6]) rfl rfl (any_of HT_.out (by kernel_rfl)) ?_
                       refine sqP (i := 23) (N := some 118) (sqr [1, 1, 1, 2, 1, 2, 3, 2, 3, 3, 2, 1, 2, 5]) rfl rfl (any_of HT_.out (by kernel_rfl)) ?_
                       refine sqTk (i := 11) (N := some 106) (sqr [1, 1, 1, 2, 1, 2, 4, 1, 3, 3, 2, 1, 2, 5]) rfl rfl (take_ofW HT_.out HW_.out (by kernel_rfl)) hHeld ?_
                       refine sqP (i := 12) (N := some 107) (sqr [1, 1, 1, 2, 1, 2, 8, 3, 2, 1, 2, 5]) rfl rfl (any_of HT_.out (by kernel_rfl)) ?_
                       refine sqTk (i := 16) (N := some 111) (sqr [1, 1, 1, 2, 1, 2, 9, 2, 2, 1, 2, 5]) rfl rfl (take_ofW HT_.out HW_.out (by kernel_rfl)) hHeld ?_
                       refine sqP (i := 17) (N := some 112) (sqr [1, 1, 1, 2, 1, 2, 10, 1, 2, 1, 2, 5]) rfl rfl (any_of HT_.out (by kernel_rfl)) ?_
                       refine sqP (i := 18) (N := some 113) (sqr [1, 1, 1, 2, 1, 2, 13, 1, 2, 5]) rfl rfl (any_of HT_.out (by kernel_rfl)) ?_
                       refine sqTk (i := 21) (N := some 116) (sqr [1, 1, 1, 2, 1, 2, 16, 5]) rfl rfl (take_ofW HT_.out HW_.out (by kernel_rfl)) hHeld ?_
                       refine sqTk (i := 24) (N := some 119) (sqr [1, 1, 1, 2, 1, 2, 17, 4]) rfl rfl (take_ofW HT_.out HW_.out (by kernel_rfl)) hHeld ?_
                       refine sqP (i := 25) (N := some 120) (sqr [1, 1, 1, 2, 1, 2, 18, 3]) rfl rfl (any_of HT_.out (by kernel_rfl)) ?_
                       refine sqP (i := 26) (N := some 121) (sqr [1, 1, 1, 2, 1, 2, 19, 2]) rfl rfl (any_of HT_.out (by kernel_rfl)) ?_
                       refine one_ (i := 1) (N := some 96) (sqr [3, 2, 1, 2, 19, 2]) rfl rfl (one_of HT_.out (by kernel_rfl)) (by decide) (fun K hK => ?_)
                       refine goes_ Try.func53 (by kernel_rfl) rfl #[.int .u32 (rd x6_3 0), .int .i64 2] (by rfl) rfl rfl sqA ?_
                       with_reducible refine (impl_turn.calls (rd x6_3 0) 2 t521 _ A39.out).mono ?_
                       rintro e w' ⟨rfl, ⟨nd, rfl⟩⟩
                       refine ⟨_, rfl, ?_⟩
                       refine hK.out _ _ ⟨hHeld.1, hHeld.2.1, hHeld.2.2.1, hHeld.2.2.2⟩ (fun hHeld => ?_)
                       clear hK K
                       refine sqV (N := some 96) ?_
                       refine one_ (i := 3) (N := some 98) (sqr [4, 1, 1, 2, 19, 2]) rfl rfl (one_of HT_.out (by kernel_rfl)) (by decide) (fun K hK => ?_)
                       refine goes_ Try.func53 (by kernel_rfl) rfl #[.int .u32 (rd x6_3 0), .int .i64 13] (by rfl) rfl rfl sqA ?_
                       with_reducible refine (impl_turn.calls (rd x6_3 0) 13 t522 _ A40.out).mono ?_
                       rintro e w' ⟨rfl, ⟨nd, rfl⟩⟩
                       refine ⟨_, rfl, ?_⟩
                       refine hK.out _ _ ⟨hHeld.1, hHeld.2.1, hHeld.2.2.1, hHeld.2.2.2⟩ (fun hHeld => ?_)
                       clear hK K
                       refine sqV (N := some 98) ?_
                       refine sqP (i := 4) (N := some 99) (sqr [6, 2, 19, 2]) rfl rfl (any_of HT_.out (by kernel_rfl)) ?_
                       refine one_ (i := 6) (N := some 101) (sqr [7, 1, 19, 2]) rfl rfl (one_of HT_.out (by kernel_rfl)) (by decide) (fun K hK => ?_)
                       refine goes_ Try.func53 (by kernel_rfl) rfl #[.int .u32 (rd x6_3 0), .int .i64 22] (by rfl) rfl rfl sqA ?_
                       with_reducible refine (impl_turn.calls (rd x6_3 0) 22 t523 _ A41.out).mono ?_
                       rintro e w' ⟨rfl, ⟨nd, rfl⟩⟩
                       refine ⟨_, rfl, ?_⟩
                       refine hK.out _ _ ⟨hHeld.1, hHeld.2.1, hHeld.2.2.1, hHeld.2.2.2⟩ (fun hHeld => ?_)
                       clear hK K
                       refine sqV (N := some 101) ?_
                       refine sqP (i := 7) (N := some 102) (sqb 27 2) rfl rfl (any_of HT_.out (by kernel_rfl)) ?_
                       refine sqP (i := 27) (N := some 122) (sqb 28 1) rfl rfl (any_of HT_.out (by kernel_rfl)) ?_
                       refine sqP (i := 28) (N := some 15) (sqb 29 0) rfl rfl (any_of HT_.out (by kernel_rfl)) ?_
                       refine done_ (done_of HT_.out (by kernel_rfl)) ?_
                       try go_wp2
                       (try (rw [drewN_self w49]; generalize hq_ : World.drewN w49 _ = w49; have n0_ : Aside0 (Kd.R (Kd.int .i64) 3 w49 w.heap.size (fun _ => True) v497 y496) := ⟨by rw [← hq_]; exact (sqR HO_5)⟩; have n1_ : Aside0 (Kd.R (Kd.int .u32) 63 w49 w.heap.size (fun k_ => some k_ ≠ (.slice (some ad512) x6_3.length co46 : Value).ownBlock ∧ some k_ ≠ (.slice (some ad520) t505.length co48 : Value).ownBlock) (.slice (some ad511) t508.length co26) t508) := ⟨by rw [← hq_]; exact (sqR HO_50)⟩; have n2_ : Aside0 (Kd.R (Kd.int .u32) 63 w49 w.heap.size (fun k_ => some k_ ≠ (.slice (some ad511) t508.length co26 : Value).ownBlock ∧ some k_ ≠ (.slice (some ad520) t505.length co48 : Value).ownBlock) (.slice (some ad512) x6_3.length co46) x6_3) := ⟨by rw [← hq_]; exact (by (with_reducible repeat (first | apply Kd.R_alloc | apply Kd.R_drewN | apply Kd.R_drew)); exact Kd.R_mono HO_6.out (fun _ hk => by (refine ⟨?_, ?_⟩ <;> first | exact hk | trivial | exact hk.1 | exact hk.2 | exact hk.1.1 | exact hk.1.2 | exact hk.2.1 | exact hk.2.2 | exact hk.1.1.1 | exact hk.1.1.2 | exact hk.1.2.1 | exact hk.1.2.2)))⟩; have n3_ : Aside0 (Kd.R (Kd.int .u32) 63 w49 w.heap.size (fun k_ => some k_ ≠ (.slice (some ad511) t508.length co26 : Value).ownBlock ∧ some k_ ≠ (.slice (some ad512) x6_3.length co46 : Value).ownBlock) (.slice (some ad520) t505.length co48) t505) := ⟨by rw [← hq_]; exact (by (with_reducible repeat (first | apply Kd.R_alloc | apply Kd.R_drewN | apply Kd.R_drew)); exact Kd.R_mono HO_9.out (fun _ hk => by (refine ⟨?_, ?_⟩ <;> first | exact hk | trivial | exact hk.1 | exact hk.2 | exact hk.1.1 | exact hk.1.2 | exact hk.2.1 | exact hk.2.2 | exact hk.1.1.1 | exact hk.1.1.2 | exact hk.1.2.1 | exact hk.1.2.2)))⟩; have n4_ : Aside0 (Below w.heap.size w w49) := ⟨by rw [← hq_]; exact (sqB)⟩; clear HO_5 HO_50 HO_6 HO_9 HB hq_; have HO_5 := n0_; have HO_50 := n1_; have HO_6 := n2_; have HO_9 := n3_; have HB := n4_; clear n0_ n1_ n2_ n3_ n4_))
                       replace HO_5 := Aside0.mk (Kd.R_drew HO_5.out); replace HO_6 := Aside0.mk (Kd.R_drew HO_6.out); replace HO_9 := Aside0.mk (Kd.R_drew HO_9.out); replace HO_50 := Aside0.mk (Kd.R_drew HO_50.out); replace HB := Aside0.mk (below_drew1 HB.out)
                       have p528 : 0 ≤ (0 : Int) := (by omega)
                       have q528 : 0 < (x6_3.length : Int) := sqD
                       obtain ⟨ad528, e528, hx528_0⟩ := Kd.at_int (Kd.R_reads' HO_6.out).2.2 0 p528 q528
                       obtain rfl : ad512 = ad528 := (by injection e528)
                       have qi528 : (0 < x6_3.length) = True := eq_true (by omega)
                       (try rw [show ((0 : Int)).toNat = 0 from rfl] at hx528_0)
                       (try rw [Addr.add_zero'] at hx528_0)
                       replace p528 := eq_true p528
                       replace q528 := eq_true q528
                       have p529 : 0 ≤ (1 : Int) := (by omega)
                       have q529 : 1 < (x6_3.length : Int) := sqD
                       obtain ⟨ad529, e529, hx529_0⟩ := Kd.at_int (Kd.R_reads' HO_6.out).2.2 1 p529 q529
                       obtain rfl : ad512 = ad529 := (by injection e529)
                       (try simp only [show (1 : Int).toNat = 1 from rfl, Nat.reduceMul, Nat.reduceEqDiff, Go.Addr.add, ↓reduceIte] at hx529_0)
                       have qi529 : (1 < x6_3.length) = True := eq_true (by omega)
                       (try rw [show ((1 : Int)).toNat = 1 from rfl] at hx529_0)
                       replace p529 := eq_true p529
                       replace q529 := eq_true q529
                       have p530 : 0 ≤ (2 : Int) := (by omega)
                       have q530 : 2 < (x6_3.length : Int) := sqD
                       obtain ⟨ad530, e530, hx530_0⟩ := Kd.at_int (Kd.R_reads' HO_6.out).2.2 2 p530 q530
                       obtain rfl : ad512 = ad530 := (by injection e530)
                       (try simp only [show (2 : Int).toNat = 2 from rfl, Nat.reduceMul, Nat.reduceEqDiff, Go.Addr.add, ↓reduceIte] at hx530_0)
                       have qi530 : (2 < x6_3.length) = True := eq_true (by omega)
                       (try rw [show ((2 : Int)).toNat = 2 from rfl] at hx530_0)
                       replace p530 := eq_true p530
                       replace q530 := eq_true q530
                       have p531 : 0 ≤ (3 : Int) := (by omega)
                       have q531 : 3 < (x6_3.length : Int) := sqD
                       obtain ⟨ad531, e531, hx531_0⟩ := Kd.at_int (Kd.R_reads' HO_6.out).2.2 3 p531 q531
                       obtain rfl : ad512 = ad531 := (by injection e531)
                       (try simp only [show (3 : Int).toNat = 3 from rfl, Nat.reduceMul, Nat.reduceEqDiff, Go.Addr.add, ↓reduceIte] at hx531_0)
                       have qi531 : (3 < x6_3.length) = True := eq_true (by omega)
                       (try rw [show ((3 : Int)).toNat = 3 from rfl] at hx531_0)
                       replace p531 := eq_true p531
                       replace q531 := eq_true q531
                       have p532 : 0 ≤ (4 : Int) := (by omega)
                       have q532 : 4 < (x6_3.length : Int) := sqD
                       obtain ⟨ad532, e532, hx532_0⟩ := Kd.at_int (Kd.R_reads' HO_6.out).2.2 4 p532 q532
                       obtain rfl : ad512 = ad532 := (by injection e532)
                       (try simp only [show (4 : Int).toNat = 4 from rfl, Nat.reduceMul, Nat.reduceEqDiff, Go.Addr.add, ↓reduceIte] at hx532_0)
                       have qi532 : (4 < x6_3.length) = True := eq_true (by omega)
                       (try rw [show ((4 : Int)).toNat = 4 from rfl] at hx532_0)
                       replace p532 := eq_true p532
                       replace q532 := eq_true q532
                       have p533 : 0 ≤ (5 : Int) := (by omega)
                       have q533 : 5 < (x6_3.length : Int) := sqD
                       obtain ⟨ad533, e533, hx533_0⟩ := Kd.at_int (Kd.R_reads' HO_6.out).2.2 5 p533 q533
                       obtain rfl : ad512 = ad533 := (by injection e533)
                       (try simp only [show (5 : Int).toNat = 5 from rfl, Nat.reduceMul, Nat.reduceEqDiff, Go.Addr.add, ↓reduceIte] at hx533_0)
                       have qi533 : (5 < x6_3.length) = True := eq_true (by omega)
                       (try rw [show ((5 : Int)).toNat = 5 from rfl] at hx533_0)
                       replace p533 := eq_true p533
                       replace q533 := eq_true q533
                       have p534 : 0 ≤ (6 : Int) := (by omega)
                       have q534 : 6 < (x6_3.length : Int) := sqD
                       obtain ⟨ad534, e534, hx534_0⟩ := Kd.at_int (Kd.R_reads' HO_6.out).2.2 6 p534 q534
                       obtain rfl : ad512 = ad534 := (by injection e534)
                       (try simp only [show (6 : Int).toNat = 6 from rfl, Nat.reduceMul, Nat.reduceEqDiff, Go.Addr.add, ↓reduceIte] at hx534_0)
                       have qi534 : (6 < x6_3.length) = True := eq_true (by omega)
                       (try rw [show ((6 : Int)).toNat = 6 from rfl] at hx534_0)
                       replace p534 := eq_true p534
                       replace q534 := eq_true q534
                       refine start_ (n := 28) (S := fun w' => w'.cell? ad512 = some (.int .u32 (rd x6_3 0)) ∧ w'.cell? ⟨ad512.block, ad512.off + 1, none⟩ = some (.int .u32 (rd x6_3 1)) ∧ w'.cell? ⟨ad512.block, ad512.off + 2, none⟩ = some (.int .u32 (rd x6_3 2)) ∧ w'.cell? ⟨ad512.block, ad512.off + 3, none⟩ = some (.int .u32 (rd x6_3 3)) ∧ w'.cell? ⟨ad512.block, ad512.off + 4, none⟩ = some (.int .u32 (rd x6_3 4)) ∧ w'.cell? ⟨ad512.block, ad512.off + 5, none⟩ = some (.int .u32 (rd x6_3 5)) ∧ w'.cell? ⟨ad512.block, ad512.off + 6, none⟩ = some (.int .u32 (rd x6_3 6))) (ds := []) (sqb 0 28) (by kernel_rfl) rfl rfl ⟨hx528_0, hx529_0, hx530_0, hx531_0, hx532_0, hx533_0, hx534_0⟩ (fun hHeld => ?_); refine with_tabW impl_ShaBlock.tab19 impl_ShaBlock.bits19 (fun HT_ HW_ => ?_)
                       generalize w49.drew = w50 at HO_5 HO_6 HO_9 HO_50 HB hx528_0 hx529_0 hx530_0 hx531_0 hx532_0 hx533_0 hx534_0 hHeld ⊢
                       refine sqP (i := 0) (N := some 123) (sqb 1 27) rfl rfl (any_of HT_.out (by kernel_rfl)) ?_
                       refine sqP (i := 1) (N := some 124) (sqb 2 26) rfl rfl (any_of HT_.out (by kernel_rfl)) ?_
                       refine sqP (i := 2) (N := some 125) (sqb 3 25) rfl rfl (any_of HT_.out (by kernel_rfl)) ?_
                       refine sqP (i := 3) (N := some 126) (sqb 4 24) rfl rfl (any_of HT_.out (by kernel_rfl)) ?_
                       refine sqP (i := 4) (N := some 127) (sqb 5 23) rfl rfl (any_of HT_.out (by kernel_rfl)) ?_
                       refine sqP (i := 6) (N := some 129) (sqr [5, 1, 1, 21]) rfl rfl (any_of HT_.out (by kernel_rfl)) ?_
                       refine sqP (i := 7) (N := some 130) (sqr [5, 1, 2, 20]) rfl rfl (any_of HT_.out (by kernel_rfl)) ?_
                       refine sqP (i := 9) (N := some 132) (sqr [5, 1, 2, 1, 1, 18]) rfl rfl (any_of HT_.out (by kernel_rfl)) ?_
                       refine sqP (i := 10) (N := some 133) (sqr [5, 1, 2, 1, 2, 17]) rfl rfl (any_of HT_.out (by kernel_rfl)) ?_
                       refine sqP (i := 12) (N := some 135) (sqr [5, 1, 2, 1, 2, 1, 1, 15]) rfl rfl (any_of HT_.out (by kernel_rfl)) ?_
                       refine sqP (i := 13) (N := some 136) (sqr [5, 1, 2, 1, 2, 1, 2, 14]) rfl rfl (any_of HT_.out (by kernel_rfl)) ?_
                       refine sqP (i := 15) (N := some 138) (sqr [5, 1, 2, 1, 2, 1, 2, 1, 1, 12]) rfl rfl (any_of HT_.out (by kernel_rfl)) ?_
                       refine sqP (i := 17) (N := some 140) (sqr [5, 1, 2, 1, 2, 1, 2, 1, 1, 1, 1, 10]) rfl rfl (any_of HT_.out (by kernel_rfl)) ?_
                       refine sqP (i := 18) (N := some 141) (sqr [5, 1, 2, 1, 2, 1, 2, 1, 1, 1, 2, 9]) rfl rfl (any_of HT_.out (by kernel_rfl)) ?_
                       refine sqP (i := 20) (N := some 143) (sqr [5, 1, 2, 1, 2, 1, 2, 1, 1, 1, 2, 1, 1, 7]) rfl rfl (any_of HT_.out (by kernel_rfl)) ?_
                       refine sqP (i := 21) (N := some 144) (sqr [5, 1, 2, 1, 2, 1, 2, 1, 1, 1, 2, 1, 2, 6]) rfl rfl (any_of HT_.out (by kernel_rfl)) ?_
                       refine sqP (i := 23) (N := some 146) (sqr [5, 1, 2, 1, 2, 1, 2, 1, 1, 1, 2, 1, 2, 1, 1, 4]) rfl rfl (any_of HT_.out (by kernel_rfl)) ?_
                       refine sqP (i := 24) (N := some 147) (sqr [5, 1, 2, 1, 2, 1, 2, 1, 1, 1, 2, 1, 2, 1, 2, 3]) rfl rfl (any_of HT_.out (by kernel_rfl)) ?_
                       refine sqTk (i := 5) (N := some 128) (sqr [8, 1, 2, 1, 2, 1, 1, 1, 2, 1, 2, 1, 2, 3]) rfl rfl (take_ofW HT_.out HW_.out (by kernel_rfl)) hHeld ?_
                       refine sqTk (i := 8) (N := some 131) (sqr [11, 1, 2, 1, 1, 1, 2, 1, 2, 1, 2, 3]) rfl rfl (take_ofW HT_.out HW_.out (by kernel_rfl)) hHeld ?_
                       refine sqTk (i := 11) (N := some 134) (sqr [14, 1, 1, 1, 2, 1, 2, 1, 2, 3]) rfl rfl (take_ofW HT_.out HW_.out (by kernel_rfl)) hHeld ?_
                       refine sqTk (i := 14) (N := some 137) (sqr [16, 1, 2, 1, 2, 1, 2, 3]) rfl rfl (take_ofW HT_.out HW_.out (by kernel_rfl)) hHeld ?_
                       refine sqP (i := 16) (N := some 139) (sqr [19, 1, 2, 1, 2, 3]) rfl rfl (any_of HT_.out (by kernel_rfl)) ?_
                       refine sqTk (i := 19) (N := some 142) (sqr [22, 1, 2, 3]) rfl rfl (take_ofW HT_.out HW_.out (by kernel_rfl)) hHeld ?_
                       refine sqTk (i := 22) (N := some 145) (sqb 25 3) rfl rfl (take_ofW HT_.out HW_.out (by kernel_rfl)) hHeld ?_
                       refine sqTk (i := 25) (N := some 148) (sqb 26 2) rfl rfl (take_ofW HT_.out HW_.out (by kernel_rfl)) hHeld ?_
                       refine one_ (i := 26) (N := some 149) (sqb 27 1) rfl rfl (one_of HT_.out (by kernel_rfl)) (by decide) (fun K hK => ?_)
                       refine Kd.R_lit_step (Kd.int .u32) _ 63 ?hg (N := 149) ?hd (xs := ([((((((((((rd x6_3 7) + (Go.bits .xor .u32 (Go.bits .xor .u32 t515 t516) t517)) % 4294967296) + (Go.bits .xor .u32 (Go.bits .and .u32 (rd x6_3 4) (rd x6_3 5)) (Go.bits .and .u32 (Go.bits .xor .u32 IntKind.u32.max (rd x6_3 4)) (rd x6_3 6)))) % 4294967296) + (rd t505 x52_3)) % 4294967296) + (rd t508 x52_3)) % 4294967296) + (((Go.bits .xor .u32 (Go.bits .xor .u32 t521 t522) t523) + (Go.bits .xor .u32 (Go.bits .xor .u32 (Go.bits .and .u32 (rd x6_3 0) (rd x6_3 1)) (Go.bits .and .u32 (rd x6_3 0) (rd x6_3 2))) (Go.bits .and .u32 (rd x6_3 1) (rd x6_3 2)))) % 4294967296)) % 4294967296, rd x6_3 0, rd x6_3 1, rd x6_3 2, ((rd x6_3 3) + (((((((((rd x6_3 7) + (Go.bits .xor .u32 (Go.bits .xor .u32 t515 t516) t517)) % 4294967296) + (Go.bits .xor .u32 (Go.bits .and .u32 (rd x6_3 4) (rd x6_3 5)) (Go.bits .and .u32 (Go.bits .xor .u32 IntKind.u32.max (rd x6_3 4)) (rd x6_3 6)))) % 4294967296) + (rd t505 x52_3)) % 4294967296) + (rd t508 x52_3)) % 4294967296)) % 4294967296, rd x6_3 4, rd x6_3 5, rd x6_3 6] : List Int)) (inner := [.int .u32 (((((((((((rd x6_3 7) + (Go.bits .xor .u32 (Go.bits .xor .u32 t515 t516) t517)) % 4294967296) + (Go.bits .xor .u32 (Go.bits .and .u32 (rd x6_3 4) (rd x6_3 5)) (Go.bits .and .u32 (Go.bits .xor .u32 IntKind.u32.max (rd x6_3 4)) (rd x6_3 6)))) % 4294967296) + (rd t505 x52_3)) % 4294967296) + (rd t508 x52_3)) % 4294967296) + (((Go.bits .xor .u32 (Go.bits .xor .u32 t521 t522) t523) + (Go.bits .xor .u32 (Go.bits .xor .u32 (Go.bits .and .u32 (rd x6_3 0) (rd x6_3 1)) (Go.bits .and .u32 (rd x6_3 0) (rd x6_3 2))) (Go.bits .and .u32 (rd x6_3 1) (rd x6_3 2)))) % 4294967296)) % 4294967296), .int .u32 (rd x6_3 0), .int .u32 (rd x6_3 1), .int .u32 (rd x6_3 2), .int .u32 (((rd x6_3 3) + (((((((((rd x6_3 7) + (Go.bits .xor .u32 (Go.bits .xor .u32 t515 t516) t517)) % 4294967296) + (Go.bits .xor .u32 (Go.bits .and .u32 (rd x6_3 4) (rd x6_3 5)) (Go.bits .and .u32 (Go.bits .xor .u32 IntKind.u32.max (rd x6_3 4)) (rd x6_3 6)))) % 4294967296) + (rd t505 x52_3)) % 4294967296) + (rd t508 x52_3)) % 4294967296)) % 4294967296), .int .u32 (rd x6_3 4), .int .u32 (rd x6_3 5), .int .u32 (rd x6_3 6)]) (ok := fun _ => True) (okp := fun _ => True) ?hr ?hp (fun _ hk => hk) trivial (Below.refl _ _) (Nat.le_refl _) (by simp) ?_; (case hd => rfl); (case hg => rfl); (case hr => first | (go_simp; done) | (go_simp; rfl) | (go_simp; simp only [Go.IntKind.wrap_u32, Int.emod_add_emod, Int.add_emod_emod]; done) | (go_simp; simp only [Go.IntKind.wrap_u32, Int.emod_add_emod, Int.add_emod_emod]; rfl)); (case hp => exact (Reps.one (show Kd.M (Kd.int .u32) _ _ _ (((((((((((rd x6_3 7) + (Go.bits .xor .u32 (Go.bits .xor .u32 t515 t516) t517)) % 4294967296) + (Go.bits .xor .u32 (Go.bits .and .u32 (rd x6_3 4) (rd x6_3 5)) (Go.bits .and .u32 (Go.bits .xor .u32 IntKind.u32.max (rd x6_3 4)) (rd x6_3 6)))) % 4294967296) + (rd t505 x52_3)) % 4294967296) + (rd t508 x52_3)) % 4294967296) + (((Go.bits .xor .u32 (Go.bits .xor .u32 t521 t522) t523) + (Go.bits .xor .u32 (Go.bits .xor .u32 (Go.bits .and .u32 (rd x6_3 0) (rd x6_3 1)) (Go.bits .and .u32 (rd x6_3 0) (rd x6_3 2))) (Go.bits .and .u32 (rd x6_3 1) (rd x6_3 2)))) % 4294967296)) % 4294967296) [.int .u32 (((((((((((rd x6_3 7) + (Go.bits .xor .u32 (Go.bits .xor .u32 t515 t516) t517)) % 4294967296) + (Go.bits .xor .u32 (Go.bits .and .u32 (rd x6_3 4) (rd x6_3 5)) (Go.bits .and .u32 (Go.bits .xor .u32 IntKind.u32.max (rd x6_3 4)) (rd x6_3 6)))) % 4294967296) + (rd t505 x52_3)) % 4294967296) + (rd t508 x52_3)) % 4294967296) + (((Go.bits .xor .u32 (Go.bits .xor .u32 t521 t522) t523) + (Go.bits .xor .u32 (Go.bits .xor .u32 (Go.bits .and .u32 (rd x6_3 0) (rd x6_3 1)) (Go.bits .and .u32 (rd x6_3 0) (rd x6_3 2))) (Go.bits .and .u32 (rd x6_3 1) (rd x6_3 2)))) % 4294967296)) % 4294967296)] from rfl) (Reps.one (show Kd.M (Kd.int .u32) _ _ _ (rd x6_3 0) [.int .u32 (rd x6_3 0)] from rfl) (Reps.one (show Kd.M (Kd.int .u32) _ _ _ (rd x6_3 1) [.int .u32 (rd x6_3 1)] from rfl) (Reps.one (show Kd.M (Kd.int .u32) _ _ _ (rd x6_3 2) [.int .u32 (rd x6_3 2)] from rfl) (Reps.one (show Kd.M (Kd.int .u32) _ _ _ (((rd x6_3 3) + (((((((((rd x6_3 7) + (Go.bits .xor .u32 (Go.bits .xor .u32 t515 t516) t517)) % 4294967296) + (Go.bits .xor .u32 (Go.bits .and .u32 (rd x6_3 4) (rd x6_3 5)) (Go.bits .and .u32 (Go.bits .xor .u32 IntKind.u32.max (rd x6_3 4)) (rd x6_3 6)))) % 4294967296) + (rd t505 x52_3)) % 4294967296) + (rd t508 x52_3)) % 4294967296)) % 4294967296) [.int .u32 (((rd x6_3 3) + (((((((((rd x6_3 7) + (Go.bits .xor .u32 (Go.bits .xor .u32 t515 t516) t517)) % 4294967296) + (Go.bits .xor .u32 (Go.bits .and .u32 (rd x6_3 4) (rd x6_3 5)) (Go.bits .and .u32 (Go.bits .xor .u32 IntKind.u32.max (rd x6_3 4)) (rd x6_3 6)))) % 4294967296) + (rd t505 x52_3)) % 4294967296) + (rd t508 x52_3)) % 4294967296)) % 4294967296)] from rfl) (Reps.one (show Kd.M (Kd.int .u32) _ _ _ (rd x6_3 4) [.int .u32 (rd x6_3 4)] from rfl) (Reps.one (show Kd.M (Kd.int .u32) _ _ _ (rd x6_3 5) [.int .u32 (rd x6_3 5)] from rfl) (Reps.one (show Kd.M (Kd.int .u32) _ _ _ (rd x6_3 6) [.int .u32 (rd x6_3 6)] from rfl) (Reps.none _ _))))))))))
                       intro v536 w51 ho52 hb hg_ hnew_
                       have HS0_ := (hb.cell (World.block_lt_of_cell? _ _ (hHeld.1))).trans (hHeld.1)
                       have HS1_ := (hb.cell (World.block_lt_of_cell? _ _ (hHeld.2.1))).trans (hHeld.2.1)
                       have HS2_ := (hb.cell (World.block_lt_of_cell? _ _ (hHeld.2.2.1))).trans (hHeld.2.2.1)
                       have HS3_ := (hb.cell (World.block_lt_of_cell? _ _ (hHeld.2.2.2.1))).trans (hHeld.2.2.2.1)
                       have HS4_ := (hb.cell (World.block_lt_of_cell? _ _ (hHeld.2.2.2.2.1))).trans (hHeld.2.2.2.2.1)
                       have HS5_ := (hb.cell (World.block_lt_of_cell? _ _ (hHeld.2.2.2.2.2.1))).trans (hHeld.2.2.2.2.2.1)
                       have HS6_ := (hb.cell (World.block_lt_of_cell? _ _ (hHeld.2.2.2.2.2.2))).trans (hHeld.2.2.2.2.2.2)
                       clear hg_ hnew_
                       (first | rw [← Ny535.out] at ho52 | (simp only [Int.reduceToNat] at ho52; rw [← Ny535.out] at ho52))
                       replace HO_5 := Aside0.mk (Kd.R_below (sqR HO_5) hb); have HO537 := Aside0.mk (Kd.R_lower (Kd.R_new' (Kd.R_new' (Kd.R_new' ho52 (Kd.R_lt (sqR HO_6))) (Kd.R_lt (sqR HO_9))) (Kd.R_lt (sqR HO_50))) (below_size (sqB))); replace HO_6 := Aside0.mk (Kd.R_elder' (sqR HO_6) (Kd.R_base ho52) hb); replace HO_9 := Aside0.mk (Kd.R_elder' (sqR HO_9) (Kd.R_base ho52) hb); replace HO_50 := Aside0.mk (Kd.R_elder' (sqR HO_50) (Kd.R_base ho52) hb); replace HB := sqS hb
                       clear hb ho52
                       refine hK.out _ _ ⟨HS0_, HS1_, HS2_, HS3_, HS4_, HS5_, HS6_⟩ (fun hHeld => ?_)
                       clear hK K
                       refine sqV (N := some 149) ?_
                       refine sqP (i := 27) (N := some 6) (sqb 28 0) rfl rfl (any_of HT_.out (by kernel_rfl)) ?_
                       refine done_ (done_of HT_.out (by kernel_rfl)) ?_
                       try go_wp2
                       go_roundg k3
                       case measure => have := HJ3.out; have := HK2.out; have := HK3.out; omega
                       case rel => exact ⟨(y535), (wrap64 (x52_3 + 1)), (by first | rfl | (simp; done) | (simp [*]; done)), H', ⟨by have := HJ3.out; have := HK2.out; have := HK3.out; omega⟩, ⟨sqR HO_5⟩, ⟨by (with_reducible repeat (first | apply Kd.R_alloc | apply Kd.R_drewN | apply Kd.R_drew)); exact Kd.R_mono HO537.out (fun _ hk => by (refine ⟨?_, ?_⟩ <;> first | exact hk | trivial | exact hk.1 | exact hk.2 | exact hk.1.1 | exact hk.1.2 | exact hk.2.1 | exact hk.2.2 | exact hk.1.1.1 | exact hk.1.1.2 | exact hk.1.2.1 | exact hk.1.2.2))⟩, ⟨by (with_reducible repeat (first | apply Kd.R_alloc | apply Kd.R_drewN | apply Kd.R_drew)); exact Kd.R_mono HO_9.out (fun _ hk => by (refine ⟨?_, ?_⟩ <;> first | exact hk | trivial | exact hk.1 | exact hk.2 | exact hk.1.1 | exact hk.1.2 | exact hk.2.1 | exact hk.2.2 | exact hk.1.1.1 | exact hk.1.1.2 | exact hk.1.2.1 | exact hk.1.2.2))⟩, ⟨by (with_reducible repeat (first | apply Kd.R_alloc | apply Kd.R_drewN | apply Kd.R_drew)); exact Kd.R_mono HO_50.out (fun _ hk => by (refine ⟨?_, ?_⟩ <;> first | exact hk | trivial | exact hk.1 | exact hk.2 | exact hk.1.1 | exact hk.1.2 | exact hk.2.1 | exact hk.2.2 | exact hk.1.1.1 | exact hk.1.1.2 | exact hk.1.2.1 | exact hk.1.2.2))⟩, ⟨sqB⟩⟩
                      ·rw [if_neg c44] at H
                       exact absurd H (by simp)
                     ·rw [if_neg c43] at H
                      exact absurd H (by simp)
                    ·rw [if_neg c42] at H
                     exact absurd H (by simp)
                   ·rw [if_neg c38] at H
                    exact absurd H (by simp)
                  ·rw [if_neg c37] at H
                   exact absurd H (by simp)
                 ·rw [if_neg c36] at H
                  exact absurd H (by simp)
                ·rw [if_neg c32] at H
                 exact absurd H (by simp)
               ·rw [if_neg c31] at H
                exact absurd H (by simp)
              ·rw [if_neg c30] at H
               exact absurd H (by simp)
             ·rw [if_neg c29] at H
              exact absurd H (by simp)
            ·rw [if_neg c28] at H
             exact absurd H (by simp)
           ·rw [if_neg c27] at H
            have c27b0 : decide (x52_3 < (t508.length : Int)) = false := decide_eq_false c27
            clear c27
            have H' := Aside0.mk H
            clear H
            obtain ⟨Ao53, co53, eo53⟩ := Kd.R_slice HO_6.out
            subst eo53
            go_wp2
            go_loopg [153] k3 (fun kq v153 w' => ∃ (x5_4 : List Int) (x153_4 : Int), v153 = .int .i64 x153_4 ∧ Aside0 (impl_ShaBlock.l2 kq x5_4 x6_3 (x6_3.length : Int) x153_4 = some r) ∧ Aside0 (kq ≤ k3) ∧ Aside0 (Kd.R (Kd.int .i64) 3 w' w.heap.size (fun _ => True) v497 x5_4) ∧ Aside0 (Kd.R (Kd.int .u32) 63 w' w.heap.size (fun _ => True) (.slice Ao53 x6_3.length co53) x6_3) ∧ Aside0 (Below w.heap.size w w'))
            case atStart => exact ⟨(y496), (0), (by first | rfl | (simp; done) | (simp [*]; done)), H', ⟨Nat.le_refl _⟩, ⟨sqR HO_5⟩, ⟨by (with_reducible repeat (first | apply Kd.R_alloc | apply Kd.R_drewN | apply Kd.R_drew)); exact Kd.R_mono HO_6.out (fun _ hk => trivial)⟩, ⟨sqB⟩⟩
            case round =>
             clear H'
             try clear c2
             try clear p2
             try clear c3
             try clear c4
             try clear c5
             try clear p5
             try clear q5
             try clear hx5
             try clear qi5
             try clear p6
             try clear c27
             try clear c27b0
             try clear c28
             try clear c29
             try clear c30
             try clear c31
             try clear c32
             try clear c36
             try clear c37
             try clear c38
             try clear c42
             try clear c43
             try clear c44
             try clear p52
             try clear q52
             try clear hx52
             try clear qi52
             try clear c53
             try clear p53
             try clear q53
             try clear hx53
             try clear qi53
             try clear hx528_0
             try clear hx529_0
             try clear hx530_0
             try clear hx531_0
             try clear hx532_0
             try clear hx533_0
             try clear hx534_0
             try clear p528
             try clear p529
             try clear p530
             try clear p531
             try clear p532
             try clear p533
             try clear p534
             try clear q528
             try clear q529
             try clear q530
             try clear q531
             try clear q532
             try clear q533
             try clear q534
             obtain ⟨x5_4, x153_4, rfl, HA, HK4, HO_5, HO_151, HB⟩ := hrel
             cases gk with
             | zero => exact absurd HA.out (by simp [impl_ShaBlock.l2])
             | succ k4 =>
              have H := HA.out
              clear HA
              simp only [impl_ShaBlock.l2] at H
              by_cases c54 : x153_4 < (x6_3.length : Int)
              ·rw [if_pos c54] at H
               have c54b0 : decide (x153_4 < (x6_3.length : Int)) = true := decide_eq_true c54
               clear c54
               by_cases c55 : 0 ≤ x153_4
               ·rw [if_pos c55] at H
                have c55b0 : decide (0 ≤ x153_4) = true := decide_eq_true c55
                clear c55
                by_cases c56 : x153_4 < (x6_3.length : Int)
                ·rw [if_pos c56] at H
                 have c56b0 : decide (x153_4 < (x6_3.length : Int)) = true := decide_eq_true c56
                 clear c56
                 by_cases c57 : x153_4 < (x5_4.length : Int)
                 ·rw [if_pos c57] at H
                  have c57b0 : decide (x153_4 < (x5_4.length : Int)) = true := decide_eq_true c57
                  clear c57
                  obtain ⟨y540, hy540⟩ : ∃ y_ : List Int, y_ = (x5_4.set (x153_4 : Int).toNat ((((rd x5_4 x153_4) % 4294967296) + (rd x6_3 x153_4)) % 4294967296)) := ⟨_, rfl⟩
                  replace H : (impl_ShaBlock.l2 k4 y540 x6_3 (x6_3.length : Int) (wrap64 (x153_4 + 1))) = some r := by first | (rw [hy540]; with_reducible exact H) | (have H2_ := (Option.bind_some _ _).symm.trans H; rw [hy540]; with_reducible exact H2_) | (have H2_ := (Option.bind_some _ _).symm.trans H; with_reducible exact H2_) | with_reducible exact H | (rw [hy540]; exact H) | exact H
                  have Ny540 := Aside0.mk hy540
                  clear hy540
                  have H' := Aside0.mk H
                  clear H
                  have p538 : 0 ≤ (x153_4 : Int) := sqD
                  have q538 : x153_4 < (x6_3.length : Int) := sqD
                  obtain ⟨ad538, e538, hx538_0⟩ := Kd.at_int (Kd.R_reads' HO_151.out).2.2 x153_4 p538 q538
                  cases e538
                  replace p538 := eq_true p538
                  replace q538 := eq_true q538
                  obtain ⟨Ao59, co59, eo59⟩ := Kd.R_slice HO_5.out
                  subst eo59
                  have p539 : 0 ≤ (x153_4 : Int) := sqD
                  have q539 : x153_4 < (x5_4.length : Int) := sqD
                  obtain ⟨ad539, e539, hx539_0⟩ := Kd.at_int (Kd.R_reads' HO_5.out).2.2 x153_4 p539 q539
                  cases e539
                  replace p539 := eq_true p539
                  replace q539 := eq_true q539
                  have p58 : 0 ≤ (x153_4 : Int) := sqD
                  have q58 : (x153_4 : Int) < ((x5_4.length : Int) : Int) := sqD
                  obtain ⟨go58, co58, eo58, gb58, gl58, cl58, HG58⟩ := Kd.R_form HO_5.out (by omega)
                  (first | cases eo58 | (injection eo58 with ea_ en_ ec_; (first | subst ea_ | (injection ea_ with ea_; subst ea_)); subst ec_; clear en_))
                  have GB58 := Aside0.mk gb58
                  have GG58 := Aside0.mk HG58
                  clear gb58 gl58 HG58
                  (first | simp only [add_plain] at hx539_0 | skip)
                  obtain ⟨hx58_0, hf58_0⟩ := Kd.R_celln 0 HO_5.out (x153_4 : Int) p58 q58
                  replace p58 := eq_true p58
                  replace q58 := eq_true q58
                  have HP60 := Kd.R_putg HO_5.out (x153_4 : Int) ((((rd x5_4 x153_4) % 4294967296) + (rd x6_3 x153_4)) % 4294967296)
                  go_wp2_with (first | ((with_reducible refine gate_store (t := 3) (p := 168) rfl ?_); refine store_event (t := 3) (p := 168) (v := ?vo_w61) (w1 := (wr.setCell ⟨go58, (x153_4 : Int).toNat, none⟩ (.int .i64 ((((rd x5_4 x153_4) % 4294967296) + (rd x6_3 x153_4)) % 4294967296)))) ?hg ?ho ?hn ?hr ?_; (case ho => rfl); (case hg => rfl); (case hn => rfl); (case hr => first | (go_simp; done) | (go_simp; rfl) | (go_simp; simp only [Go.IntKind.wrap_u32, Int.emod_add_emod, Int.add_emod_emod]; done) | (go_simp; simp only [Go.IntKind.wrap_u32, Int.emod_add_emod, Int.add_emod_emod]; rfl)); intro w61 hw; have hg : wr.grownBy w61 (some go58) := (by rw [hw]; exact HP60.2); have hp_ : Kd.R (Kd.int .i64) 3 w61 w.heap.size (fun _ => True) (.slice (some ⟨go58, 0, none⟩) x5_4.length co59) y540 := (by rw [hw, Ny540.out]; exact HP60.1); clear HP60; replace HO_151 := Aside0.mk (Kd.R_over' (v := (.slice (some ⟨go58, 0, none⟩) x5_4.length co59)) (sqR HO_151) (Kd.R_typed HO_5.out) (by decide) hg); replace HO_5 := Aside0.mk (hp_); replace HB := Aside0.mk ((by rw [hw]; exact below_set (HB.out) GB58.out : Below w.heap.size w w61)); clear hg hw hp_))
                  go_roundg k4
                  case measure => have := HJ3.out; have := HK2.out; have := HK3.out; have := HK4.out; omega
                  case rel => exact ⟨(y540), (wrap64 (x153_4 + 1)), (by first | rfl | (simp; done) | (simp [*]; done)), H', ⟨by have := HJ3.out; have := HK2.out; have := HK3.out; have := HK4.out; omega⟩, ⟨sqR HO_5⟩, ⟨sqR HO_151⟩, ⟨sqB⟩⟩
                 ·rw [if_neg c57] at H
                  exact absurd H (by simp)
                ·rw [if_neg c56] at H
                 exact absurd H (by simp)
               ·rw [if_neg c55] at H
                exact absurd H (by simp)
              ·rw [if_neg c54] at H
               have c54b0 : decide (x153_4 < (x6_3.length : Int)) = false := decide_eq_false c54
               clear c54
               obtain rfl := Option.some.inj H
               go_wp2
               go_ret
               exact ⟨_, sqE, sqR HO_5, sqB⟩
     ·rw [if_neg c10] at H
      exact absurd H (by simp)
 ·rw [if_neg c3] at H
  exact absurd H (by simp)

end Go.Proofs.Ythodhbgocnbddaa.PFnWords
