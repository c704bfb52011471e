/- What the code that one law of the given program reaches computes, function by function, each with its proof over the given translation.
Conditions: none of our own. (Laid by a program of this session, wip/xp/xp.py; some contracts are typed by hand.) -/
import Derived.Test.YthodhbgocnbddaaPFnWordsx0
import Derived.Test.YthodhbgocnbddaaPFnWordsx12
namespace Go.Proofs.Ythodhbgocnbddaa.PFnWords
open Go.RowKit Go.Proofs.YthodhbgocnbddaaW.PrintWords Go.Proofs.YthodhbgocnbddaaW.PrintLast Go.Proofs.YthodhbgocnbddaaW.PrintMore
attribute [local go_sem] max2_int min2_int max_two min_two max_three min_three max_four min_four   -- for this text's walks alone
set_option linter.unusedVariables false
set_option linter.unusedSimpArgs false

/-! ### impl_schedule: function 52 -/
mutual
def impl_schedule.l0 : Nat → ByteArray → List Int → Int → Option (List Int)
 | 0, _, _, _ => none
 | k + 1, x0, x3, x11 => if x11 < 16 then (if 0 ≤ (wrap64 (4 * x11)) then (if (wrap64 (4 * x11)) < (x0.size : Int) then (if 0 ≤ (wrap64 ((wrap64 (4 * x11)) + 1)) then (if (wrap64 ((wrap64 (4 * x11)) + 1)) < (x0.size : Int) then (if 0 ≤ (wrap64 ((wrap64 (4 * x11)) + 2)) then (if (wrap64 ((wrap64 (4 * x11)) + 2)) < (x0.size : Int) then (if 0 ≤ (wrap64 ((wrap64 (4 * x11)) + 3)) then (if (wrap64 ((wrap64 (4 * x11)) + 3)) < (x0.size : Int) then (if x3.length < 35184372088832 then (impl_schedule.l0 k x0 (x3 ++ [Go.bits .or .u32 (Go.bits .or .u32 (Go.bits .or .u32 ((((bt x0 (wrap64 (4 * x11))) % 4294967296) * 16777216) % 4294967296) ((((bt x0 (wrap64 ((wrap64 (4 * x11)) + 1))) % 4294967296) * 65536) % 4294967296)) ((((bt x0 (wrap64 ((wrap64 (4 * x11)) + 2))) % 4294967296) * 256) % 4294967296)) ((bt x0 (wrap64 ((wrap64 (4 * x11)) + 3))) % 4294967296)]) (wrap64 (x11 + 1))) else (none)) else (none)) else (none)) else (none)) else (none)) else (none)) else (none)) else (none)) else (none)) else (impl_schedule.l1 k x3 16)
def impl_schedule.l1 : Nat → List Int → Int → Option (List Int)
 | 0, _, _ => none
 | k + 1, x3, x5 => if x5 < 64 then (if 0 ≤ (wrap64 (x5 - 15)) then (if (wrap64 (x5 - 15)) < (x3.length : Int) then (if 0 ≤ (wrap64 (x5 - 2)) then (if (wrap64 (x5 - 2)) < (x3.length : Int) then ((impl_turn.f (rd x3 (wrap64 (x5 - 15))) 7).bind fun t484 => ((impl_turn.f (rd x3 (wrap64 (x5 - 15))) 18).bind fun t485 => ((impl_turn.f (rd x3 (wrap64 (x5 - 2))) 17).bind fun t486 => ((impl_turn.f (rd x3 (wrap64 (x5 - 2))) 19).bind fun t487 => (if 0 ≤ (wrap64 (x5 - 16)) then (if (wrap64 (x5 - 16)) < (x3.length : Int) then (if 0 ≤ (wrap64 (x5 - 7)) then (if (wrap64 (x5 - 7)) < (x3.length : Int) then (if x3.length < 35184372088832 then (impl_schedule.l1 k (x3 ++ [((((((rd x3 (wrap64 (x5 - 16))) + (Go.bits .xor .u32 (Go.bits .xor .u32 t484 t485) ((rd x3 (wrap64 (x5 - 15))) / 8))) % 4294967296) + (rd x3 (wrap64 (x5 - 7)))) % 4294967296) + (Go.bits .xor .u32 (Go.bits .xor .u32 t486 t487) ((rd x3 (wrap64 (x5 - 2))) / 1024))) % 4294967296]) (wrap64 (x5 + 1))) else (none)) else (none)) else (none)) else (none)) else (none)))))) else (none)) else (none)) else (none)) else (none)) else (some x3)
end
def impl_schedule.f (k : Nat) (a0 : ByteArray) : Option (List Int) := impl_schedule.l0 k a0 (([] : List Int)) 0
theorem impl_schedule.mono_l : ∀ k, (∀ y0 y1 y2, LeO (impl_schedule.l0 k y0 y1 y2) (impl_schedule.l0 (k + 1) y0 y1 y2)) ∧ (∀ y0 y1, LeO (impl_schedule.l1 k y0 y1) (impl_schedule.l1 (k + 1) y0 y1))
 | 0 => ⟨fun _ _ _ r h => by simp [impl_schedule.l0] at h, fun _ _ r h => by simp [impl_schedule.l1] at h⟩
 | k + 1 => by
  obtain ⟨ih0, ih1⟩ := impl_schedule.mono_l k
  refine ⟨?_, ?_⟩
  ·intro y0 y1 y2
   unfold impl_schedule.l0
   repeat' first
   | (with_reducible exact ih0 _ _ _)
   | (with_reducible exact ih1 _ _)
   | (with_reducible exact LeO.refl _)
   | (with_reducible exact LeO.none _)
   | (with_reducible refine LeO.ite ?_ ?_)
   | (with_reducible refine LeO.bind ?_ (fun _ => ?_))
   | exact ih0 _ _ _
   | exact ih1 _ _
   | exact LeO.none _
   | refine LeO.ite ?_ ?_
   | refine LeO.bind ?_ (fun _ => ?_)
  ·intro y0 y1
   unfold impl_schedule.l1
   repeat' first
   | (with_reducible exact ih0 _ _ _)
   | (with_reducible exact ih1 _ _)
   | (with_reducible exact LeO.refl _)
   | (with_reducible exact LeO.none _)
   | (with_reducible refine LeO.ite ?_ ?_)
   | (with_reducible refine LeO.bind ?_ (fun _ => ?_))
   | exact ih0 _ _ _
   | exact ih1 _ _
   | exact LeO.none _
   | refine LeO.ite ?_ ?_
   | refine LeO.bind ?_ (fun _ => ?_)
theorem impl_schedule.mono : ∀ a0 k, LeO (impl_schedule.f k a0) (impl_schedule.f (k + 1) a0) := by
 intro a0 k
 obtain ⟨ih0, ih1⟩ := impl_schedule.mono_l k
 unfold impl_schedule.f
 repeat' first
   | (with_reducible exact ih0 _ _ _)
   | (with_reducible exact ih1 _ _)
   | (with_reducible exact LeO.refl _)
   | (with_reducible exact LeO.none _)
   | (with_reducible refine LeO.ite ?_ ?_)
   | (with_reducible refine LeO.bind ?_ (fun _ => ?_))
   | exact ih0 _ _ _
   | exact ih1 _ _
   | exact LeO.none _
   | refine LeO.ite ?_ ?_
   | refine LeO.bind ?_ (fun _ => ?_)
def impl_schedule.T5 : Bool × List (List Nat × List Nat) := (true, [([], []), ([], []), ([], []), ([2], [2]), ([1, 3], [1, 3]), ([4], [4]), ([5], [5]), ([], []), ([], []), ([8], [8]), ([9], [9]), ([7, 10], [7, 10]), ([11], [11]), ([12], [12]), ([6, 13], [6, 13]), ([], []), ([], []), ([16], [16]), ([17], [17]), ([15, 18], [15, 18]), ([19], [19]), ([20], [20]), ([14, 21], [14, 21]), ([], []), ([], []), ([24], [24]), ([25], [25]), ([23, 26], [23, 26]), ([27], [27]), ([22, 28], [22, 28]), ([29], [29]), ([0, 30], [0, 30]), ([31, 31, 0, 1, 2, 3, 4, 5, 6, 7, 8, 9, 10, 11, 12, 13, 14, 15, 16, 17, 18, 19, 20, 21, 22, 23, 24, 25, 26, 27, 28, 29, 30, 31], [0, 31])])
def impl_schedule.B5 : List Nat := [0, 0, 0, 4, 14, 30, 62, 0, 0, 256, 768, 1920, 3968, 8064, 16382, 0, 0, 65536, 196608, 491520, 1015808, 2064384, 4194302, 0, 0, 16777216, 50331648, 125829120, 260046848, 536870910, 1073741822, 2147483647, 4294967295]
theorem impl_schedule.tab5 : rtab .any (opsOf Try.f52 5) = impl_schedule.T5 := by kernel_rfl
theorem impl_schedule.bits5 : waitsOk impl_schedule.T5.2 impl_schedule.B5 = true := by kernel_rfl
def impl_schedule.T10 : Bool × List (List Nat × List Nat) := (true, [([], []), ([], []), ([1], [1]), ([0, 2], [0, 2]), ([3], [3]), ([], []), ([], []), ([6], [6]), ([5, 7], [5, 7]), ([8], [8]), ([4, 0, 1, 2, 3, 4], [4]), ([9, 10, 0, 1, 2, 3, 4, 5, 6, 7, 8, 9, 10], [9])])
def impl_schedule.B10 : List Nat := [0, 0, 2, 7, 15, 0, 0, 64, 224, 480, 31, 2047]
theorem impl_schedule.tab10 : rtab .any (opsOf Try.f52 10) = impl_schedule.T10 := by kernel_rfl
theorem impl_schedule.bits10 : waitsOk impl_schedule.T10.2 impl_schedule.B10 = true := by kernel_rfl
def impl_schedule.T13 : Bool × List (List Nat × List Nat) := (true, [([], []), ([], []), ([], []), ([2], [2]), ([1, 3], [1, 3]), ([4], [4]), ([], []), ([5, 6], [5, 6]), ([], []), ([], []), ([9], [9]), ([8, 10], [8, 10]), ([11], [11]), ([7, 12], [7, 12]), ([], []), ([13, 14], [13, 14]), ([15], [15]), ([0, 16], [0, 16]), ([17, 17, 0, 1, 2, 3, 4, 5, 6, 7, 8, 9, 10, 11, 12, 13, 14, 15, 16, 17], [0, 1, 8, 17])])
def impl_schedule.B13 : List Nat := [0, 0, 0, 4, 14, 30, 0, 126, 0, 0, 512, 1792, 3840, 8190, 0, 32766, 65534, 131071, 262143]
theorem impl_schedule.tab13 : rtab .any (opsOf Try.f52 13) = impl_schedule.T13 := by kernel_rfl
theorem impl_schedule.bits13 : waitsOk impl_schedule.T13.2 impl_schedule.B13 = true := by kernel_rfl
set_option maxHeartbeats 8000000 in
set_option maxRecDepth 100000 in
theorem impl_schedule.calls (k : Nat) (a0 : ByteArray) (r : List Int) (w : World) (h : impl_schedule.f k a0 = some r) :
  Calls Try.prog 52 #[.string a0] w fun e w' => ∃ v0_ : Value, e = .returned (v0_) ∧ Kd.R (Kd.int .u32) 63 w' w.heap.size (fun _ => True) v0_ r ∧ Below w.heap.size w w' := by
 have HB := Aside0.mk (Below.refl w.heap.size w)
 have H : (impl_schedule.l0 k a0 (([] : List Int)) 0) = some r := h
 clear h
 obtain ⟨y476, hy476⟩ : ∃ y_ : List Int, y_ = (([] : List Int)) := ⟨_, rfl⟩
 replace H : (impl_schedule.l0 k a0 y476 0) = some r := by first | (rw [hy476]; with_reducible exact H) | (have H2_ := (Option.bind_some _ _).symm.trans H; rw [hy476]; with_reducible exact H2_) | (have H2_ := (Option.bind_some _ _).symm.trans H; with_reducible exact H2_) | with_reducible exact H | (rw [hy476]; exact H) | exact H
 have Ny476 := Aside0.mk hy476
 clear hy476
 have H' := Aside0.mk H
 clear H
 go_enter Try.func52, Try.ntmps52
 go_wp2_with (first | ((with_reducible refine gate_dst (N := 10) rfl ?_); refine Kd.R_lit (Kd.int .u32) _ 63 ?hg (N := 10) ?hd (xs := ([] : List Int)) (inner := []) (ok := fun _ => True) (okp := fun _ => True) ?hr ?hp (fun _ hk => hk) trivial (Below.refl _ _) (Nat.le_refl _) (by simp) ?_; (case hd => rfl); (case hg => rfl); (case hr => first | (go_simp; done) | (go_simp; rfl)); (case hp => exact (Reps.none _ _)); intro v477 w2 ho3 hb hg_ hnew_; clear hg_ hnew_; (first | rw [← Ny476.out] at ho3 | (simp only [Int.reduceToNat] at ho3; rw [← Ny476.out] at ho3)); have HO478 := Aside0.mk (Kd.R_lower ho3 (below_size (sqB))); replace HB := sqS hb; clear hb ho3))
 go_loopg [3, 11] k (fun kq v3 v11 w' => ∃ (x3_1 : List Int) (x11_1 : Int), v11 = .int .i64 x11_1 ∧ Aside0 (impl_schedule.l0 kq a0 x3_1 x11_1 = some r) ∧ Aside0 (kq ≤ k) ∧ Aside0 (Kd.R (Kd.int .u32) 63 w' w.heap.size (fun _ => True) v3 x3_1) ∧ Aside0 (Below w.heap.size w w'))
 case atStart => exact ⟨(y476), (0), (by first | rfl | (simp; done) | (simp [*]; done)), H', ⟨Nat.le_refl _⟩, ⟨sqR HO478⟩, ⟨sqB⟩⟩
 case round =>
  clear H'
  try clear p2
  obtain ⟨x3_1, x11_1, rfl, HA, HK1, HO_3, HB⟩ := hrel
  cases gk with
  | zero => exact absurd HA.out (by simp [impl_schedule.l0])
  | succ k1 =>
   have H := HA.out
   clear HA
   simp only [impl_schedule.l0] at H
   by_cases c4 : x11_1 < 16
   ·rw [if_pos c4] at H
    have c4b0 : decide (x11_1 < 16) = true := decide_eq_true c4
    clear c4
    obtain ⟨ji5, hji5⟩ : ∃ j_ : Int, (wrap64 (4 * x11_1)) = j_ := ⟨_, rfl⟩
    replace H : (if 0 ≤ (ji5) then (if (ji5) < (a0.size : Int) then (if 0 ≤ (wrap64 ((ji5) + 1)) then (if (wrap64 ((ji5) + 1)) < (a0.size : Int) then (if 0 ≤ (wrap64 ((ji5) + 2)) then (if (wrap64 ((ji5) + 2)) < (a0.size : Int) then (if 0 ≤ (wrap64 ((ji5) + 3)) then (if (wrap64 ((ji5) + 3)) < (a0.size : Int) then (if x3_1.length < 35184372088832 then (impl_schedule.l0 k1 a0 (x3_1 ++ [Go.bits .or .u32 (Go.bits .or .u32 (Go.bits .or .u32 ((((bt a0 (ji5)) % 4294967296) * 16777216) % 4294967296) ((((bt a0 (wrap64 ((ji5) + 1))) % 4294967296) * 65536) % 4294967296)) ((((bt a0 (wrap64 ((ji5) + 2))) % 4294967296) * 256) % 4294967296)) ((bt a0 (wrap64 ((ji5) + 3))) % 4294967296)]) (wrap64 (x11_1 + 1))) else (none)) else (none)) else (none)) else (none)) else (none)) else (none)) else (none)) else (none)) else (none)) = some r := by first | (rw [hji5] at H; exact H) | (simp only [hji5] at H ⊢; exact H)
    have hji5w : (IntKind.i64.wrap (4 * x11_1)) = ji5 := (i64_w _).trans hji5
    by_cases c6 : 0 ≤ (ji5)
    ·rw [if_pos c6] at H
     have c6b0 : decide (0 ≤ (ji5)) = true := decide_eq_true c6
     clear c6
     by_cases c7 : (ji5) < (a0.size : Int)
     ·rw [if_pos c7] at H
      have c7b0 : decide ((ji5) < (a0.size : Int)) = true := decide_eq_true c7
      clear c7
      obtain ⟨ji9, hji9⟩ : ∃ j_ : Int, (wrap64 ((ji5) + 1)) = j_ := ⟨_, rfl⟩
      replace H : (if 0 ≤ (ji9) then (if (ji9) < (a0.size : Int) then (if 0 ≤ (wrap64 ((ji5) + 2)) then (if (wrap64 ((ji5) + 2)) < (a0.size : Int) then (if 0 ≤ (wrap64 ((ji5) + 3)) then (if (wrap64 ((ji5) + 3)) < (a0.size : Int) then (if x3_1.length < 35184372088832 then (impl_schedule.l0 k1 a0 (x3_1 ++ [Go.bits .or .u32 (Go.bits .or .u32 (Go.bits .or .u32 ((((bt a0 (ji5)) % 4294967296) * 16777216) % 4294967296) ((((bt a0 (ji9)) % 4294967296) * 65536) % 4294967296)) ((((bt a0 (wrap64 ((ji5) + 2))) % 4294967296) * 256) % 4294967296)) ((bt a0 (wrap64 ((ji5) + 3))) % 4294967296)]) (wrap64 (x11_1 + 1))) else (none)) else (none)) else (none)) else (none)) else (none)) else (none)) else (none)) = some r := by first | (rw [hji9] at H; exact H) | (simp only [hji9] at H ⊢; exact H)
      have hji9w : (IntKind.i64.wrap ((ji5) + 1)) = ji9 := (i64_w _).trans hji9
      by_cases c10 : 0 ≤ (ji9)
      ·rw [if_pos c10] at H
       have c10b0 : decide (0 ≤ (ji9)) = true := decide_eq_true c10
       clear c10
       by_cases c11 : (ji9) < (a0.size : Int)
       ·rw [if_pos c11] at H
        have c11b0 : decide ((ji9) < (a0.size : Int)) = true := decide_eq_true c11
        clear c11
        obtain ⟨ji13, hji13⟩ : ∃ j_ : Int, (wrap64 ((ji5) + 2)) = j_ := ⟨_, rfl⟩
        replace H : (if 0 ≤ (ji13) then (if (ji13) < (a0.size : Int) then (if 0 ≤ (wrap64 ((ji5) + 3)) then (if (wrap64 ((ji5) + 3)) < (a0.size : Int) then (if x3_1.length < 35184372088832 then (impl_schedule.l0 k1 a0 (x3_1 ++ [Go.bits .or .u32 (Go.bits .or .u32 (Go.bits .or .u32 ((((bt a0 (ji5)) % 4294967296) * 16777216) % 4294967296) ((((bt a0 (ji9)) % 4294967296) * 65536) % 4294967296)) ((((bt a0 (ji13)) % 4294967296) * 256) % 4294967296)) ((bt a0 (wrap64 ((ji5) + 3))) % 4294967296)]) (wrap64 (x11_1 + 1))) else (none)) else (none)) else (none)) else (none)) else (none)) = some r := by first | (rw [hji13] at H; exact H) | (simp only [hji13] at H ⊢; exact H)
        have hji13w : (IntKind.i64.wrap ((ji5) + 2)) = ji13 := (i64_w _).trans hji13
        by_cases c14 : 0 ≤ (ji13)
        ·rw [if_pos c14] at H
         have c14b0 : decide (0 ≤ (ji13)) = true := decide_eq_true c14
         clear c14
         by_cases c15 : (ji13) < (a0.size : Int)
         ·rw [if_pos c15] at H
          have c15b0 : decide ((ji13) < (a0.size : Int)) = true := decide_eq_true c15
          clear c15
          obtain ⟨ji17, hji17⟩ : ∃ j_ : Int, (wrap64 ((ji5) + 3)) = j_ := ⟨_, rfl⟩
          replace H : (if 0 ≤ (ji17) then (if (ji17) < (a0.size : Int) then (if x3_1.length < 35184372088832 then (impl_schedule.l0 k1 a0 (x3_1 ++ [Go.bits .or .u32 (Go.bits .or .u32 (Go.bits .or .u32 ((((bt a0 (ji5)) % 4294967296) * 16777216) % 4294967296) ((((bt a0 (ji9)) % 4294967296) * 65536) % 4294967296)) ((((bt a0 (ji13)) % 4294967296) * 256) % 4294967296)) ((bt a0 (ji17)) % 4294967296)]) (wrap64 (x11_1 + 1))) else (none)) else (none)) else (none)) = some r := by first | (rw [hji17] at H; exact H) | (simp only [hji17] at H ⊢; exact H)
          have hji17w : (IntKind.i64.wrap ((ji5) + 3)) = ji17 := (i64_w _).trans hji17
          by_cases c18 : 0 ≤ (ji17)
          ·rw [if_pos c18] at H
           have c18b0 : decide (0 ≤ (ji17)) = true := decide_eq_true c18
           clear c18
           by_cases c19 : (ji17) < (a0.size : Int)
           ·rw [if_pos c19] at H
            have c19b0 : decide ((ji17) < (a0.size : Int)) = true := decide_eq_true c19
            clear c19
            by_cases c21 : x3_1.length < 35184372088832
            ·rw [if_pos c21] at H
             have LMc21 := Aside0.mk c21
             clear c21
             obtain ⟨y479, hy479⟩ : ∃ y_ : List Int, y_ = (x3_1 ++ [Go.bits .or .u32 (Go.bits .or .u32 (Go.bits .or .u32 ((((bt a0 (ji5)) % 4294967296) * 16777216) % 4294967296) ((((bt a0 (ji9)) % 4294967296) * 65536) % 4294967296)) ((((bt a0 (ji13)) % 4294967296) * 256) % 4294967296)) ((bt a0 (ji17)) % 4294967296)]) := ⟨_, rfl⟩
             replace H : (impl_schedule.l0 k1 a0 y479 (wrap64 (x11_1 + 1))) = some r := by first | (rw [hy479]; with_reducible exact H) | (have H2_ := (Option.bind_some _ _).symm.trans H; rw [hy479]; with_reducible exact H2_) | (have H2_ := (Option.bind_some _ _).symm.trans H; with_reducible exact H2_) | with_reducible exact H | (rw [hy479]; exact H) | exact H
             have Ny479 := Aside0.mk hy479
             clear hy479
             have H' := Aside0.mk H
             clear H
             try go_wp2
             replace HO_3 := Aside0.mk (Kd.R_drew HO_3.out); replace HB := Aside0.mk (below_drew1 HB.out)
             have p8 : 0 ≤ ((ji5) : Int) := sqD
             have q8 : (ji5) < (a0.size : Int) := sqD
             have hx8 := bt_at a0 (ji5)
             replace p8 := eq_true p8
             replace q8 := eq_true q8
             have p12 : 0 ≤ ((ji9) : Int) := sqD
             have q12 : (ji9) < (a0.size : Int) := sqD
             have hx12 := bt_at a0 (ji9)
             replace p12 := eq_true p12
             replace q12 := eq_true q12
             have p16 : 0 ≤ ((ji13) : Int) := sqD
             have q16 : (ji13) < (a0.size : Int) := sqD
             have hx16 := bt_at a0 (ji13)
             replace p16 := eq_true p16
             replace q16 := eq_true q16
             have p20 : 0 ≤ ((ji17) : Int) := sqD
             have q20 : (ji17) < (a0.size : Int) := sqD
             have hx20 := bt_at a0 (ji17)
             replace p20 := eq_true p20
             replace q20 := eq_true q20
             refine start_ (n := 33) (S := fun w' => True) (ds := []) (sqb 0 33) (by kernel_rfl) rfl rfl trivial (fun hHeld => ?_); refine with_tabW impl_schedule.tab5 impl_schedule.bits5 (fun HT_ HW_ => ?_)
             generalize wr.drew = w22 at HO_3 HB hHeld ⊢
             refine sqP (i := 0) (N := some 14) (sqb 1 32) rfl rfl (any_of HT_.out (by kernel_rfl)) ?_
             refine sqP (i := 1) (N := some 15) (sqb 2 31) rfl rfl (any_of HT_.out (by kernel_rfl)) ?_
             refine sqP (i := 2) (N := some 16) (sqb 3 30) rfl rfl (any_of HT_.out (by kernel_rfl)) ?_
             refine sqP (i := 3) (N := some 17) (sqb 4 29) rfl rfl (any_of HT_.out (by kernel_rfl)) ?_
             refine sqP (i := 7) (N := some 21) (sqr [4, 3, 1, 25]) rfl rfl (any_of HT_.out (by kernel_rfl)) ?_
             refine sqP (i := 8) (N := some 22) (sqr [4, 3, 2, 24]) rfl rfl (any_of HT_.out (by kernel_rfl)) ?_
             refine sqP (i := 9) (N := some 23) (sqr [4, 3, 3, 23]) rfl rfl (any_of HT_.out (by kernel_rfl)) ?_
             refine sqP (i := 10) (N := some 24) (sqr [4, 3, 4, 22]) rfl rfl (any_of HT_.out (by kernel_rfl)) ?_
             refine sqP (i := 15) (N := some 29) (sqr [4, 3, 4, 4, 1, 17]) rfl rfl (any_of HT_.out (by kernel_rfl)) ?_
             refine sqP (i := 16) (N := some 30) (sqr [4, 3, 4, 4, 2, 16]) rfl rfl (any_of HT_.out (by kernel_rfl)) ?_
             refine sqP (i := 17) (N := some 31) (sqr [4, 3, 4, 4, 3, 15]) rfl rfl (any_of HT_.out (by kernel_rfl)) ?_
             refine sqP (i := 18) (N := some 32) (sqr [4, 3, 4, 4, 4, 14]) rfl rfl (any_of HT_.out (by kernel_rfl)) ?_
             refine sqP (i := 23) (N := some 37) (sqr [4, 3, 4, 4, 4, 4, 1, 9]) rfl rfl (any_of HT_.out (by kernel_rfl)) ?_
             refine sqP (i := 24) (N := some 38) (sqr [4, 3, 4, 4, 4, 4, 2, 8]) rfl rfl (any_of HT_.out (by kernel_rfl)) ?_
             refine sqP (i := 25) (N := some 39) (sqr [4, 3, 4, 4, 4, 4, 3, 7]) rfl rfl (any_of HT_.out (by kernel_rfl)) ?_
             refine sqP (i := 26) (N := some 40) (sqr [4, 3, 4, 4, 4, 4, 4, 6]) rfl rfl (any_of HT_.out (by kernel_rfl)) ?_
             refine take_ (i := 4) (N := some 18) (v := ?_) (a' := ?_) (sqr [5, 2, 4, 4, 4, 4, 4, 6]) rfl rfl (take_ofW HT_.out HW_.out (by kernel_rfl)) (fun _ _ _ h => h) (Or.inl ⟨by rfl, ?_⟩) hHeld ?_ ?_
             rotate_left
             ·intro w' _
              go_simp
              with_reducible rfl
             rotate_left
             ·simp only [Act.put, List.setIfInBounds_toArray, List.set_cons_zero, List.set_cons_succ, i64_w, i32_w]
              rfl
             refine sqP (i := 5) (N := some 19) (sqr [6, 1, 4, 4, 4, 4, 4, 6]) rfl rfl (any_of HT_.out (by kernel_rfl)) ?_
             refine sqP (i := 6) (N := some 20) (sqr [11, 4, 4, 4, 4, 6]) rfl rfl (any_of HT_.out (by kernel_rfl)) ?_
             refine take_ (i := 11) (N := some 25) (v := ?_) (a' := ?_) (sqr [12, 3, 4, 4, 4, 6]) rfl rfl (take_ofW HT_.out HW_.out (by kernel_rfl)) (fun _ _ _ h => h) (Or.inl ⟨by rfl, ?_⟩) hHeld ?_ ?_
             rotate_left
             ·intro w' _
              go_simp
              with_reducible rfl
             rotate_left
             ·simp only [Act.put, List.setIfInBounds_toArray, List.set_cons_zero, List.set_cons_succ, i64_w, i32_w]
              rfl
             refine sqP (i := 12) (N := some 26) (sqr [13, 2, 4, 4, 4, 6]) rfl rfl (any_of HT_.out (by kernel_rfl)) ?_
             refine sqP (i := 13) (N := some 27) (sqr [14, 1, 4, 4, 4, 6]) rfl rfl (any_of HT_.out (by kernel_rfl)) ?_
             refine sqP (i := 14) (N := some 28) (sqr [19, 4, 4, 6]) rfl rfl (any_of HT_.out (by kernel_rfl)) ?_
             refine take_ (i := 19) (N := some 33) (v := ?_) (a' := ?_) (sqr [20, 3, 4, 6]) rfl rfl (take_ofW HT_.out HW_.out (by kernel_rfl)) (fun _ _ _ h => h) (Or.inl ⟨by rfl, ?_⟩) hHeld ?_ ?_
             rotate_left
             ·intro w' _
              go_simp
              with_reducible rfl
             rotate_left
             ·simp only [Act.put, List.setIfInBounds_toArray, List.set_cons_zero, List.set_cons_succ, i64_w, i32_w]
              rfl
             refine sqP (i := 20) (N := some 34) (sqr [21, 2, 4, 6]) rfl rfl (any_of HT_.out (by kernel_rfl)) ?_
             refine sqP (i := 21) (N := some 35) (sqr [22, 1, 4, 6]) rfl rfl (any_of HT_.out (by kernel_rfl)) ?_
             refine sqP (i := 22) (N := some 36) (sqb 27 6) rfl rfl (any_of HT_.out (by kernel_rfl)) ?_
             refine take_ (i := 27) (N := some 41) (v := ?_) (a' := ?_) (sqb 28 5) rfl rfl (take_ofW HT_.out HW_.out (by kernel_rfl)) (fun _ _ _ h => h) (Or.inl ⟨by rfl, ?_⟩) hHeld ?_ ?_
             rotate_left
             ·intro w' _
              go_simp
              with_reducible rfl
             rotate_left
             ·simp only [Act.put, List.setIfInBounds_toArray, List.set_cons_zero, List.set_cons_succ, i64_w, i32_w]
              rfl
             refine sqP (i := 28) (N := some 42) (sqb 29 4) rfl rfl (any_of HT_.out (by kernel_rfl)) ?_
             refine sqP (i := 29) (N := some 43) (sqb 30 3) rfl rfl (any_of HT_.out (by kernel_rfl)) ?_
             refine one_ (i := 30) (N := some 44) (sqb 31 2) rfl rfl (one_of HT_.out (by kernel_rfl)) (by decide) (fun K hK => ?_)
             refine value_ (w1 := ?_) (v := ?_) (by rfl) rfl ?_ ?_
             rotate_left 2
             ·go_simp
              constructor
              ·rfl
              ·rfl
             refine hK.out _ _ trivial (fun hHeld => ?_)
             clear hK K
             refine sqV (N := some 44) ?_
             refine one_ (i := 31) (N := some 45) (sqb 32 1) rfl rfl (one_of HT_.out (by kernel_rfl)) (by decide) (fun K hK => ?_)
             refine Kd.R_append_step (Kd.int .u32) (w0 := w) w.heap.size (by rfl) (.tmp 14) (.tmp 44) 71 63 (.int .u32 0) 4 rfl Try.underlying71 info63 rfl (by decide) (by omega) u3 x3_1 (Go.bits .or .u32 (Go.bits .or .u32 (Go.bits .or .u32 ((((bt a0 (ji5)) % 4294967296) * 16777216) % 4294967296) ((((bt a0 (ji9)) % 4294967296) * 65536) % 4294967296)) ((((bt a0 (ji13)) % 4294967296) * 256) % 4294967296)) ((bt a0 (ji17)) % 4294967296)) [.int .u32 (Go.bits .or .u32 (Go.bits .or .u32 (Go.bits .or .u32 ((((bt a0 (ji5)) % 4294967296) * 16777216) % 4294967296) ((((bt a0 (ji9)) % 4294967296) * 65536) % 4294967296)) ((((bt a0 (ji13)) % 4294967296) * 256) % 4294967296)) ((bt a0 (ji17)) % 4294967296))] (fun _ => True) (fun _ => False) rfl rfl ?aP (fun _ hk => hk.elim) ?aF ?aO ?aB ?aS ?aL ?_
             (case aP => exact rfl)
             (case aB => exact (sqB))
             (case aF => exact (fun _ _ => trivial))
             (case aO => exact (sqR HO_3))
             (case aS => exact (below_size (sqB)))
             (case aL => have := LMc21.out; omega)
             intro v480 w23 ho hb hg hat
             rw [← Ny479.out] at ho
             have n0_ := Aside0.mk (hb)
             have n1_ := Aside0.mk (ho)
             clear HB
             clear HO_3
             have HB := n0_
             have HO481 := n1_
             clear n0_ n1_
             clear ho hb hg hat
             refine hK.out _ _ trivial (fun hHeld => ?_)
             clear hK K
             refine sqV (N := some 45) ?_
             refine sqP (i := 32) (N := some 3) (sqb 33 0) rfl rfl (any_of HT_.out (by kernel_rfl)) ?_
             refine done_ (done_of HT_.out (by kernel_rfl)) ?_
             try go_wp2
             go_roundg k1
             case measure => have := HK1.out; omega
             case rel => exact ⟨(y479), (wrap64 (x11_1 + 1)), (by first | rfl | (simp; done) | (simp [*]; done)), H', ⟨by have := HK1.out; omega⟩, ⟨sqR HO481⟩, ⟨sqB⟩⟩
            ·rw [if_neg c21] at H
             exact absurd H (by simp)
           ·rw [if_neg c19] at H
            exact absurd H (by simp)
          ·rw [if_neg c18] at H
           exact absurd H (by simp)
         ·rw [if_neg c15] at H
          exact absurd H (by simp)
        ·rw [if_neg c14] at H
         exact absurd H (by simp)
       ·rw [if_neg c11] at H
        exact absurd H (by simp)
      ·rw [if_neg c10] at H
       exact absurd H (by simp)
     ·rw [if_neg c7] at H
      exact absurd H (by simp)
    ·rw [if_neg c6] at H
     exact absurd H (by simp)
   ·rw [if_neg c4] at H
    have c4b0 : decide (x11_1 < 16) = false := decide_eq_false c4
    clear c4
    have H' := Aside0.mk H
    clear H
    go_wp2
    go_loopg [3, 5] k1 (fun kq v3 v5 w' => ∃ (x3_2 : List Int) (x5_2 : Int), v5 = .int .i64 x5_2 ∧ Aside0 (impl_schedule.l1 kq x3_2 x5_2 = some r) ∧ Aside0 (kq ≤ k1) ∧ Aside0 (Kd.R (Kd.int .u32) 63 w' w.heap.size (fun _ => True) v3 x3_2) ∧ Aside0 (Below w.heap.size w w'))
    case atStart => exact ⟨(x3_1), (16), (by first | rfl | (simp; done) | (simp [*]; done)), H', ⟨Nat.le_refl _⟩, ⟨sqR HO_3⟩, ⟨sqB⟩⟩
    case round =>
     clear H'
     try clear c1
     try clear p1
     try clear q1
     try clear hx1
     try clear c2
     try clear p2
     try clear q2
     try clear hx2
     try clear c4
     try clear c4b0
     try clear c5
     try clear c6
     try clear c6b0
     try clear p6
     try clear c7
     try clear c7b0
     try clear p8
     try clear q8
     try clear hx8
     try clear c10
     try clear c10b0
     try clear c11
     try clear c11b0
     try clear p12
     try clear q12
     try clear hx12
     try clear c14
     try clear c14b0
     try clear c15
     try clear c15b0
     try clear p16
     try clear q16
     try clear hx16
     try clear c18
     try clear c18b0
     try clear c19
     try clear c19b0
     try clear p20
     try clear q20
     try clear hx20
     try clear c21
     try clear p12
     try clear p16
     try clear p2
     try clear p20
     try clear p8
     try clear q12
     try clear q16
     try clear q20
     try clear q8
     obtain ⟨x3_2, x5_2, rfl, HA, HK2, HO_3, HB⟩ := hrel
     cases gk with
     | zero => exact absurd HA.out (by simp [impl_schedule.l1])
     | succ k2 =>
      have H := HA.out
      clear HA
      simp only [impl_schedule.l1] at H
      by_cases c24 : x5_2 < 64
      ·rw [if_pos c24] at H
       have c24b0 : decide (x5_2 < 64) = true := decide_eq_true c24
       clear c24
       obtain ⟨ji25, hji25⟩ : ∃ j_ : Int, (wrap64 (x5_2 - 15)) = j_ := ⟨_, rfl⟩
       replace H : (if 0 ≤ (ji25) then (if (ji25) < (x3_2.length : Int) then (if 0 ≤ (wrap64 (x5_2 - 2)) then (if (wrap64 (x5_2 - 2)) < (x3_2.length : Int) then ((impl_turn.f (rd x3_2 (ji25)) 7).bind fun t484 => ((impl_turn.f (rd x3_2 (ji25)) 18).bind fun t485 => ((impl_turn.f (rd x3_2 (wrap64 (x5_2 - 2))) 17).bind fun t486 => ((impl_turn.f (rd x3_2 (wrap64 (x5_2 - 2))) 19).bind fun t487 => (if 0 ≤ (wrap64 (x5_2 - 16)) then (if (wrap64 (x5_2 - 16)) < (x3_2.length : Int) then (if 0 ≤ (wrap64 (x5_2 - 7)) then (if (wrap64 (x5_2 - 7)) < (x3_2.length : Int) then (if x3_2.length < 35184372088832 then (impl_schedule.l1 k2 (x3_2 ++ [((((((rd x3_2 (wrap64 (x5_2 - 16))) + (Go.bits .xor .u32 (Go.bits .xor .u32 t484 t485) ((rd x3_2 (ji25)) / 8))) % 4294967296) + (rd x3_2 (wrap64 (x5_2 - 7)))) % 4294967296) + (Go.bits .xor .u32 (Go.bits .xor .u32 t486 t487) ((rd x3_2 (wrap64 (x5_2 - 2))) / 1024))) % 4294967296]) (wrap64 (x5_2 + 1))) else (none)) else (none)) else (none)) else (none)) else (none)))))) else (none)) else (none)) else (none)) else (none)) = some r := by first | (rw [hji25] at H; exact H) | (simp only [hji25] at H ⊢; exact H)
       have hji25w : (IntKind.i64.wrap (x5_2 - 15)) = ji25 := (i64_w _).trans hji25
       by_cases c26 : 0 ≤ (ji25)
       ·rw [if_pos c26] at H
        have c26b0 : decide (0 ≤ (ji25)) = true := decide_eq_true c26
        clear c26
        by_cases c27 : (ji25) < (x3_2.length : Int)
        ·rw [if_pos c27] at H
         have c27b0 : decide ((ji25) < (x3_2.length : Int)) = true := decide_eq_true c27
         clear c27
         obtain ⟨ji28, hji28⟩ : ∃ j_ : Int, (wrap64 (x5_2 - 2)) = j_ := ⟨_, rfl⟩
         replace H : (if 0 ≤ (ji28) then (if (ji28) < (x3_2.length : Int) then ((impl_turn.f (rd x3_2 (ji25)) 7).bind fun t484 => ((impl_turn.f (rd x3_2 (ji25)) 18).bind fun t485 => ((impl_turn.f (rd x3_2 (ji28)) 17).bind fun t486 => ((impl_turn.f (rd x3_2 (ji28)) 19).bind fun t487 => (if 0 ≤ (wrap64 (x5_2 - 16)) then (if (wrap64 (x5_2 - 16)) < (x3_2.length : Int) then (if 0 ≤ (wrap64 (x5_2 - 7)) then (if (wrap64 (x5_2 - 7)) < (x3_2.length : Int) then (if x3_2.length < 35184372088832 then (impl_schedule.l1 k2 (x3_2 ++ [((((((rd x3_2 (wrap64 (x5_2 - 16))) + (Go.bits .xor .u32 (Go.bits .xor .u32 t484 t485) ((rd x3_2 (ji25)) / 8))) % 4294967296) + (rd x3_2 (wrap64 (x5_2 - 7)))) % 4294967296) + (Go.bits .xor .u32 (Go.bits .xor .u32 t486 t487) ((rd x3_2 (ji28)) / 1024))) % 4294967296]) (wrap64 (x5_2 + 1))) else (none)) else (none)) else (none)) else (none)) else (none)))))) else (none)) else (none)) = some r := by first | (rw [hji28] at H; exact H) | (simp only [hji28] at H ⊢; exact H)
         have hji28w : (IntKind.i64.wrap (x5_2 - 2)) = ji28 := (i64_w _).trans hji28
         by_cases c29 : 0 ≤ (ji28)
         ·rw [if_pos c29] at H
          have c29b0 : decide (0 ≤ (ji28)) = true := decide_eq_true c29
          clear c29
          by_cases c30 : (ji28) < (x3_2.length : Int)
          ·rw [if_pos c30] at H
           have c30b0 : decide ((ji28) < (x3_2.length : Int)) = true := decide_eq_true c30
           clear c30
           replace H := Option.bind_eq_some_iff.mp H
           obtain ⟨t484, A310, H⟩ := H
           try dsimp only at H
           have A31 := Aside0.mk A310
           clear A310
           replace H := Option.bind_eq_some_iff.mp H
           obtain ⟨t485, A320, H⟩ := H
           try dsimp only at H
           have A32 := Aside0.mk A320
           clear A320
           replace H := Option.bind_eq_some_iff.mp H
           obtain ⟨t486, A330, H⟩ := H
           try dsimp only at H
           have A33 := Aside0.mk A330
           clear A330
           replace H := Option.bind_eq_some_iff.mp H
           obtain ⟨t487, A340, H⟩ := H
           try dsimp only at H
           have A34 := Aside0.mk A340
           clear A340
           obtain ⟨ji35, hji35⟩ : ∃ j_ : Int, (wrap64 (x5_2 - 16)) = j_ := ⟨_, rfl⟩
           replace H : (if 0 ≤ (ji35) then (if (ji35) < (x3_2.length : Int) then (if 0 ≤ (wrap64 (x5_2 - 7)) then (if (wrap64 (x5_2 - 7)) < (x3_2.length : Int) then (if x3_2.length < 35184372088832 then (impl_schedule.l1 k2 (x3_2 ++ [((((((rd x3_2 (ji35)) + (Go.bits .xor .u32 (Go.bits .xor .u32 t484 t485) ((rd x3_2 (ji25)) / 8))) % 4294967296) + (rd x3_2 (wrap64 (x5_2 - 7)))) % 4294967296) + (Go.bits .xor .u32 (Go.bits .xor .u32 t486 t487) ((rd x3_2 (ji28)) / 1024))) % 4294967296]) (wrap64 (x5_2 + 1))) else (none)) else (none)) else (none)) else (none)) else (none)) = some r := by first | (rw [hji35] at H; exact H) | (simp only [hji35] at H ⊢; exact H)
           (try rw [hji35] at A31)
           (try rw [hji35] at A32)
           (try rw [hji35] at A33)
           (try rw [hji35] at A34)
           have hji35w : (IntKind.i64.wrap (x5_2 - 16)) = ji35 := (i64_w _).trans hji35
           by_cases c36 : 0 ≤ (ji35)
           ·rw [if_pos c36] at H
            have c36b0 : decide (0 ≤ (ji35)) = true := decide_eq_true c36
            clear c36
            by_cases c37 : (ji35) < (x3_2.length : Int)
            ·rw [if_pos c37] at H
             have c37b0 : decide ((ji35) < (x3_2.length : Int)) = true := decide_eq_true c37
             clear c37
             obtain ⟨ji38, hji38⟩ : ∃ j_ : Int, (wrap64 (x5_2 - 7)) = j_ := ⟨_, rfl⟩
             replace H : (if 0 ≤ (ji38) then (if (ji38) < (x3_2.length : Int) then (if x3_2.length < 35184372088832 then (impl_schedule.l1 k2 (x3_2 ++ [((((((rd x3_2 (ji35)) + (Go.bits .xor .u32 (Go.bits .xor .u32 t484 t485) ((rd x3_2 (ji25)) / 8))) % 4294967296) + (rd x3_2 (ji38))) % 4294967296) + (Go.bits .xor .u32 (Go.bits .xor .u32 t486 t487) ((rd x3_2 (ji28)) / 1024))) % 4294967296]) (wrap64 (x5_2 + 1))) else (none)) else (none)) else (none)) = some r := by first | (rw [hji38] at H; exact H) | (simp only [hji38] at H ⊢; exact H)
             (try rw [hji38] at A31)
             (try rw [hji38] at A32)
             (try rw [hji38] at A33)
             (try rw [hji38] at A34)
             have hji38w : (IntKind.i64.wrap (x5_2 - 7)) = ji38 := (i64_w _).trans hji38
             by_cases c39 : 0 ≤ (ji38)
             ·rw [if_pos c39] at H
              have c39b0 : decide (0 ≤ (ji38)) = true := decide_eq_true c39
              clear c39
              by_cases c40 : (ji38) < (x3_2.length : Int)
              ·rw [if_pos c40] at H
               have c40b0 : decide ((ji38) < (x3_2.length : Int)) = true := decide_eq_true c40
               clear c40
               by_cases c41 : x3_2.length < 35184372088832
               ·rw [if_pos c41] at H
                have LMc41 := Aside0.mk c41
                clear c41
                obtain ⟨y490, hy490⟩ : ∃ y_ : List Int, y_ = (x3_2 ++ [((((((rd x3_2 (ji35)) + (Go.bits .xor .u32 (Go.bits .xor .u32 t484 t485) ((rd x3_2 (ji25)) / 8))) % 4294967296) + (rd x3_2 (ji38))) % 4294967296) + (Go.bits .xor .u32 (Go.bits .xor .u32 t486 t487) ((rd x3_2 (ji28)) / 1024))) % 4294967296]) := ⟨_, rfl⟩
                replace H : (impl_schedule.l1 k2 y490 (wrap64 (x5_2 + 1))) = some r := by first | (rw [hy490]; with_reducible exact H) | (have H2_ := (Option.bind_some _ _).symm.trans H; rw [hy490]; with_reducible exact H2_) | (have H2_ := (Option.bind_some _ _).symm.trans H; with_reducible exact H2_) | with_reducible exact H | (rw [hy490]; exact H) | exact H
                have Ny490 := Aside0.mk hy490
                clear hy490
                have H' := Aside0.mk H
                clear H
                try go_wp2
                replace HO_3 := Aside0.mk (Kd.R_drew HO_3.out); replace HB := Aside0.mk (below_drew1 HB.out)
                obtain ⟨Ao43, co43, eo43⟩ := Kd.R_slice HO_3.out
                (first | subst eo43 | (injection eo43 with f1_ f2_ f3_; have f4_ := f1_.symm; have f5_ := f3_.symm; clear f1_ f2_ f3_; subst f4_; subst f5_))
                have p482 : 0 ≤ ((ji25) : Int) := sqD
                have q482 : (ji25) < (x3_2.length : Int) := sqD
                obtain ⟨ad482, e482, hx482_0⟩ := Kd.at_int (Kd.R_reads' HO_3.out).2.2 (ji25) p482 q482
                cases e482
                replace p482 := eq_true p482
                replace q482 := eq_true q482
                have p483 : 0 ≤ ((ji28) : Int) := sqD
                have q483 : (ji28) < (x3_2.length : Int) := sqD
                obtain ⟨ad483, e483, hx483_0⟩ := Kd.at_int (Kd.R_reads' HO_3.out).2.2 (ji28) p483 q483
                obtain rfl : ad482 = ad483 := (by injection e483)
                replace p483 := eq_true p483
                replace q483 := eq_true q483
                refine start_ (n := 12) (S := fun w' => w'.cell? (ad482.add ((ji25)).toNat) = some (.int .u32 (rd x3_2 (ji25))) ∧ w'.cell? (ad482.add ((ji28)).toNat) = some (.int .u32 (rd x3_2 (ji28)))) (ds := []) (sqb 0 12) (by kernel_rfl) rfl rfl ⟨hx482_0, hx483_0⟩ (fun hHeld => ?_); refine with_tabW impl_schedule.tab10 impl_schedule.bits10 (fun HT_ HW_ => ?_)
                generalize wr.drew = w42 at HO_3 HB hx482_0 hx483_0 hHeld ⊢
                refine sqP (i := 0) (N := some 51) (sqb 1 11) rfl rfl (any_of HT_.out (by kernel_rfl)) ?_
                refine sqP (i := 1) (N := some 52) (sqb 2 10) rfl rfl (any_of HT_.out (by kernel_rfl)) ?_
                refine sqP (i := 2) (N := some 53) (sqb 3 9) rfl rfl (any_of HT_.out (by kernel_rfl)) ?_
                refine sqP (i := 3) (N := some 54) (sqb 4 8) rfl rfl (any_of HT_.out (by kernel_rfl)) ?_
                refine sqP (i := 5) (N := some 56) (sqr [4, 1, 1, 6]) rfl rfl (any_of HT_.out (by kernel_rfl)) ?_
                refine sqP (i := 6) (N := some 57) (sqr [4, 1, 2, 5]) rfl rfl (any_of HT_.out (by kernel_rfl)) ?_
                refine sqP (i := 7) (N := some 58) (sqr [4, 1, 3, 4]) rfl rfl (any_of HT_.out (by kernel_rfl)) ?_
                refine sqP (i := 8) (N := some 59) (sqr [4, 1, 4, 3]) rfl rfl (any_of HT_.out (by kernel_rfl)) ?_
                refine sqTk (i := 4) (N := some 55) (sqb 9 3) rfl rfl (take_ofW HT_.out HW_.out (by kernel_rfl)) hHeld ?_
                refine sqP (i := 10) (N := some 6) (sqr [9, 1, 1, 1]) rfl rfl (any_of HT_.out (by kernel_rfl)) ?_
                refine sqTk (i := 9) (N := some 60) (sqb 11 1) rfl rfl (take_ofW HT_.out HW_.out (by kernel_rfl)) hHeld ?_
                refine sqP (i := 11) (N := some 7) (sqb 12 0) rfl rfl (any_of HT_.out (by kernel_rfl)) ?_
                refine done_ (done_of HT_.out (by kernel_rfl)) ?_
                try go_wp2_with (first | ((with_reducible refine gate_callee (f := 53) rfl ?_); refine goesL_ (some 62) rfl rfl Try.func53 (by kernel_rfl) rfl #[.int .u32 (rd x3_2 (ji25)), .int .i64 7] rfl (by (try simp only [List.map_toArray, List.map_cons, List.map_nil]); first | done | (simp only [hji25]; rfl) | rfl | (simp only [List.length_drop, List.length_take]; rfl)) ?_; (with_reducible refine (impl_turn.calls (rd x3_2 (ji25)) 7 t484 _ A31.out).mono ?_); rintro e w' ⟨rfl, ⟨nd, rfl⟩⟩; refine ⟨_, rfl, ?_⟩) | ((with_reducible refine gate_callee (f := 53) rfl ?_); refine goesL_ (some 64) rfl rfl Try.func53 (by kernel_rfl) rfl #[.int .u32 (rd x3_2 (ji25)), .int .i64 18] rfl (by (try simp only [List.map_toArray, List.map_cons, List.map_nil]); first | done | (simp only [hji25]; rfl) | rfl | (simp only [List.length_drop, List.length_take]; rfl)) ?_; (with_reducible refine (impl_turn.calls (rd x3_2 (ji25)) 18 t485 _ A32.out).mono ?_); rintro e w' ⟨rfl, ⟨nd, rfl⟩⟩; refine ⟨_, rfl, ?_⟩) | ((with_reducible refine gate_callee (f := 53) rfl ?_); refine goesL_ (some 70) rfl rfl Try.func53 (by kernel_rfl) rfl #[.int .u32 (rd x3_2 (ji28)), .int .i64 17] rfl (by (try simp only [List.map_toArray, List.map_cons, List.map_nil]); first | done | (simp only [hji28]; rfl) | rfl | (simp only [List.length_drop, List.length_take]; rfl)) ?_; (with_reducible refine (impl_turn.calls (rd x3_2 (ji28)) 17 t486 _ A33.out).mono ?_); rintro e w' ⟨rfl, ⟨nd, rfl⟩⟩; refine ⟨_, rfl, ?_⟩) | ((with_reducible refine gate_callee (f := 53) rfl ?_); refine goesL_ (some 72) rfl rfl Try.func53 (by kernel_rfl) rfl #[.int .u32 (rd x3_2 (ji28)), .int .i64 19] rfl (by (try simp only [List.map_toArray, List.map_cons, List.map_nil]); first | done | (simp only [hji28]; rfl) | rfl | (simp only [List.length_drop, List.length_take]; rfl)) ?_; (with_reducible refine (impl_turn.calls (rd x3_2 (ji28)) 19 t487 _ A34.out).mono ?_); rintro e w' ⟨rfl, ⟨nd, rfl⟩⟩; refine ⟨_, rfl, ?_⟩))
                (try (rw [drewN_self w42]; generalize hq_ : World.drewN w42 _ = w42; have n0_ : Aside0 (Kd.R (Kd.int .u32) 63 w42 w.heap.size (fun _ => True) (.slice (some ad482) x3_2.length co43) x3_2) := ⟨by rw [← hq_]; exact (sqR HO_3)⟩; have n1_ : Aside0 (Below w.heap.size w w42) := ⟨by rw [← hq_]; exact (sqB)⟩; clear HO_3 HB hq_; have HO_3 := n0_; have HB := n1_; clear n0_ n1_))
                replace HO_3 := Aside0.mk (Kd.R_drew HO_3.out); replace HB := Aside0.mk (below_drew1 HB.out)
                have p488 : 0 ≤ ((ji35) : Int) := sqD
                have q488 : (ji35) < (x3_2.length : Int) := sqD
                obtain ⟨ad488, e488, hx488_0⟩ := Kd.at_int (Kd.R_reads' HO_3.out).2.2 (ji35) p488 q488
                obtain rfl : ad482 = ad488 := (by injection e488)
                replace p488 := eq_true p488
                replace q488 := eq_true q488
                have p489 : 0 ≤ ((ji38) : Int) := sqD
                have q489 : (ji38) < (x3_2.length : Int) := sqD
                obtain ⟨ad489, e489, hx489_0⟩ := Kd.at_int (Kd.R_reads' HO_3.out).2.2 (ji38) p489 q489
                obtain rfl : ad482 = ad489 := (by injection e489)
                replace p489 := eq_true p489
                replace q489 := eq_true q489
                refine start_ (n := 19) (S := fun w' => w'.cell? (ad482.add ((ji35)).toNat) = some (.int .u32 (rd x3_2 (ji35))) ∧ w'.cell? (ad482.add ((ji38)).toNat) = some (.int .u32 (rd x3_2 (ji38)))) (ds := [16, 17]) (sqb 0 19) (by kernel_rfl) rfl rfl ⟨hx488_0, hx489_0⟩ (fun hHeld => ?_); refine with_tabW impl_schedule.tab13 impl_schedule.bits13 (fun HT_ HW_ => ?_)
                generalize w42.drew = w44 at HO_3 HB hx488_0 hx489_0 hHeld ⊢
                refine sqP (i := 0) (N := some 77) (sqb 1 18) rfl rfl (any_of HT_.out (by kernel_rfl)) ?_
                refine sqP (i := 1) (N := some 78) (sqb 2 17) rfl rfl (any_of HT_.out (by kernel_rfl)) ?_
                refine sqP (i := 2) (N := some 79) (sqb 3 16) rfl rfl (any_of HT_.out (by kernel_rfl)) ?_
                refine sqP (i := 3) (N := some 80) (sqb 4 15) rfl rfl (any_of HT_.out (by kernel_rfl)) ?_
                refine sqP (i := 4) (N := some 81) (sqb 5 14) rfl rfl (any_of HT_.out (by kernel_rfl)) ?_
                refine sqP (i := 6) (N := some 83) (sqr [5, 1, 1, 12]) rfl rfl (any_of HT_.out (by kernel_rfl)) ?_
                refine sqP (i := 8) (N := some 85) (sqr [5, 1, 1, 1, 1, 10]) rfl rfl (any_of HT_.out (by kernel_rfl)) ?_
                refine sqP (i := 9) (N := some 86) (sqr [5, 1, 1, 1, 2, 9]) rfl rfl (any_of HT_.out (by kernel_rfl)) ?_
                refine sqP (i := 10) (N := some 87) (sqr [5, 1, 1, 1, 3, 8]) rfl rfl (any_of HT_.out (by kernel_rfl)) ?_
                refine sqP (i := 11) (N := some 88) (sqr [5, 1, 1, 1, 4, 7]) rfl rfl (any_of HT_.out (by kernel_rfl)) ?_
                refine sqP (i := 14) (N := some 91) (sqr [5, 1, 1, 1, 4, 2, 1, 4]) rfl rfl (any_of HT_.out (by kernel_rfl)) ?_
                refine sqTk (i := 5) (N := some 82) (sqr [7, 1, 4, 2, 1, 4]) rfl rfl (take_ofW HT_.out HW_.out (by kernel_rfl)) hHeld ?_
                refine sqP (i := 7) (N := some 84) (sqr [12, 2, 1, 4]) rfl rfl (any_of HT_.out (by kernel_rfl)) ?_
                refine sqTk (i := 12) (N := some 89) (sqr [13, 1, 1, 4]) rfl rfl (take_ofW HT_.out HW_.out (by kernel_rfl)) hHeld ?_
                refine sqP (i := 13) (N := some 90) (sqb 15 4) rfl rfl (any_of HT_.out (by kernel_rfl)) ?_
                refine sqP (i := 15) (N := some 92) (sqb 16 3) rfl rfl (any_of HT_.out (by kernel_rfl)) ?_
                refine last_ (i := 16) (N := some 93) (sqb 17 2) rfl rfl (one_of HT_.out (by kernel_rfl)) (by decide) (fun K hK => ?_)
                refine value_ (w1 := ?_) (v := ?_) (by rfl) rfl ?_ ?_
                rotate_left 2
                ·go_simp
                 constructor
                 ·rfl
                 ·rfl
                refine hK.out _ _ ?_
                clear hK K
                refine sqV (N := some 93) ?_
                refine last_ (i := 17) (N := some 94) (sqb 18 1) rfl rfl (one_of HT_.out (by kernel_rfl)) (by decide) (fun K hK => ?_)
                refine Kd.R_append_step (Kd.int .u32) (w0 := w) w.heap.size (by rfl) (.tmp 77) (.tmp 93) 71 63 (.int .u32 0) 4 rfl Try.underlying71 info63 rfl (by decide) (by omega) (.slice (some ad482) x3_2.length co43) x3_2 (((((((rd x3_2 (ji35)) + (Go.bits .xor .u32 (Go.bits .xor .u32 t484 t485) ((rd x3_2 (ji25)) / 8))) % 4294967296) + (rd x3_2 (ji38))) % 4294967296) + (Go.bits .xor .u32 (Go.bits .xor .u32 t486 t487) ((rd x3_2 (ji28)) / 1024))) % 4294967296) [.int .u32 (((((((rd x3_2 (ji35)) + (Go.bits .xor .u32 (Go.bits .xor .u32 t484 t485) ((rd x3_2 (ji25)) / 8))) % 4294967296) + (rd x3_2 (ji38))) % 4294967296) + (Go.bits .xor .u32 (Go.bits .xor .u32 t486 t487) ((rd x3_2 (ji28)) / 1024))) % 4294967296)] (fun _ => True) (fun _ => False) rfl rfl ?aP (fun _ hk => hk.elim) ?aF ?aO ?aB ?aS ?aL ?_
                (case aP => exact rfl)
                (case aB => exact (sqB))
                (case aF => exact (fun _ _ => trivial))
                (case aO => exact (sqR HO_3))
                (case aS => exact (below_size (sqB)))
                (case aL => have := LMc41.out; omega)
                intro v491 w45 ho hb hg hat
                rw [← Ny490.out] at ho
                have n0_ := Aside0.mk (hb)
                have n1_ := Aside0.mk (ho)
                clear HB
                clear HO_3
                have HB := n0_
                have HO492 := n1_
                clear n0_ n1_
                clear ho hb hg hat
                refine hK.out _ _ ?_
                clear hK K
                refine sqV (N := some 94) ?_
                refine sqP (i := 18) (N := some 3) (sqb 19 0) rfl rfl (any_of HT_.out (by kernel_rfl)) ?_
                refine done_ (done_of HT_.out (by kernel_rfl)) ?_
                try go_wp2
                go_roundg k2
                case measure => have := HK1.out; have := HK2.out; omega
                case rel => exact ⟨(y490), (wrap64 (x5_2 + 1)), (by first | rfl | (simp; done) | (simp [*]; done)), H', ⟨by have := HK1.out; have := HK2.out; omega⟩, ⟨sqR HO492⟩, ⟨sqB⟩⟩
               ·rw [if_neg c41] at H
                exact absurd H (by simp)
              ·rw [if_neg c40] at H
               exact absurd H (by simp)
             ·rw [if_neg c39] at H
              exact absurd H (by simp)
            ·rw [if_neg c37] at H
             exact absurd H (by simp)
           ·rw [if_neg c36] at H
            exact absurd H (by simp)
          ·rw [if_neg c30] at H
           exact absurd H (by simp)
         ·rw [if_neg c29] at H
          exact absurd H (by simp)
        ·rw [if_neg c27] at H
         exact absurd H (by simp)
       ·rw [if_neg c26] at H
        exact absurd H (by simp)
      ·rw [if_neg c24] at H
       have c24b0 : decide (x5_2 < 64) = false := decide_eq_false c24
       clear c24
       obtain rfl := Option.some.inj H
       go_wp2
       go_ret
       exact ⟨_, sqE, sqR HO_3, sqB⟩

end Go.Proofs.Ythodhbgocnbddaa.PFnWords
