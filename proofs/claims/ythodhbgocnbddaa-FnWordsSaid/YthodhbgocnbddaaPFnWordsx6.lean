/- What the code that one law of the given program reaches computes, function by function, each with its proof over the given translation.
Conditions: none of our own. (Laid by a program of this session, wip/xp/xp.py; some contracts are typed by hand.) -/
import Derived.Test.YthodhbgocnbddaaPFnWordsx0
import Derived.Test.YthodhbgocnbddaaPFnWordsx4
import Derived.Test.YthodhbgocnbddaaPFnWordsx5
namespace Go.Proofs.Ythodhbgocnbddaa.PFnWords
open Go.RowKit Go.Proofs.YthodhbgocnbddaaW.PrintWords Go.Proofs.YthodhbgocnbddaaW.PrintLast Go.Proofs.YthodhbgocnbddaaW.PrintMore
attribute [local go_sem] max2_int min2_int max_two min_two max_three min_three max_four min_four   -- for this text's walks alone
set_option linter.unusedVariables false
set_option linter.unusedSimpArgs false

/-! ### impl_ReadCred: function 7 -/
def impl_ReadCred.j0 : Nat → List Int → Bool → Option (Int × Int × Int × Int × Int × Int × Int × Int × Int × Int × Bool)
 | 0, _, _ => none
 | k + 1, x4, x21 => if x21 = true then (some (0, 0, 0, 0, 0, 0, 0, 0, 0, 0, false)) else (if 0 < (x4.length : Int) then (if 1 < (x4.length : Int) then (if 2 < (x4.length : Int) then (if 3 < (x4.length : Int) then (if 4 < (x4.length : Int) then (if 5 < (x4.length : Int) then (if 6 < (x4.length : Int) then (if 7 < (x4.length : Int) then (if 8 < (x4.length : Int) then (if 9 < (x4.length : Int) then ((impl_CredOk.f k (rd x4 0) (rd x4 1) (rd x4 2) (rd x4 3) (rd x4 4) (rd x4 5) (rd x4 6) (rd x4 7) (rd x4 8) (rd x4 9)).bind fun t249 => (if t249 = true then (some (rd x4 0, rd x4 1, rd x4 2, rd x4 3, rd x4 4, rd x4 5, rd x4 6, rd x4 7, rd x4 8, rd x4 9, true)) else (some (0, 0, 0, 0, 0, 0, 0, 0, 0, 0, false)))) else (none)) else (none)) else (none)) else (none)) else (none)) else (none)) else (none)) else (none)) else (none)) else (none))
def impl_ReadCred.f (k : Nat) (a0 : ByteArray) : Option (Int × Int × Int × Int × Int × Int × Int × Int × Int × Int × Bool) := (impl_readVars.f k a0 0 10).bind fun bt233 => (if bt233.2.2 = true then (impl_ReadCred.j0 k bt233.1 (bt233.2.1 != (a0.size : Int))) else (impl_ReadCred.j0 k bt233.1 true))
theorem impl_ReadCred.mono_l : ∀ k, (∀ y0 y1, LeO (impl_ReadCred.j0 k y0 y1) (impl_ReadCred.j0 (k + 1) y0 y1))
 | 0 => fun _ _ r h => by simp [impl_ReadCred.j0] at h
 | k + 1 => by
  have ih0 := impl_ReadCred.mono_l k
  ·intro y0 y1
   unfold impl_ReadCred.j0
   repeat' first
   | (with_reducible exact ih0 _ _)
   | (with_reducible exact impl_CredOk.mono _ _ _ _ _ _ _ _ _ _ _)
   | (with_reducible exact impl_readVars.mono _ _ _ _)
   | (with_reducible exact LeO.refl _)
   | (with_reducible exact LeO.none _)
   | (with_reducible refine LeO.ite ?_ ?_)
   | (with_reducible refine LeO.bind ?_ (fun _ => ?_))
   | exact ih0 _ _
   | exact impl_CredOk.mono _ _ _ _ _ _ _ _ _ _ _
   | exact impl_readVars.mono _ _ _ _
   | exact LeO.none _
   | refine LeO.ite ?_ ?_
   | refine LeO.bind ?_ (fun _ => ?_)
theorem impl_ReadCred.mono : ∀ a0 k, LeO (impl_ReadCred.f k a0) (impl_ReadCred.f (k + 1) a0) := by
 intro a0 k
 have ih0 := impl_ReadCred.mono_l k
 unfold impl_ReadCred.f
 repeat' first
   | (with_reducible exact ih0 _ _)
   | (with_reducible exact impl_CredOk.mono _ _ _ _ _ _ _ _ _ _ _)
   | (with_reducible exact impl_readVars.mono _ _ _ _)
   | (with_reducible exact LeO.refl _)
   | (with_reducible exact LeO.none _)
   | (with_reducible refine LeO.ite ?_ ?_)
   | (with_reducible refine LeO.bind ?_ (fun _ => ?_))
   | exact ih0 _ _
   | exact impl_CredOk.mono _ _ _ _ _ _ _ _ _ _ _
   | exact impl_readVars.mono _ _ _ _
   | exact LeO.none _
   | refine LeO.ite ?_ ?_
   | refine LeO.bind ?_ (fun _ => ?_)
def impl_ReadCred.T4 : Bool × List (List Nat × List Nat) := (true, [([], []), ([0], [0]), ([1], [1]), ([], []), ([3], [3]), ([4], [4]), ([], []), ([6], [6]), ([7], [7]), ([5, 8], [5, 8]), ([], []), ([10], [10]), ([11], [11]), ([], []), ([13], [13]), ([14], [14]), ([], []), ([16], [16]), ([17], [17]), ([15, 18], [15, 18]), ([], []), ([20], [20]), ([21], [21]), ([], []), ([23], [23]), ([24], [24]), ([22, 25], [22, 25]), ([], []), ([27], [27]), ([28], [28]), ([], []), ([30], [30]), ([31], [31]), ([2, 9, 12, 19, 26, 29, 32], [2, 9, 12, 19, 26, 29, 32]), ([], []), ([34, 33, 0, 1, 2, 3, 4, 5, 6, 7, 8, 9, 10, 11, 12, 13, 14, 15, 16, 17, 18, 19, 20, 21, 22, 23, 24, 25, 26, 27, 28, 29, 30, 31, 32, 33, 34], [33, 34])])
def impl_ReadCred.B4 : List Nat := [0, 1, 3, 0, 8, 24, 0, 64, 192, 504, 0, 1024, 3072, 0, 8192, 24576, 0, 65536, 196608, 516096, 0, 1048576, 3145728, 0, 8388608, 25165824, 66060288, 0, 134217728, 402653184, 0, 1073741824, 3221225472, 8589934591, 0, 34359738367]
theorem impl_ReadCred.tab4 : rtab .any (opsOf Try.f7 4) = impl_ReadCred.T4 := by kernel_rfl
theorem impl_ReadCred.bits4 : waitsOk impl_ReadCred.T4.2 impl_ReadCred.B4 = true := by kernel_rfl
set_option maxHeartbeats 8000000 in
set_option maxRecDepth 100000 in
theorem impl_ReadCred.calls (k : Nat) (a0 : ByteArray) (r1 : Int) (r2 : Int) (r3 : Int) (r4 : Int) (r5 : Int) (r6 : Int) (r7 : Int) (r8 : Int) (r9 : Int) (r10 : Int) (r11 : Bool) (w : World) (h : impl_ReadCred.f k a0 = some (r1, r2, r3, r4, r5, r6, r7, r8, r9, r10, r11)) :
  Calls Try.prog 7 #[.string a0] w fun e w' => e = .returned (.tuple #[.agg #[.int .i64 r1, .int .i64 r2, .int .i64 r3, .int .i64 r4, .int .i64 r5, .int .i64 r6, .int .i64 r7, .int .i64 r8, .int .i64 r9, .int .i64 r10], .bool r11]) ∧ Below w.heap.size w w' := by
 have hu27 := Try.underlying27
 have hu25 := Try.underlying25
 have HB := Aside0.mk (Below.refl w.heap.size w)
 have H : ((impl_readVars.f k a0 0 10).bind fun bt233 => (if bt233.2.2 = true then (impl_ReadCred.j0 k bt233.1 (bt233.2.1 != (a0.size : Int))) else (impl_ReadCred.j0 k bt233.1 true))) = some (r1, r2, r3, r4, r5, r6, r7, r8, r9, r10, r11) := h
 clear h
 replace H := Option.bind_eq_some_iff.mp H
 obtain ⟨⟨t233, t234, t235⟩, A20, H⟩ := H
 try dsimp only at H
 have A2 := Aside0.mk A20
 clear A20
 have HC3 := Aside0.mk H
 clear H
 go_enter Try.func7, Try.ntmps7
 go_upto_region 2 with (first | ((with_reducible refine gate_dst (N := 2) rfl ?_); (try (refine gate_guard (by rfl) ?_; dsimp only)); refine sqX (N := 2) (cs := #[.int .i64 0, .int .i64 0, .int .i64 0, .int .i64 0, .int .i64 0, .int .i64 0, .int .i64 0, .int .i64 0, .int .i64 0, .int .i64 0]) (t := 27) ?_; intro gb232 hg w4 hbox hb; have BK232 := Aside0.mk (hbox); have GW232 := sqG hg; have GE232 := sqG hg; replace HB := sqS hb; clear hb hbox hg) | ((with_reducible refine gate_callee (f := 25) rfl ?_); refine goesL_ (some 10) rfl rfl Try.func25 (by kernel_rfl) rfl #[.string a0, .int .i64 0, .int .i64 10] rfl sqA ?_; (with_reducible refine (impl_readVars.calls k a0 0 10 t233 t234 t235 _ A2.out).mono ?_); rintro e w5 ⟨v236, rfl, ho0, hb⟩; refine ⟨_, rfl, ?_⟩; have HO237 := Aside0.mk (Kd.R_lower ho0 (below_size (sqB))); replace BK232 := sqL BK232 hb; replace HB := sqS hb; (try clear hb); (try clear hb2); (try clear hk); (try clear hi); (try clear ho0)))
 (try simp only [Act.put, List.setIfInBounds_toArray, List.set_cons_zero, List.set_cons_succ])
 go_cut [21] (fun v21 wc => ∃ (kq : Nat) (x21_2 : Bool), v21 = .bool x21_2 ∧ Aside0 (impl_ReadCred.j0 kq t233 x21_2 = some (r1, r2, r3, r4, r5, r6, r7, r8, r9, r10, r11)) ∧ Aside0 (kq ≤ k) ∧ Aside0 (Kd.R (Kd.int .i64) 3 wc w.heap.size (fun _ => True) v236 t233) ∧ Aside0 (wc.heap[gb232]? = some (.cells #[.int .i64 0, .int .i64 0, .int .i64 0, .int .i64 0, .int .i64 0, .int .i64 0, .int .i64 0, .int .i64 0, .int .i64 0, .int .i64 0] 27 (0, 0))) ∧ Aside0 (Below w.heap.size w wc))
 case first =>
  have H := HC3.out
  clear HC3
  by_cases c6 : t235 = true
  ·subst c6
   have H1 : (impl_ReadCred.j0 k t233 (t234 != (a0.size : Int))) = some (r1, r2, r3, r4, r5, r6, r7, r8, r9, r10, r11) := by rw [if_pos rfl] at H; exact H
   clear H
   have H := H1
   clear H1
   have H' := Aside0.mk H
   clear H
   go_wp2
   go_meet
   case rel => exact ⟨_, ((t234 != (a0.size : Int))), (by first | rfl | (simp; done) | (simp [*]; done)), H', ⟨by first | omega | exact Nat.le_refl _⟩, ⟨sqR HO237⟩, ⟨sqK BK232⟩, ⟨sqB⟩⟩
  ·replace c6 := Bool.eq_false_iff.mpr c6
   subst c6
   have H1 : (impl_ReadCred.j0 k t233 true) = some (r1, r2, r3, r4, r5, r6, r7, r8, r9, r10, r11) := by rw [if_neg (show ¬ (false = true) by decide)] at H; exact H
   clear H
   have H := H1
   clear H1
   have H' := Aside0.mk H
   clear H
   go_wp2
   go_meet
   case rel => exact ⟨_, (true), (by first | rfl | (simp; done) | (simp [*]; done)), H', ⟨by first | omega | exact Nat.le_refl _⟩, ⟨sqR HO237⟩, ⟨sqK BK232⟩, ⟨sqB⟩⟩
 case rest =>
  clear HC3
  try clear c2
  try clear p2
  try clear c6
  obtain ⟨kq, x21_2, rfl, HA, HJ2, HO_4, BK232, HB⟩ := hcut
  cases kq with
  | zero => exact absurd HA.out (by simp [impl_ReadCred.j0])
  | succ kj2 =>
   have H := HA.out
   clear HA
   simp only [impl_ReadCred.j0] at H
   by_cases c7 : x21_2 = true
   ·subst c7
    have H1 : (some (0, 0, 0, 0, 0, 0, 0, 0, 0, 0, false)) = some (r1, r2, r3, r4, r5, r6, r7, r8, r9, r10, r11) := by rw [if_pos rfl] at H; exact H
    clear H
    have H := H1
    clear H1
    simp only [Option.some.injEq, Prod.mk.injEq] at H
    obtain ⟨rfl, rfl, rfl, rfl, rfl, rfl, rfl, rfl, rfl, rfl, rfl⟩ := H
    obtain ⟨hcz8_0, hcz8_1, hcz8_2, hcz8_3, hcz8_4, hcz8_5, hcz8_6, hcz8_7, hcz8_8, hcz8_9, hfz8_0, hfz8_1, hfz8_2, hfz8_3, hfz8_4, hfz8_5, hfz8_6, hfz8_7, hfz8_8, hfz8_9⟩ := sqC10 BK232
    go_wp2
    refine bodyPost_ret (results_ct rfl _ _ gb232 27 #[.int .i64 0, .int .i64 0, .int .i64 0, .int .i64 0, .int .i64 0, .int .i64 0, .int .i64 0, .int .i64 0, .int .i64 0, .int .i64 0] (0, 0) _ rfl (sqW BK232) Try.underlying27 rfl (by kernel_rfl)) rfl ?_
    exact ⟨sqE, sqB⟩
   ·replace c7 := Bool.eq_false_iff.mpr c7
    subst c7
    have H1 : (if 0 < (t233.length : Int) then (if 1 < (t233.length : Int) then (if 2 < (t233.length : Int) then (if 3 < (t233.length : Int) then (if 4 < (t233.length : Int) then (if 5 < (t233.length : Int) then (if 6 < (t233.length : Int) then (if 7 < (t233.length : Int) then (if 8 < (t233.length : Int) then (if 9 < (t233.length : Int) then ((impl_CredOk.f kj2 (rd t233 0) (rd t233 1) (rd t233 2) (rd t233 3) (rd t233 4) (rd t233 5) (rd t233 6) (rd t233 7) (rd t233 8) (rd t233 9)).bind fun t249 => (if t249 = true then (some (rd t233 0, rd t233 1, rd t233 2, rd t233 3, rd t233 4, rd t233 5, rd t233 6, rd t233 7, rd t233 8, rd t233 9, true)) else (some (0, 0, 0, 0, 0, 0, 0, 0, 0, 0, false)))) else (none)) else (none)) else (none)) else (none)) else (none)) else (none)) else (none)) else (none)) else (none)) else (none)) = some (r1, r2, r3, r4, r5, r6, r7, r8, r9, r10, r11) := by rw [if_neg (show ¬ (false = true) by decide)] at H; exact H
    clear H
    have H := H1
    clear H1
    by_cases c9 : 0 < (t233.length : Int)
    ·rw [if_pos c9] at H
     have c9b0 : decide (0 < (t233.length : Int)) = true := decide_eq_true c9
     have c9b1 : decide (0 < t233.length) = true := decide_eq_true (by omega)
     clear c9
     by_cases c10 : 1 < (t233.length : Int)
     ·rw [if_pos c10] at H
      have c10b0 : decide (1 < (t233.length : Int)) = true := decide_eq_true c10
      have c10b1 : decide (1 < t233.length) = true := decide_eq_true (by omega)
      clear c10
      by_cases c11 : 2 < (t233.length : Int)
      ·rw [if_pos c11] at H
       have c11b0 : decide (2 < (t233.length : Int)) = true := decide_eq_true c11
       have c11b1 : decide (2 < t233.length) = true := decide_eq_true (by omega)
       clear c11
       by_cases c12 : 3 < (t233.length : Int)
       ·rw [if_pos c12] at H
        have c12b0 : decide (3 < (t233.length : Int)) = true := decide_eq_true c12
        have c12b1 : decide (3 < t233.length) = true := decide_eq_true (by omega)
        clear c12
        by_cases c13 : 4 < (t233.length : Int)
        ·rw [if_pos c13] at H
         have c13b0 : decide (4 < (t233.length : Int)) = true := decide_eq_true c13
         have c13b1 : decide (4 < t233.length) = true := decide_eq_true (by omega)
         clear c13
         by_cases c14 : 5 < (t233.length : Int)
         ·rw [if_pos c14] at H
          have c14b0 : decide (5 < (t233.length : Int)) = true := decide_eq_true c14
          have c14b1 : decide (5 < t233.length) = true := decide_eq_true (by omega)
          clear c14
          by_cases c15 : 6 < (t233.length : Int)
          ·rw [if_pos c15] at H
           have c15b0 : decide (6 < (t233.length : Int)) = true := decide_eq_true c15
           have c15b1 : decide (6 < t233.length) = true := decide_eq_true (by omega)
           clear c15
           by_cases c16 : 7 < (t233.length : Int)
           ·rw [if_pos c16] at H
            have c16b0 : decide (7 < (t233.length : Int)) = true := decide_eq_true c16
            have c16b1 : decide (7 < t233.length) = true := decide_eq_true (by omega)
            clear c16
            by_cases c17 : 8 < (t233.length : Int)
            ·rw [if_pos c17] at H
             have c17b0 : decide (8 < (t233.length : Int)) = true := decide_eq_true c17
             have c17b1 : decide (8 < t233.length) = true := decide_eq_true (by omega)
             clear c17
             by_cases c18 : 9 < (t233.length : Int)
             ·rw [if_pos c18] at H
              have c18b0 : decide (9 < (t233.length : Int)) = true := decide_eq_true c18
              have c18b1 : decide (9 < t233.length) = true := decide_eq_true (by omega)
              clear c18
              replace H := Option.bind_eq_some_iff.mp H
              obtain ⟨t249, A190, H⟩ := H
              try dsimp only at H
              have A19 := Aside0.mk A190
              clear A190
              by_cases c20 : t249 = true
              ·subst c20
               have H1 : (some (rd t233 0, rd t233 1, rd t233 2, rd t233 3, rd t233 4, rd t233 5, rd t233 6, rd t233 7, rd t233 8, rd t233 9, true)) = some (r1, r2, r3, r4, r5, r6, r7, r8, r9, r10, r11) := by rw [if_pos rfl] at H; exact H
               clear H
               have H := H1
               clear H1
               simp only [Option.some.injEq, Prod.mk.injEq] at H
               obtain ⟨rfl, rfl, rfl, rfl, rfl, rfl, rfl, rfl, rfl, rfl, rfl⟩ := H
               try go_wp2
               replace HO_4 := Aside0.mk (Kd.R_drew HO_4.out); replace BK232 := Aside0.mk (blk_drew BK232.out); replace HB := Aside0.mk (below_drew1 HB.out)
               obtain ⟨Ao22, co22, eo22⟩ := Kd.R_slice HO_4.out
               (first | subst eo22 | (injection eo22 with f1_ f2_ f3_; have f4_ := f1_.symm; have f5_ := f3_.symm; clear f1_ f2_ f3_; subst f4_; subst f5_))
               have p238 : 0 ≤ (0 : Int) := (by omega)
               have q238 : 0 < (t233.length : Int) := sqD
               obtain ⟨ad238, e238, hx238_0⟩ := Kd.at_int (Kd.R_reads' HO_4.out).2.2 0 p238 q238
               cases e238
               have qi238 : (0 < t233.length) = True := eq_true (by omega)
               (try rw [show ((0 : Int)).toNat = 0 from rfl] at hx238_0)
               (try rw [Addr.add_zero'] at hx238_0)
               replace p238 := eq_true p238
               replace q238 := eq_true q238
               have p239 : 0 ≤ (1 : Int) := (by omega)
               have q239 : 1 < (t233.length : Int) := sqD
               obtain ⟨ad239, e239, hx239_0⟩ := Kd.at_int (Kd.R_reads' HO_4.out).2.2 1 p239 q239
               obtain rfl : ad238 = ad239 := (by injection e239)
               (try simp only [show (1 : Int).toNat = 1 from rfl, Nat.reduceMul, Nat.reduceEqDiff, Go.Addr.add, ↓reduceIte] at hx239_0)
               have qi239 : (1 < t233.length) = True := eq_true (by omega)
               (try rw [show ((1 : Int)).toNat = 1 from rfl] at hx239_0)
               replace p239 := eq_true p239
               replace q239 := eq_true q239
               have p240 : 0 ≤ (2 : Int) := (by omega)
               have q240 : 2 < (t233.length : Int) := sqD
               obtain ⟨ad240, e240, hx240_0⟩ := Kd.at_int (Kd.R_reads' HO_4.out).2.2 2 p240 q240
               obtain rfl : ad238 = ad240 := (by injection e240)
               (try simp only [show (2 : Int).toNat = 2 from rfl, Nat.reduceMul, Nat.reduceEqDiff, Go.Addr.add, ↓reduceIte] at hx240_0)
               have qi240 : (2 < t233.length) = True := eq_true (by omega)
               (try rw [show ((2 : Int)).toNat = 2 from rfl] at hx240_0)
               replace p240 := eq_true p240
               replace q240 := eq_true q240
               have p241 : 0 ≤ (3 : Int) := (by omega)
               have q241 : 3 < (t233.length : Int) := sqD
               obtain ⟨ad241, e241, hx241_0⟩ := Kd.at_int (Kd.R_reads' HO_4.out).2.2 3 p241 q241
               obtain rfl : ad238 = ad241 := (by injection e241)
               (try simp only [show (3 : Int).toNat = 3 from rfl, Nat.reduceMul, Nat.reduceEqDiff, Go.Addr.add, ↓reduceIte] at hx241_0)
               have qi241 : (3 < t233.length) = True := eq_true (by omega)
               (try rw [show ((3 : Int)).toNat = 3 from rfl] at hx241_0)
               replace p241 := eq_true p241
               replace q241 := eq_true q241
               have p242 : 0 ≤ (4 : Int) := (by omega)
               have q242 : 4 < (t233.length : Int) := sqD
               obtain ⟨ad242, e242, hx242_0⟩ := Kd.at_int (Kd.R_reads' HO_4.out).2.2 4 p242 q242
               obtain rfl : ad238 = ad242 := (by injection e242)
               (try simp only [show (4 : Int).toNat = 4 from rfl, Nat.reduceMul, Nat.reduceEqDiff, Go.Addr.add, ↓reduceIte] at hx242_0)
               have qi242 : (4 < t233.length) = True := eq_true (by omega)
               (try rw [show ((4 : Int)).toNat = 4 from rfl] at hx242_0)
               replace p242 := eq_true p242
               replace q242 := eq_true q242
               have p243 : 0 ≤ (5 : Int) := (by omega)
               have q243 : 5 < (t233.length : Int) := sqD
               obtain ⟨ad243, e243, hx243_0⟩ := Kd.at_int (Kd.R_reads' HO_4.out).2.2 5 p243 q243
               obtain rfl : ad238 = ad243 := (by injection e243)
               (try simp only [show (5 : Int).toNat = 5 from rfl, Nat.reduceMul, Nat.reduceEqDiff, Go.Addr.add, ↓reduceIte] at hx243_0)
               have qi243 : (5 < t233.length) = True := eq_true (by omega)
               (try rw [show ((5 : Int)).toNat = 5 from rfl] at hx243_0)
               replace p243 := eq_true p243
               replace q243 := eq_true q243
               have p244 : 0 ≤ (6 : Int) := (by omega)
               have q244 : 6 < (t233.length : Int) := sqD
               obtain ⟨ad244, e244, hx244_0⟩ := Kd.at_int (Kd.R_reads' HO_4.out).2.2 6 p244 q244
               obtain rfl : ad238 = ad244 := (by injection e244)
               (try simp only [show (6 : Int).toNat = 6 from rfl, Nat.reduceMul, Nat.reduceEqDiff, Go.Addr.add, ↓reduceIte] at hx244_0)
               have qi244 : (6 < t233.length) = True := eq_true (by omega)
               (try rw [show ((6 : Int)).toNat = 6 from rfl] at hx244_0)
               replace p244 := eq_true p244
               replace q244 := eq_true q244
               have p245 : 0 ≤ (7 : Int) := (by omega)
               have q245 : 7 < (t233.length : Int) := sqD
               obtain ⟨ad245, e245, hx245_0⟩ := Kd.at_int (Kd.R_reads' HO_4.out).2.2 7 p245 q245
               obtain rfl : ad238 = ad245 := (by injection e245)
               (try simp only [show (7 : Int).toNat = 7 from rfl, Nat.reduceMul, Nat.reduceEqDiff, Go.Addr.add, ↓reduceIte] at hx245_0)
               have qi245 : (7 < t233.length) = True := eq_true (by omega)
               (try rw [show ((7 : Int)).toNat = 7 from rfl] at hx245_0)
               replace p245 := eq_true p245
               replace q245 := eq_true q245
               have p246 : 0 ≤ (8 : Int) := (by omega)
               have q246 : 8 < (t233.length : Int) := sqD
               obtain ⟨ad246, e246, hx246_0⟩ := Kd.at_int (Kd.R_reads' HO_4.out).2.2 8 p246 q246
               obtain rfl : ad238 = ad246 := (by injection e246)
               (try simp only [show (8 : Int).toNat = 8 from rfl, Nat.reduceMul, Nat.reduceEqDiff, Go.Addr.add, ↓reduceIte] at hx246_0)
               have qi246 : (8 < t233.length) = True := eq_true (by omega)
               (try rw [show ((8 : Int)).toNat = 8 from rfl] at hx246_0)
               replace p246 := eq_true p246
               replace q246 := eq_true q246
               have p247 : 0 ≤ (9 : Int) := (by omega)
               have q247 : 9 < (t233.length : Int) := sqD
               obtain ⟨ad247, e247, hx247_0⟩ := Kd.at_int (Kd.R_reads' HO_4.out).2.2 9 p247 q247
               obtain rfl : ad238 = ad247 := (by injection e247)
               (try simp only [show (9 : Int).toNat = 9 from rfl, Nat.reduceMul, Nat.reduceEqDiff, Go.Addr.add, ↓reduceIte] at hx247_0)
               have qi247 : (9 < t233.length) = True := eq_true (by omega)
               (try rw [show ((9 : Int)).toNat = 9 from rfl] at hx247_0)
               replace p247 := eq_true p247
               replace q247 := eq_true q247
               refine start_ (n := 36) (S := fun w' => w'.cell? ad238 = some (.int .i64 (rd t233 0)) ∧ w'.cell? ⟨ad238.block, ad238.off + 1, none⟩ = some (.int .i64 (rd t233 1)) ∧ w'.cell? ⟨ad238.block, ad238.off + 2, none⟩ = some (.int .i64 (rd t233 2)) ∧ w'.cell? ⟨ad238.block, ad238.off + 3, none⟩ = some (.int .i64 (rd t233 3)) ∧ w'.cell? ⟨ad238.block, ad238.off + 4, none⟩ = some (.int .i64 (rd t233 4)) ∧ w'.cell? ⟨ad238.block, ad238.off + 5, none⟩ = some (.int .i64 (rd t233 5)) ∧ w'.cell? ⟨ad238.block, ad238.off + 6, none⟩ = some (.int .i64 (rd t233 6)) ∧ w'.cell? ⟨ad238.block, ad238.off + 7, none⟩ = some (.int .i64 (rd t233 7)) ∧ w'.cell? ⟨ad238.block, ad238.off + 8, none⟩ = some (.int .i64 (rd t233 8)) ∧ w'.cell? ⟨ad238.block, ad238.off + 9, none⟩ = some (.int .i64 (rd t233 9))) (ds := []) (sqb 0 36) (by kernel_rfl) rfl rfl ⟨hx238_0, hx239_0, hx240_0, hx241_0, hx242_0, hx243_0, hx244_0, hx245_0, hx246_0, hx247_0⟩ (fun hHeld => ?_); refine with_tabW impl_ReadCred.tab4 impl_ReadCred.bits4 (fun HT_ HW_ => ?_)
               generalize wc.drew = w21 at HO_4 BK232 HB hx238_0 hx239_0 hx240_0 hx241_0 hx242_0 hx243_0 hx244_0 hx245_0 hx246_0 hx247_0 hHeld ⊢
               refine sqP (i := 0) (N := some 23) (sqb 1 35) rfl rfl (any_of HT_.out (by kernel_rfl)) ?_
               refine sqP (i := 1) (N := some 24) (sqb 2 34) rfl rfl (any_of HT_.out (by kernel_rfl)) ?_
               refine sqP (i := 3) (N := some 26) (sqr [2, 1, 1, 32]) rfl rfl (any_of HT_.out (by kernel_rfl)) ?_
               refine sqP (i := 4) (N := some 27) (sqr [2, 1, 2, 31]) rfl rfl (any_of HT_.out (by kernel_rfl)) ?_
               refine sqP (i := 6) (N := some 29) (sqr [2, 1, 2, 1, 1, 29]) rfl rfl (any_of HT_.out (by kernel_rfl)) ?_
               refine sqP (i := 7) (N := some 30) (sqr [2, 1, 2, 1, 2, 28]) rfl rfl (any_of HT_.out (by kernel_rfl)) ?_
               refine sqP (i := 10) (N := some 33) (sqr [2, 1, 2, 1, 2, 2, 1, 25]) rfl rfl (any_of HT_.out (by kernel_rfl)) ?_
               refine sqP (i := 11) (N := some 34) (sqr [2, 1, 2, 1, 2, 2, 2, 24]) rfl rfl (any_of HT_.out (by kernel_rfl)) ?_
               refine sqP (i := 13) (N := some 36) (sqr [2, 1, 2, 1, 2, 2, 2, 1, 1, 22]) rfl rfl (any_of HT_.out (by kernel_rfl)) ?_
               refine sqP (i := 14) (N := some 37) (sqr [2, 1, 2, 1, 2, 2, 2, 1, 2, 21]) rfl rfl (any_of HT_.out (by kernel_rfl)) ?_
               refine sqP (i := 16) (N := some 39) (sqr [2, 1, 2, 1, 2, 2, 2, 1, 2, 1, 1, 19]) rfl rfl (any_of HT_.out (by kernel_rfl)) ?_
               refine sqP (i := 17) (N := some 40) (sqr [2, 1, 2, 1, 2, 2, 2, 1, 2, 1, 2, 18]) rfl rfl (any_of HT_.out (by kernel_rfl)) ?_
               refine sqP (i := 20) (N := some 43) (sqr [2, 1, 2, 1, 2, 2, 2, 1, 2, 1, 2, 2, 1, 15]) rfl rfl (any_of HT_.out (by kernel_rfl)) ?_
               refine sqP (i := 21) (N := some 44) (sqr [2, 1, 2, 1, 2, 2, 2, 1, 2, 1, 2, 2, 2, 14]) rfl rfl (any_of HT_.out (by kernel_rfl)) ?_
               refine sqP (i := 23) (N := some 46) (sqr [2, 1, 2, 1, 2, 2, 2, 1, 2, 1, 2, 2, 2, 1, 1, 12]) rfl rfl (any_of HT_.out (by kernel_rfl)) ?_
               refine sqP (i := 24) (N := some 47) (sqr [2, 1, 2, 1, 2, 2, 2, 1, 2, 1, 2, 2, 2, 1, 2, 11]) rfl rfl (any_of HT_.out (by kernel_rfl)) ?_
               refine sqP (i := 27) (N := some 50) (sqr [2, 1, 2, 1, 2, 2, 2, 1, 2, 1, 2, 2, 2, 1, 2, 2, 1, 8]) rfl rfl (any_of HT_.out (by kernel_rfl)) ?_
               refine sqP (i := 28) (N := some 51) (sqr [2, 1, 2, 1, 2, 2, 2, 1, 2, 1, 2, 2, 2, 1, 2, 2, 2, 7]) rfl rfl (any_of HT_.out (by kernel_rfl)) ?_
               refine sqP (i := 30) (N := some 53) (sqr [2, 1, 2, 1, 2, 2, 2, 1, 2, 1, 2, 2, 2, 1, 2, 2, 2, 1, 1, 5]) rfl rfl (any_of HT_.out (by kernel_rfl)) ?_
               refine sqP (i := 31) (N := some 54) (sqr [2, 1, 2, 1, 2, 2, 2, 1, 2, 1, 2, 2, 2, 1, 2, 2, 2, 1, 2, 4]) rfl rfl (any_of HT_.out (by kernel_rfl)) ?_
               refine sqTk (i := 2) (N := some 25) (sqr [5, 1, 2, 2, 2, 1, 2, 1, 2, 2, 2, 1, 2, 2, 2, 1, 2, 4]) rfl rfl (take_ofW HT_.out HW_.out (by kernel_rfl)) hHeld ?_
               refine sqTk (i := 5) (N := some 28) (sqr [8, 2, 2, 1, 2, 1, 2, 2, 2, 1, 2, 2, 2, 1, 2, 4]) rfl rfl (take_ofW HT_.out HW_.out (by kernel_rfl)) hHeld ?_
               refine sqTk (i := 8) (N := some 31) (sqr [9, 1, 2, 1, 2, 1, 2, 2, 2, 1, 2, 2, 2, 1, 2, 4]) rfl rfl (take_ofW HT_.out HW_.out (by kernel_rfl)) hHeld ?_
               refine sqP (i := 9) (N := some 32) (sqr [12, 1, 2, 1, 2, 2, 2, 1, 2, 2, 2, 1, 2, 4]) rfl rfl (any_of HT_.out (by kernel_rfl)) ?_
               refine sqTk (i := 12) (N := some 35) (sqr [15, 1, 2, 2, 2, 1, 2, 2, 2, 1, 2, 4]) rfl rfl (take_ofW HT_.out HW_.out (by kernel_rfl)) hHeld ?_
               refine sqTk (i := 15) (N := some 38) (sqr [18, 2, 2, 1, 2, 2, 2, 1, 2, 4]) rfl rfl (take_ofW HT_.out HW_.out (by kernel_rfl)) hHeld ?_
               refine sqTk (i := 18) (N := some 41) (sqr [19, 1, 2, 1, 2, 2, 2, 1, 2, 4]) rfl rfl (take_ofW HT_.out HW_.out (by kernel_rfl)) hHeld ?_
               refine sqP (i := 19) (N := some 42) (sqr [22, 1, 2, 2, 2, 1, 2, 4]) rfl rfl (any_of HT_.out (by kernel_rfl)) ?_
               refine sqTk (i := 22) (N := some 45) (sqr [25, 2, 2, 1, 2, 4]) rfl rfl (take_ofW HT_.out HW_.out (by kernel_rfl)) hHeld ?_
               refine sqTk (i := 25) (N := some 48) (sqr [26, 1, 2, 1, 2, 4]) rfl rfl (take_ofW HT_.out HW_.out (by kernel_rfl)) hHeld ?_
               refine sqP (i := 26) (N := some 49) (sqr [29, 1, 2, 4]) rfl rfl (any_of HT_.out (by kernel_rfl)) ?_
               refine sqTk (i := 29) (N := some 52) (sqb 32 4) rfl rfl (take_ofW HT_.out HW_.out (by kernel_rfl)) hHeld ?_
               refine sqTk (i := 32) (N := some 55) (sqb 33 3) rfl rfl (take_ofW HT_.out HW_.out (by kernel_rfl)) hHeld ?_
               refine sqP (i := 33) (N := some 56) (sqb 34 2) rfl rfl (any_of HT_.out (by kernel_rfl)) ?_
               refine one_ (i := 34) (N := some 7) (sqb 35 1) rfl rfl (one_of HT_.out (by kernel_rfl)) (by decide) (fun K hK => ?_)
               refine box_step ?hg (N := 7) ?hd (cs := #[.int .i64 0, .int .i64 0, .int .i64 0, .int .i64 0, .int .i64 0, .int .i64 0, .int .i64 0, .int .i64 0, .int .i64 0, .int .i64 0]) (t := 27) ?hr ?_; (case hd => rfl); (case hg => rfl); (case hr => first | (go_simp; done) | (go_simp; rfl))
               intro gb248 hg w23 hbox hb
               have HS0_ := (hb.cell (World.block_lt_of_cell? _ _ (hHeld.1))).trans (hHeld.1)
               have HS1_ := (hb.cell (World.block_lt_of_cell? _ _ (hHeld.2.1))).trans (hHeld.2.1)
               have HS2_ := (hb.cell (World.block_lt_of_cell? _ _ (hHeld.2.2.1))).trans (hHeld.2.2.1)
               have HS3_ := (hb.cell (World.block_lt_of_cell? _ _ (hHeld.2.2.2.1))).trans (hHeld.2.2.2.1)
               have HS4_ := (hb.cell (World.block_lt_of_cell? _ _ (hHeld.2.2.2.2.1))).trans (hHeld.2.2.2.2.1)
               have HS5_ := (hb.cell (World.block_lt_of_cell? _ _ (hHeld.2.2.2.2.2.1))).trans (hHeld.2.2.2.2.2.1)
               have HS6_ := (hb.cell (World.block_lt_of_cell? _ _ (hHeld.2.2.2.2.2.2.1))).trans (hHeld.2.2.2.2.2.2.1)
               have HS7_ := (hb.cell (World.block_lt_of_cell? _ _ (hHeld.2.2.2.2.2.2.2.1))).trans (hHeld.2.2.2.2.2.2.2.1)
               have HS8_ := (hb.cell (World.block_lt_of_cell? _ _ (hHeld.2.2.2.2.2.2.2.2.1))).trans (hHeld.2.2.2.2.2.2.2.2.1)
               have HS9_ := (hb.cell (World.block_lt_of_cell? _ _ (hHeld.2.2.2.2.2.2.2.2.2))).trans (hHeld.2.2.2.2.2.2.2.2.2)
               replace HO_4 := Aside0.mk (Kd.R_below (sqR HO_4) hb); have BK248 := Aside0.mk (hbox); have GW248 := sqG hg; have GE248 := sqG hg; have NB232_248 := sqN BK232 hg; have NB248_232 := sqM BK232 hg; replace BK232 := sqL BK232 hb; replace HB := sqS hb
               clear hb hbox hg
               refine hK.out _ _ ⟨HS0_, HS1_, HS2_, HS3_, HS4_, HS5_, HS6_, HS7_, HS8_, HS9_⟩ (fun hHeld => ?_)
               clear hK K
               refine sqV (N := some 7) ?_
               refine one_ (i := 35) (N := none) (sqb 36 0) rfl rfl (one_of HT_.out (by kernel_rfl)) (by decide) (fun K hK => ?_)
               have hs24 : w23.cell? ⟨gb248, 0, none⟩ = some (.int .i64 0) := (blk_cell BK248.out 0).trans rfl
               have hfs24 := blk_frozen BK248.out 0
               have hns24_0 := NB232_248.out
               have hms24_0 := NB248_232.out
               have hs25 : w23.cell? ⟨gb248, 1, none⟩ = some (.int .i64 0) := (blk_cell BK248.out 1).trans rfl
               have hfs25 := blk_frozen BK248.out 1
               have hns25_0 := NB232_248.out
               have hms25_0 := NB248_232.out
               have hs26 : w23.cell? ⟨gb248, 2, none⟩ = some (.int .i64 0) := (blk_cell BK248.out 2).trans rfl
               have hfs26 := blk_frozen BK248.out 2
               have hns26_0 := NB232_248.out
               have hms26_0 := NB248_232.out
               have hs27 : w23.cell? ⟨gb248, 3, none⟩ = some (.int .i64 0) := (blk_cell BK248.out 3).trans rfl
               have hfs27 := blk_frozen BK248.out 3
               have hns27_0 := NB232_248.out
               have hms27_0 := NB248_232.out
               have hs28 : w23.cell? ⟨gb248, 4, none⟩ = some (.int .i64 0) := (blk_cell BK248.out 4).trans rfl
               have hfs28 := blk_frozen BK248.out 4
               have hns28_0 := NB232_248.out
               have hms28_0 := NB248_232.out
               have hs29 : w23.cell? ⟨gb248, 5, none⟩ = some (.int .i64 0) := (blk_cell BK248.out 5).trans rfl
               have hfs29 := blk_frozen BK248.out 5
               have hns29_0 := NB232_248.out
               have hms29_0 := NB248_232.out
               have hs30 : w23.cell? ⟨gb248, 6, none⟩ = some (.int .i64 0) := (blk_cell BK248.out 6).trans rfl
               have hfs30 := blk_frozen BK248.out 6
               have hns30_0 := NB232_248.out
               have hms30_0 := NB248_232.out
               have hs31 : w23.cell? ⟨gb248, 7, none⟩ = some (.int .i64 0) := (blk_cell BK248.out 7).trans rfl
               have hfs31 := blk_frozen BK248.out 7
               have hns31_0 := NB232_248.out
               have hms31_0 := NB248_232.out
               have hs32 : w23.cell? ⟨gb248, 8, none⟩ = some (.int .i64 0) := (blk_cell BK248.out 8).trans rfl
               have hfs32 := blk_frozen BK248.out 8
               have hns32_0 := NB232_248.out
               have hms32_0 := NB248_232.out
               have hs33 : w23.cell? ⟨gb248, 9, none⟩ = some (.int .i64 0) := (blk_cell BK248.out 9).trans rfl
               have hfs33 := blk_frozen BK248.out 9
               have hns33_0 := NB232_248.out
               have hms33_0 := NB248_232.out
               refine skip_ (w1 := ?_) (by rfl) rfl ?_ ?_
               rotate_left
               ·go_simp
                rfl
               have zb_ := Aside0.mk (Kd.own_blk (Kd.R_ne HO_4.out BK248.out (by decide)))
               refine hK.out _ _ ⟨(sqJz10 hHeld.1), (sqJz10 hHeld.2.1), (sqJz10 hHeld.2.2.1), (sqJz10 hHeld.2.2.2.1), (sqJz10 hHeld.2.2.2.2.1), (sqJz10 hHeld.2.2.2.2.2.1), (sqJz10 hHeld.2.2.2.2.2.2.1), (sqJz10 hHeld.2.2.2.2.2.2.2.1), (sqJz10 hHeld.2.2.2.2.2.2.2.2.1), (sqJz10 hHeld.2.2.2.2.2.2.2.2.2)⟩ (fun hHeld => ?_)
               clear hK K
               refine done_ (done_of HT_.out (by kernel_rfl)) ?_
               have hnb34 := NB248_232.out
               have hnc34 := NB232_248.out
               obtain ⟨hcz35_0, hcz35_1, hcz35_2, hcz35_3, hcz35_4, hcz35_5, hcz35_6, hcz35_7, hcz35_8, hcz35_9, hfz35_0, hfz35_1, hfz35_2, hfz35_3, hfz35_4, hfz35_5, hfz35_6, hfz35_7, hfz35_8, hfz35_9⟩ := sqC10 BK248
               try go_wp2_with (first | ((with_reducible refine gate_callee (f := 14) rfl ?_); refine goesL_ (some 58) rfl rfl Try.func14 (by kernel_rfl) rfl #[.agg #[.int .i64 (rd t233 0), .int .i64 (rd t233 1), .int .i64 (rd t233 2), .int .i64 (rd t233 3), .int .i64 (rd t233 4), .int .i64 (rd t233 5), .int .i64 (rd t233 6), .int .i64 (rd t233 7), .int .i64 (rd t233 8), .int .i64 (rd t233 9)]] rfl sqA ?_; (with_reducible refine (impl_CredOk.calls kj2 (rd t233 0) (rd t233 1) (rd t233 2) (rd t233 3) (rd t233 4) (rd t233 5) (rd t233 6) (rd t233 7) (rd t233 8) (rd t233 9) true _ A19.out).mono ?_); rintro e w36 ⟨rfl, hb⟩; refine ⟨_, rfl, ?_⟩; replace HO_4 := Aside0.mk (Kd.R_below (by (with_reducible repeat (first | apply Kd.R_alloc | apply Kd.R_drewN | apply Kd.R_drew)); exact (Kd.R_mono (Kd.R_far (p := ⟨gb248, 9, none⟩) (Kd.R_far (p := ⟨gb248, 8, none⟩) (Kd.R_far (p := ⟨gb248, 7, none⟩) (Kd.R_far (p := ⟨gb248, 6, none⟩) (Kd.R_far (p := ⟨gb248, 5, none⟩) (Kd.R_far (p := ⟨gb248, 4, none⟩) (Kd.R_far (p := ⟨gb248, 3, none⟩) (Kd.R_far (p := ⟨gb248, 2, none⟩) (Kd.R_far (p := ⟨gb248, 1, none⟩) (Kd.R_far (p := ⟨gb248, 0, none⟩) (Kd.R_types HO_4.out BK248.out (by decide)) (fun _ hk => hk.2) (.int .i64 (rd t233 0))) (fun _ hk => hk.2) (.int .i64 (rd t233 1))) (fun _ hk => hk.2) (.int .i64 (rd t233 2))) (fun _ hk => hk.2) (.int .i64 (rd t233 3))) (fun _ hk => hk.2) (.int .i64 (rd t233 4))) (fun _ hk => hk.2) (.int .i64 (rd t233 5))) (fun _ hk => hk.2) (.int .i64 (rd t233 6))) (fun _ hk => hk.2) (.int .i64 (rd t233 7))) (fun _ hk => hk.2) (.int .i64 (rd t233 8))) (fun _ hk => hk.2) (.int .i64 (rd t233 9))) (fun _ h_ => h_.1))) hb); replace BK232 := sqLW (o' := .cells #[.int .i64 0, .int .i64 0, .int .i64 0, .int .i64 0, .int .i64 0, .int .i64 0, .int .i64 0, .int .i64 0, .int .i64 0, .int .i64 0] 27 (0, 0)) BK232 hb; replace BK248 := sqLW (o' := .cells #[.int .i64 (rd t233 0), .int .i64 (rd t233 1), .int .i64 (rd t233 2), .int .i64 (rd t233 3), .int .i64 (rd t233 4), .int .i64 (rd t233 5), .int .i64 (rd t233 6), .int .i64 (rd t233 7), .int .i64 (rd t233 8), .int .i64 (rd t233 9)] 27 (0, 0)) BK248 hb; replace HB := sqS hb; (try clear hb); (try clear hb2); (try clear hk); (try clear hi); obtain ⟨hcz37_0, hcz37_1, hcz37_2, hcz37_3, hcz37_4, hcz37_5, hcz37_6, hcz37_7, hcz37_8, hcz37_9, hfz37_0, hfz37_1, hfz37_2, hfz37_3, hfz37_4, hfz37_5, hfz37_6, hfz37_7, hfz37_8, hfz37_9⟩ := sqC10 BK248; obtain ⟨hcz38_0, hcz38_1, hcz38_2, hcz38_3, hcz38_4, hcz38_5, hcz38_6, hcz38_7, hcz38_8, hcz38_9, hfz38_0, hfz38_1, hfz38_2, hfz38_3, hfz38_4, hfz38_5, hfz38_6, hfz38_7, hfz38_8, hfz38_9⟩ := sqC10 BK232))
               refine bodyPost_ret (results_ct rfl _ _ gb232 27 #[.int .i64 (rd t233 0), .int .i64 (rd t233 1), .int .i64 (rd t233 2), .int .i64 (rd t233 3), .int .i64 (rd t233 4), .int .i64 (rd t233 5), .int .i64 (rd t233 6), .int .i64 (rd t233 7), .int .i64 (rd t233 8), .int .i64 (rd t233 9)] (0, 0) _ rfl (sqW BK232) Try.underlying27 rfl (by kernel_rfl)) rfl ?_
               exact ⟨sqE, sqB⟩
              ·replace c20 := Bool.eq_false_iff.mpr c20
               subst c20
               have H1 : (some (0, 0, 0, 0, 0, 0, 0, 0, 0, 0, false)) = some (r1, r2, r3, r4, r5, r6, r7, r8, r9, r10, r11) := by rw [if_neg (show ¬ (false = true) by decide)] at H; exact H
               clear H
               have H := H1
               clear H1
               simp only [Option.some.injEq, Prod.mk.injEq] at H
               obtain ⟨rfl, rfl, rfl, rfl, rfl, rfl, rfl, rfl, rfl, rfl, rfl⟩ := H
               try go_wp2
               replace HO_4 := Aside0.mk (Kd.R_drew HO_4.out); replace BK232 := Aside0.mk (blk_drew BK232.out); replace HB := Aside0.mk (below_drew1 HB.out)
               obtain ⟨Ao40, co40, eo40⟩ := Kd.R_slice HO_4.out
               (first | subst eo40 | (injection eo40 with f1_ f2_ f3_; have f4_ := f1_.symm; have f5_ := f3_.symm; clear f1_ f2_ f3_; subst f4_; subst f5_))
               have p238 : 0 ≤ (0 : Int) := (by omega)
               have q238 : 0 < (t233.length : Int) := sqD
               obtain ⟨ad238, e238, hx238_0⟩ := Kd.at_int (Kd.R_reads' HO_4.out).2.2 0 p238 q238
               cases e238
               have qi238 : (0 < t233.length) = True := eq_true (by omega)
               (try rw [show ((0 : Int)).toNat = 0 from rfl] at hx238_0)
               (try rw [Addr.add_zero'] at hx238_0)
               replace p238 := eq_true p238
               replace q238 := eq_true q238
               have p239 : 0 ≤ (1 : Int) := (by omega)
               have q239 : 1 < (t233.length : Int) := sqD
               obtain ⟨ad239, e239, hx239_0⟩ := Kd.at_int (Kd.R_reads' HO_4.out).2.2 1 p239 q239
               obtain rfl : ad238 = ad239 := (by injection e239)
               (try simp only [show (1 : Int).toNat = 1 from rfl, Nat.reduceMul, Nat.reduceEqDiff, Go.Addr.add, ↓reduceIte] at hx239_0)
               have qi239 : (1 < t233.length) = True := eq_true (by omega)
               (try rw [show ((1 : Int)).toNat = 1 from rfl] at hx239_0)
               replace p239 := eq_true p239
               replace q239 := eq_true q239
               have p240 : 0 ≤ (2 : Int) := (by omega)
               have q240 : 2 < (t233.length : Int) := sqD
               obtain ⟨ad240, e240, hx240_0⟩ := Kd.at_int (Kd.R_reads' HO_4.out).2.2 2 p240 q240
               obtain rfl : ad238 = ad240 := (by injection e240)
               (try simp only [show (2 : Int).toNat = 2 from rfl, Nat.reduceMul, Nat.reduceEqDiff, Go.Addr.add, ↓reduceIte] at hx240_0)
               have qi240 : (2 < t233.length) = True := eq_true (by omega)
               (try rw [show ((2 : Int)).toNat = 2 from rfl] at hx240_0)
               replace p240 := eq_true p240
               replace q240 := eq_true q240
               have p241 : 0 ≤ (3 : Int) := (by omega)
               have q241 : 3 < (t233.length : Int) := sqD
               obtain ⟨ad241, e241, hx241_0⟩ := Kd.at_int (Kd.R_reads' HO_4.out).2.2 3 p241 q241
               obtain rfl : ad238 = ad241 := (by injection e241)
               (try simp only [show (3 : Int).toNat = 3 from rfl, Nat.reduceMul, Nat.reduceEqDiff, Go.Addr.add, ↓reduceIte] at hx241_0)
               have qi241 : (3 < t233.length) = True := eq_true (by omega)
               (try rw [show ((3 : Int)).toNat = 3 from rfl] at hx241_0)
               replace p241 := eq_true p241
               replace q241 := eq_true q241
               have p242 : 0 ≤ (4 : Int) := (by omega)
               have q242 : 4 < (t233.length : Int) := sqD
               obtain ⟨ad242, e242, hx242_0⟩ := Kd.at_int (Kd.R_reads' HO_4.out).2.2 4 p242 q242
               obtain rfl : ad238 = ad242 := (by injection e242)
               (try simp only [show (4 : Int).toNat = 4 from rfl, Nat.reduceMul, Nat.reduceEqDiff, Go.Addr.add, ↓reduceIte] at hx242_0)
               have qi242 : (4 < t233.length) = True := eq_true (by omega)
               (try rw [show ((4 : Int)).toNat = 4 from rfl] at hx242_0)
               replace p242 := eq_true p242
               replace q242 := eq_true q242
               have p243 : 0 ≤ (5 : Int) := (by omega)
               have q243 : 5 < (t233.length : Int) := sqD
               obtain ⟨ad243, e243, hx243_0⟩ := Kd.at_int (Kd.R_reads' HO_4.out).2.2 5 p243 q243
               obtain rfl : ad238 = ad243 := (by injection e243)
               (try simp only [show (5 : Int).toNat = 5 from rfl, Nat.reduceMul, Nat.reduceEqDiff, Go.Addr.add, ↓reduceIte] at hx243_0)
               have qi243 : (5 < t233.length) = True := eq_true (by omega)
               (try rw [show ((5 : Int)).toNat = 5 from rfl] at hx243_0)
               replace p243 := eq_true p243
               replace q243 := eq_true q243
               have p244 : 0 ≤ (6 : Int) := (by omega)
               have q244 : 6 < (t233.length : Int) := sqD
               obtain ⟨ad244, e244, hx244_0⟩ := Kd.at_int (Kd.R_reads' HO_4.out).2.2 6 p244 q244
               obtain rfl : ad238 = ad244 := (by injection e244)
               (try simp only [show (6 : Int).toNat = 6 from rfl, Nat.reduceMul, Nat.reduceEqDiff, Go.Addr.add, ↓reduceIte] at hx244_0)
               have qi244 : (6 < t233.length) = True := eq_true (by omega)
               (try rw [show ((6 : Int)).toNat = 6 from rfl] at hx244_0)
               replace p244 := eq_true p244
               replace q244 := eq_true q244
               have p245 : 0 ≤ (7 : Int) := (by omega)
               have q245 : 7 < (t233.length : Int) := sqD
               obtain ⟨ad245, e245, hx245_0⟩ := Kd.at_int (Kd.R_reads' HO_4.out).2.2 7 p245 q245
               obtain rfl : ad238 = ad245 := (by injection e245)
               (try simp only [show (7 : Int).toNat = 7 from rfl, Nat.reduceMul, Nat.reduceEqDiff, Go.Addr.add, ↓reduceIte] at hx245_0)
               have qi245 : (7 < t233.length) = True := eq_true (by omega)
               (try rw [show ((7 : Int)).toNat = 7 from rfl] at hx245_0)
               replace p245 := eq_true p245
               replace q245 := eq_true q245
               have p246 : 0 ≤ (8 : Int) := (by omega)
               have q246 : 8 < (t233.length : Int) := sqD
               obtain ⟨ad246, e246, hx246_0⟩ := Kd.at_int (Kd.R_reads' HO_4.out).2.2 8 p246 q246
               obtain rfl : ad238 = ad246 := (by injection e246)
               (try simp only [show (8 : Int).toNat = 8 from rfl, Nat.reduceMul, Nat.reduceEqDiff, Go.Addr.add, ↓reduceIte] at hx246_0)
               have qi246 : (8 < t233.length) = True := eq_true (by omega)
               (try rw [show ((8 : Int)).toNat = 8 from rfl] at hx246_0)
               replace p246 := eq_true p246
               replace q246 := eq_true q246
               have p247 : 0 ≤ (9 : Int) := (by omega)
               have q247 : 9 < (t233.length : Int) := sqD
               obtain ⟨ad247, e247, hx247_0⟩ := Kd.at_int (Kd.R_reads' HO_4.out).2.2 9 p247 q247
               obtain rfl : ad238 = ad247 := (by injection e247)
               (try simp only [show (9 : Int).toNat = 9 from rfl, Nat.reduceMul, Nat.reduceEqDiff, Go.Addr.add, ↓reduceIte] at hx247_0)
               have qi247 : (9 < t233.length) = True := eq_true (by omega)
               (try rw [show ((9 : Int)).toNat = 9 from rfl] at hx247_0)
               replace p247 := eq_true p247
               replace q247 := eq_true q247
               refine start_ (n := 36) (S := fun w' => w'.cell? ad238 = some (.int .i64 (rd t233 0)) ∧ w'.cell? ⟨ad238.block, ad238.off + 1, none⟩ = some (.int .i64 (rd t233 1)) ∧ w'.cell? ⟨ad238.block, ad238.off + 2, none⟩ = some (.int .i64 (rd t233 2)) ∧ w'.cell? ⟨ad238.block, ad238.off + 3, none⟩ = some (.int .i64 (rd t233 3)) ∧ w'.cell? ⟨ad238.block, ad238.off + 4, none⟩ = some (.int .i64 (rd t233 4)) ∧ w'.cell? ⟨ad238.block, ad238.off + 5, none⟩ = some (.int .i64 (rd t233 5)) ∧ w'.cell? ⟨ad238.block, ad238.off + 6, none⟩ = some (.int .i64 (rd t233 6)) ∧ w'.cell? ⟨ad238.block, ad238.off + 7, none⟩ = some (.int .i64 (rd t233 7)) ∧ w'.cell? ⟨ad238.block, ad238.off + 8, none⟩ = some (.int .i64 (rd t233 8)) ∧ w'.cell? ⟨ad238.block, ad238.off + 9, none⟩ = some (.int .i64 (rd t233 9))) (ds := []) (sqb 0 36) (by kernel_rfl) rfl rfl ⟨hx238_0, hx239_0, hx240_0, hx241_0, hx242_0, hx243_0, hx244_0, hx245_0, hx246_0, hx247_0⟩ (fun hHeld => ?_); refine with_tabW impl_ReadCred.tab4 impl_ReadCred.bits4 (fun HT_ HW_ => ?_)
               generalize wc.drew = w39 at HO_4 BK232 HB hx238_0 hx239_0 hx240_0 hx241_0 hx242_0 hx243_0 hx244_0 hx245_0 hx246_0 hx247_0 hHeld ⊢
               refine sqP (i := 0) (N := some 23) (sqb 1 35) rfl rfl (any_of HT_.out (by kernel_rfl)) ?_
               refine sqP (i := 1) (N := some 24) (sqb 2 34) rfl rfl (any_of HT_.out (by kernel_rfl)) ?_
               refine sqP (i := 3) (N := some 26) (sqr [2, 1, 1, 32]) rfl rfl (any_of HT_.out (by kernel_rfl)) ?_
               refine sqP (i := 4) (N := some 27) (sqr [2, 1, 2, 31]) rfl rfl (any_of HT_.out (by kernel_rfl)) ?_
               refine sqP (i := 6) (N := some 29) (sqr [2, 1, 2, 1, 1, 29]) rfl rfl (any_of HT_.out (by kernel_rfl)) ?_
               refine sqP (i := 7) (N := some 30) (sqr [2, 1, 2, 1, 2, 28]) rfl rfl (any_of HT_.out (by kernel_rfl)) ?_
               refine sqP (i := 10) (N := some 33) (sqr [2, 1, 2, 1, 2, 2, 1, 25]) rfl rfl (any_of HT_.out (by kernel_rfl)) ?_
               refine sqP (i := 11) (N := some 34) (sqr [2, 1, 2, 1, 2, 2, 2, 24]) rfl rfl (any_of HT_.out (by kernel_rfl)) ?_
               refine sqP (i := 13) (N := some 36) (sqr [2, 1, 2, 1, 2, 2, 2, 1, 1, 22]) rfl rfl (any_of HT_.out (by kernel_rfl)) ?_
               refine sqP (i := 14) (N := some 37) (sqr [2, 1, 2, 1, 2, 2, 2, 1, 2, 21]) rfl rfl (any_of HT_.out (by kernel_rfl)) ?_
               refine sqP (i := 16) (N := some 39) (sqr [2, 1, 2, 1, 2, 2, 2, 1, 2, 1, 1, 19]) rfl rfl (any_of HT_.out (by kernel_rfl)) ?_
               refine sqP (i := 17) (N := some 40) (sqr [2, 1, 2, 1, 2, 2, 2, 1, 2, 1, 2, 18]) rfl rfl (any_of HT_.out (by kernel_rfl)) ?_
               refine sqP (i := 20) (N := some 43) (sqr [2, 1, 2, 1, 2, 2, 2, 1, 2, 1, 2, 2, 1, 15]) rfl rfl (any_of HT_.out (by kernel_rfl)) ?_
               refine sqP (i := 21) (N := some 44) (sqr [2, 1, 2, 1, 2, 2, 2, 1, 2, 1, 2, 2, 2, 14]) rfl rfl (any_of HT_.out (by kernel_rfl)) ?_
               refine sqP (i := 23) (N := some 46) (sqr [2, 1, 2, 1, 2, 2, 2, 1, 2, 1, 2, 2, 2, 1, 1, 12]) rfl rfl (any_of HT_.out (by kernel_rfl)) ?_
               refine sqP (i := 24) (N := some 47) (sqr [2, 1, 2, 1, 2, 2, 2, 1, 2, 1, 2, 2, 2, 1, 2, 11]) rfl rfl (any_of HT_.out (by kernel_rfl)) ?_
               refine sqP (i := 27) (N := some 50) (sqr [2, 1, 2, 1, 2, 2, 2, 1, 2, 1, 2, 2, 2, 1, 2, 2, 1, 8]) rfl rfl (any_of HT_.out (by kernel_rfl)) ?_
               refine sqP (i := 28) (N := some 51) (sqr [2, 1, 2, 1, 2, 2, 2, 1, 2, 1, 2, 2, 2, 1, 2, 2, 2, 7]) rfl rfl (any_of HT_.out (by kernel_rfl)) ?_
               refine sqP (i := 30) (N := some 53) (sqr [2, 1, 2, 1, 2, 2, 2, 1, 2, 1, 2, 2, 2, 1, 2, 2, 2, 1, 1, 5]) rfl rfl (any_of HT_.out (by kernel_rfl)) ?_
               refine sqP (i := 31) (N := some 54) (sqr [2, 1, 2, 1, 2, 2, 2, 1, 2, 1, 2, 2, 2, 1, 2, 2, 2, 1, 2, 4]) rfl rfl (any_of HT_.out (by kernel_rfl)) ?_
               refine sqTk (i := 2) (N := some 25) (sqr [5, 1, 2, 2, 2, 1, 2, 1, 2, 2, 2, 1, 2, 2, 2, 1, 2, 4]) rfl rfl (take_ofW HT_.out HW_.out (by kernel_rfl)) hHeld ?_
               refine sqTk (i := 5) (N := some 28) (sqr [8, 2, 2, 1, 2, 1, 2, 2, 2, 1, 2, 2, 2, 1, 2, 4]) rfl rfl (take_ofW HT_.out HW_.out (by kernel_rfl)) hHeld ?_
               refine sqTk (i := 8) (N := some 31) (sqr [9, 1, 2, 1, 2, 1, 2, 2, 2, 1, 2, 2, 2, 1, 2, 4]) rfl rfl (take_ofW HT_.out HW_.out (by kernel_rfl)) hHeld ?_
               refine sqP (i := 9) (N := some 32) (sqr [12, 1, 2, 1, 2, 2, 2, 1, 2, 2, 2, 1, 2, 4]) rfl rfl (any_of HT_.out (by kernel_rfl)) ?_
               refine sqTk (i := 12) (N := some 35) (sqr [15, 1, 2, 2, 2, 1, 2, 2, 2, 1, 2, 4]) rfl rfl (take_ofW HT_.out HW_.out (by kernel_rfl)) hHeld ?_
               refine sqTk (i := 15) (N := some 38) (sqr [18, 2, 2, 1, 2, 2, 2, 1, 2, 4]) rfl rfl (take_ofW HT_.out HW_.out (by kernel_rfl)) hHeld ?_
               refine sqTk (i := 18) (N := some 41) (sqr [19, 1, 2, 1, 2, 2, 2, 1, 2, 4]) rfl rfl (take_ofW HT_.out HW_.out (by kernel_rfl)) hHeld ?_
               refine sqP (i := 19) (N := some 42) (sqr [22, 1, 2, 2, 2, 1, 2, 4]) rfl rfl (any_of HT_.out (by kernel_rfl)) ?_
               refine sqTk (i := 22) (N := some 45) (sqr [25, 2, 2, 1, 2, 4]) rfl rfl (take_ofW HT_.out HW_.out (by kernel_rfl)) hHeld ?_
               refine sqTk (i := 25) (N := some 48) (sqr [26, 1, 2, 1, 2, 4]) rfl rfl (take_ofW HT_.out HW_.out (by kernel_rfl)) hHeld ?_
               refine sqP (i := 26) (N := some 49) (sqr [29, 1, 2, 4]) rfl rfl (any_of HT_.out (by kernel_rfl)) ?_
               refine sqTk (i := 29) (N := some 52) (sqb 32 4) rfl rfl (take_ofW HT_.out HW_.out (by kernel_rfl)) hHeld ?_
               refine sqTk (i := 32) (N := some 55) (sqb 33 3) rfl rfl (take_ofW HT_.out HW_.out (by kernel_rfl)) hHeld ?_
               refine sqP (i := 33) (N := some 56) (sqb 34 2) rfl rfl (any_of HT_.out (by kernel_rfl)) ?_
               refine one_ (i := 34) (N := some 7) (sqb 35 1) rfl rfl (one_of HT_.out (by kernel_rfl)) (by decide) (fun K hK => ?_)
               refine box_step ?hg (N := 7) ?hd (cs := #[.int .i64 0, .int .i64 0, .int .i64 0, .int .i64 0, .int .i64 0, .int .i64 0, .int .i64 0, .int .i64 0, .int .i64 0, .int .i64 0]) (t := 27) ?hr ?_; (case hd => rfl); (case hg => rfl); (case hr => first | (go_simp; done) | (go_simp; rfl))
               intro gb248 hg w41 hbox hb
               have HS0_ := (hb.cell (World.block_lt_of_cell? _ _ (hHeld.1))).trans (hHeld.1)
               have HS1_ := (hb.cell (World.block_lt_of_cell? _ _ (hHeld.2.1))).trans (hHeld.2.1)
               have HS2_ := (hb.cell (World.block_lt_of_cell? _ _ (hHeld.2.2.1))).trans (hHeld.2.2.1)
               have HS3_ := (hb.cell (World.block_lt_of_cell? _ _ (hHeld.2.2.2.1))).trans (hHeld.2.2.2.1)
               have HS4_ := (hb.cell (World.block_lt_of_cell? _ _ (hHeld.2.2.2.2.1))).trans (hHeld.2.2.2.2.1)
               have HS5_ := (hb.cell (World.block_lt_of_cell? _ _ (hHeld.2.2.2.2.2.1))).trans (hHeld.2.2.2.2.2.1)
               have HS6_ := (hb.cell (World.block_lt_of_cell? _ _ (hHeld.2.2.2.2.2.2.1))).trans (hHeld.2.2.2.2.2.2.1)
               have HS7_ := (hb.cell (World.block_lt_of_cell? _ _ (hHeld.2.2.2.2.2.2.2.1))).trans (hHeld.2.2.2.2.2.2.2.1)
               have HS8_ := (hb.cell (World.block_lt_of_cell? _ _ (hHeld.2.2.2.2.2.2.2.2.1))).trans (hHeld.2.2.2.2.2.2.2.2.1)
               have HS9_ := (hb.cell (World.block_lt_of_cell? _ _ (hHeld.2.2.2.2.2.2.2.2.2))).trans (hHeld.2.2.2.2.2.2.2.2.2)
               replace HO_4 := Aside0.mk (Kd.R_below (sqR HO_4) hb); have BK248 := Aside0.mk (hbox); have GW248 := sqG hg; have GE248 := sqG hg; have NB232_248 := sqN BK232 hg; have NB248_232 := sqM BK232 hg; replace BK232 := sqL BK232 hb; replace HB := sqS hb
               clear hb hbox hg
               refine hK.out _ _ ⟨HS0_, HS1_, HS2_, HS3_, HS4_, HS5_, HS6_, HS7_, HS8_, HS9_⟩ (fun hHeld => ?_)
               clear hK K
               refine sqV (N := some 7) ?_
               refine one_ (i := 35) (N := none) (sqb 36 0) rfl rfl (one_of HT_.out (by kernel_rfl)) (by decide) (fun K hK => ?_)
               have hs42 : w41.cell? ⟨gb248, 0, none⟩ = some (.int .i64 0) := (blk_cell BK248.out 0).trans rfl
               have hfs42 := blk_frozen BK248.out 0
               have hns42_0 := NB232_248.out
               have hms42_0 := NB248_232.out
               have hs43 : w41.cell? ⟨gb248, 1, none⟩ = some (.int .i64 0) := (blk_cell BK248.out 1).trans rfl
               have hfs43 := blk_frozen BK248.out 1
               have hns43_0 := NB232_248.out
               have hms43_0 := NB248_232.out
               have hs44 : w41.cell? ⟨gb248, 2, none⟩ = some (.int .i64 0) := (blk_cell BK248.out 2).trans rfl
               have hfs44 := blk_frozen BK248.out 2
               have hns44_0 := NB232_248.out
               have hms44_0 := NB248_232.out
               have hs45 : w41.cell? ⟨gb248, 3, none⟩ = some (.int .i64 0) := (blk_cell BK248.out 3).trans rfl
               have hfs45 := blk_frozen BK248.out 3
               have hns45_0 := NB232_248.out
               have hms45_0 := NB248_232.out
               have hs46 : w41.cell? ⟨gb248, 4, none⟩ = some (.int .i64 0) := (blk_cell BK248.out 4).trans rfl
               have hfs46 := blk_frozen BK248.out 4
               have hns46_0 := NB232_248.out
               have hms46_0 := NB248_232.out
               have hs47 : w41.cell? ⟨gb248, 5, none⟩ = some (.int .i64 0) := (blk_cell BK248.out 5).trans rfl
               have hfs47 := blk_frozen BK248.out 5
               have hns47_0 := NB232_248.out
               have hms47_0 := NB248_232.out
               have hs48 : w41.cell? ⟨gb248, 6, none⟩ = some (.int .i64 0) := (blk_cell BK248.out 6).trans rfl
               have hfs48 := blk_frozen BK248.out 6
               have hns48_0 := NB232_248.out
               have hms48_0 := NB248_232.out
               have hs49 : w41.cell? ⟨gb248, 7, none⟩ = some (.int .i64 0) := (blk_cell BK248.out 7).trans rfl
               have hfs49 := blk_frozen BK248.out 7
               have hns49_0 := NB232_248.out
               have hms49_0 := NB248_232.out
               have hs50 : w41.cell? ⟨gb248, 8, none⟩ = some (.int .i64 0) := (blk_cell BK248.out 8).trans rfl
               have hfs50 := blk_frozen BK248.out 8
               have hns50_0 := NB232_248.out
               have hms50_0 := NB248_232.out
               have hs51 : w41.cell? ⟨gb248, 9, none⟩ = some (.int .i64 0) := (blk_cell BK248.out 9).trans rfl
               have hfs51 := blk_frozen BK248.out 9
               have hns51_0 := NB232_248.out
               have hms51_0 := NB248_232.out
               refine skip_ (w1 := ?_) (by rfl) rfl ?_ ?_
               rotate_left
               ·go_simp
                rfl
               have zb_ := Aside0.mk (Kd.own_blk (Kd.R_ne HO_4.out BK248.out (by decide)))
               refine hK.out _ _ ⟨(sqJz10 hHeld.1), (sqJz10 hHeld.2.1), (sqJz10 hHeld.2.2.1), (sqJz10 hHeld.2.2.2.1), (sqJz10 hHeld.2.2.2.2.1), (sqJz10 hHeld.2.2.2.2.2.1), (sqJz10 hHeld.2.2.2.2.2.2.1), (sqJz10 hHeld.2.2.2.2.2.2.2.1), (sqJz10 hHeld.2.2.2.2.2.2.2.2.1), (sqJz10 hHeld.2.2.2.2.2.2.2.2.2)⟩ (fun hHeld => ?_)
               clear hK K
               refine done_ (done_of HT_.out (by kernel_rfl)) ?_
               have hnb52 := NB248_232.out
               have hnc52 := NB232_248.out
               obtain ⟨hcz53_0, hcz53_1, hcz53_2, hcz53_3, hcz53_4, hcz53_5, hcz53_6, hcz53_7, hcz53_8, hcz53_9, hfz53_0, hfz53_1, hfz53_2, hfz53_3, hfz53_4, hfz53_5, hfz53_6, hfz53_7, hfz53_8, hfz53_9⟩ := sqC10 BK248
               try go_wp2_with (first | ((with_reducible refine gate_callee (f := 14) rfl ?_); refine goesL_ (some 58) rfl rfl Try.func14 (by kernel_rfl) rfl #[.agg #[.int .i64 (rd t233 0), .int .i64 (rd t233 1), .int .i64 (rd t233 2), .int .i64 (rd t233 3), .int .i64 (rd t233 4), .int .i64 (rd t233 5), .int .i64 (rd t233 6), .int .i64 (rd t233 7), .int .i64 (rd t233 8), .int .i64 (rd t233 9)]] rfl sqA ?_; (with_reducible refine (impl_CredOk.calls kj2 (rd t233 0) (rd t233 1) (rd t233 2) (rd t233 3) (rd t233 4) (rd t233 5) (rd t233 6) (rd t233 7) (rd t233 8) (rd t233 9) false _ A19.out).mono ?_); rintro e w54 ⟨rfl, hb⟩; refine ⟨_, rfl, ?_⟩; replace HO_4 := Aside0.mk (Kd.R_below (by (with_reducible repeat (first | apply Kd.R_alloc | apply Kd.R_drewN | apply Kd.R_drew)); exact (Kd.R_mono (Kd.R_far (p := ⟨gb248, 9, none⟩) (Kd.R_far (p := ⟨gb248, 8, none⟩) (Kd.R_far (p := ⟨gb248, 7, none⟩) (Kd.R_far (p := ⟨gb248, 6, none⟩) (Kd.R_far (p := ⟨gb248, 5, none⟩) (Kd.R_far (p := ⟨gb248, 4, none⟩) (Kd.R_far (p := ⟨gb248, 3, none⟩) (Kd.R_far (p := ⟨gb248, 2, none⟩) (Kd.R_far (p := ⟨gb248, 1, none⟩) (Kd.R_far (p := ⟨gb248, 0, none⟩) (Kd.R_types HO_4.out BK248.out (by decide)) (fun _ hk => hk.2) (.int .i64 (rd t233 0))) (fun _ hk => hk.2) (.int .i64 (rd t233 1))) (fun _ hk => hk.2) (.int .i64 (rd t233 2))) (fun _ hk => hk.2) (.int .i64 (rd t233 3))) (fun _ hk => hk.2) (.int .i64 (rd t233 4))) (fun _ hk => hk.2) (.int .i64 (rd t233 5))) (fun _ hk => hk.2) (.int .i64 (rd t233 6))) (fun _ hk => hk.2) (.int .i64 (rd t233 7))) (fun _ hk => hk.2) (.int .i64 (rd t233 8))) (fun _ hk => hk.2) (.int .i64 (rd t233 9))) (fun _ h_ => h_.1))) hb); replace BK232 := sqLW (o' := .cells #[.int .i64 0, .int .i64 0, .int .i64 0, .int .i64 0, .int .i64 0, .int .i64 0, .int .i64 0, .int .i64 0, .int .i64 0, .int .i64 0] 27 (0, 0)) BK232 hb; replace BK248 := sqLW (o' := .cells #[.int .i64 (rd t233 0), .int .i64 (rd t233 1), .int .i64 (rd t233 2), .int .i64 (rd t233 3), .int .i64 (rd t233 4), .int .i64 (rd t233 5), .int .i64 (rd t233 6), .int .i64 (rd t233 7), .int .i64 (rd t233 8), .int .i64 (rd t233 9)] 27 (0, 0)) BK248 hb; replace HB := sqS hb; (try clear hb); (try clear hb2); (try clear hk); (try clear hi); obtain ⟨hcz55_0, hcz55_1, hcz55_2, hcz55_3, hcz55_4, hcz55_5, hcz55_6, hcz55_7, hcz55_8, hcz55_9, hfz55_0, hfz55_1, hfz55_2, hfz55_3, hfz55_4, hfz55_5, hfz55_6, hfz55_7, hfz55_8, hfz55_9⟩ := sqC10 BK232))
               refine bodyPost_ret (results_ct rfl _ _ gb232 27 #[.int .i64 0, .int .i64 0, .int .i64 0, .int .i64 0, .int .i64 0, .int .i64 0, .int .i64 0, .int .i64 0, .int .i64 0, .int .i64 0] (0, 0) _ rfl (sqW BK232) Try.underlying27 rfl (by kernel_rfl)) rfl ?_
               exact ⟨sqE, sqB⟩
             ·rw [if_neg c18] at H
              exact absurd H (by simp)
            ·rw [if_neg c17] at H
             exact absurd H (by simp)
           ·rw [if_neg c16] at H
            exact absurd H (by simp)
          ·rw [if_neg c15] at H
           exact absurd H (by simp)
         ·rw [if_neg c14] at H
          exact absurd H (by simp)
        ·rw [if_neg c13] at H
         exact absurd H (by simp)
       ·rw [if_neg c12] at H
        exact absurd H (by simp)
      ·rw [if_neg c11] at H
       exact absurd H (by simp)
     ·rw [if_neg c10] at H
      exact absurd H (by simp)
    ·rw [if_neg c9] at H
     exact absurd H (by simp)

end Go.Proofs.Ythodhbgocnbddaa.PFnWords
