/- What the code that one law of the given program reaches computes, function by function, each with its proof over the given translation.
Conditions: none of our own. (Laid by a program of this session, wip/xp/xp.py; some contracts are typed by hand.) -/
import Derived.Test.YthodhbgocnbddaaPFnWordsx0
import Derived.Test.YthodhbgocnbddaaPFnWordsx7
import Derived.Test.YthodhbgocnbddaaPFnWordsx8
import Derived.Test.YthodhbgocnbddaaPFnWordsx10
namespace Go.Proofs.Ythodhbgocnbddaa.PFnWords
open Go.RowKit Go.Proofs.YthodhbgocnbddaaW.PrintWords Go.Proofs.YthodhbgocnbddaaW.PrintLast Go.Proofs.YthodhbgocnbddaaW.PrintMore
attribute [local go_sem] max2_int min2_int max_two min_two max_three min_three max_four min_four   -- for this text's walks alone
set_option linter.unusedVariables false
set_option linter.unusedSimpArgs false

/-! ### spec_ReadCred: function 9 -/
def spec_ReadCred.l0 : Nat → ByteArray → List Int → Int → Int → Option (Int × Int × Int × Int × Int × Int × Int × Int × Int × Int × Bool)
 | 0, _, _, _, _ => none
 | k + 1, x0, x4, x5, x6 => if x6 < 10 then ((spec_ReadVar.f k x0 x5).bind fun bt365 => (if bt365.2.2 = true then (if x4.length < 17592186044416 then (spec_ReadCred.l0 k x0 (x4 ++ [bt365.1]) bt365.2.1 (wrap64 (x6 + 1))) else (none)) else (some (0, 0, 0, 0, 0, 0, 0, 0, 0, 0, false)))) else (if 0 < (x4.length : Int) then (if 1 < (x4.length : Int) then (if 2 < (x4.length : Int) then (if 3 < (x4.length : Int) then (if 4 < (x4.length : Int) then (if 5 < (x4.length : Int) then (if 6 < (x4.length : Int) then (if 7 < (x4.length : Int) then (if 8 < (x4.length : Int) then (if 9 < (x4.length : Int) then ((spec_CredOk.f k (rd x4 0) (rd x4 1) (rd x4 2) (rd x4 3) (rd x4 4) (rd x4 5) (rd x4 6) (rd x4 7) (rd x4 8) (rd x4 9)).bind fun t382 => (if t382 = true then ((spec_CredText.f k (rd x4 0) (rd x4 1) (rd x4 2) (rd x4 3) (rd x4 4) (rd x4 5) (rd x4 6) (rd x4 7) (rd x4 8) (rd x4 9)).bind fun t383 => (if t383.toList = x0.toList then (some (rd x4 0, rd x4 1, rd x4 2, rd x4 3, rd x4 4, rd x4 5, rd x4 6, rd x4 7, rd x4 8, rd x4 9, true)) else (some (0, 0, 0, 0, 0, 0, 0, 0, 0, 0, false)))) else (some (0, 0, 0, 0, 0, 0, 0, 0, 0, 0, false)))) else (none)) else (none)) else (none)) else (none)) else (none)) else (none)) else (none)) else (none)) else (none)) else (none))
def spec_ReadCred.f (k : Nat) (a0 : ByteArray) : Option (Int × Int × Int × Int × Int × Int × Int × Int × Int × Int × Bool) := spec_ReadCred.l0 k a0 (([] : List Int)) 0 0
theorem spec_ReadCred.mono_l : ∀ k, (∀ y0 y1 y2 y3, LeO (spec_ReadCred.l0 k y0 y1 y2 y3) (spec_ReadCred.l0 (k + 1) y0 y1 y2 y3))
 | 0 => fun _ _ _ _ r h => by simp [spec_ReadCred.l0] at h
 | k + 1 => by
  have ih0 := spec_ReadCred.mono_l k
  ·intro y0 y1 y2 y3
   unfold spec_ReadCred.l0
   repeat' first
   | (with_reducible exact ih0 _ _ _ _)
   | (with_reducible exact spec_CredOk.mono _ _ _ _ _ _ _ _ _ _ _)
   | (with_reducible exact spec_CredText.mono _ _ _ _ _ _ _ _ _ _ _)
   | (with_reducible exact spec_ReadVar.mono _ _ _)
   | (with_reducible exact LeO.refl _)
   | (with_reducible exact LeO.none _)
   | (with_reducible refine LeO.ite ?_ ?_)
   | (with_reducible refine LeO.bind ?_ (fun _ => ?_))
   | exact ih0 _ _ _ _
   | exact spec_CredOk.mono _ _ _ _ _ _ _ _ _ _ _
   | exact spec_CredText.mono _ _ _ _ _ _ _ _ _ _ _
   | exact spec_ReadVar.mono _ _ _
   | exact LeO.none _
   | refine LeO.ite ?_ ?_
   | refine LeO.bind ?_ (fun _ => ?_)
theorem spec_ReadCred.mono : ∀ a0 k, LeO (spec_ReadCred.f k a0) (spec_ReadCred.f (k + 1) a0) := by
 intro a0 k
 have ih0 := spec_ReadCred.mono_l k
 unfold spec_ReadCred.f
 repeat' first
   | (with_reducible exact ih0 _ _ _ _)
   | (with_reducible exact spec_CredOk.mono _ _ _ _ _ _ _ _ _ _ _)
   | (with_reducible exact spec_CredText.mono _ _ _ _ _ _ _ _ _ _ _)
   | (with_reducible exact spec_ReadVar.mono _ _ _)
   | (with_reducible exact LeO.refl _)
   | (with_reducible exact LeO.none _)
   | (with_reducible refine LeO.ite ?_ ?_)
   | (with_reducible refine LeO.bind ?_ (fun _ => ?_))
   | exact ih0 _ _ _ _
   | exact spec_CredOk.mono _ _ _ _ _ _ _ _ _ _ _
   | exact spec_CredText.mono _ _ _ _ _ _ _ _ _ _ _
   | exact spec_ReadVar.mono _ _ _
   | exact LeO.none _
   | refine LeO.ite ?_ ?_
   | refine LeO.bind ?_ (fun _ => ?_)
def spec_ReadCred.T11 : Bool × List (List Nat × List Nat) := (true, [([], []), ([0], [0]), ([1], [1]), ([], []), ([3], [3]), ([4], [4]), ([], []), ([6], [6]), ([7], [7]), ([5, 8], [5, 8]), ([], []), ([10], [10]), ([11], [11]), ([], []), ([13], [13]), ([14], [14]), ([], []), ([16], [16]), ([17], [17]), ([15, 18], [15, 18]), ([], []), ([20], [20]), ([21], [21]), ([], []), ([23], [23]), ([24], [24]), ([22, 25], [22, 25]), ([], []), ([27], [27]), ([28], [28]), ([], []), ([30], [30]), ([31], [31]), ([2, 9, 12, 19, 26, 29, 32], [2, 9, 12, 19, 26, 29, 32]), ([], []), ([34, 33, 0, 1, 2, 3, 4, 5, 6, 7, 8, 9, 10, 11, 12, 13, 14, 15, 16, 17, 18, 19, 20, 21, 22, 23, 24, 25, 26, 27, 28, 29, 30, 31, 32, 33, 34], [33, 34])])
def spec_ReadCred.B11 : List Nat := [0, 1, 3, 0, 8, 24, 0, 64, 192, 504, 0, 1024, 3072, 0, 8192, 24576, 0, 65536, 196608, 516096, 0, 1048576, 3145728, 0, 8388608, 25165824, 66060288, 0, 134217728, 402653184, 0, 1073741824, 3221225472, 8589934591, 0, 34359738367]
theorem spec_ReadCred.tab11 : rtab .any (opsOf Try.f9 11) = spec_ReadCred.T11 := by kernel_rfl
theorem spec_ReadCred.bits11 : waitsOk spec_ReadCred.T11.2 spec_ReadCred.B11 = true := by kernel_rfl
set_option maxHeartbeats 8000000 in
set_option maxRecDepth 100000 in
theorem spec_ReadCred.calls (k : Nat) (a0 : ByteArray) (r1 : Int) (r2 : Int) (r3 : Int) (r4 : Int) (r5 : Int) (r6 : Int) (r7 : Int) (r8 : Int) (r9 : Int) (r10 : Int) (r11 : Bool) (w : World) (h : spec_ReadCred.f k a0 = some (r1, r2, r3, r4, r5, r6, r7, r8, r9, r10, r11)) :
  Calls Try.prog 9 #[.string a0] w fun e w' => e = .returned (.tuple #[.agg #[.int .i64 r1, .int .i64 r2, .int .i64 r3, .int .i64 r4, .int .i64 r5, .int .i64 r6, .int .i64 r7, .int .i64 r8, .int .i64 r9, .int .i64 r10], .bool r11]) ∧ Below w.heap.size w w' := by
 have hu27 := Try.underlying27
 have hu25 := Try.underlying25
 have HB := Aside0.mk (Below.refl w.heap.size w)
 have H : (spec_ReadCred.l0 k a0 (([] : List Int)) 0 0) = some (r1, r2, r3, r4, r5, r6, r7, r8, r9, r10, r11) := h
 clear h
 obtain ⟨y362, hy362⟩ : ∃ y_ : List Int, y_ = (([] : List Int)) := ⟨_, rfl⟩
 replace H : (spec_ReadCred.l0 k a0 y362 0 0) = some (r1, r2, r3, r4, r5, r6, r7, r8, r9, r10, r11) := by first | (rw [hy362]; with_reducible exact H) | (have H2_ := (Option.bind_some _ _).symm.trans H; rw [hy362]; with_reducible exact H2_) | (have H2_ := (Option.bind_some _ _).symm.trans H; with_reducible exact H2_) | with_reducible exact H | (rw [hy362]; exact H) | exact H
 have Ny362 := Aside0.mk hy362
 clear hy362
 have H' := Aside0.mk H
 clear H
 go_enter Try.func9, Try.ntmps9
 go_wp2_with (first | ((with_reducible refine gate_dst (N := 2) rfl ?_); refine sqX (N := 2) (cs := #[.int .i64 0, .int .i64 0, .int .i64 0, .int .i64 0, .int .i64 0, .int .i64 0, .int .i64 0, .int .i64 0, .int .i64 0, .int .i64 0]) (t := 27) ?_; intro gb361 hg w2 hbox hb; have BK361 := Aside0.mk (hbox); have GW361 := sqG hg; have GE361 := sqG hg; replace HB := sqS hb; clear hb hbox hg) | ((with_reducible refine gate_dst (N := 11) rfl ?_); refine Kd.R_lit (Kd.int .i64) _ 3 ?hg (N := 11) ?hd (xs := ([] : List Int)) (inner := []) (ok := fun _ => True) (okp := fun _ => True) ?hr ?hp (fun _ hk => hk) trivial (Below.refl _ _) (Nat.le_refl _) (by simp) ?_; (case hd => rfl); (case hg => rfl); (case hr => first | (go_simp; done) | (go_simp; rfl)); (case hp => exact (Reps.none _ _)); intro v363 w3 ho4 hb hg_ hnew_; clear hg_ hnew_; (first | rw [← Ny362.out] at ho4 | (simp only [Int.reduceToNat] at ho4; rw [← Ny362.out] at ho4)); have HO364 := Aside0.mk (Kd.R_lower ho4 (below_size (sqB))); replace BK361 := sqL BK361 hb; replace HB := sqS hb; clear hb ho4))
 go_loopg [4, 5, 6] k (fun kq v4 v5 v6 w' => ∃ (x4_1 : List Int) (x5_1 : Int) (x6_1 : Int) (x362000_1 : Int) (x362001_1 : Int) (x362002_1 : Int) (x362003_1 : Int) (x362004_1 : Int) (x362005_1 : Int) (x362006_1 : Int) (x362007_1 : Int) (x362008_1 : Int) (x362009_1 : Int), v5 = .int .i64 x5_1 ∧ v6 = .int .i64 x6_1 ∧ Aside0 (spec_ReadCred.l0 kq a0 x4_1 x5_1 x6_1 = some (r1, r2, r3, r4, r5, r6, r7, r8, r9, r10, r11)) ∧ Aside0 (kq ≤ k) ∧ Aside0 (Kd.R (Kd.int .i64) 3 w' w.heap.size (fun _ => True) v4 x4_1) ∧ Aside0 (w'.heap[gb361]? = some (.cells #[.int .i64 x362000_1, .int .i64 x362001_1, .int .i64 x362002_1, .int .i64 x362003_1, .int .i64 x362004_1, .int .i64 x362005_1, .int .i64 x362006_1, .int .i64 x362007_1, .int .i64 x362008_1, .int .i64 x362009_1] 27 (0, 0))) ∧ Aside0 (Below w.heap.size w w'))
 case atStart => exact ⟨(y362), (0), (0), (0), (0), (0), (0), (0), (0), (0), (0), (0), (0), (by first | rfl | (simp; done) | (simp [*]; done)), (by first | rfl | (simp; done) | (simp [*]; done)), H', ⟨Nat.le_refl _⟩, ⟨sqR HO364⟩, ⟨sqK BK361⟩, ⟨sqB⟩⟩
 case round =>
  clear H'
  try clear p2
  obtain ⟨x4_1, x5_1, x6_1, x362000_1, x362001_1, x362002_1, x362003_1, x362004_1, x362005_1, x362006_1, x362007_1, x362008_1, x362009_1, rfl, rfl, HA, HK1, HO_4, BK361, HB⟩ := hrel
  cases gk with
  | zero => exact absurd HA.out (by simp [spec_ReadCred.l0])
  | succ k1 =>
   have H := HA.out
   clear HA
   simp only [spec_ReadCred.l0] at H
   by_cases c5 : x6_1 < 10
   ·rw [if_pos c5] at H
    have c5b0 : decide (x6_1 < 10) = true := decide_eq_true c5
    clear c5
    replace H := Option.bind_eq_some_iff.mp H
    obtain ⟨⟨t365, t366, t367⟩, A60, H⟩ := H
    try dsimp only at H
    have A6 := Aside0.mk A60
    clear A60
    by_cases c7 : t367 = true
    ·subst c7
     have H1 : (if x4_1.length < 17592186044416 then (spec_ReadCred.l0 k1 a0 (x4_1 ++ [t365]) t366 (wrap64 (x6_1 + 1))) else (none)) = some (r1, r2, r3, r4, r5, r6, r7, r8, r9, r10, r11) := by rw [if_pos rfl] at H; exact H
     clear H
     have H := H1
     clear H1
     by_cases c8 : x4_1.length < 17592186044416
     ·rw [if_pos c8] at H
      have LMc8 := Aside0.mk c8
      clear c8
      obtain ⟨y368, hy368⟩ : ∃ y_ : List Int, y_ = (x4_1 ++ [t365]) := ⟨_, rfl⟩
      replace H : (spec_ReadCred.l0 k1 a0 y368 t366 (wrap64 (x6_1 + 1))) = some (r1, r2, r3, r4, r5, r6, r7, r8, r9, r10, r11) := by first | (rw [hy368]; with_reducible exact H) | (have H2_ := (Option.bind_some _ _).symm.trans H; rw [hy368]; with_reducible exact H2_) | (have H2_ := (Option.bind_some _ _).symm.trans H; with_reducible exact H2_) | with_reducible exact H | (rw [hy368]; exact H) | exact H
      have Ny368 := Aside0.mk hy368
      clear hy368
      have H' := Aside0.mk H
      clear H
      go_wp2_with (first | ((with_reducible refine gate_callee (f := 29) rfl ?_); refine goesL_ (some 19) rfl rfl Try.func29 (by kernel_rfl) rfl #[.string a0, .int .i64 x5_1] rfl sqA ?_; (with_reducible refine (spec_ReadVar.calls k1 a0 x5_1 t365 t366 true _ A6.out).mono ?_); rintro e w9 ⟨rfl, hb⟩; refine ⟨_, rfl, ?_⟩; replace HO_4 := Aside0.mk (Kd.R_below (sqR HO_4) hb); replace BK361 := sqL BK361 hb; replace HB := sqS hb; (try clear hb); (try clear hb2); (try clear hk); (try clear hi)) | ((with_reducible refine gate_builtin (b := .append) (xs := #[.tmp 26, .tmp 28]) rfl ?_); at_builtin; refine Kd.R_append (Kd.int .i64) (w0 := w) w.heap.size rfl (.tmp 26) (.tmp 28) 43 3 (.int .i64 0) 8 rfl Try.underlying43 info3 rfl (by decide) (by omega) u4 x4_1 t365 [.int .i64 t365] (fun _ => True) (fun _ => False) rfl rfl ?aP (fun _ hk => hk.elim) ?aF ?aO ?aB ?aS ?aL ?_; (case aP => exact rfl); (case aB => exact (sqB)); (case aF => exact (fun _ _ => trivial)); (case aO => exact (sqR HO_4)); (case aS => exact (below_size (sqB))); (case aL => have := LMc8.out; omega); intro v369 w10 ho hb hg hat; rw [← Ny368.out] at ho; have n0_ := Aside0.mk (blk_grown (g := gb361) (o := .cells #[.int .i64 x362000_1, .int .i64 x362001_1, .int .i64 x362002_1, .int .i64 x362003_1, .int .i64 x362004_1, .int .i64 x362005_1, .int .i64 x362006_1, .int .i64 x362007_1, .int .i64 x362008_1, .int .i64 x362009_1] 27 (0, 0)) (sqK BK361) hg (Kd.R_ne HO_4.out BK361.out (by decide))); have n1_ := Aside0.mk (hb); have n2_ := Aside0.mk (ho); clear BK361; clear HB; clear HO_4; have BK361 := n0_; have HB := n1_; have HO370 := n2_; clear n0_ n1_ n2_; clear ho hb hg hat))
      go_roundg k1
      case measure => have := HK1.out; omega
      case rel => exact ⟨(y368), (t366), (wrap64 (x6_1 + 1)), (x362000_1), (x362001_1), (x362002_1), (x362003_1), (x362004_1), (x362005_1), (x362006_1), (x362007_1), (x362008_1), (x362009_1), (by first | rfl | (simp; done) | (simp [*]; done)), (by first | rfl | (simp; done) | (simp [*]; done)), H', ⟨by have := HK1.out; omega⟩, ⟨sqR HO370⟩, ⟨sqK BK361⟩, ⟨sqB⟩⟩
     ·rw [if_neg c8] at H
      exact absurd H (by simp)
    ·replace c7 := Bool.eq_false_iff.mpr c7
     subst c7
     have H1 : (some (0, 0, 0, 0, 0, 0, 0, 0, 0, 0, false)) = some (r1, r2, r3, r4, r5, r6, r7, r8, r9, r10, r11) := by rw [if_neg (show ¬ (false = true) by decide)] at H; exact H
     clear H
     have H := H1
     clear H1
     simp only [Option.some.injEq, Prod.mk.injEq] at H
     obtain ⟨rfl, rfl, rfl, rfl, rfl, rfl, rfl, rfl, rfl, rfl, rfl⟩ := H
     go_wp2_with (first | ((with_reducible refine gate_callee (f := 29) rfl ?_); refine goesL_ (some 19) rfl rfl Try.func29 (by kernel_rfl) rfl #[.string a0, .int .i64 x5_1] rfl sqA ?_; (with_reducible refine (spec_ReadVar.calls k1 a0 x5_1 t365 t366 false _ A6.out).mono ?_); rintro e w11 ⟨rfl, hb⟩; refine ⟨_, rfl, ?_⟩; replace HO_4 := Aside0.mk (Kd.R_below (sqR HO_4) hb); replace BK361 := sqL BK361 hb; replace HB := sqS hb; (try clear hb); (try clear hb2); (try clear hk); (try clear hi); obtain ⟨hcz12_0, hcz12_1, hcz12_2, hcz12_3, hcz12_4, hcz12_5, hcz12_6, hcz12_7, hcz12_8, hcz12_9, hfz12_0, hfz12_1, hfz12_2, hfz12_3, hfz12_4, hfz12_5, hfz12_6, hfz12_7, hfz12_8, hfz12_9⟩ := sqC10 BK361))
     refine bodyPost_ret (results_ct rfl _ _ gb361 27 #[.int .i64 0, .int .i64 0, .int .i64 0, .int .i64 0, .int .i64 0, .int .i64 0, .int .i64 0, .int .i64 0, .int .i64 0, .int .i64 0] (0, 0) _ rfl (sqW BK361) Try.underlying27 rfl (by kernel_rfl)) rfl ?_
     exact ⟨sqE, sqB⟩
   ·rw [if_neg c5] at H
    have c5b0 : decide (x6_1 < 10) = false := decide_eq_false c5
    clear c5
    by_cases c13 : 0 < (x4_1.length : Int)
    ·rw [if_pos c13] at H
     have c13b0 : decide (0 < (x4_1.length : Int)) = true := decide_eq_true c13
     have c13b1 : decide (0 < x4_1.length) = true := decide_eq_true (by omega)
     clear c13
     by_cases c14 : 1 < (x4_1.length : Int)
     ·rw [if_pos c14] at H
      have c14b0 : decide (1 < (x4_1.length : Int)) = true := decide_eq_true c14
      have c14b1 : decide (1 < x4_1.length) = true := decide_eq_true (by omega)
      clear c14
      by_cases c15 : 2 < (x4_1.length : Int)
      ·rw [if_pos c15] at H
       have c15b0 : decide (2 < (x4_1.length : Int)) = true := decide_eq_true c15
       have c15b1 : decide (2 < x4_1.length) = true := decide_eq_true (by omega)
       clear c15
       by_cases c16 : 3 < (x4_1.length : Int)
       ·rw [if_pos c16] at H
        have c16b0 : decide (3 < (x4_1.length : Int)) = true := decide_eq_true c16
        have c16b1 : decide (3 < x4_1.length) = true := decide_eq_true (by omega)
        clear c16
        by_cases c17 : 4 < (x4_1.length : Int)
        ·rw [if_pos c17] at H
         have c17b0 : decide (4 < (x4_1.length : Int)) = true := decide_eq_true c17
         have c17b1 : decide (4 < x4_1.length) = true := decide_eq_true (by omega)
         clear c17
         by_cases c18 : 5 < (x4_1.length : Int)
         ·rw [if_pos c18] at H
          have c18b0 : decide (5 < (x4_1.length : Int)) = true := decide_eq_true c18
          have c18b1 : decide (5 < x4_1.length) = true := decide_eq_true (by omega)
          clear c18
          by_cases c19 : 6 < (x4_1.length : Int)
          ·rw [if_pos c19] at H
           have c19b0 : decide (6 < (x4_1.length : Int)) = true := decide_eq_true c19
           have c19b1 : decide (6 < x4_1.length) = true := decide_eq_true (by omega)
           clear c19
           by_cases c20 : 7 < (x4_1.length : Int)
           ·rw [if_pos c20] at H
            have c20b0 : decide (7 < (x4_1.length : Int)) = true := decide_eq_true c20
            have c20b1 : decide (7 < x4_1.length) = true := decide_eq_true (by omega)
            clear c20
            by_cases c21 : 8 < (x4_1.length : Int)
            ·rw [if_pos c21] at H
             have c21b0 : decide (8 < (x4_1.length : Int)) = true := decide_eq_true c21
             have c21b1 : decide (8 < x4_1.length) = true := decide_eq_true (by omega)
             clear c21
             by_cases c22 : 9 < (x4_1.length : Int)
             ·rw [if_pos c22] at H
              have c22b0 : decide (9 < (x4_1.length : Int)) = true := decide_eq_true c22
              have c22b1 : decide (9 < x4_1.length) = true := decide_eq_true (by omega)
              clear c22
              replace H := Option.bind_eq_some_iff.mp H
              obtain ⟨t382, A230, H⟩ := H
              try dsimp only at H
              have A23 := Aside0.mk A230
              clear A230
              by_cases c24 : t382 = true
              ·subst c24
               have H1 : ((spec_CredText.f k1 (rd x4_1 0) (rd x4_1 1) (rd x4_1 2) (rd x4_1 3) (rd x4_1 4) (rd x4_1 5) (rd x4_1 6) (rd x4_1 7) (rd x4_1 8) (rd x4_1 9)).bind fun t383 => (if t383.toList = a0.toList then (some (rd x4_1 0, rd x4_1 1, rd x4_1 2, rd x4_1 3, rd x4_1 4, rd x4_1 5, rd x4_1 6, rd x4_1 7, rd x4_1 8, rd x4_1 9, true)) else (some (0, 0, 0, 0, 0, 0, 0, 0, 0, 0, false)))) = some (r1, r2, r3, r4, r5, r6, r7, r8, r9, r10, r11) := by rw [if_pos rfl] at H; exact H
               clear H
               have H := H1
               clear H1
               replace H := Option.bind_eq_some_iff.mp H
               obtain ⟨t383, A250, H⟩ := H
               try dsimp only at H
               have A25 := Aside0.mk A250
               clear A250
               by_cases c26 : t383.toList = a0.toList
               ·rw [if_pos c26] at H
                have c26b0 : (t383.toList == a0.toList) = true := beq_iff_eq.mpr c26
                have c26b1 : (t383.toList != a0.toList) = false := bne_eq_false_iff_eq.mpr c26
                clear c26
                simp only [Option.some.injEq, Prod.mk.injEq] at H
                obtain ⟨rfl, rfl, rfl, rfl, rfl, rfl, rfl, rfl, rfl, rfl, rfl⟩ := H
                try go_wp2
                replace HO_4 := Aside0.mk (Kd.R_drew HO_4.out); replace BK361 := Aside0.mk (blk_drew BK361.out); replace HB := Aside0.mk (below_drew1 HB.out)
                obtain ⟨Ao28, co28, eo28⟩ := Kd.R_slice HO_4.out
                (first | subst eo28 | (injection eo28 with f1_ f2_ f3_; have f4_ := f1_.symm; have f5_ := f3_.symm; clear f1_ f2_ f3_; subst f4_; subst f5_))
                have p371 : 0 ≤ (0 : Int) := (by omega)
                have q371 : 0 < (x4_1.length : Int) := sqD
                obtain ⟨ad371, e371, hx371_0⟩ := Kd.at_int (Kd.R_reads' HO_4.out).2.2 0 p371 q371
                cases e371
                have qi371 : (0 < x4_1.length) = True := eq_true (by omega)
                (try rw [show ((0 : Int)).toNat = 0 from rfl] at hx371_0)
                (try rw [Addr.add_zero'] at hx371_0)
                replace p371 := eq_true p371
                replace q371 := eq_true q371
                have p372 : 0 ≤ (1 : Int) := (by omega)
                have q372 : 1 < (x4_1.length : Int) := sqD
                obtain ⟨ad372, e372, hx372_0⟩ := Kd.at_int (Kd.R_reads' HO_4.out).2.2 1 p372 q372
                obtain rfl : ad371 = ad372 := (by injection e372)
                (try simp only [show (1 : Int).toNat = 1 from rfl, Nat.reduceMul, Nat.reduceEqDiff, Go.Addr.add, ↓reduceIte] at hx372_0)
                have qi372 : (1 < x4_1.length) = True := eq_true (by omega)
                (try rw [show ((1 : Int)).toNat = 1 from rfl] at hx372_0)
                replace p372 := eq_true p372
                replace q372 := eq_true q372
                have p373 : 0 ≤ (2 : Int) := (by omega)
                have q373 : 2 < (x4_1.length : Int) := sqD
                obtain ⟨ad373, e373, hx373_0⟩ := Kd.at_int (Kd.R_reads' HO_4.out).2.2 2 p373 q373
                obtain rfl : ad371 = ad373 := (by injection e373)
                (try simp only [show (2 : Int).toNat = 2 from rfl, Nat.reduceMul, Nat.reduceEqDiff, Go.Addr.add, ↓reduceIte] at hx373_0)
                have qi373 : (2 < x4_1.length) = True := eq_true (by omega)
                (try rw [show ((2 : Int)).toNat = 2 from rfl] at hx373_0)
                replace p373 := eq_true p373
                replace q373 := eq_true q373
                have p374 : 0 ≤ (3 : Int) := (by omega)
                have q374 : 3 < (x4_1.length : Int) := sqD
                obtain ⟨ad374, e374, hx374_0⟩ := Kd.at_int (Kd.R_reads' HO_4.out).2.2 3 p374 q374
                obtain rfl : ad371 = ad374 := (by injection e374)
                (try simp only [show (3 : Int).toNat = 3 from rfl, Nat.reduceMul, Nat.reduceEqDiff, Go.Addr.add, ↓reduceIte] at hx374_0)
                have qi374 : (3 < x4_1.length) = True := eq_true (by omega)
                (try rw [show ((3 : Int)).toNat = 3 from rfl] at hx374_0)
                replace p374 := eq_true p374
                replace q374 := eq_true q374
                have p375 : 0 ≤ (4 : Int) := (by omega)
                have q375 : 4 < (x4_1.length : Int) := sqD
                obtain ⟨ad375, e375, hx375_0⟩ := Kd.at_int (Kd.R_reads' HO_4.out).2.2 4 p375 q375
                obtain rfl : ad371 = ad375 := (by injection e375)
                (try simp only [show (4 : Int).toNat = 4 from rfl, Nat.reduceMul, Nat.reduceEqDiff, Go.Addr.add, ↓reduceIte] at hx375_0)
                have qi375 : (4 < x4_1.length) = True := eq_true (by omega)
                (try rw [show ((4 : Int)).toNat = 4 from rfl] at hx375_0)
                replace p375 := eq_true p375
                replace q375 := eq_true q375
                have p376 : 0 ≤ (5 : Int) := (by omega)
                have q376 : 5 < (x4_1.length : Int) := sqD
                obtain ⟨ad376, e376, hx376_0⟩ := Kd.at_int (Kd.R_reads' HO_4.out).2.2 5 p376 q376
                obtain rfl : ad371 = ad376 := (by injection e376)
                (try simp only [show (5 : Int).toNat = 5 from rfl, Nat.reduceMul, Nat.reduceEqDiff, Go.Addr.add, ↓reduceIte] at hx376_0)
                have qi376 : (5 < x4_1.length) = True := eq_true (by omega)
                (try rw [show ((5 : Int)).toNat = 5 from rfl] at hx376_0)
                replace p376 := eq_true p376
                replace q376 := eq_true q376
                have p377 : 0 ≤ (6 : Int) := (by omega)
                have q377 : 6 < (x4_1.length : Int) := sqD
                obtain ⟨ad377, e377, hx377_0⟩ := Kd.at_int (Kd.R_reads' HO_4.out).2.2 6 p377 q377
                obtain rfl : ad371 = ad377 := (by injection e377)
                (try simp only [show (6 : Int).toNat = 6 from rfl, Nat.reduceMul, Nat.reduceEqDiff, Go.Addr.add, ↓reduceIte] at hx377_0)
                have qi377 : (6 < x4_1.length) = True := eq_true (by omega)
                (try rw [show ((6 : Int)).toNat = 6 from rfl] at hx377_0)
                replace p377 := eq_true p377
                replace q377 := eq_true q377
                have p378 : 0 ≤ (7 : Int) := (by omega)
                have q378 : 7 < (x4_1.length : Int) := sqD
                obtain ⟨ad378, e378, hx378_0⟩ := Kd.at_int (Kd.R_reads' HO_4.out).2.2 7 p378 q378
                obtain rfl : ad371 = ad378 := (by injection e378)
                (try simp only [show (7 : Int).toNat = 7 from rfl, Nat.reduceMul, Nat.reduceEqDiff, Go.Addr.add, ↓reduceIte] at hx378_0)
                have qi378 : (7 < x4_1.length) = True := eq_true (by omega)
                (try rw [show ((7 : Int)).toNat = 7 from rfl] at hx378_0)
                replace p378 := eq_true p378
                replace q378 := eq_true q378
                have p379 : 0 ≤ (8 : Int) := (by omega)
                have q379 : 8 < (x4_1.length : Int) := sqD
                obtain ⟨ad379, e379, hx379_0⟩ := Kd.at_int (Kd.R_reads' HO_4.out).2.2 8 p379 q379
                obtain rfl : ad371 = ad379 := (by injection e379)
                (try simp only [show (8 : Int).toNat = 8 from rfl, Nat.reduceMul, Nat.reduceEqDiff, Go.Addr.add, ↓reduceIte] at hx379_0)
                have qi379 : (8 < x4_1.length) = True := eq_true (by omega)
                (try rw [show ((8 : Int)).toNat = 8 from rfl] at hx379_0)
                replace p379 := eq_true p379
                replace q379 := eq_true q379
                have p380 : 0 ≤ (9 : Int) := (by omega)
                have q380 : 9 < (x4_1.length : Int) := sqD
                obtain ⟨ad380, e380, hx380_0⟩ := Kd.at_int (Kd.R_reads' HO_4.out).2.2 9 p380 q380
                obtain rfl : ad371 = ad380 := (by injection e380)
                (try simp only [show (9 : Int).toNat = 9 from rfl, Nat.reduceMul, Nat.reduceEqDiff, Go.Addr.add, ↓reduceIte] at hx380_0)
                have qi380 : (9 < x4_1.length) = True := eq_true (by omega)
                (try rw [show ((9 : Int)).toNat = 9 from rfl] at hx380_0)
                replace p380 := eq_true p380
                replace q380 := eq_true q380
                refine start_ (n := 36) (S := fun w' => w'.cell? ad371 = some (.int .i64 (rd x4_1 0)) ∧ w'.cell? ⟨ad371.block, ad371.off + 1, none⟩ = some (.int .i64 (rd x4_1 1)) ∧ w'.cell? ⟨ad371.block, ad371.off + 2, none⟩ = some (.int .i64 (rd x4_1 2)) ∧ w'.cell? ⟨ad371.block, ad371.off + 3, none⟩ = some (.int .i64 (rd x4_1 3)) ∧ w'.cell? ⟨ad371.block, ad371.off + 4, none⟩ = some (.int .i64 (rd x4_1 4)) ∧ w'.cell? ⟨ad371.block, ad371.off + 5, none⟩ = some (.int .i64 (rd x4_1 5)) ∧ w'.cell? ⟨ad371.block, ad371.off + 6, none⟩ = some (.int .i64 (rd x4_1 6)) ∧ w'.cell? ⟨ad371.block, ad371.off + 7, none⟩ = some (.int .i64 (rd x4_1 7)) ∧ w'.cell? ⟨ad371.block, ad371.off + 8, none⟩ = some (.int .i64 (rd x4_1 8)) ∧ w'.cell? ⟨ad371.block, ad371.off + 9, none⟩ = some (.int .i64 (rd x4_1 9))) (ds := []) (sqb 0 36) (by kernel_rfl) rfl rfl ⟨hx371_0, hx372_0, hx373_0, hx374_0, hx375_0, hx376_0, hx377_0, hx378_0, hx379_0, hx380_0⟩ (fun hHeld => ?_); refine with_tabW spec_ReadCred.tab11 spec_ReadCred.bits11 (fun HT_ HW_ => ?_)
                generalize wr.drew = w27 at HO_4 BK361 HB hx371_0 hx372_0 hx373_0 hx374_0 hx375_0 hx376_0 hx377_0 hx378_0 hx379_0 hx380_0 hHeld ⊢
                refine sqP (i := 0) (N := some 31) (sqb 1 35) rfl rfl (any_of HT_.out (by kernel_rfl)) ?_
                refine sqP (i := 1) (N := some 32) (sqb 2 34) rfl rfl (any_of HT_.out (by kernel_rfl)) ?_
                refine sqP (i := 3) (N := some 34) (sqr [2, 1, 1, 32]) rfl rfl (any_of HT_.out (by kernel_rfl)) ?_
                refine sqP (i := 4) (N := some 35) (sqr [2, 1, 2, 31]) rfl rfl (any_of HT_.out (by kernel_rfl)) ?_
                refine sqP (i := 6) (N := some 37) (sqr [2, 1, 2, 1, 1, 29]) rfl rfl (any_of HT_.out (by kernel_rfl)) ?_
                refine sqP (i := 7) (N := some 38) (sqr [2, 1, 2, 1, 2, 28]) rfl rfl (any_of HT_.out (by kernel_rfl)) ?_
                refine sqP (i := 10) (N := some 41) (sqr [2, 1, 2, 1, 2, 2, 1, 25]) rfl rfl (any_of HT_.out (by kernel_rfl)) ?_
                refine sqP (i := 11) (N := some 42) (sqr [2, 1, 2, 1, 2, 2, 2, 24]) rfl rfl (any_of HT_.out (by kernel_rfl)) ?_
                refine sqP (i := 13) (N := some 44) (sqr [2, 1, 2, 1, 2, 2, 2, 1, 1, 22]) rfl rfl (any_of HT_.out (by kernel_rfl)) ?_
                refine sqP (i := 14) (N := some 45) (sqr [2, 1, 2, 1, 2, 2, 2, 1, 2, 21]) rfl rfl (any_of HT_.out (by kernel_rfl)) ?_
                refine sqP (i := 16) (N := some 47) (sqr [2, 1, 2, 1, 2, 2, 2, 1, 2, 1, 1, 19]) rfl rfl (any_of HT_.out (by kernel_rfl)) ?_
                refine sqP (i := 17) (N := some 48) (sqr [2, 1, 2, 1, 2, 2, 2, 1, 2, 1, 2, 18]) rfl rfl (any_of HT_.out (by kernel_rfl)) ?_
                refine sqP (i := 20) (N := some 51) (sqr [2, 1, 2, 1, 2, 2, 2, 1, 2, 1, 2, 2, 1, 15]) rfl rfl (any_of HT_.out (by kernel_rfl)) ?_
                refine sqP (i := 21) (N := some 52) (sqr [2, 1, 2, 1, 2, 2, 2, 1, 2, 1, 2, 2, 2, 14]) rfl rfl (any_of HT_.out (by kernel_rfl)) ?_
                refine sqP (i := 23) (N := some 54) (sqr [2, 1, 2, 1, 2, 2, 2, 1, 2, 1, 2, 2, 2, 1, 1, 12]) rfl rfl (any_of HT_.out (by kernel_rfl)) ?_
                refine sqP (i := 24) (N := some 55) (sqr [2, 1, 2, 1, 2, 2, 2, 1, 2, 1, 2, 2, 2, 1, 2, 11]) rfl rfl (any_of HT_.out (by kernel_rfl)) ?_
                refine sqP (i := 27) (N := some 58) (sqr [2, 1, 2, 1, 2, 2, 2, 1, 2, 1, 2, 2, 2, 1, 2, 2, 1, 8]) rfl rfl (any_of HT_.out (by kernel_rfl)) ?_
                refine sqP (i := 28) (N := some 59) (sqr [2, 1, 2, 1, 2, 2, 2, 1, 2, 1, 2, 2, 2, 1, 2, 2, 2, 7]) rfl rfl (any_of HT_.out (by kernel_rfl)) ?_
                refine sqP (i := 30) (N := some 61) (sqr [2, 1, 2, 1, 2, 2, 2, 1, 2, 1, 2, 2, 2, 1, 2, 2, 2, 1, 1, 5]) rfl rfl (any_of HT_.out (by kernel_rfl)) ?_
                refine sqP (i := 31) (N := some 62) (sqr [2, 1, 2, 1, 2, 2, 2, 1, 2, 1, 2, 2, 2, 1, 2, 2, 2, 1, 2, 4]) rfl rfl (any_of HT_.out (by kernel_rfl)) ?_
                refine sqTk (i := 2) (N := some 33) (sqr [5, 1, 2, 2, 2, 1, 2, 1, 2, 2, 2, 1, 2, 2, 2, 1, 2, 4]) rfl rfl (take_ofW HT_.out HW_.out (by kernel_rfl)) hHeld ?_
                refine sqTk (i := 5) (N := some 36) (sqr [8, 2, 2, 1, 2, 1, 2, 2, 2, 1, 2, 2, 2, 1, 2, 4]) rfl rfl (take_ofW HT_.out HW_.out (by kernel_rfl)) hHeld ?_
                refine sqTk (i := 8) (N := some 39) (sqr [9, 1, 2, 1, 2, 1, 2, 2, 2, 1, 2, 2, 2, 1, 2, 4]) rfl rfl (take_ofW HT_.out HW_.out (by kernel_rfl)) hHeld ?_
                refine sqP (i := 9) (N := some 40) (sqr [12, 1, 2, 1, 2, 2, 2, 1, 2, 2, 2, 1, 2, 4]) rfl rfl (any_of HT_.out (by kernel_rfl)) ?_
                refine sqTk (i := 12) (N := some 43) (sqr [15, 1, 2, 2, 2, 1, 2, 2, 2, 1, 2, 4]) rfl rfl (take_ofW HT_.out HW_.out (by kernel_rfl)) hHeld ?_
                refine sqTk (i := 15) (N := some 46) (sqr [18, 2, 2, 1, 2, 2, 2, 1, 2, 4]) rfl rfl (take_ofW HT_.out HW_.out (by kernel_rfl)) hHeld ?_
                refine sqTk (i := 18) (N := some 49) (sqr [19, 1, 2, 1, 2, 2, 2, 1, 2, 4]) rfl rfl (take_ofW HT_.out HW_.out (by kernel_rfl)) hHeld ?_
                refine sqP (i := 19) (N := some 50) (sqr [22, 1, 2, 2, 2, 1, 2, 4]) rfl rfl (any_of HT_.out (by kernel_rfl)) ?_
                refine sqTk (i := 22) (N := some 53) (sqr [25, 2, 2, 1, 2, 4]) rfl rfl (take_ofW HT_.out HW_.out (by kernel_rfl)) hHeld ?_
                refine sqTk (i := 25) (N := some 56) (sqr [26, 1, 2, 1, 2, 4]) rfl rfl (take_ofW HT_.out HW_.out (by kernel_rfl)) hHeld ?_
                refine sqP (i := 26) (N := some 57) (sqr [29, 1, 2, 4]) rfl rfl (any_of HT_.out (by kernel_rfl)) ?_
                refine sqTk (i := 29) (N := some 60) (sqb 32 4) rfl rfl (take_ofW HT_.out HW_.out (by kernel_rfl)) hHeld ?_
                refine sqTk (i := 32) (N := some 63) (sqb 33 3) rfl rfl (take_ofW HT_.out HW_.out (by kernel_rfl)) hHeld ?_
                refine sqP (i := 33) (N := some 64) (sqb 34 2) rfl rfl (any_of HT_.out (by kernel_rfl)) ?_
                refine one_ (i := 34) (N := some 10) (sqb 35 1) rfl rfl (one_of HT_.out (by kernel_rfl)) (by decide) (fun K hK => ?_)
                refine box_step ?hg (N := 10) ?hd (cs := #[.int .i64 0, .int .i64 0, .int .i64 0, .int .i64 0, .int .i64 0, .int .i64 0, .int .i64 0, .int .i64 0, .int .i64 0, .int .i64 0]) (t := 27) ?hr ?_; (case hd => rfl); (case hg => rfl); (case hr => first | (go_simp; done) | (go_simp; rfl))
                intro gb381 hg w29 hbox hb
                have HS0_ := (hb.cell (World.block_lt_of_cell? _ _ (hHeld.1))).trans (hHeld.1)
                have HS1_ := (hb.cell (World.block_lt_of_cell? _ _ (hHeld.2.1))).trans (hHeld.2.1)
                have HS2_ := (hb.cell (World.block_lt_of_cell? _ _ (hHeld.2.2.1))).trans (hHeld.2.2.1)
                have HS3_ := (hb.cell (World.block_lt_of_cell? _ _ (hHeld.2.2.2.1))).trans (hHeld.2.2.2.1)
                have HS4_ := (hb.cell (World.block_lt_of_cell? _ _ (hHeld.2.2.2.2.1))).trans (hHeld.2.2.2.2.1)
                have HS5_ := (hb.cell (World.block_lt_of_cell? _ _ (hHeld.2.2.2.2.2.1))).trans (hHeld.2.2.2.2.2.1)
                have HS6_ := (hb.cell (World.block_lt_of_cell? _ _ (hHeld.2.2.2.2.2.2.1))).trans (hHeld.2.2.2.2.2.2.1)
                have HS7_ := (hb.cell (World.block_lt_of_cell? _ _ (hHeld.2.2.2.2.2.2.2.1))).trans (hHeld.2.2.2.2.2.2.2.1)
                have HS8_ := (hb.cell (World.block_lt_of_cell? _ _ (hHeld.2.2.2.2.2.2.2.2.1))).trans (hHeld.2.2.2.2.2.2.2.2.1)
                have HS9_ := (hb.cell (World.block_lt_of_cell? _ _ (hHeld.2.2.2.2.2.2.2.2.2))).trans (hHeld.2.2.2.2.2.2.2.2.2)
                replace HO_4 := Aside0.mk (Kd.R_below (sqR HO_4) hb); have BK381 := Aside0.mk (hbox); have GW381 := sqG hg; have GE381 := sqG hg; have NB361_381 := sqN BK361 hg; have NB381_361 := sqM BK361 hg; replace BK361 := sqL BK361 hb; replace HB := sqS hb
                clear hb hbox hg
                refine hK.out _ _ ⟨HS0_, HS1_, HS2_, HS3_, HS4_, HS5_, HS6_, HS7_, HS8_, HS9_⟩ (fun hHeld => ?_)
                clear hK K
                refine sqV (N := some 10) ?_
                refine one_ (i := 35) (N := none) (sqb 36 0) rfl rfl (one_of HT_.out (by kernel_rfl)) (by decide) (fun K hK => ?_)
                have hs30 : w29.cell? ⟨gb381, 0, none⟩ = some (.int .i64 0) := (blk_cell BK381.out 0).trans rfl
                have hfs30 := blk_frozen BK381.out 0
                have hns30_0 := NB361_381.out
                have hms30_0 := NB381_361.out
                have hs31 : w29.cell? ⟨gb381, 1, none⟩ = some (.int .i64 0) := (blk_cell BK381.out 1).trans rfl
                have hfs31 := blk_frozen BK381.out 1
                have hns31_0 := NB361_381.out
                have hms31_0 := NB381_361.out
                have hs32 : w29.cell? ⟨gb381, 2, none⟩ = some (.int .i64 0) := (blk_cell BK381.out 2).trans rfl
                have hfs32 := blk_frozen BK381.out 2
                have hns32_0 := NB361_381.out
                have hms32_0 := NB381_361.out
                have hs33 : w29.cell? ⟨gb381, 3, none⟩ = some (.int .i64 0) := (blk_cell BK381.out 3).trans rfl
                have hfs33 := blk_frozen BK381.out 3
                have hns33_0 := NB361_381.out
                have hms33_0 := NB381_361.out
                have hs34 : w29.cell? ⟨gb381, 4, none⟩ = some (.int .i64 0) := (blk_cell BK381.out 4).trans rfl
                have hfs34 := blk_frozen BK381.out 4
                have hns34_0 := NB361_381.out
                have hms34_0 := NB381_361.out
                have hs35 : w29.cell? ⟨gb381, 5, none⟩ = some (.int .i64 0) := (blk_cell BK381.out 5).trans rfl
                have hfs35 := blk_frozen BK381.out 5
                have hns35_0 := NB361_381.out
                have hms35_0 := NB381_361.out
                have hs36 : w29.cell? ⟨gb381, 6, none⟩ = some (.int .i64 0) := (blk_cell BK381.out 6).trans rfl
                have hfs36 := blk_frozen BK381.out 6
                have hns36_0 := NB361_381.out
                have hms36_0 := NB381_361.out
                have hs37 : w29.cell? ⟨gb381, 7, none⟩ = some (.int .i64 0) := (blk_cell BK381.out 7).trans rfl
                have hfs37 := blk_frozen BK381.out 7
                have hns37_0 := NB361_381.out
                have hms37_0 := NB381_361.out
                have hs38 : w29.cell? ⟨gb381, 8, none⟩ = some (.int .i64 0) := (blk_cell BK381.out 8).trans rfl
                have hfs38 := blk_frozen BK381.out 8
                have hns38_0 := NB361_381.out
                have hms38_0 := NB381_361.out
                have hs39 : w29.cell? ⟨gb381, 9, none⟩ = some (.int .i64 0) := (blk_cell BK381.out 9).trans rfl
                have hfs39 := blk_frozen BK381.out 9
                have hns39_0 := NB361_381.out
                have hms39_0 := NB381_361.out
                refine skip_ (w1 := ?_) (by rfl) rfl ?_ ?_
                rotate_left
                ·go_simp
                 rfl
                have zb_ := Aside0.mk (Kd.own_blk (Kd.R_ne HO_4.out BK381.out (by decide)))
                refine hK.out _ _ ⟨(sqJz10 hHeld.1), (sqJz10 hHeld.2.1), (sqJz10 hHeld.2.2.1), (sqJz10 hHeld.2.2.2.1), (sqJz10 hHeld.2.2.2.2.1), (sqJz10 hHeld.2.2.2.2.2.1), (sqJz10 hHeld.2.2.2.2.2.2.1), (sqJz10 hHeld.2.2.2.2.2.2.2.1), (sqJz10 hHeld.2.2.2.2.2.2.2.2.1), (sqJz10 hHeld.2.2.2.2.2.2.2.2.2)⟩ (fun hHeld => ?_)
                clear hK K
                refine done_ (done_of HT_.out (by kernel_rfl)) ?_
                have hnb40 := NB381_361.out
                have hnc40 := NB361_381.out
                obtain ⟨hcz41_0, hcz41_1, hcz41_2, hcz41_3, hcz41_4, hcz41_5, hcz41_6, hcz41_7, hcz41_8, hcz41_9, hfz41_0, hfz41_1, hfz41_2, hfz41_3, hfz41_4, hfz41_5, hfz41_6, hfz41_7, hfz41_8, hfz41_9⟩ := sqC10 BK381
                try go_wp2_with (first | ((with_reducible refine gate_callee (f := 15) rfl ?_); refine goesL_ (some 66) rfl rfl Try.func15 (by kernel_rfl) rfl #[.agg #[.int .i64 (rd x4_1 0), .int .i64 (rd x4_1 1), .int .i64 (rd x4_1 2), .int .i64 (rd x4_1 3), .int .i64 (rd x4_1 4), .int .i64 (rd x4_1 5), .int .i64 (rd x4_1 6), .int .i64 (rd x4_1 7), .int .i64 (rd x4_1 8), .int .i64 (rd x4_1 9)]] rfl sqA ?_; (with_reducible refine (spec_CredOk.calls k1 (rd x4_1 0) (rd x4_1 1) (rd x4_1 2) (rd x4_1 3) (rd x4_1 4) (rd x4_1 5) (rd x4_1 6) (rd x4_1 7) (rd x4_1 8) (rd x4_1 9) true _ A23.out).mono ?_); rintro e w42 ⟨rfl, hb⟩; refine ⟨_, rfl, ?_⟩; replace HO_4 := Aside0.mk (Kd.R_below (by (with_reducible repeat (first | apply Kd.R_alloc | apply Kd.R_drewN | apply Kd.R_drew)); exact (Kd.R_mono (Kd.R_far (p := ⟨gb381, 9, none⟩) (Kd.R_far (p := ⟨gb381, 8, none⟩) (Kd.R_far (p := ⟨gb381, 7, none⟩) (Kd.R_far (p := ⟨gb381, 6, none⟩) (Kd.R_far (p := ⟨gb381, 5, none⟩) (Kd.R_far (p := ⟨gb381, 4, none⟩) (Kd.R_far (p := ⟨gb381, 3, none⟩) (Kd.R_far (p := ⟨gb381, 2, none⟩) (Kd.R_far (p := ⟨gb381, 1, none⟩) (Kd.R_far (p := ⟨gb381, 0, none⟩) (Kd.R_types HO_4.out BK381.out (by decide)) (fun _ hk => hk.2) (.int .i64 (rd x4_1 0))) (fun _ hk => hk.2) (.int .i64 (rd x4_1 1))) (fun _ hk => hk.2) (.int .i64 (rd x4_1 2))) (fun _ hk => hk.2) (.int .i64 (rd x4_1 3))) (fun _ hk => hk.2) (.int .i64 (rd x4_1 4))) (fun _ hk => hk.2) (.int .i64 (rd x4_1 5))) (fun _ hk => hk.2) (.int .i64 (rd x4_1 6))) (fun _ hk => hk.2) (.int .i64 (rd x4_1 7))) (fun _ hk => hk.2) (.int .i64 (rd x4_1 8))) (fun _ hk => hk.2) (.int .i64 (rd x4_1 9))) (fun _ h_ => h_.1))) hb); replace BK361 := sqLW (o' := .cells #[.int .i64 x362000_1, .int .i64 x362001_1, .int .i64 x362002_1, .int .i64 x362003_1, .int .i64 x362004_1, .int .i64 x362005_1, .int .i64 x362006_1, .int .i64 x362007_1, .int .i64 x362008_1, .int .i64 x362009_1] 27 (0, 0)) BK361 hb; replace BK381 := sqLW (o' := .cells #[.int .i64 (rd x4_1 0), .int .i64 (rd x4_1 1), .int .i64 (rd x4_1 2), .int .i64 (rd x4_1 3), .int .i64 (rd x4_1 4), .int .i64 (rd x4_1 5), .int .i64 (rd x4_1 6), .int .i64 (rd x4_1 7), .int .i64 (rd x4_1 8), .int .i64 (rd x4_1 9)] 27 (0, 0)) BK381 hb; replace HB := sqS hb; (try clear hb); (try clear hb2); (try clear hk); (try clear hi); obtain ⟨hcz43_0, hcz43_1, hcz43_2, hcz43_3, hcz43_4, hcz43_5, hcz43_6, hcz43_7, hcz43_8, hcz43_9, hfz43_0, hfz43_1, hfz43_2, hfz43_3, hfz43_4, hfz43_5, hfz43_6, hfz43_7, hfz43_8, hfz43_9⟩ := sqC10 BK381) | (go_at_call 16; (with_reducible refine (spec_CredText.calls k1 (rd x4_1 0) (rd x4_1 1) (rd x4_1 2) (rd x4_1 3) (rd x4_1 4) (rd x4_1 5) (rd x4_1 6) (rd x4_1 7) (rd x4_1 8) (rd x4_1 9) t383 _ A25.out).mono ?_); rintro e w44 ⟨rfl, hb⟩; replace HO_4 := Aside0.mk (Kd.R_below (sqR HO_4) hb); replace BK361 := sqL BK361 hb; replace BK381 := sqL BK381 hb; replace HB := sqS hb; (try clear hb); (try clear hb2); (try clear hk); (try clear hi); obtain ⟨hcz45_0, hcz45_1, hcz45_2, hcz45_3, hcz45_4, hcz45_5, hcz45_6, hcz45_7, hcz45_8, hcz45_9, hfz45_0, hfz45_1, hfz45_2, hfz45_3, hfz45_4, hfz45_5, hfz45_6, hfz45_7, hfz45_8, hfz45_9⟩ := sqC10 BK381; obtain ⟨hcz46_0, hcz46_1, hcz46_2, hcz46_3, hcz46_4, hcz46_5, hcz46_6, hcz46_7, hcz46_8, hcz46_9, hfz46_0, hfz46_1, hfz46_2, hfz46_3, hfz46_4, hfz46_5, hfz46_6, hfz46_7, hfz46_8, hfz46_9⟩ := sqC10 BK361))
                refine bodyPost_ret (results_ct rfl _ _ gb361 27 #[.int .i64 (rd x4_1 0), .int .i64 (rd x4_1 1), .int .i64 (rd x4_1 2), .int .i64 (rd x4_1 3), .int .i64 (rd x4_1 4), .int .i64 (rd x4_1 5), .int .i64 (rd x4_1 6), .int .i64 (rd x4_1 7), .int .i64 (rd x4_1 8), .int .i64 (rd x4_1 9)] (0, 0) _ rfl (sqW BK361) Try.underlying27 rfl (by kernel_rfl)) rfl ?_
                exact ⟨sqE, sqB⟩
               ·rw [if_neg c26] at H
                have c26b0 : (t383.toList == a0.toList) = false := beq_eq_false_iff_ne.mpr c26
                have c26b1 : (t383.toList != a0.toList) = true := bne_iff_ne.mpr c26
                simp only [Option.some.injEq, Prod.mk.injEq] at H
                obtain ⟨rfl, rfl, rfl, rfl, rfl, rfl, rfl, rfl, rfl, rfl, rfl⟩ := H
                try go_wp2
                replace HO_4 := Aside0.mk (Kd.R_drew HO_4.out); replace BK361 := Aside0.mk (blk_drew BK361.out); replace HB := Aside0.mk (below_drew1 HB.out)
                obtain ⟨Ao48, co48, eo48⟩ := Kd.R_slice HO_4.out
                (first | subst eo48 | (injection eo48 with f1_ f2_ f3_; have f4_ := f1_.symm; have f5_ := f3_.symm; clear f1_ f2_ f3_; subst f4_; subst f5_))
                have p371 : 0 ≤ (0 : Int) := (by omega)
                have q371 : 0 < (x4_1.length : Int) := sqD
                obtain ⟨ad371, e371, hx371_0⟩ := Kd.at_int (Kd.R_reads' HO_4.out).2.2 0 p371 q371
                cases e371
                have qi371 : (0 < x4_1.length) = True := eq_true (by omega)
                (try rw [show ((0 : Int)).toNat = 0 from rfl] at hx371_0)
                (try rw [Addr.add_zero'] at hx371_0)
                replace p371 := eq_true p371
                replace q371 := eq_true q371
                have p372 : 0 ≤ (1 : Int) := (by omega)
                have q372 : 1 < (x4_1.length : Int) := sqD
                obtain ⟨ad372, e372, hx372_0⟩ := Kd.at_int (Kd.R_reads' HO_4.out).2.2 1 p372 q372
                obtain rfl : ad371 = ad372 := (by injection e372)
                (try simp only [show (1 : Int).toNat = 1 from rfl, Nat.reduceMul, Nat.reduceEqDiff, Go.Addr.add, ↓reduceIte] at hx372_0)
                have qi372 : (1 < x4_1.length) = True := eq_true (by omega)
                (try rw [show ((1 : Int)).toNat = 1 from rfl] at hx372_0)
                replace p372 := eq_true p372
                replace q372 := eq_true q372
                have p373 : 0 ≤ (2 : Int) := (by omega)
                have q373 : 2 < (x4_1.length : Int) := sqD
                obtain ⟨ad373, e373, hx373_0⟩ := Kd.at_int (Kd.R_reads' HO_4.out).2.2 2 p373 q373
                obtain rfl : ad371 = ad373 := (by injection e373)
                (try simp only [show (2 : Int).toNat = 2 from rfl, Nat.reduceMul, Nat.reduceEqDiff, Go.Addr.add, ↓reduceIte] at hx373_0)
                have qi373 : (2 < x4_1.length) = True := eq_true (by omega)
                (try rw [show ((2 : Int)).toNat = 2 from rfl] at hx373_0)
                replace p373 := eq_true p373
                replace q373 := eq_true q373
                have p374 : 0 ≤ (3 : Int) := (by omega)
                have q374 : 3 < (x4_1.length : Int) := sqD
                obtain ⟨ad374, e374, hx374_0⟩ := Kd.at_int (Kd.R_reads' HO_4.out).2.2 3 p374 q374
                obtain rfl : ad371 = ad374 := (by injection e374)
                (try simp only [show (3 : Int).toNat = 3 from rfl, Nat.reduceMul, Nat.reduceEqDiff, Go.Addr.add, ↓reduceIte] at hx374_0)
                have qi374 : (3 < x4_1.length) = True := eq_true (by omega)
                (try rw [show ((3 : Int)).toNat = 3 from rfl] at hx374_0)
                replace p374 := eq_true p374
                replace q374 := eq_true q374
                have p375 : 0 ≤ (4 : Int) := (by omega)
                have q375 : 4 < (x4_1.length : Int) := sqD
                obtain ⟨ad375, e375, hx375_0⟩ := Kd.at_int (Kd.R_reads' HO_4.out).2.2 4 p375 q375
                obtain rfl : ad371 = ad375 := (by injection e375)
                (try simp only [show (4 : Int).toNat = 4 from rfl, Nat.reduceMul, Nat.reduceEqDiff, Go.Addr.add, ↓reduceIte] at hx375_0)
                have qi375 : (4 < x4_1.length) = True := eq_true (by omega)
                (try rw [show ((4 : Int)).toNat = 4 from rfl] at hx375_0)
                replace p375 := eq_true p375
                replace q375 := eq_true q375
                have p376 : 0 ≤ (5 : Int) := (by omega)
                have q376 : 5 < (x4_1.length : Int) := sqD
                obtain ⟨ad376, e376, hx376_0⟩ := Kd.at_int (Kd.R_reads' HO_4.out).2.2 5 p376 q376
                obtain rfl : ad371 = ad376 := (by injection e376)
                (try simp only [show (5 : Int).toNat = 5 from rfl, Nat.reduceMul, Nat.reduceEqDiff, Go.Addr.add, ↓reduceIte] at hx376_0)
                have qi376 : (5 < x4_1.length) = True := eq_true (by omega)
                (try rw [show ((5 : Int)).toNat = 5 from rfl] at hx376_0)
                replace p376 := eq_true p376
                replace q376 := eq_true q376
                have p377 : 0 ≤ (6 : Int) := (by omega)
                have q377 : 6 < (x4_1.length : Int) := sqD
                obtain ⟨ad377, e377, hx377_0⟩ := Kd.at_int (Kd.R_reads' HO_4.out).2.2 6 p377 q377
                obtain rfl : ad371 = ad377 := (by injection e377)
                (try simp only [show (6 : Int).toNat = 6 from rfl, Nat.reduceMul, Nat.reduceEqDiff, Go.Addr.add, ↓reduceIte] at hx377_0)
                have qi377 : (6 < x4_1.length) = True := eq_true (by omega)
                (try rw [show ((6 : Int)).toNat = 6 from rfl] at hx377_0)
                replace p377 := eq_true p377
                replace q377 := eq_true q377
                have p378 : 0 ≤ (7 : Int) := (by omega)
                have q378 : 7 < (x4_1.length : Int) := sqD
                obtain ⟨ad378, e378, hx378_0⟩ := Kd.at_int (Kd.R_reads' HO_4.out).2.2 7 p378 q378
                obtain rfl : ad371 = ad378 := (by injection e378)
                (try simp only [show (7 : Int).toNat = 7 from rfl, Nat.reduceMul, Nat.reduceEqDiff, Go.Addr.add, ↓reduceIte] at hx378_0)
                have qi378 : (7 < x4_1.length) = True := eq_true (by omega)
                (try rw [show ((7 : Int)).toNat = 7 from rfl] at hx378_0)
                replace p378 := eq_true p378
                replace q378 := eq_true q378
                have p379 : 0 ≤ (8 : Int) := (by omega)
                have q379 : 8 < (x4_1.length : Int) := sqD
                obtain ⟨ad379, e379, hx379_0⟩ := Kd.at_int (Kd.R_reads' HO_4.out).2.2 8 p379 q379
                obtain rfl : ad371 = ad379 := (by injection e379)
                (try simp only [show (8 : Int).toNat = 8 from rfl, Nat.reduceMul, Nat.reduceEqDiff, Go.Addr.add, ↓reduceIte] at hx379_0)
                have qi379 : (8 < x4_1.length) = True := eq_true (by omega)
                (try rw [show ((8 : Int)).toNat = 8 from rfl] at hx379_0)
                replace p379 := eq_true p379
                replace q379 := eq_true q379
                have p380 : 0 ≤ (9 : Int) := (by omega)
                have q380 : 9 < (x4_1.length : Int) := sqD
                obtain ⟨ad380, e380, hx380_0⟩ := Kd.at_int (Kd.R_reads' HO_4.out).2.2 9 p380 q380
                obtain rfl : ad371 = ad380 := (by injection e380)
                (try simp only [show (9 : Int).toNat = 9 from rfl, Nat.reduceMul, Nat.reduceEqDiff, Go.Addr.add, ↓reduceIte] at hx380_0)
                have qi380 : (9 < x4_1.length) = True := eq_true (by omega)
                (try rw [show ((9 : Int)).toNat = 9 from rfl] at hx380_0)
                replace p380 := eq_true p380
                replace q380 := eq_true q380
                refine start_ (n := 36) (S := fun w' => w'.cell? ad371 = some (.int .i64 (rd x4_1 0)) ∧ w'.cell? ⟨ad371.block, ad371.off + 1, none⟩ = some (.int .i64 (rd x4_1 1)) ∧ w'.cell? ⟨ad371.block, ad371.off + 2, none⟩ = some (.int .i64 (rd x4_1 2)) ∧ w'.cell? ⟨ad371.block, ad371.off + 3, none⟩ = some (.int .i64 (rd x4_1 3)) ∧ w'.cell? ⟨ad371.block, ad371.off + 4, none⟩ = some (.int .i64 (rd x4_1 4)) ∧ w'.cell? ⟨ad371.block, ad371.off + 5, none⟩ = some (.int .i64 (rd x4_1 5)) ∧ w'.cell? ⟨ad371.block, ad371.off + 6, none⟩ = some (.int .i64 (rd x4_1 6)) ∧ w'.cell? ⟨ad371.block, ad371.off + 7, none⟩ = some (.int .i64 (rd x4_1 7)) ∧ w'.cell? ⟨ad371.block, ad371.off + 8, none⟩ = some (.int .i64 (rd x4_1 8)) ∧ w'.cell? ⟨ad371.block, ad371.off + 9, none⟩ = some (.int .i64 (rd x4_1 9))) (ds := []) (sqb 0 36) (by kernel_rfl) rfl rfl ⟨hx371_0, hx372_0, hx373_0, hx374_0, hx375_0, hx376_0, hx377_0, hx378_0, hx379_0, hx380_0⟩ (fun hHeld => ?_); refine with_tabW spec_ReadCred.tab11 spec_ReadCred.bits11 (fun HT_ HW_ => ?_)
                generalize wr.drew = w47 at HO_4 BK361 HB hx371_0 hx372_0 hx373_0 hx374_0 hx375_0 hx376_0 hx377_0 hx378_0 hx379_0 hx380_0 hHeld ⊢
                refine sqP (i := 0) (N := some 31) (sqb 1 35) rfl rfl (any_of HT_.out (by kernel_rfl)) ?_
                refine sqP (i := 1) (N := some 32) (sqb 2 34) rfl rfl (any_of HT_.out (by kernel_rfl)) ?_
                refine sqP (i := 3) (N := some 34) (sqr [2, 1, 1, 32]) rfl rfl (any_of HT_.out (by kernel_rfl)) ?_
                refine sqP (i := 4) (N := some 35) (sqr [2, 1, 2, 31]) rfl rfl (any_of HT_.out (by kernel_rfl)) ?_
                refine sqP (i := 6) (N := some 37) (sqr [2, 1, 2, 1, 1, 29]) rfl rfl (any_of HT_.out (by kernel_rfl)) ?_
                refine sqP (i := 7) (N := some 38) (sqr [2, 1, 2, 1, 2, 28]) rfl rfl (any_of HT_.out (by kernel_rfl)) ?_
                refine sqP (i := 10) (N := some 41) (sqr [2, 1, 2, 1, 2, 2, 1, 25]) rfl rfl (any_of HT_.out (by kernel_rfl)) ?_
                refine sqP (i := 11) (N := some 42) (sqr [2, 1, 2, 1, 2, 2, 2, 24]) rfl rfl (any_of HT_.out (by kernel_rfl)) ?_
                refine sqP (i := 13) (N := some 44) (sqr [2, 1, 2, 1, 2, 2, 2, 1, 1, 22]) rfl rfl (any_of HT_.out (by kernel_rfl)) ?_
                refine sqP (i := 14) (N := some 45) (sqr [2, 1, 2, 1, 2, 2, 2, 1, 2, 21]) rfl rfl (any_of HT_.out (by kernel_rfl)) ?_
                refine sqP (i := 16) (N := some 47) (sqr [2, 1, 2, 1, 2, 2, 2, 1, 2, 1, 1, 19]) rfl rfl (any_of HT_.out (by kernel_rfl)) ?_
                refine sqP (i := 17) (N := some 48) (sqr [2, 1, 2, 1, 2, 2, 2, 1, 2, 1, 2, 18]) rfl rfl (any_of HT_.out (by kernel_rfl)) ?_
                refine sqP (i := 20) (N := some 51) (sqr [2, 1, 2, 1, 2, 2, 2, 1, 2, 1, 2, 2, 1, 15]) rfl rfl (any_of HT_.out (by kernel_rfl)) ?_
                refine sqP (i := 21) (N := some 52) (sqr [2, 1, 2, 1, 2, 2, 2, 1, 2, 1, 2, 2, 2, 14]) rfl rfl (any_of HT_.out (by kernel_rfl)) ?_
                refine sqP (i := 23) (N := some 54) (sqr [2, 1, 2, 1, 2, 2, 2, 1, 2, 1, 2, 2, 2, 1, 1, 12]) rfl rfl (any_of HT_.out (by kernel_rfl)) ?_
                refine sqP (i := 24) (N := some 55) (sqr [2, 1, 2, 1, 2, 2, 2, 1, 2, 1, 2, 2, 2, 1, 2, 11]) rfl rfl (any_of HT_.out (by kernel_rfl)) ?_
                refine sqP (i := 27) (N := some 58) (sqr [2, 1, 2, 1, 2, 2, 2, 1, 2, 1, 2, 2, 2, 1, 2, 2, 1, 8]) rfl rfl (any_of HT_.out (by kernel_rfl)) ?_
                refine sqP (i := 28) (N := some 59) (sqr [2, 1, 2, 1, 2, 2, 2, 1, 2, 1, 2, 2, 2, 1, 2, 2, 2, 7]) rfl rfl (any_of HT_.out (by kernel_rfl)) ?_
                refine sqP (i := 30) (N := some 61) (sqr [2, 1, 2, 1, 2, 2, 2, 1, 2, 1, 2, 2, 2, 1, 2, 2, 2, 1, 1, 5]) rfl rfl (any_of HT_.out (by kernel_rfl)) ?_
                refine sqP (i := 31) (N := some 62) (sqr [2, 1, 2, 1, 2, 2, 2, 1, 2, 1, 2, 2, 2, 1, 2, 2, 2, 1, 2, 4]) rfl rfl (any_of HT_.out (by kernel_rfl)) ?_
                refine sqTk (i := 2) (N := some 33) (sqr [5, 1, 2, 2, 2, 1, 2, 1, 2, 2, 2, 1, 2, 2, 2, 1, 2, 4]) rfl rfl (take_ofW HT_.out HW_.out (by kernel_rfl)) hHeld ?_
                refine sqTk (i := 5) (N := some 36) (sqr [8, 2, 2, 1, 2, 1, 2, 2, 2, 1, 2, 2, 2, 1, 2, 4]) rfl rfl (take_ofW HT_.out HW_.out (by kernel_rfl)) hHeld ?_
                refine sqTk (i := 8) (N := some 39) (sqr [9, 1, 2, 1, 2, 1, 2, 2, 2, 1, 2, 2, 2, 1, 2, 4]) rfl rfl (take_ofW HT_.out HW_.out (by kernel_rfl)) hHeld ?_
                refine sqP (i := 9) (N := some 40) (sqr [12, 1, 2, 1, 2, 2, 2, 1, 2, 2, 2, 1, 2, 4]) rfl rfl (any_of HT_.out (by kernel_rfl)) ?_
                refine sqTk (i := 12) (N := some 43) (sqr [15, 1, 2, 2, 2, 1, 2, 2, 2, 1, 2, 4]) rfl rfl (take_ofW HT_.out HW_.out (by kernel_rfl)) hHeld ?_
                refine sqTk (i := 15) (N := some 46) (sqr [18, 2, 2, 1, 2, 2, 2, 1, 2, 4]) rfl rfl (take_ofW HT_.out HW_.out (by kernel_rfl)) hHeld ?_
                refine sqTk (i := 18) (N := some 49) (sqr [19, 1, 2, 1, 2, 2, 2, 1, 2, 4]) rfl rfl (take_ofW HT_.out HW_.out (by kernel_rfl)) hHeld ?_
                refine sqP (i := 19) (N := some 50) (sqr [22, 1, 2, 2, 2, 1, 2, 4]) rfl rfl (any_of HT_.out (by kernel_rfl)) ?_
                refine sqTk (i := 22) (N := some 53) (sqr [25, 2, 2, 1, 2, 4]) rfl rfl (take_ofW HT_.out HW_.out (by kernel_rfl)) hHeld ?_
                refine sqTk (i := 25) (N := some 56) (sqr [26, 1, 2, 1, 2, 4]) rfl rfl (take_ofW HT_.out HW_.out (by kernel_rfl)) hHeld ?_
                refine sqP (i := 26) (N := some 57) (sqr [29, 1, 2, 4]) rfl rfl (any_of HT_.out (by kernel_rfl)) ?_
                refine sqTk (i := 29) (N := some 60) (sqb 32 4) rfl rfl (take_ofW HT_.out HW_.out (by kernel_rfl)) hHeld ?_
                refine sqTk (i := 32) (N := some 63) (sqb 33 3) rfl rfl (take_ofW HT_.out HW_.out (by kernel_rfl)) hHeld ?_
                refine sqP (i := 33) (N := some 64) (sqb 34 2) rfl rfl (any_of HT_.out (by kernel_rfl)) ?_
                refine one_ (i := 34) (N := some 10) (sqb 35 1) rfl rfl (one_of HT_.out (by kernel_rfl)) (by decide) (fun K hK => ?_)
                refine box_step ?hg (N := 10) ?hd (cs := #[.int .i64 0, .int .i64 0, .int .i64 0, .int .i64 0, .int .i64 0, .int .i64 0, .int .i64 0, .int .i64 0, .int .i64 0, .int .i64 0]) (t := 27) ?hr ?_; (case hd => rfl); (case hg => rfl); (case hr => first | (go_simp; done) | (go_simp; rfl))
                intro gb381 hg w49 hbox hb
                have HS0_ := (hb.cell (World.block_lt_of_cell? _ _ (hHeld.1))).trans (hHeld.1)
                have HS1_ := (hb.cell (World.block_lt_of_cell? _ _ (hHeld.2.1))).trans (hHeld.2.1)
                have HS2_ := (hb.cell (World.block_lt_of_cell? _ _ (hHeld.2.2.1))).trans (hHeld.2.2.1)
                have HS3_ := (hb.cell (World.block_lt_of_cell? _ _ (hHeld.2.2.2.1))).trans (hHeld.2.2.2.1)
                have HS4_ := (hb.cell (World.block_lt_of_cell? _ _ (hHeld.2.2.2.2.1))).trans (hHeld.2.2.2.2.1)
                have HS5_ := (hb.cell (World.block_lt_of_cell? _ _ (hHeld.2.2.2.2.2.1))).trans (hHeld.2.2.2.2.2.1)
                have HS6_ := (hb.cell (World.block_lt_of_cell? _ _ (hHeld.2.2.2.2.2.2.1))).trans (hHeld.2.2.2.2.2.2.1)
                have HS7_ := (hb.cell (World.block_lt_of_cell? _ _ (hHeld.2.2.2.2.2.2.2.1))).trans (hHeld.2.2.2.2.2.2.2.1)
                have HS8_ := (hb.cell (World.block_lt_of_cell? _ _ (hHeld.2.2.2.2.2.2.2.2.1))).trans (hHeld.2.2.2.2.2.2.2.2.1)
                have HS9_ := (hb.cell (World.block_lt_of_cell? _ _ (hHeld.2.2.2.2.2.2.2.2.2))).trans (hHeld.2.2.2.2.2.2.2.2.2)
                replace HO_4 := Aside0.mk (Kd.R_below (sqR HO_4) hb); have BK381 := Aside0.mk (hbox); have GW381 := sqG hg; have GE381 := sqG hg; have NB361_381 := sqN BK361 hg; have NB381_361 := sqM BK361 hg; replace BK361 := sqL BK361 hb; replace HB := sqS hb
                clear hb hbox hg
                refine hK.out _ _ ⟨HS0_, HS1_, HS2_, HS3_, HS4_, HS5_, HS6_, HS7_, HS8_, HS9_⟩ (fun hHeld => ?_)
                clear hK K
                refine sqV (N := some 10) ?_
                refine one_ (i := 35) (N := none) (sqb 36 0) rfl rfl (one_of HT_.out (by kernel_rfl)) (by decide) (fun K hK => ?_)
                have hs50 : w49.cell? ⟨gb381, 0, none⟩ = some (.int .i64 0) := (blk_cell BK381.out 0).trans rfl
                have hfs50 := blk_frozen BK381.out 0
                have hns50_0 := NB361_381.out
                have hms50_0 := NB381_361.out
                have hs51 : w49.cell? ⟨gb381, 1, none⟩ = some (.int .i64 0) := (blk_cell BK381.out 1).trans rfl
                have hfs51 := blk_frozen BK381.out 1
                have hns51_0 := NB361_381.out
                have hms51_0 := NB381_361.out
                have hs52 : w49.cell? ⟨gb381, 2, none⟩ = some (.int .i64 0) := (blk_cell BK381.out 2).trans rfl
                have hfs52 := blk_frozen BK381.out 2
                have hns52_0 := NB361_381.out
                have hms52_0 := NB381_361.out
                have hs53 : w49.cell? ⟨gb381, 3, none⟩ = some (.int .i64 0) := (blk_cell BK381.out 3).trans rfl
                have hfs53 := blk_frozen BK381.out 3
                have hns53_0 := NB361_381.out
                have hms53_0 := NB381_361.out
                have hs54 : w49.cell? ⟨gb381, 4, none⟩ = some (.int .i64 0) := (blk_cell BK381.out 4).trans rfl
                have hfs54 := blk_frozen BK381.out 4
                have hns54_0 := NB361_381.out
                have hms54_0 := NB381_361.out
                have hs55 : w49.cell? ⟨gb381, 5, none⟩ = some (.int .i64 0) := (blk_cell BK381.out 5).trans rfl
                have hfs55 := blk_frozen BK381.out 5
                have hns55_0 := NB361_381.out
                have hms55_0 := NB381_361.out
                have hs56 : w49.cell? ⟨gb381, 6, none⟩ = some (.int .i64 0) := (blk_cell BK381.out 6).trans rfl
                have hfs56 := blk_frozen BK381.out 6
                have hns56_0 := NB361_381.out
                have hms56_0 := NB381_361.out
                have hs57 : w49.cell? ⟨gb381, 7, none⟩ = some (.int .i64 0) := (blk_cell BK381.out 7).trans rfl
                have hfs57 := blk_frozen BK381.out 7
                have hns57_0 := NB361_381.out
                have hms57_0 := NB381_361.out
                have hs58 : w49.cell? ⟨gb381, 8, none⟩ = some (.int .i64 0) := (blk_cell BK381.out 8).trans rfl
                have hfs58 := blk_frozen BK381.out 8
                have hns58_0 := NB361_381.out
                have hms58_0 := NB381_361.out
                have hs59 : w49.cell? ⟨gb381, 9, none⟩ = some (.int .i64 0) := (blk_cell BK381.out 9).trans rfl
                have hfs59 := blk_frozen BK381.out 9
                have hns59_0 := NB361_381.out
                have hms59_0 := NB381_361.out
                refine skip_ (w1 := ?_) (by rfl) rfl ?_ ?_
                rotate_left
                ·go_simp
                 rfl
                have zb_ := Aside0.mk (Kd.own_blk (Kd.R_ne HO_4.out BK381.out (by decide)))
                refine hK.out _ _ ⟨(sqJz10 hHeld.1), (sqJz10 hHeld.2.1), (sqJz10 hHeld.2.2.1), (sqJz10 hHeld.2.2.2.1), (sqJz10 hHeld.2.2.2.2.1), (sqJz10 hHeld.2.2.2.2.2.1), (sqJz10 hHeld.2.2.2.2.2.2.1), (sqJz10 hHeld.2.2.2.2.2.2.2.1), (sqJz10 hHeld.2.2.2.2.2.2.2.2.1), (sqJz10 hHeld.2.2.2.2.2.2.2.2.2)⟩ (fun hHeld => ?_)
                clear hK K
                refine done_ (done_of HT_.out (by kernel_rfl)) ?_
                have hnb60 := NB381_361.out
                have hnc60 := NB361_381.out
                obtain ⟨hcz61_0, hcz61_1, hcz61_2, hcz61_3, hcz61_4, hcz61_5, hcz61_6, hcz61_7, hcz61_8, hcz61_9, hfz61_0, hfz61_1, hfz61_2, hfz61_3, hfz61_4, hfz61_5, hfz61_6, hfz61_7, hfz61_8, hfz61_9⟩ := sqC10 BK381
                try go_wp2_with (first | ((with_reducible refine gate_callee (f := 15) rfl ?_); refine goesL_ (some 66) rfl rfl Try.func15 (by kernel_rfl) rfl #[.agg #[.int .i64 (rd x4_1 0), .int .i64 (rd x4_1 1), .int .i64 (rd x4_1 2), .int .i64 (rd x4_1 3), .int .i64 (rd x4_1 4), .int .i64 (rd x4_1 5), .int .i64 (rd x4_1 6), .int .i64 (rd x4_1 7), .int .i64 (rd x4_1 8), .int .i64 (rd x4_1 9)]] rfl sqA ?_; (with_reducible refine (spec_CredOk.calls k1 (rd x4_1 0) (rd x4_1 1) (rd x4_1 2) (rd x4_1 3) (rd x4_1 4) (rd x4_1 5) (rd x4_1 6) (rd x4_1 7) (rd x4_1 8) (rd x4_1 9) true _ A23.out).mono ?_); rintro e w62 ⟨rfl, hb⟩; refine ⟨_, rfl, ?_⟩; replace HO_4 := Aside0.mk (Kd.R_below (by (with_reducible repeat (first | apply Kd.R_alloc | apply Kd.R_drewN | apply Kd.R_drew)); exact (Kd.R_mono (Kd.R_far (p := ⟨gb381, 9, none⟩) (Kd.R_far (p := ⟨gb381, 8, none⟩) (Kd.R_far (p := ⟨gb381, 7, none⟩) (Kd.R_far (p := ⟨gb381, 6, none⟩) (Kd.R_far (p := ⟨gb381, 5, none⟩) (Kd.R_far (p := ⟨gb381, 4, none⟩) (Kd.R_far (p := ⟨gb381, 3, none⟩) (Kd.R_far (p := ⟨gb381, 2, none⟩) (Kd.R_far (p := ⟨gb381, 1, none⟩) (Kd.R_far (p := ⟨gb381, 0, none⟩) (Kd.R_types HO_4.out BK381.out (by decide)) (fun _ hk => hk.2) (.int .i64 (rd x4_1 0))) (fun _ hk => hk.2) (.int .i64 (rd x4_1 1))) (fun _ hk => hk.2) (.int .i64 (rd x4_1 2))) (fun _ hk => hk.2) (.int .i64 (rd x4_1 3))) (fun _ hk => hk.2) (.int .i64 (rd x4_1 4))) (fun _ hk => hk.2) (.int .i64 (rd x4_1 5))) (fun _ hk => hk.2) (.int .i64 (rd x4_1 6))) (fun _ hk => hk.2) (.int .i64 (rd x4_1 7))) (fun _ hk => hk.2) (.int .i64 (rd x4_1 8))) (fun _ hk => hk.2) (.int .i64 (rd x4_1 9))) (fun _ h_ => h_.1))) hb); replace BK361 := sqLW (o' := .cells #[.int .i64 x362000_1, .int .i64 x362001_1, .int .i64 x362002_1, .int .i64 x362003_1, .int .i64 x362004_1, .int .i64 x362005_1, .int .i64 x362006_1, .int .i64 x362007_1, .int .i64 x362008_1, .int .i64 x362009_1] 27 (0, 0)) BK361 hb; replace BK381 := sqLW (o' := .cells #[.int .i64 (rd x4_1 0), .int .i64 (rd x4_1 1), .int .i64 (rd x4_1 2), .int .i64 (rd x4_1 3), .int .i64 (rd x4_1 4), .int .i64 (rd x4_1 5), .int .i64 (rd x4_1 6), .int .i64 (rd x4_1 7), .int .i64 (rd x4_1 8), .int .i64 (rd x4_1 9)] 27 (0, 0)) BK381 hb; replace HB := sqS hb; (try clear hb); (try clear hb2); (try clear hk); (try clear hi); obtain ⟨hcz63_0, hcz63_1, hcz63_2, hcz63_3, hcz63_4, hcz63_5, hcz63_6, hcz63_7, hcz63_8, hcz63_9, hfz63_0, hfz63_1, hfz63_2, hfz63_3, hfz63_4, hfz63_5, hfz63_6, hfz63_7, hfz63_8, hfz63_9⟩ := sqC10 BK381) | (go_at_call 16; (with_reducible refine (spec_CredText.calls k1 (rd x4_1 0) (rd x4_1 1) (rd x4_1 2) (rd x4_1 3) (rd x4_1 4) (rd x4_1 5) (rd x4_1 6) (rd x4_1 7) (rd x4_1 8) (rd x4_1 9) t383 _ A25.out).mono ?_); rintro e w64 ⟨rfl, hb⟩; replace HO_4 := Aside0.mk (Kd.R_below (sqR HO_4) hb); replace BK361 := sqL BK361 hb; replace BK381 := sqL BK381 hb; replace HB := sqS hb; (try clear hb); (try clear hb2); (try clear hk); (try clear hi); obtain ⟨hcz65_0, hcz65_1, hcz65_2, hcz65_3, hcz65_4, hcz65_5, hcz65_6, hcz65_7, hcz65_8, hcz65_9, hfz65_0, hfz65_1, hfz65_2, hfz65_3, hfz65_4, hfz65_5, hfz65_6, hfz65_7, hfz65_8, hfz65_9⟩ := sqC10 BK361))
                refine bodyPost_ret (results_ct rfl _ _ gb361 27 #[.int .i64 0, .int .i64 0, .int .i64 0, .int .i64 0, .int .i64 0, .int .i64 0, .int .i64 0, .int .i64 0, .int .i64 0, .int .i64 0] (0, 0) _ rfl (sqW BK361) Try.underlying27 rfl (by kernel_rfl)) rfl ?_
                exact ⟨sqE, sqB⟩
              ·replace c24 := Bool.eq_false_iff.mpr c24
               subst c24
               have H1 : (some (0, 0, 0, 0, 0, 0, 0, 0, 0, 0, false)) = some (r1, r2, r3, r4, r5, r6, r7, r8, r9, r10, r11) := by rw [if_neg (show ¬ (false = true) by decide)] at H; exact H
               clear H
               have H := H1
               clear H1
               simp only [Option.some.injEq, Prod.mk.injEq] at H
               obtain ⟨rfl, rfl, rfl, rfl, rfl, rfl, rfl, rfl, rfl, rfl, rfl⟩ := H
               try go_wp2
               replace HO_4 := Aside0.mk (Kd.R_drew HO_4.out); replace BK361 := Aside0.mk (blk_drew BK361.out); replace HB := Aside0.mk (below_drew1 HB.out)
               obtain ⟨Ao67, co67, eo67⟩ := Kd.R_slice HO_4.out
               (first | subst eo67 | (injection eo67 with f1_ f2_ f3_; have f4_ := f1_.symm; have f5_ := f3_.symm; clear f1_ f2_ f3_; subst f4_; subst f5_))
               have p371 : 0 ≤ (0 : Int) := (by omega)
               have q371 : 0 < (x4_1.length : Int) := sqD
               obtain ⟨ad371, e371, hx371_0⟩ := Kd.at_int (Kd.R_reads' HO_4.out).2.2 0 p371 q371
               cases e371
               have qi371 : (0 < x4_1.length) = True := eq_true (by omega)
               (try rw [show ((0 : Int)).toNat = 0 from rfl] at hx371_0)
               (try rw [Addr.add_zero'] at hx371_0)
               replace p371 := eq_true p371
               replace q371 := eq_true q371
               have p372 : 0 ≤ (1 : Int) := (by omega)
               have q372 : 1 < (x4_1.length : Int) := sqD
               obtain ⟨ad372, e372, hx372_0⟩ := Kd.at_int (Kd.R_reads' HO_4.out).2.2 1 p372 q372
               obtain rfl : ad371 = ad372 := (by injection e372)
               (try simp only [show (1 : Int).toNat = 1 from rfl, Nat.reduceMul, Nat.reduceEqDiff, Go.Addr.add, ↓reduceIte] at hx372_0)
               have qi372 : (1 < x4_1.length) = True := eq_true (by omega)
               (try rw [show ((1 : Int)).toNat = 1 from rfl] at hx372_0)
               replace p372 := eq_true p372
               replace q372 := eq_true q372
               have p373 : 0 ≤ (2 : Int) := (by omega)
               have q373 : 2 < (x4_1.length : Int) := sqD
               obtain ⟨ad373, e373, hx373_0⟩ := Kd.at_int (Kd.R_reads' HO_4.out).2.2 2 p373 q373
               obtain rfl : ad371 = ad373 := (by injection e373)
               (try simp only [show (2 : Int).toNat = 2 from rfl, Nat.reduceMul, Nat.reduceEqDiff, Go.Addr.add, ↓reduceIte] at hx373_0)
               have qi373 : (2 < x4_1.length) = True := eq_true (by omega)
               (try rw [show ((2 : Int)).toNat = 2 from rfl] at hx373_0)
               replace p373 := eq_true p373
               replace q373 := eq_true q373
               have p374 : 0 ≤ (3 : Int) := (by omega)
               have q374 : 3 < (x4_1.length : Int) := sqD
               obtain ⟨ad374, e374, hx374_0⟩ := Kd.at_int (Kd.R_reads' HO_4.out).2.2 3 p374 q374
               obtain rfl : ad371 = ad374 := (by injection e374)
               (try simp only [show (3 : Int).toNat = 3 from rfl, Nat.reduceMul, Nat.reduceEqDiff, Go.Addr.add, ↓reduceIte] at hx374_0)
               have qi374 : (3 < x4_1.length) = True := eq_true (by omega)
               (try rw [show ((3 : Int)).toNat = 3 from rfl] at hx374_0)
               replace p374 := eq_true p374
               replace q374 := eq_true q374
               have p375 : 0 ≤ (4 : Int) := (by omega)
               have q375 : 4 < (x4_1.length : Int) := sqD
               obtain ⟨ad375, e375, hx375_0⟩ := Kd.at_int (Kd.R_reads' HO_4.out).2.2 4 p375 q375
               obtain rfl : ad371 = ad375 := (by injection e375)
               (try simp only [show (4 : Int).toNat = 4 from rfl, Nat.reduceMul, Nat.reduceEqDiff, Go.Addr.add, ↓reduceIte] at hx375_0)
               have qi375 : (4 < x4_1.length) = True := eq_true (by omega)
               (try rw [show ((4 : Int)).toNat = 4 from rfl] at hx375_0)
               replace p375 := eq_true p375
               replace q375 := eq_true q375
               have p376 : 0 ≤ (5 : Int) := (by omega)
               have q376 : 5 < (x4_1.length : Int) := sqD
               obtain ⟨ad376, e376, hx376_0⟩ := Kd.at_int (Kd.R_reads' HO_4.out).2.2 5 p376 q376
               obtain rfl : ad371 = ad376 := (by injection e376)
               (try simp only [show (5 : Int).toNat = 5 from rfl, Nat.reduceMul, Nat.reduceEqDiff, Go.Addr.add, ↓reduceIte] at hx376_0)
               have qi376 : (5 < x4_1.length) = True := eq_true (by omega)
               (try rw [show ((5 : Int)).toNat = 5 from rfl] at hx376_0)
               replace p376 := eq_true p376
               replace q376 := eq_true q376
               have p377 : 0 ≤ (6 : Int) := (by omega)
               have q377 : 6 < (x4_1.length : Int) := sqD
               obtain ⟨ad377, e377, hx377_0⟩ := Kd.at_int (Kd.R_reads' HO_4.out).2.2 6 p377 q377
               obtain rfl : ad371 = ad377 := (by injection e377)
               (try simp only [show (6 : Int).toNat = 6 from rfl, Nat.reduceMul, Nat.reduceEqDiff, Go.Addr.add, ↓reduceIte] at hx377_0)
               have qi377 : (6 < x4_1.length) = True := eq_true (by omega)
               (try rw [show ((6 : Int)).toNat = 6 from rfl] at hx377_0)
               replace p377 := eq_true p377
               replace q377 := eq_true q377
               have p378 : 0 ≤ (7 : Int) := (by omega)
               have q378 : 7 < (x4_1.length : Int) := sqD
               obtain ⟨ad378, e378, hx378_0⟩ := Kd.at_int (Kd.R_reads' HO_4.out).2.2 7 p378 q378
               obtain rfl : ad371 = ad378 := (by injection e378)
               (try simp only [show (7 : Int).toNat = 7 from rfl, Nat.reduceMul, Nat.reduceEqDiff, Go.Addr.add, ↓reduceIte] at hx378_0)
               have qi378 : (7 < x4_1.length) = True := eq_true (by omega)
               (try rw [show ((7 : Int)).toNat = 7 from rfl] at hx378_0)
               replace p378 := eq_true p378
               replace q378 := eq_true q378
               have p379 : 0 ≤ (8 : Int) := (by omega)
               have q379 : 8 < (x4_1.length : Int) := sqD
               obtain ⟨ad379, e379, hx379_0⟩ := Kd.at_int (Kd.R_reads' HO_4.out).2.2 8 p379 q379
               obtain rfl : ad371 = ad379 := (by injection e379)
               (try simp only [show (8 : Int).toNat = 8 from rfl, Nat.reduceMul, Nat.reduceEqDiff, Go.Addr.add, ↓reduceIte] at hx379_0)
               have qi379 : (8 < x4_1.length) = True := eq_true (by omega)
               (try rw [show ((8 : Int)).toNat = 8 from rfl] at hx379_0)
               replace p379 := eq_true p379
               replace q379 := eq_true q379
               have p380 : 0 ≤ (9 : Int) := (by omega)
               have q380 : 9 < (x4_1.length : Int) := sqD
               obtain ⟨ad380, e380, hx380_0⟩ := Kd.at_int (Kd.R_reads' HO_4.out).2.2 9 p380 q380
               obtain rfl : ad371 = ad380 := (by injection e380)
               (try simp only [show (9 : Int).toNat = 9 from rfl, Nat.reduceMul, Nat.reduceEqDiff, Go.Addr.add, ↓reduceIte] at hx380_0)
               have qi380 : (9 < x4_1.length) = True := eq_true (by omega)
               (try rw [show ((9 : Int)).toNat = 9 from rfl] at hx380_0)
               replace p380 := eq_true p380
               replace q380 := eq_true q380
               refine start_ (n := 36) (S := fun w' => w'.cell? ad371 = some (.int .i64 (rd x4_1 0)) ∧ w'.cell? ⟨ad371.block, ad371.off + 1, none⟩ = some (.int .i64 (rd x4_1 1)) ∧ w'.cell? ⟨ad371.block, ad371.off + 2, none⟩ = some (.int .i64 (rd x4_1 2)) ∧ w'.cell? ⟨ad371.block, ad371.off + 3, none⟩ = some (.int .i64 (rd x4_1 3)) ∧ w'.cell? ⟨ad371.block, ad371.off + 4, none⟩ = some (.int .i64 (rd x4_1 4)) ∧ w'.cell? ⟨ad371.block, ad371.off + 5, none⟩ = some (.int .i64 (rd x4_1 5)) ∧ w'.cell? ⟨ad371.block, ad371.off + 6, none⟩ = some (.int .i64 (rd x4_1 6)) ∧ w'.cell? ⟨ad371.block, ad371.off + 7, none⟩ = some (.int .i64 (rd x4_1 7)) ∧ w'.cell? ⟨ad371.block, ad371.off + 8, none⟩ = some (.int .i64 (rd x4_1 8)) ∧ w'.cell? ⟨ad371.block, ad371.off + 9, none⟩ = some (.int .i64 (rd x4_1 9))) (ds := []) (sqb 0 36) (by kernel_rfl) rfl rfl ⟨hx371_0, hx372_0, hx373_0, hx374_0, hx375_0, hx376_0, hx377_0, hx378_0, hx379_0, hx380_0⟩ (fun hHeld => ?_); refine with_tabW spec_ReadCred.tab11 spec_ReadCred.bits11 (fun HT_ HW_ => ?_)
               generalize wr.drew = w66 at HO_4 BK361 HB hx371_0 hx372_0 hx373_0 hx374_0 hx375_0 hx376_0 hx377_0 hx378_0 hx379_0 hx380_0 hHeld ⊢
               refine sqP (i := 0) (N := some 31) (sqb 1 35) rfl rfl (any_of HT_.out (by kernel_rfl)) ?_
               refine sqP (i := 1) (N := some 32) (sqb 2 34) rfl rfl (any_of HT_.out (by kernel_rfl)) ?_
               refine sqP (i := 3) (N := some 34) (sqr [2, 1, 1, 32]) rfl rfl (any_of HT_.out (by kernel_rfl)) ?_
               refine sqP (i := 4) (N := some 35) (sqr [2, 1, 2, 31]) rfl rfl (any_of HT_.out (by kernel_rfl)) ?_
               refine sqP (i := 6) (N := some 37) (sqr [2, 1, 2, 1, 1, 29]) rfl rfl (any_of HT_.out (by kernel_rfl)) ?_
               refine sqP (i := 7) (N := some 38) (sqr [2, 1, 2, 1, 2, 28]) rfl rfl (any_of HT_.out (by kernel_rfl)) ?_
               refine sqP (i := 10) (N := some 41) (sqr [2, 1, 2, 1, 2, 2, 1, 25]) rfl rfl (any_of HT_.out (by kernel_rfl)) ?_
               refine sqP (i := 11) (N := some 42) (sqr [2, 1, 2, 1, 2, 2, 2, 24]) rfl rfl (any_of HT_.out (by kernel_rfl)) ?_
               refine sqP (i := 13) (N := some 44) (sqr [2, 1, 2, 1, 2, 2, 2, 1, 1, 22]) rfl rfl (any_of HT_.out (by kernel_rfl)) ?_
               refine sqP (i := 14) (N := some 45) (sqr [2, 1, 2, 1, 2, 2, 2, 1, 2, 21]) rfl rfl (any_of HT_.out (by kernel_rfl)) ?_
               refine sqP (i := 16) (N := some 47) (sqr [2, 1, 2, 1, 2, 2, 2, 1, 2, 1, 1, 19]) rfl rfl (any_of HT_.out (by kernel_rfl)) ?_
               refine sqP (i := 17) (N := some 48) (sqr [2, 1, 2, 1, 2, 2, 2, 1, 2, 1, 2, 18]) rfl rfl (any_of HT_.out (by kernel_rfl)) ?_
               refine sqP (i := 20) (N := some 51) (sqr [2, 1, 2, 1, 2, 2, 2, 1, 2, 1, 2, 2, 1, 15]) rfl rfl (any_of HT_.out (by kernel_rfl)) ?_
               refine sqP (i := 21) (N := some 52) (sqr [2, 1, 2, 1, 2, 2, 2, 1, 2, 1, 2, 2, 2, 14]) rfl rfl (any_of HT_.out (by kernel_rfl)) ?_
               refine sqP (i := 23) (N := some 54) (sqr [2, 1, 2, 1, 2, 2, 2, 1, 2, 1, 2, 2, 2, 1, 1, 12]) rfl rfl (any_of HT_.out (by kernel_rfl)) ?_
               refine sqP (i := 24) (N := some 55) (sqr [2, 1, 2, 1, 2, 2, 2, 1, 2, 1, 2, 2, 2, 1, 2, 11]) rfl rfl (any_of HT_.out (by kernel_rfl)) ?_
               refine sqP (i := 27) (N := some 58) (sqr [2, 1, 2, 1, 2, 2, 2, 1, 2, 1, 2, 2, 2, 1, 2, 2, 1, 8]) rfl rfl (any_of HT_.out (by kernel_rfl)) ?_
               refine sqP (i := 28) (N := some 59) (sqr [2, 1, 2, 1, 2, 2, 2, 1, 2, 1, 2, 2, 2, 1, 2, 2, 2, 7]) rfl rfl (any_of HT_.out (by kernel_rfl)) ?_
               refine sqP (i := 30) (N := some 61) (sqr [2, 1, 2, 1, 2, 2, 2, 1, 2, 1, 2, 2, 2, 1, 2, 2, 2, 1, 1, 5]) rfl rfl (any_of HT_.out (by kernel_rfl)) ?_
               refine sqP (i := 31) (N := some 62) (sqr [2, 1, 2, 1, 2, 2, 2, 1, 2, 1, 2, 2, 2, 1, 2, 2, 2, 1, 2, 4]) rfl rfl (any_of HT_.out (by kernel_rfl)) ?_
               refine sqTk (i := 2) (N := some 33) (sqr [5, 1, 2, 2, 2, 1, 2, 1, 2, 2, 2, 1, 2, 2, 2, 1, 2, 4]) rfl rfl (take_ofW HT_.out HW_.out (by kernel_rfl)) hHeld ?_
               refine sqTk (i := 5) (N := some 36) (sqr [8, 2, 2, 1, 2, 1, 2, 2, 2, 1, 2, 2, 2, 1, 2, 4]) rfl rfl (take_ofW HT_.out HW_.out (by kernel_rfl)) hHeld ?_
               refine sqTk (i := 8) (N := some 39) (sqr [9, 1, 2, 1, 2, 1, 2, 2, 2, 1, 2, 2, 2, 1, 2, 4]) rfl rfl (take_ofW HT_.out HW_.out (by kernel_rfl)) hHeld ?_
               refine sqP (i := 9) (N := some 40) (sqr [12, 1, 2, 1, 2, 2, 2, 1, 2, 2, 2, 1, 2, 4]) rfl rfl (any_of HT_.out (by kernel_rfl)) ?_
               refine sqTk (i := 12) (N := some 43) (sqr [15, 1, 2, 2, 2, 1, 2, 2, 2, 1, 2, 4]) rfl rfl (take_ofW HT_.out HW_.out (by kernel_rfl)) hHeld ?_
               refine sqTk (i := 15) (N := some 46) (sqr [18, 2, 2, 1, 2, 2, 2, 1, 2, 4]) rfl rfl (take_ofW HT_.out HW_.out (by kernel_rfl)) hHeld ?_
               refine sqTk (i := 18) (N := some 49) (sqr [19, 1, 2, 1, 2, 2, 2, 1, 2, 4]) rfl rfl (take_ofW HT_.out HW_.out (by kernel_rfl)) hHeld ?_
               refine sqP (i := 19) (N := some 50) (sqr [22, 1, 2, 2, 2, 1, 2, 4]) rfl rfl (any_of HT_.out (by kernel_rfl)) ?_
               refine sqTk (i := 22) (N := some 53) (sqr [25, 2, 2, 1, 2, 4]) rfl rfl (take_ofW HT_.out HW_.out (by kernel_rfl)) hHeld ?_
               refine sqTk (i := 25) (N := some 56) (sqr [26, 1, 2, 1, 2, 4]) rfl rfl (take_ofW HT_.out HW_.out (by kernel_rfl)) hHeld ?_
               refine sqP (i := 26) (N := some 57) (sqr [29, 1, 2, 4]) rfl rfl (any_of HT_.out (by kernel_rfl)) ?_
               refine sqTk (i := 29) (N := some 60) (sqb 32 4) rfl rfl (take_ofW HT_.out HW_.out (by kernel_rfl)) hHeld ?_
               refine sqTk (i := 32) (N := some 63) (sqb 33 3) rfl rfl (take_ofW HT_.out HW_.out (by kernel_rfl)) hHeld ?_
               refine sqP (i := 33) (N := some 64) (sqb 34 2) rfl rfl (any_of HT_.out (by kernel_rfl)) ?_
               refine one_ (i := 34) (N := some 10) (sqb 35 1) rfl rfl (one_of HT_.out (by kernel_rfl)) (by decide) (fun K hK => ?_)
               refine box_step ?hg (N := 10) ?hd (cs := #[.int .i64 0, .int .i64 0, .int .i64 0, .int .i64 0, .int .i64 0, .int .i64 0, .int .i64 0, .int .i64 0, .int .i64 0, .int .i64 0]) (t := 27) ?hr ?_; (case hd => rfl); (case hg => rfl); (case hr => first | (go_simp; done) | (go_simp; rfl))
               intro gb381 hg w68 hbox hb
               have HS0_ := (hb.cell (World.block_lt_of_cell? _ _ (hHeld.1))).trans (hHeld.1)
               have HS1_ := (hb.cell (World.block_lt_of_cell? _ _ (hHeld.2.1))).trans (hHeld.2.1)
               have HS2_ := (hb.cell (World.block_lt_of_cell? _ _ (hHeld.2.2.1))).trans (hHeld.2.2.1)
               have HS3_ := (hb.cell (World.block_lt_of_cell? _ _ (hHeld.2.2.2.1))).trans (hHeld.2.2.2.1)
               have HS4_ := (hb.cell (World.block_lt_of_cell? _ _ (hHeld.2.2.2.2.1))).trans (hHeld.2.2.2.2.1)
               have HS5_ := (hb.cell (World.block_lt_of_cell? _ _ (hHeld.2.2.2.2.2.1))).trans (hHeld.2.2.2.2.2.1)
               have HS6_ := (hb.cell (World.block_lt_of_cell? _ _ (hHeld.2.2.2.2.2.2.1))).trans (hHeld.2.2.2.2.2.2.1)
               have HS7_ := (hb.cell (World.block_lt_of_cell? _ _ (hHeld.2.2.2.2.2.2.2.1))).trans (hHeld.2.2.2.2.2.2.2.1)
               have HS8_ := (hb.cell (World.block_lt_of_cell? _ _ (hHeld.2.2.2.2.2.2.2.2.1))).trans (hHeld.2.2.2.2.2.2.2.2.1)
               have HS9_ := (hb.cell (World.block_lt_of_cell? _ _ (hHeld.2.2.2.2.2.2.2.2.2))).trans (hHeld.2.2.2.2.2.2.2.2.2)
               replace HO_4 := Aside0.mk (Kd.R_below (sqR HO_4) hb); have BK381 := Aside0.mk (hbox); have GW381 := sqG hg; have GE381 := sqG hg; have NB361_381 := sqN BK361 hg; have NB381_361 := sqM BK361 hg; replace BK361 := sqL BK361 hb; replace HB := sqS hb
               clear hb hbox hg
               refine hK.out _ _ ⟨HS0_, HS1_, HS2_, HS3_, HS4_, HS5_, HS6_, HS7_, HS8_, HS9_⟩ (fun hHeld => ?_)
               clear hK K
               refine sqV (N := some 10) ?_
               refine one_ (i := 35) (N := none) (sqb 36 0) rfl rfl (one_of HT_.out (by kernel_rfl)) (by decide) (fun K hK => ?_)
               have hs69 : w68.cell? ⟨gb381, 0, none⟩ = some (.int .i64 0) := (blk_cell BK381.out 0).trans rfl
               have hfs69 := blk_frozen BK381.out 0
               have hns69_0 := NB361_381.out
               have hms69_0 := NB381_361.out
               have hs70 : w68.cell? ⟨gb381, 1, none⟩ = some (.int .i64 0) := (blk_cell BK381.out 1).trans rfl
               have hfs70 := blk_frozen BK381.out 1
               have hns70_0 := NB361_381.out
               have hms70_0 := NB381_361.out
               have hs71 : w68.cell? ⟨gb381, 2, none⟩ = some (.int .i64 0) := (blk_cell BK381.out 2).trans rfl
               have hfs71 := blk_frozen BK381.out 2
               have hns71_0 := NB361_381.out
               have hms71_0 := NB381_361.out
               have hs72 : w68.cell? ⟨gb381, 3, none⟩ = some (.int .i64 0) := (blk_cell BK381.out 3).trans rfl
               have hfs72 := blk_frozen BK381.out 3
               have hns72_0 := NB361_381.out
               have hms72_0 := NB381_361.out
               have hs73 : w68.cell? ⟨gb381, 4, none⟩ = some (.int .i64 0) := (blk_cell BK381.out 4).trans rfl
               have hfs73 := blk_frozen BK381.out 4
               have hns73_0 := NB361_381.out
               have hms73_0 := NB381_361.out
               have hs74 : w68.cell? ⟨gb381, 5, none⟩ = some (.int .i64 0) := (blk_cell BK381.out 5).trans rfl
               have hfs74 := blk_frozen BK381.out 5
               have hns74_0 := NB361_381.out
               have hms74_0 := NB381_361.out
               have hs75 : w68.cell? ⟨gb381, 6, none⟩ = some (.int .i64 0) := (blk_cell BK381.out 6).trans rfl
               have hfs75 := blk_frozen BK381.out 6
               have hns75_0 := NB361_381.out
               have hms75_0 := NB381_361.out
               have hs76 : w68.cell? ⟨gb381, 7, none⟩ = some (.int .i64 0) := (blk_cell BK381.out 7).trans rfl
               have hfs76 := blk_frozen BK381.out 7
               have hns76_0 := NB361_381.out
               have hms76_0 := NB381_361.out
               have hs77 : w68.cell? ⟨gb381, 8, none⟩ = some (.int .i64 0) := (blk_cell BK381.out 8).trans rfl
               have hfs77 := blk_frozen BK381.out 8
               have hns77_0 := NB361_381.out
               have hms77_0 := NB381_361.out
               have hs78 : w68.cell? ⟨gb381, 9, none⟩ = some (.int .i64 0) := (blk_cell BK381.out 9).trans rfl
               have hfs78 := blk_frozen BK381.out 9
               have hns78_0 := NB361_381.out
               have hms78_0 := NB381_361.out
               refine skip_ (w1 := ?_) (by rfl) rfl ?_ ?_
               rotate_left
               ·go_simp
                rfl
               have zb_ := Aside0.mk (Kd.own_blk (Kd.R_ne HO_4.out BK381.out (by decide)))
               refine hK.out _ _ ⟨(sqJz10 hHeld.1), (sqJz10 hHeld.2.1), (sqJz10 hHeld.2.2.1), (sqJz10 hHeld.2.2.2.1), (sqJz10 hHeld.2.2.2.2.1), (sqJz10 hHeld.2.2.2.2.2.1), (sqJz10 hHeld.2.2.2.2.2.2.1), (sqJz10 hHeld.2.2.2.2.2.2.2.1), (sqJz10 hHeld.2.2.2.2.2.2.2.2.1), (sqJz10 hHeld.2.2.2.2.2.2.2.2.2)⟩ (fun hHeld => ?_)
               clear hK K
               refine done_ (done_of HT_.out (by kernel_rfl)) ?_
               have hnb79 := NB381_361.out
               have hnc79 := NB361_381.out
               obtain ⟨hcz80_0, hcz80_1, hcz80_2, hcz80_3, hcz80_4, hcz80_5, hcz80_6, hcz80_7, hcz80_8, hcz80_9, hfz80_0, hfz80_1, hfz80_2, hfz80_3, hfz80_4, hfz80_5, hfz80_6, hfz80_7, hfz80_8, hfz80_9⟩ := sqC10 BK381
               try go_wp2_with (first | ((with_reducible refine gate_callee (f := 15) rfl ?_); refine goesL_ (some 66) rfl rfl Try.func15 (by kernel_rfl) rfl #[.agg #[.int .i64 (rd x4_1 0), .int .i64 (rd x4_1 1), .int .i64 (rd x4_1 2), .int .i64 (rd x4_1 3), .int .i64 (rd x4_1 4), .int .i64 (rd x4_1 5), .int .i64 (rd x4_1 6), .int .i64 (rd x4_1 7), .int .i64 (rd x4_1 8), .int .i64 (rd x4_1 9)]] rfl sqA ?_; (with_reducible refine (spec_CredOk.calls k1 (rd x4_1 0) (rd x4_1 1) (rd x4_1 2) (rd x4_1 3) (rd x4_1 4) (rd x4_1 5) (rd x4_1 6) (rd x4_1 7) (rd x4_1 8) (rd x4_1 9) false _ A23.out).mono ?_); rintro e w81 ⟨rfl, hb⟩; refine ⟨_, rfl, ?_⟩; replace HO_4 := Aside0.mk (Kd.R_below (by (with_reducible repeat (first | apply Kd.R_alloc | apply Kd.R_drewN | apply Kd.R_drew)); exact (Kd.R_mono (Kd.R_far (p := ⟨gb381, 9, none⟩) (Kd.R_far (p := ⟨gb381, 8, none⟩) (Kd.R_far (p := ⟨gb381, 7, none⟩) (Kd.R_far (p := ⟨gb381, 6, none⟩) (Kd.R_far (p := ⟨gb381, 5, none⟩) (Kd.R_far (p := ⟨gb381, 4, none⟩) (Kd.R_far (p := ⟨gb381, 3, none⟩) (Kd.R_far (p := ⟨gb381, 2, none⟩) (Kd.R_far (p := ⟨gb381, 1, none⟩) (Kd.R_far (p := ⟨gb381, 0, none⟩) (Kd.R_types HO_4.out BK381.out (by decide)) (fun _ hk => hk.2) (.int .i64 (rd x4_1 0))) (fun _ hk => hk.2) (.int .i64 (rd x4_1 1))) (fun _ hk => hk.2) (.int .i64 (rd x4_1 2))) (fun _ hk => hk.2) (.int .i64 (rd x4_1 3))) (fun _ hk => hk.2) (.int .i64 (rd x4_1 4))) (fun _ hk => hk.2) (.int .i64 (rd x4_1 5))) (fun _ hk => hk.2) (.int .i64 (rd x4_1 6))) (fun _ hk => hk.2) (.int .i64 (rd x4_1 7))) (fun _ hk => hk.2) (.int .i64 (rd x4_1 8))) (fun _ hk => hk.2) (.int .i64 (rd x4_1 9))) (fun _ h_ => h_.1))) hb); replace BK361 := sqLW (o' := .cells #[.int .i64 x362000_1, .int .i64 x362001_1, .int .i64 x362002_1, .int .i64 x362003_1, .int .i64 x362004_1, .int .i64 x362005_1, .int .i64 x362006_1, .int .i64 x362007_1, .int .i64 x362008_1, .int .i64 x362009_1] 27 (0, 0)) BK361 hb; replace BK381 := sqLW (o' := .cells #[.int .i64 (rd x4_1 0), .int .i64 (rd x4_1 1), .int .i64 (rd x4_1 2), .int .i64 (rd x4_1 3), .int .i64 (rd x4_1 4), .int .i64 (rd x4_1 5), .int .i64 (rd x4_1 6), .int .i64 (rd x4_1 7), .int .i64 (rd x4_1 8), .int .i64 (rd x4_1 9)] 27 (0, 0)) BK381 hb; replace HB := sqS hb; (try clear hb); (try clear hb2); (try clear hk); (try clear hi); obtain ⟨hcz82_0, hcz82_1, hcz82_2, hcz82_3, hcz82_4, hcz82_5, hcz82_6, hcz82_7, hcz82_8, hcz82_9, hfz82_0, hfz82_1, hfz82_2, hfz82_3, hfz82_4, hfz82_5, hfz82_6, hfz82_7, hfz82_8, hfz82_9⟩ := sqC10 BK361))
               refine bodyPost_ret (results_ct rfl _ _ gb361 27 #[.int .i64 0, .int .i64 0, .int .i64 0, .int .i64 0, .int .i64 0, .int .i64 0, .int .i64 0, .int .i64 0, .int .i64 0, .int .i64 0] (0, 0) _ rfl (sqW BK361) Try.underlying27 rfl (by kernel_rfl)) rfl ?_
               exact ⟨sqE, sqB⟩
             ·rw [if_neg c22] at H
              exact absurd H (by simp)
            ·rw [if_neg c21] at H
             exact absurd H (by simp)
           ·rw [if_neg c20] at H
            exact absurd H (by simp)
          ·rw [if_neg c19] at H
           exact absurd H (by simp)
         ·rw [if_neg c18] at H
          exact absurd H (by simp)
        ·rw [if_neg c17] at H
         exact absurd H (by simp)
       ·rw [if_neg c16] at H
        exact absurd H (by simp)
      ·rw [if_neg c15] at H
       exact absurd H (by simp)
     ·rw [if_neg c14] at H
      exact absurd H (by simp)
    ·rw [if_neg c13] at H
     exact absurd H (by simp)

end Go.Proofs.Ythodhbgocnbddaa.PFnWords
