/- What the code that one law of the given program reaches computes, function by function, each with its proof over the given translation.
Conditions: none of our own. (Laid by a program of this session, wip/xp/xp.py; some contracts are typed by hand.) -/
import Derived.Test.YthodhbgocnbddaaPFnWordsx0
import Derived.Test.YthodhbgocnbddaaPFnWordsx3
import Derived.Test.YthodhbgocnbddaaPFnWordsx8
namespace Go.Proofs.Ythodhbgocnbddaa.PFnWords
open Go.RowKit Go.Proofs.YthodhbgocnbddaaW.PrintWords Go.Proofs.YthodhbgocnbddaaW.PrintLast Go.Proofs.YthodhbgocnbddaaW.PrintMore
attribute [local go_sem] max2_int min2_int max_two min_two max_three min_three max_four min_four   -- for this text's walks alone
set_option linter.unusedVariables false
set_option linter.unusedSimpArgs false

/-! ### spec_l01Text: function 41 -/
mutual
def spec_l01Text.j0 : Nat → Int → List Int → Int → Int → Option (ByteArray × Int × Int)
 | 0, _, _, _, _ => none
 | k + 1, x1, x1000, x1001, x1002 => spec_l01Text.l0 k x1 (([] : List Int)) 0 x1000 x1001 x1002
def spec_l01Text.l0 : Nat → Int → List Int → Int → List Int → Int → Int → Option (ByteArray × Int × Int)
 | 0, _, _, _, _, _, _ => none
 | k + 1, x1, x5, x6, x1000, x1001, x1002 => if x6 < x1 then ((spec_l01Byte.f x1000 x1001 x1002).bind fun bt315 => (if x5.length < 140737488355328 then (spec_l01Text.l0 k x1 (x5 ++ [(bt315.1) % 256]) (wrap64 (x6 + 1)) x1000 bt315.2.1 bt315.2.2) else (none))) else (some (strOfNums x5, x1001, x1002))
end
def spec_l01Text.f (k : Nat) (s0_0 : List Int) (s0_1 : Int) (s0_2 : Int) (a1 : Int) : Option (ByteArray × Int × Int) := if a1 > 5000 then (spec_l01Text.j0 k 5000 s0_0 s0_1 s0_2) else (spec_l01Text.j0 k a1 s0_0 s0_1 s0_2)
theorem spec_l01Text.mono_l : ∀ k, (∀ y0 y1 y2 y3, LeO (spec_l01Text.j0 k y0 y1 y2 y3) (spec_l01Text.j0 (k + 1) y0 y1 y2 y3)) ∧ (∀ y0 y1 y2 y3 y4 y5, LeO (spec_l01Text.l0 k y0 y1 y2 y3 y4 y5) (spec_l01Text.l0 (k + 1) y0 y1 y2 y3 y4 y5))
 | 0 => ⟨fun _ _ _ _ r h => by simp [spec_l01Text.j0] at h, fun _ _ _ _ _ _ r h => by simp [spec_l01Text.l0] at h⟩
 | k + 1 => by
  obtain ⟨ih0, ih1⟩ := spec_l01Text.mono_l k
  refine ⟨?_, ?_⟩
  ·intro y0 y1 y2 y3
   unfold spec_l01Text.j0
   repeat' first
   | (with_reducible exact ih0 _ _ _ _)
   | (with_reducible exact ih1 _ _ _ _ _ _)
   | (with_reducible exact LeO.refl _)
   | (with_reducible exact LeO.none _)
   | (with_reducible refine LeO.ite ?_ ?_)
   | (with_reducible refine LeO.bind ?_ (fun _ => ?_))
   | exact ih0 _ _ _ _
   | exact ih1 _ _ _ _ _ _
   | exact LeO.none _
   | refine LeO.ite ?_ ?_
   | refine LeO.bind ?_ (fun _ => ?_)
  ·intro y0 y1 y2 y3 y4 y5
   unfold spec_l01Text.l0
   repeat' first
   | (with_reducible exact ih0 _ _ _ _)
   | (with_reducible exact ih1 _ _ _ _ _ _)
   | (with_reducible exact LeO.refl _)
   | (with_reducible exact LeO.none _)
   | (with_reducible refine LeO.ite ?_ ?_)
   | (with_reducible refine LeO.bind ?_ (fun _ => ?_))
   | exact ih0 _ _ _ _
   | exact ih1 _ _ _ _ _ _
   | exact LeO.none _
   | refine LeO.ite ?_ ?_
   | refine LeO.bind ?_ (fun _ => ?_)
theorem spec_l01Text.mono : ∀ a0 a1 a2 a3 k, LeO (spec_l01Text.f k a0 a1 a2 a3) (spec_l01Text.f (k + 1) a0 a1 a2 a3) := by
 intro a0 a1 a2 a3 k
 obtain ⟨ih0, ih1⟩ := spec_l01Text.mono_l k
 unfold spec_l01Text.f
 repeat' first
   | (with_reducible exact ih0 _ _ _ _)
   | (with_reducible exact ih1 _ _ _ _ _ _)
   | (with_reducible exact LeO.refl _)
   | (with_reducible exact LeO.none _)
   | (with_reducible refine LeO.ite ?_ ?_)
   | (with_reducible refine LeO.bind ?_ (fun _ => ?_))
   | exact ih0 _ _ _ _
   | exact ih1 _ _ _ _ _ _
   | exact LeO.none _
   | refine LeO.ite ?_ ?_
   | refine LeO.bind ?_ (fun _ => ?_)
set_option maxHeartbeats 8000000 in
set_option maxRecDepth 100000 in
theorem spec_l01Text.calls (k : Nat) (g : Nat) (s0_0 : List Int) (s0_1 : Int) (s0_2 : Int) (a1 : Int) (r1 : ByteArray) (r2 : Int) (r3 : Int) (w0 w : World) (hI : IsS58 w0 w g s0_0 s0_1 s0_2) (hB : Below w0.heap.size w0 w) (h : spec_l01Text.f k s0_0 s0_1 s0_2 a1 = some (r1, r2, r3)) :
  Calls Try.prog 41 #[.pointer (some ⟨g, 0, none⟩), .int .i64 a1] w fun e w' => e = .returned (.string r1) ∧ IsS58 w0 w' g s0_0 r2 r3 ∧ Below w0.heap.size w0 w' ∧ KeepBut w w' g none := by
 have HI0 := Aside0.mk hI
 have HK := Aside0.mk (KeepBut.refl w g none)
 have HL := Aside0.mk hB.size
 clear hI
 have HW0 := Aside0.mk hB.size
 have HB := Aside0.mk hB
 clear hB
 have H : (if a1 > 5000 then (spec_l01Text.j0 k 5000 s0_0 s0_1 s0_2) else (spec_l01Text.j0 k a1 s0_0 s0_1 s0_2)) = some (r1, r2, r3) := h
 clear h
 have HC3 := Aside0.mk H
 clear H
 go_enter Try.func41, Try.ntmps41
 go_upto_if 8 with (fail)
 go_cut [1] (fun v1 wc => ∃ (kq : Nat) (x1_2 : Int), v1 = .int .i64 x1_2 ∧ Aside0 (spec_l01Text.j0 kq x1_2 s0_0 s0_1 s0_2 = some (r1, r2, r3)) ∧ Aside0 (kq ≤ k) ∧ Aside0 (IsS58 w0 wc g s0_0 s0_1 s0_2) ∧ Aside0 (KeepBut w wc g none) ∧ Aside0 (Below w0.heap.size w0 wc))
 case first =>
  have H := HC3.out
  clear HC3
  by_cases c4 : a1 > 5000
  ·rw [if_pos c4] at H
   have c4b0 : decide (5000 < a1) = true := decide_eq_true c4
   clear c4
   (first | rw [c4b0] | (simp only [i64_w, i32_w]; rw [c4b0]) | skip)
   have H' := Aside0.mk H
   clear H
   go_wp2
   go_meet
   case rel => exact ⟨_, (5000), (by first | rfl | (simp; done) | (simp [*]; done)), H', ⟨by first | omega | exact Nat.le_refl _⟩, ⟨sqI58 HI0⟩, ⟨sqQ HK⟩, ⟨sqB⟩⟩
  ·rw [if_neg c4] at H
   have c4b0 : decide (5000 < a1) = false := decide_eq_false c4
   clear c4
   (first | rw [c4b0] | (simp only [i64_w, i32_w]; rw [c4b0]) | skip)
   have H' := Aside0.mk H
   clear H
   go_wp2
   go_meet
   case rel => exact ⟨_, (a1), (by first | rfl | (simp; done) | (simp [*]; done)), H', ⟨by first | omega | exact Nat.le_refl _⟩, ⟨sqI58 HI0⟩, ⟨sqQ HK⟩, ⟨sqB⟩⟩
 case rest =>
  clear HC3
  try clear p2
  try clear c4
  try clear c4b0
  obtain ⟨kq, x1_2, rfl, HA, HJ2, HI0, HK, HB⟩ := hcut
  cases kq with
  | zero => exact absurd HA.out (by simp [spec_l01Text.j0])
  | succ kj2 =>
   have H := HA.out
   clear HA
   simp only [spec_l01Text.j0] at H
   obtain ⟨y312, hy312⟩ : ∃ y_ : List Int, y_ = (([] : List Int)) := ⟨_, rfl⟩
   replace H : (spec_l01Text.l0 kj2 x1_2 y312 0 s0_0 s0_1 s0_2) = some (r1, r2, r3) := by first | (rw [hy312]; with_reducible exact H) | (have H2_ := (Option.bind_some _ _).symm.trans H; rw [hy312]; with_reducible exact H2_) | (have H2_ := (Option.bind_some _ _).symm.trans H; with_reducible exact H2_) | with_reducible exact H | (rw [hy312]; exact H) | exact H
   have Ny312 := Aside0.mk hy312
   clear hy312
   have H' := Aside0.mk H
   clear H
   go_wp2_with (first | ((with_reducible refine gate_dst (N := 9) rfl ?_); refine Kd.R_lit (Kd.int .u8) _ 5 ?hg (N := 9) ?hd (xs := ([] : List Int)) (inner := []) (ok := fun _ => True) (okp := fun _ => True) ?hr ?hp (fun _ hk => hk) trivial (Below.refl _ _) (Nat.le_refl _) (by simp) ?_; (case hd => rfl); (case hg => rfl); (case hr => first | (go_simp; done) | (go_simp; rfl)); (case hp => exact (Reps.none _ _)); intro v313 w5 ho6 hb hg_ hnew_; clear hg_ hnew_; (first | rw [← Ny312.out] at ho6 | (simp only [Int.reduceToNat] at ho6; rw [← Ny312.out] at ho6)); have HO314 := Aside0.mk (Kd.R_lower ho6 (keep_size (w := w) (g := g) (row := none) (sqQ HK))); replace HI0 := Aside0.mk (IsS58.below (sqI58 HI0) hb); replace HK := sqT HK hb; replace HB := sqS hb; clear hb ho6))
   go_loopg [5, 6] kj2 (fun kq v5 v6 w' => ∃ (x5_2 : List Int) (x6_2 : Int) (x1001_2 : Int) (x1002_2 : Int), v6 = .int .i64 x6_2 ∧ Aside0 (spec_l01Text.l0 kq x1_2 x5_2 x6_2 s0_0 x1001_2 x1002_2 = some (r1, r2, r3)) ∧ Aside0 (kq ≤ kj2) ∧ Aside0 (Kd.R (Kd.int .u8) 5 w' w.heap.size (fun _ => True) v5 x5_2) ∧ Aside0 (IsS58 w0 w' g s0_0 x1001_2 x1002_2) ∧ Aside0 (KeepBut w w' g none) ∧ Aside0 (Below w0.heap.size w0 w'))
   case atStart => exact ⟨(y312), (0), (s0_1), (s0_2), (by first | rfl | (simp; done) | (simp [*]; done)), H', ⟨Nat.le_refl _⟩, ⟨sqR HO314⟩, ⟨sqI58 HI0⟩, ⟨sqQ HK⟩, ⟨sqB⟩⟩
   case round =>
    clear H'
    try clear p2
    try clear c4
    try clear c4b0
    try clear p2
    obtain ⟨x5_2, x6_2, x1001_2, x1002_2, rfl, HA, HK2, HO_5, HI0, HK, HB⟩ := hrel
    cases gk with
    | zero => exact absurd HA.out (by simp [spec_l01Text.l0])
    | succ k2 =>
     have H := HA.out
     clear HA
     simp only [spec_l01Text.l0] at H
     by_cases c7 : x6_2 < x1_2
     ·rw [if_pos c7] at H
      have c7b0 : decide (x6_2 < x1_2) = true := decide_eq_true c7
      clear c7
      replace H := Option.bind_eq_some_iff.mp H
      obtain ⟨⟨t315, t316, t317⟩, A80, H⟩ := H
      try dsimp only at H
      have A8 := Aside0.mk A80
      clear A80
      by_cases c9 : x5_2.length < 140737488355328
      ·rw [if_pos c9] at H
       have LMc9 := Aside0.mk c9
       clear c9
       obtain ⟨y318, hy318⟩ : ∃ y_ : List Int, y_ = (x5_2 ++ [(t315) % 256]) := ⟨_, rfl⟩
       replace H : (spec_l01Text.l0 k2 x1_2 y318 (wrap64 (x6_2 + 1)) s0_0 t316 t317) = some (r1, r2, r3) := by first | (rw [hy318]; with_reducible exact H) | (have H2_ := (Option.bind_some _ _).symm.trans H; rw [hy318]; with_reducible exact H2_) | (have H2_ := (Option.bind_some _ _).symm.trans H; with_reducible exact H2_) | with_reducible exact H | (rw [hy318]; exact H) | exact H
       have Ny318 := Aside0.mk hy318
       clear hy318
       have H' := Aside0.mk H
       clear H
       go_wp2_with (first | ((with_reducible refine gate_callee (f := 49) rfl ?_); refine goesL_ (some 17) rfl rfl Try.func49 (by kernel_rfl) rfl #[.pointer (some ⟨g, 0, none⟩)] rfl sqA ?_; (with_reducible refine (spec_l01Byte.calls g s0_0 x1001_2 x1002_2 t315 t316 t317 w0 _ ?side1 ?side2 A8.out).mono ?_); (case side1 => exact sqI58 HI0); (case side2 => exact sqB); rintro e w10 ⟨rfl, hi, hb, hk⟩; refine ⟨_, rfl, ?_⟩; replace HO_5 := Aside0.mk (Kd.R_mono (Kd.R_keep (IsS58.apart (show IsS58 w0 _ g s0_0 x1001_2 x1002_2 from sqI58 HI0) (sqR HO_5) (by decide)) hk (fun _ h => h.2)) (fun _ h => h.1)); replace HK := Aside0.mk (KeepBut.trans (sqQ HK) hk (.inl rfl)); replace HI0 := Aside0.mk (hi); replace HB := Aside0.mk (hb); (try clear hb); (try clear hb2); (try clear hk); (try clear hi)) | ((with_reducible refine gate_builtin (b := .append) (xs := #[.tmp 15, .tmp 19]) rfl ?_); at_builtin; refine Kd.R_append (Kd.int .u8) w.heap.size rfl (.tmp 15) (.tmp 19) 22 5 (.int .u8 0) 1 rfl Try.underlying22 info5 rfl (by decide) (by omega) u5 x5_2 ((t315) % 256) [.int .u8 ((t315) % 256)] (fun _ => True) (fun _ => False) rfl rfl ?aP (fun _ hk => hk.elim) ?aF ?aO (Below.refl _ _) ?aS ?aL ?_; (case aP => exact rfl); (case aF => exact (fun _ _ => trivial)); (case aO => exact (sqR HO_5)); (case aS => exact (keep_size (w := w) (g := g) (row := none) (sqQ HK))); (case aL => have := LMc9.out; omega); intro v319 w11 ho hb hg hat; rw [← Ny318.out] at ho; have n0_ := Aside0.mk (IsS58.grown (sqI58 HI0) hg (IsS58.own_ne HI0.out HO_5.out (by decide))); have n1_ := Aside0.mk (below_weaken (sqB) HL.out hb); have n2_ := Aside0.mk (KeepBut.trans (sqQ HK) (KeepBut.of_grown hg g) (Kd.R_base2 HO_5.out)); have n3_ := Aside0.mk (ho); clear HI0; clear HB; clear HK; clear HO_5; have HI0 := n0_; have HB := n1_; have HK := n2_; have HO320 := n3_; clear n0_ n1_ n2_ n3_; clear ho hb hg hat))
       go_roundg k2
       case measure => have := HJ2.out; have := HK2.out; omega
       case rel => exact ⟨(y318), (wrap64 (x6_2 + 1)), (t316), (t317), (by first | rfl | (simp; done) | (simp [*]; done)), H', ⟨by have := HJ2.out; have := HK2.out; omega⟩, ⟨sqR HO320⟩, ⟨sqI58 HI0⟩, ⟨sqQ HK⟩, ⟨sqB⟩⟩
      ·rw [if_neg c9] at H
       exact absurd H (by simp)
     ·rw [if_neg c7] at H
      have c7b0 : decide (x6_2 < x1_2) = false := decide_eq_false c7
      clear c7
      simp only [Option.some.injEq, Prod.mk.injEq] at H
      obtain ⟨rfl, rfl, rfl⟩ := H
      have hcv12 := own_string (P := Try.prog) Try.underlying22 Try.underlying5 Try.underlying9 (Kd.own_of_R HO_5.out)
      go_wp2
      go_ret
      exact ⟨sqE, sqI58 HI0, sqB, sqQ HK⟩

theorem joinCut1 {a : ByteArray} {i : Int} {n : Nat} (h0 : decide (i ≤ (a.size : Int)) = true) (h : (a.extract 0 i.toNat).size + n ≤ 9223372036854775807) : (9223372036854775807 < i.toNat + n) = False := by
  have h1 := of_decide_eq_true h0
  rw [ByteArray.size_extract] at h
  exact eq_false (by omega)
theorem joinCut2 {a t : ByteArray} {i j : Int} (h0 : decide (i ≤ (a.size : Int)) = true) (h : ((a.extract 0 i.toNat) ++ t).size + (a.extract j.toNat a.size).size ≤ 9223372036854775807) : (9223372036854775807 < i.toNat + t.size + (a.size - j.toNat)) = False := by
  have h1 := of_decide_eq_true h0
  rw [ByteArray.size_append, ByteArray.size_extract, ByteArray.size_extract] at h
  exact eq_false (by omega)
/-! ### spec_l02Spoilt: function 28 -/
def spec_l02Spoilt.j0 : Nat → ByteArray → Bool → List Int → Int → Int → Option (ByteArray × Int × Int)
 | 0, _, _, _, _, _ => none
 | k + 1, x1, x23, x1000, x1001, x1002 => if x23 = true then (if (x1.size : Int) > 0 then ((spec_l01Below.f x1000 x1001 x1002 (x1.size : Int)).bind fun bt330 => (if 0 ≤ bt330.1 then (if bt330.1 ≤ (x1.size : Int) then ((spec_l01Text.f k x1000 bt330.2.1 bt330.2.2 1).bind fun bt333 => (if (x1.extract 0 (bt330.1 : Int).toNat).size + bt333.1.size ≤ 9223372036854775807 then (if 0 ≤ (wrap64 (bt330.1 + 1)) then (if (wrap64 (bt330.1 + 1)) ≤ (x1.size : Int) then (if ((x1.extract 0 (bt330.1 : Int).toNat) ++ bt333.1).size + (x1.extract ((wrap64 (bt330.1 + 1)) : Int).toNat x1.size).size ≤ 9223372036854775807 then (some (((x1.extract 0 (bt330.1 : Int).toNat) ++ bt333.1) ++ (x1.extract ((wrap64 (bt330.1 + 1)) : Int).toNat x1.size), bt333.2.1, bt333.2.2)) else (none)) else (none)) else (none)) else (none))) else (none)) else (none))) else (some (x1, x1001, x1002))) else (some (x1, x1001, x1002))
def spec_l02Spoilt.f (k : Nat) (s0_0 : List Int) (s0_1 : Int) (s0_2 : Int) (a1 : ByteArray) : Option (ByteArray × Int × Int) := (spec_l01Below.f s0_0 s0_1 s0_2 12).bind fun bt321 => (if bt321.1 = 0 then ((spec_l01Text.f k s0_0 bt321.2.1 bt321.2.2 1).bind fun bt324 => (if a1.size + bt324.1.size ≤ 9223372036854775807 then (some (a1 ++ bt324.1, bt324.2.1, bt324.2.2)) else (none))) else (if bt321.1 = 1 then ((spec_l01Below.f s0_0 bt321.2.1 bt321.2.2 (wrap64 ((a1.size : Int) + 1))).bind fun bt327 => (if 0 ≤ bt327.1 then (if bt327.1 ≤ (a1.size : Int) then (some (a1.extract 0 (bt327.1 : Int).toNat, bt327.2.1, bt327.2.2)) else (none)) else (none))) else (if bt321.1 = 2 then (spec_l02Spoilt.j0 k a1 (bt321.1 == 2) s0_0 bt321.2.1 bt321.2.2) else (spec_l02Spoilt.j0 k a1 (bt321.1 == 3) s0_0 bt321.2.1 bt321.2.2))))
theorem spec_l02Spoilt.mono_l : ∀ k, (∀ y0 y1 y2 y3 y4, LeO (spec_l02Spoilt.j0 k y0 y1 y2 y3 y4) (spec_l02Spoilt.j0 (k + 1) y0 y1 y2 y3 y4))
 | 0 => fun _ _ _ _ _ r h => by simp [spec_l02Spoilt.j0] at h
 | k + 1 => by
  have ih0 := spec_l02Spoilt.mono_l k
  ·intro y0 y1 y2 y3 y4
   unfold spec_l02Spoilt.j0
   repeat' first
   | (with_reducible exact ih0 _ _ _ _ _)
   | (with_reducible exact spec_l01Text.mono _ _ _ _ _)
   | (with_reducible exact LeO.refl _)
   | (with_reducible exact LeO.none _)
   | (with_reducible refine LeO.ite ?_ ?_)
   | (with_reducible refine LeO.bind ?_ (fun _ => ?_))
   | exact ih0 _ _ _ _ _
   | exact spec_l01Text.mono _ _ _ _ _
   | exact LeO.none _
   | refine LeO.ite ?_ ?_
   | refine LeO.bind ?_ (fun _ => ?_)
theorem spec_l02Spoilt.mono : ∀ a0 a1 a2 a3 k, LeO (spec_l02Spoilt.f k a0 a1 a2 a3) (spec_l02Spoilt.f (k + 1) a0 a1 a2 a3) := by
 intro a0 a1 a2 a3 k
 have ih0 := spec_l02Spoilt.mono_l k
 unfold spec_l02Spoilt.f
 repeat' first
   | (with_reducible exact ih0 _ _ _ _ _)
   | (with_reducible exact spec_l01Text.mono _ _ _ _ _)
   | (with_reducible exact LeO.refl _)
   | (with_reducible exact LeO.none _)
   | (with_reducible refine LeO.ite ?_ ?_)
   | (with_reducible refine LeO.bind ?_ (fun _ => ?_))
   | exact ih0 _ _ _ _ _
   | exact spec_l01Text.mono _ _ _ _ _
   | exact LeO.none _
   | refine LeO.ite ?_ ?_
   | refine LeO.bind ?_ (fun _ => ?_)
def spec_l02Spoilt.T10 : Bool × List (List Nat × List Nat) := (true, [([], []), ([], []), ([0, 1], [0, 1]), ([], []), ([3], [3]), ([2, 4], [2, 4]), ([], []), ([], []), ([7], [7]), ([6, 8], [6, 8]), ([5, 9], [5, 9]), ([10, 4, 0, 1, 2, 3, 4, 5, 6, 7, 8, 9, 10], [10])])
def spec_l02Spoilt.B10 : List Nat := [0, 0, 3, 0, 8, 31, 0, 0, 128, 448, 1023, 2047]
theorem spec_l02Spoilt.tab10 : rtab .any (opsOf Try.f28 10) = spec_l02Spoilt.T10 := by kernel_rfl
theorem spec_l02Spoilt.bits10 : waitsOk spec_l02Spoilt.T10.2 spec_l02Spoilt.B10 = true := by kernel_rfl
set_option maxHeartbeats 8000000 in
set_option maxRecDepth 100000 in
theorem spec_l02Spoilt.calls (k : Nat) (g : Nat) (s0_0 : List Int) (s0_1 : Int) (s0_2 : Int) (a1 : ByteArray) (r1 : ByteArray) (r2 : Int) (r3 : Int) (w0 w : World) (hI : IsS58 w0 w g s0_0 s0_1 s0_2) (hB : Below w0.heap.size w0 w) (h : spec_l02Spoilt.f k s0_0 s0_1 s0_2 a1 = some (r1, r2, r3)) :
  Calls Try.prog 28 #[.pointer (some ⟨g, 0, none⟩), .string a1] w fun e w' => e = .returned (.string r1) ∧ IsS58 w0 w' g s0_0 r2 r3 ∧ Below w0.heap.size w0 w' ∧ KeepBut w w' g none := by
 have HI0 := Aside0.mk hI
 have HK := Aside0.mk (KeepBut.refl w g none)
 have HL := Aside0.mk hB.size
 clear hI
 have HW0 := Aside0.mk hB.size
 have HB := Aside0.mk hB
 clear hB
 have H : ((spec_l01Below.f s0_0 s0_1 s0_2 12).bind fun bt321 => (if bt321.1 = 0 then ((spec_l01Text.f k s0_0 bt321.2.1 bt321.2.2 1).bind fun bt324 => (if a1.size + bt324.1.size ≤ 9223372036854775807 then (some (a1 ++ bt324.1, bt324.2.1, bt324.2.2)) else (none))) else (if bt321.1 = 1 then ((spec_l01Below.f s0_0 bt321.2.1 bt321.2.2 (wrap64 ((a1.size : Int) + 1))).bind fun bt327 => (if 0 ≤ bt327.1 then (if bt327.1 ≤ (a1.size : Int) then (some (a1.extract 0 (bt327.1 : Int).toNat, bt327.2.1, bt327.2.2)) else (none)) else (none))) else (if bt321.1 = 2 then (spec_l02Spoilt.j0 k a1 (bt321.1 == 2) s0_0 bt321.2.1 bt321.2.2) else (spec_l02Spoilt.j0 k a1 (bt321.1 == 3) s0_0 bt321.2.1 bt321.2.2))))) = some (r1, r2, r3) := h
 clear h
 replace H := Option.bind_eq_some_iff.mp H
 obtain ⟨⟨t321, t322, t323⟩, A30, H⟩ := H
 try dsimp only at H
 have A3 := Aside0.mk A30
 clear A30
 by_cases c4 : t321 = 0
 ·rw [if_pos c4] at H
  have c4b0 : (t321 == 0) = true := beq_iff_eq.mpr c4
  have c4b1 : (t321 != 0) = false := bne_eq_false_iff_eq.mpr c4
  clear c4
  replace H := Option.bind_eq_some_iff.mp H
  obtain ⟨⟨t324, t325, t326⟩, A50, H⟩ := H
  try dsimp only at H
  have A5 := Aside0.mk A50
  clear A50
  by_cases c6 : a1.size + t324.size ≤ 9223372036854775807
  ·rw [if_pos c6] at H
   have c6b0 := eq_true c6
   have c6b1 : decide (a1.size + t324.size ≤ 9223372036854775807) = true := decide_eq_true c6
   try have c6b2 : (9223372036854775807 < a1.size + t324.size) = False := eq_false (Nat.not_lt.2 c6)
   simp only [Option.some.injEq, Prod.mk.injEq] at H
   obtain ⟨rfl, rfl, rfl⟩ := H
   go_enter Try.func28, Try.ntmps28
   go_wp2_with (first | ((with_reducible refine gate_callee (f := 39) rfl ?_); refine goesL_ (some 7) rfl rfl Try.func39 (by kernel_rfl) rfl #[.pointer (some ⟨g, 0, none⟩), .int .i64 12] rfl sqA ?_; (with_reducible refine (spec_l01Below.calls g s0_0 s0_1 s0_2 12 t321 t322 t323 w0 _ ?side1 ?side2 A3.out).mono ?_); (case side1 => exact sqI58 HI0); (case side2 => exact sqB); rintro e w7 ⟨rfl, hi, hb, hk⟩; refine ⟨_, rfl, ?_⟩; replace HK := Aside0.mk (KeepBut.trans (sqQ HK) hk (.inl rfl)); replace HI0 := Aside0.mk (hi); replace HB := Aside0.mk (hb); (try clear hb); (try clear hb2); (try clear hk); (try clear hi)) | ((with_reducible refine gate_callee (f := 41) rfl ?_); refine goesL_ (some 12) rfl rfl Try.func41 (by kernel_rfl) rfl #[.pointer (some ⟨g, 0, none⟩), .int .i64 1] rfl sqA ?_; (with_reducible refine (spec_l01Text.calls k g s0_0 t322 t323 1 t324 t325 t326 w0 _ ?side1 ?side2 A5.out).mono ?_); (case side1 => exact sqI58 HI0); (case side2 => exact sqB); rintro e w8 ⟨rfl, hi, hb, hk⟩; refine ⟨_, rfl, ?_⟩; replace HK := Aside0.mk (KeepBut.trans (sqQ HK) hk (.inl rfl)); replace HI0 := Aside0.mk (hi); replace HB := Aside0.mk (hb); (try clear hb); (try clear hb2); (try clear hk); (try clear hi)))
   go_ret
   exact ⟨sqE, sqI58 HI0, sqB, sqQ HK⟩
  ·rw [if_neg c6] at H
   exact absurd H (by simp)
 ·rw [if_neg c4] at H
  have c4b0 : (t321 == 0) = false := beq_eq_false_iff_ne.mpr c4
  have c4b1 : (t321 != 0) = true := bne_iff_ne.mpr c4
  by_cases c9 : t321 = 1
  ·rw [if_pos c9] at H
   have c9b0 : (t321 == 1) = true := beq_iff_eq.mpr c9
   have c9b1 : (t321 != 1) = false := bne_eq_false_iff_eq.mpr c9
   clear c9
   replace H := Option.bind_eq_some_iff.mp H
   obtain ⟨⟨t327, t328, t329⟩, A100, H⟩ := H
   try dsimp only at H
   have A10 := Aside0.mk A100
   clear A100
   by_cases c11 : 0 ≤ t327
   ·rw [if_pos c11] at H
    have c11b0 := eq_true c11
    have c11b1 : decide (0 ≤ t327) = true := decide_eq_true c11
    clear c11
    by_cases c12 : t327 ≤ (a1.size : Int)
    ·rw [if_pos c12] at H
     have c12b0 := eq_true c12
     have c12b1 : decide (t327 ≤ (a1.size : Int)) = true := decide_eq_true c12
     clear c12
     simp only [Option.some.injEq, Prod.mk.injEq] at H
     obtain ⟨rfl, rfl, rfl⟩ := H
     go_enter Try.func28, Try.ntmps28
     go_wp2_with (first | ((with_reducible refine gate_callee (f := 39) rfl ?_); refine goesL_ (some 7) rfl rfl Try.func39 (by kernel_rfl) rfl #[.pointer (some ⟨g, 0, none⟩), .int .i64 12] rfl sqA ?_; (with_reducible refine (spec_l01Below.calls g s0_0 s0_1 s0_2 12 t321 t322 t323 w0 _ ?side1 ?side2 A3.out).mono ?_); (case side1 => exact sqI58 HI0); (case side2 => exact sqB); rintro e w13 ⟨rfl, hi, hb, hk⟩; refine ⟨_, rfl, ?_⟩; replace HK := Aside0.mk (KeepBut.trans (sqQ HK) hk (.inl rfl)); replace HI0 := Aside0.mk (hi); replace HB := Aside0.mk (hb); (try clear hb); (try clear hb2); (try clear hk); (try clear hi)) | ((with_reducible refine gate_callee (f := 39) rfl ?_); refine goesL_ (some 21) rfl rfl Try.func39 (by kernel_rfl) rfl #[.pointer (some ⟨g, 0, none⟩), .int .i64 (wrap64 ((a1.size : Int) + 1))] rfl sqA ?_; (with_reducible refine (spec_l01Below.calls g s0_0 t322 t323 (wrap64 ((a1.size : Int) + 1)) t327 t328 t329 w0 _ ?side1 ?side2 A10.out).mono ?_); (case side1 => exact sqI58 HI0); (case side2 => exact sqB); rintro e w14 ⟨rfl, hi, hb, hk⟩; refine ⟨_, rfl, ?_⟩; replace HK := Aside0.mk (KeepBut.trans (sqQ HK) hk (.inl rfl)); replace HI0 := Aside0.mk (hi); replace HB := Aside0.mk (hb); (try clear hb); (try clear hb2); (try clear hk); (try clear hi)))
     go_ret
     exact ⟨sqE, sqI58 HI0, sqB, sqQ HK⟩
    ·rw [if_neg c12] at H
     exact absurd H (by simp)
   ·rw [if_neg c11] at H
    exact absurd H (by simp)
  ·rw [if_neg c9] at H
   have c9b0 : (t321 == 1) = false := beq_eq_false_iff_ne.mpr c9
   have c9b1 : (t321 != 1) = true := bne_iff_ne.mpr c9
   have HC15 := Aside0.mk H
   clear H
   go_enter Try.func28, Try.ntmps28
   go_upto_if 23 with (first | ((with_reducible refine gate_callee (f := 39) rfl ?_); refine goesL_ (some 7) rfl rfl Try.func39 (by kernel_rfl) rfl #[.pointer (some ⟨g, 0, none⟩), .int .i64 12] rfl sqA ?_; (with_reducible refine (spec_l01Below.calls g s0_0 s0_1 s0_2 12 t321 t322 t323 w0 _ ?side1 ?side2 A3.out).mono ?_); (case side1 => exact sqI58 HI0); (case side2 => exact sqB); rintro e w16 ⟨rfl, hi, hb, hk⟩; refine ⟨_, rfl, ?_⟩; replace HK := Aside0.mk (KeepBut.trans (sqQ HK) hk (.inl rfl)); replace HI0 := Aside0.mk (hi); replace HB := Aside0.mk (hb); (try clear hb); (try clear hb2); (try clear hk); (try clear hi)))
   (try simp only [Act.put, List.setIfInBounds_toArray, List.set_cons_zero, List.set_cons_succ])
   go_cut [23] (fun v23 wc => ∃ (kq : Nat) (x23_14 : Bool), v23 = .bool x23_14 ∧ Aside0 (spec_l02Spoilt.j0 kq a1 x23_14 s0_0 t322 t323 = some (r1, r2, r3)) ∧ Aside0 (kq ≤ k) ∧ Aside0 (IsS58 w0 wc g s0_0 t322 t323) ∧ Aside0 (KeepBut w wc g none) ∧ Aside0 (Below w0.heap.size w0 wc))
   case first =>
    have H := HC15.out
    clear HC15
    by_cases c17 : t321 = 2
    ·rw [if_pos c17] at H
     have c17b0 : (t321 == 2) = true := beq_iff_eq.mpr c17
     have c17b1 : (t321 != 2) = false := bne_eq_false_iff_eq.mpr c17
     clear c17
     (first | rw [c17b0] | (simp only [i64_w, i32_w]; rw [c17b0]) | skip)
     have H' := Aside0.mk H
     clear H
     go_wp2
     go_meet
     case rel => exact ⟨_, ((t321 == 2)), (by first | rfl | (simp; done) | (simp [*]; done)), H', ⟨by first | omega | exact Nat.le_refl _⟩, ⟨sqI58 HI0⟩, ⟨sqQ HK⟩, ⟨sqB⟩⟩
    ·rw [if_neg c17] at H
     have c17b0 : (t321 == 2) = false := beq_eq_false_iff_ne.mpr c17
     have c17b1 : (t321 != 2) = true := bne_iff_ne.mpr c17
     (first | rw [c17b0] | (simp only [i64_w, i32_w]; rw [c17b0]) | skip)
     have H' := Aside0.mk H
     clear H
     go_wp2
     go_meet
     case rel => exact ⟨_, ((t321 == 3)), (by first | rfl | (simp; done) | (simp [*]; done)), H', ⟨by first | omega | exact Nat.le_refl _⟩, ⟨sqI58 HI0⟩, ⟨sqQ HK⟩, ⟨sqB⟩⟩
   case rest =>
    clear HC15
    try clear c1
    try clear c2
    try clear p2
    try clear c3
    try clear c4
    try clear c4b0
    try clear c4b1
    try clear c6
    try clear c6b0
    try clear c6b1
    try clear c6b2
    try clear p6
    try clear c9
    try clear c9b0
    try clear c9b1
    try clear c11
    try clear c11b0
    try clear c11b1
    try clear c12
    try clear c12b0
    try clear c12b1
    try clear c17
    try clear c17b0
    try clear c17b1
    obtain ⟨kq, x23_14, rfl, HA, HJ14, HI0, HK, HB⟩ := hcut
    cases kq with
    | zero => exact absurd HA.out (by simp [spec_l02Spoilt.j0])
    | succ kj14 =>
     have H := HA.out
     clear HA
     simp only [spec_l02Spoilt.j0] at H
     by_cases c18 : x23_14 = true
     ·subst c18
      have H1 : (if (a1.size : Int) > 0 then ((spec_l01Below.f s0_0 t322 t323 (a1.size : Int)).bind fun bt330 => (if 0 ≤ bt330.1 then (if bt330.1 ≤ (a1.size : Int) then ((spec_l01Text.f kj14 s0_0 bt330.2.1 bt330.2.2 1).bind fun bt333 => (if (a1.extract 0 (bt330.1 : Int).toNat).size + bt333.1.size ≤ 9223372036854775807 then (if 0 ≤ (wrap64 (bt330.1 + 1)) then (if (wrap64 (bt330.1 + 1)) ≤ (a1.size : Int) then (if ((a1.extract 0 (bt330.1 : Int).toNat) ++ bt333.1).size + (a1.extract ((wrap64 (bt330.1 + 1)) : Int).toNat a1.size).size ≤ 9223372036854775807 then (some (((a1.extract 0 (bt330.1 : Int).toNat) ++ bt333.1) ++ (a1.extract ((wrap64 (bt330.1 + 1)) : Int).toNat a1.size), bt333.2.1, bt333.2.2)) else (none)) else (none)) else (none)) else (none))) else (none)) else (none))) else (some (a1, t322, t323))) = some (r1, r2, r3) := by rw [if_pos rfl] at H; exact H
      clear H
      have H := H1
      clear H1
      by_cases c19 : (a1.size : Int) > 0
      ·rw [if_pos c19] at H
       have c19b0 : decide (0 < (a1.size : Int)) = true := decide_eq_true c19
       have c19b1 : decide (0 < a1.size) = true := decide_eq_true (by omega)
       clear c19
       replace H := Option.bind_eq_some_iff.mp H
       obtain ⟨⟨t330, t331, t332⟩, A200, H⟩ := H
       try dsimp only at H
       have A20 := Aside0.mk A200
       clear A200
       by_cases c21 : 0 ≤ t330
       ·rw [if_pos c21] at H
        have c21b0 := eq_true c21
        have c21b1 : decide (0 ≤ t330) = true := decide_eq_true c21
        clear c21
        by_cases c22 : t330 ≤ (a1.size : Int)
        ·rw [if_pos c22] at H
         have c22b0 := eq_true c22
         have c22b1 : decide (t330 ≤ (a1.size : Int)) = true := decide_eq_true c22
         clear c22
         replace H := Option.bind_eq_some_iff.mp H
         obtain ⟨⟨t333, t334, t335⟩, A230, H⟩ := H
         try dsimp only at H
         have A23 := Aside0.mk A230
         clear A230
         by_cases c24 : (a1.extract 0 (t330 : Int).toNat).size + t333.size ≤ 9223372036854775807
         ·rw [if_pos c24] at H
          have c24b0 := eq_true c24
          have c24b1 : decide ((a1.extract 0 (t330 : Int).toNat).size + t333.size ≤ 9223372036854775807) = true := decide_eq_true c24
          try have c24b2 : (9223372036854775807 < (a1.extract 0 (t330 : Int).toNat).size + t333.size) = False := eq_false (Nat.not_lt.2 c24)
          obtain ⟨ji25, hji25⟩ : ∃ j_ : Int, (wrap64 (t330 + 1)) = j_ := ⟨_, rfl⟩
          replace H : (if 0 ≤ (ji25) then (if (ji25) ≤ (a1.size : Int) then (if ((a1.extract 0 (t330 : Int).toNat) ++ t333).size + (a1.extract ((ji25) : Int).toNat a1.size).size ≤ 9223372036854775807 then (some (((a1.extract 0 (t330 : Int).toNat) ++ t333) ++ (a1.extract ((ji25) : Int).toNat a1.size), t334, t335)) else (none)) else (none)) else (none)) = some (r1, r2, r3) := by first | (rw [hji25] at H; exact H) | (simp only [hji25] at H ⊢; exact H)
          (try rw [hji25] at A20)
          (try rw [hji25] at A23)
          have hji25w : (IntKind.i64.wrap (t330 + 1)) = ji25 := (i64_w _).trans hji25
          by_cases c26 : 0 ≤ (ji25)
          ·rw [if_pos c26] at H
           have c26b0 := eq_true c26
           have c26b1 : decide (0 ≤ (ji25)) = true := decide_eq_true c26
           clear c26
           by_cases c27 : (ji25) ≤ (a1.size : Int)
           ·rw [if_pos c27] at H
            have c27b0 := eq_true c27
            have c27b1 : decide ((ji25) ≤ (a1.size : Int)) = true := decide_eq_true c27
            clear c27
            by_cases c28 : ((a1.extract 0 (t330 : Int).toNat) ++ t333).size + (a1.extract ((ji25) : Int).toNat a1.size).size ≤ 9223372036854775807
            ·rw [if_pos c28] at H
             have c28b0 := eq_true c28
             have c28b1 : decide (((a1.extract 0 (t330 : Int).toNat) ++ t333).size + (a1.extract ((ji25) : Int).toNat a1.size).size ≤ 9223372036854775807) = true := decide_eq_true c28
             try have c28b2 : (9223372036854775807 < ((a1.extract 0 (t330 : Int).toNat) ++ t333).size + (a1.extract ((ji25) : Int).toNat a1.size).size) = False := eq_false (Nat.not_lt.2 c28)
             try have c28z2 : (9223372036854775807 < a1.extract 0 (t330 : Int).toNat.size + t333.size + a1.extract ((ji25) : Int).toNat a1.size.size) = False := eq_false (Nat.not_lt.2 (Nat.le_trans (Nat.le_of_eq (by first | rfl | (simp only [ByteArray.size_append]; done) | (simp only [ByteArray.size_append]; rfl))) c28))
             try have c28z1 : decide (a1.extract 0 (t330 : Int).toNat.size + t333.size + a1.extract ((ji25) : Int).toNat a1.size.size ≤ 9223372036854775807) = true := decide_eq_true (Nat.le_trans (Nat.le_of_eq (by first | rfl | (simp only [ByteArray.size_append]; done) | (simp only [ByteArray.size_append]; rfl))) c28)
             simp only [Option.some.injEq, Prod.mk.injEq] at H
             obtain ⟨rfl, rfl, rfl⟩ := H
             have cut1x := joinCut1 c22b1 c24
             have cut2x := joinCut2 c22b1 c28
             try go_wp2_with (first | ((with_reducible refine gate_callee (f := 39) rfl ?_); refine goesL_ (some 32) rfl rfl Try.func39 (by kernel_rfl) rfl #[.pointer (some ⟨g, 0, none⟩), .int .i64 (a1.size : Int)] rfl sqA ?_; (with_reducible refine (spec_l01Below.calls g s0_0 t322 t323 (a1.size : Int) t330 t331 t332 w0 _ ?side1 ?side2 A20.out).mono ?_); (case side1 => exact sqI58 HI0); (case side2 => exact sqB); rintro e w29 ⟨rfl, hi, hb, hk⟩; refine ⟨_, rfl, ?_⟩; replace HK := Aside0.mk (KeepBut.trans (sqQ HK) hk (.inl rfl)); replace HI0 := Aside0.mk (hi); replace HB := Aside0.mk (hb); (try clear hb); (try clear hb2); (try clear hk); (try clear hi)))
             replace HI0 := Aside0.mk (IsS58.drew HI0.out); replace HK := Aside0.mk (keep_drew HK.out); replace HB := Aside0.mk (below_drew1 HB.out)
             refine start_ (n := 12) (S := fun w' => True) (ds := []) (sqb 0 12) (by kernel_rfl) rfl rfl trivial (fun hHeld => ?_); refine with_tabW spec_l02Spoilt.tab10 spec_l02Spoilt.bits10 (fun HT_ HW_ => ?_)
             generalize w29.drew = w30 at HI0 HK HB hHeld ⊢
             refine sqP (i := 0) (N := some 33) (sqb 1 11) rfl rfl (any_of HT_.out (by kernel_rfl)) ?_
             refine sqP (i := 1) (N := some 34) (sqb 2 10) rfl rfl (any_of HT_.out (by kernel_rfl)) ?_
             refine sqP (i := 2) (N := some 35) (sqb 3 9) rfl rfl (any_of HT_.out (by kernel_rfl)) ?_
             refine sqP (i := 3) (N := some 36) (sqb 4 8) rfl rfl (any_of HT_.out (by kernel_rfl)) ?_
             refine sqP (i := 6) (N := some 39) (sqr [4, 2, 1, 5]) rfl rfl (any_of HT_.out (by kernel_rfl)) ?_
             refine sqP (i := 7) (N := some 40) (sqr [4, 2, 2, 4]) rfl rfl (any_of HT_.out (by kernel_rfl)) ?_
             refine sqP (i := 8) (N := some 41) (sqr [4, 2, 3, 3]) rfl rfl (any_of HT_.out (by kernel_rfl)) ?_
             refine sqP (i := 9) (N := some 42) (sqr [4, 2, 4, 2]) rfl rfl (any_of HT_.out (by kernel_rfl)) ?_
             refine one_ (i := 4) (N := some 37) (sqr [5, 1, 4, 2]) rfl rfl (one_of HT_.out (by kernel_rfl)) (by decide) (fun K hK => ?_)
             refine goes_ Try.func41 (by kernel_rfl) rfl #[.pointer (some ⟨g, 0, none⟩), .int .i64 1] (by rfl) rfl rfl sqA ?_
             with_reducible refine (spec_l01Text.calls kj14 g s0_0 t331 t332 1 t333 t334 t335 w0 _ ?side1 ?side2 A23.out).mono ?_
             (case side1 => exact sqI58 HI0)
             (case side2 => exact sqB)
             rintro e w31 ⟨rfl, hi, hb, hk⟩
             refine ⟨_, rfl, ?_⟩
             replace HK := Aside0.mk (KeepBut.trans (sqQ HK) hk (.inl rfl)); replace HI0 := Aside0.mk (hi); replace HB := Aside0.mk (hb)
             (try clear hb)
             (try clear hb2)
             (try clear hk)
             (try clear hi)
             refine hK.out _ _ trivial (fun hHeld => ?_)
             clear hK K
             refine sqV (N := some 37) ?_
             refine sqP (i := 5) (N := some 38) (sqb 10 2) rfl rfl (any_of HT_.out (by kernel_rfl)) ?_
             refine sqP (i := 10) (N := some 43) (sqb 11 1) rfl rfl (any_of HT_.out (by kernel_rfl)) ?_
             refine sqP (i := 11) (N := some 4) (sqb 12 0) rfl rfl (any_of HT_.out (by kernel_rfl)) ?_
             refine done_ (done_of HT_.out (by kernel_rfl)) ?_
             try go_wp2
             go_ret
             exact ⟨by first | rfl | (simp [errW_none, errW_some] <;> rfl) | (simp only [← hji25]; first | rfl | (simp [errW_none, errW_some] <;> rfl)) | (simp [*, errW_none, errW_some] <;> rfl), sqI58 HI0, sqB, sqQ HK⟩
            ·rw [if_neg c28] at H
             exact absurd H (by simp)
           ·rw [if_neg c27] at H
            exact absurd H (by simp)
          ·rw [if_neg c26] at H
           exact absurd H (by simp)
         ·rw [if_neg c24] at H
          exact absurd H (by simp)
        ·rw [if_neg c22] at H
         exact absurd H (by simp)
       ·rw [if_neg c21] at H
        exact absurd H (by simp)
      ·rw [if_neg c19] at H
       have c19b0 : decide (0 < (a1.size : Int)) = false := decide_eq_false c19
       have c19b1 : decide (0 < a1.size) = false := decide_eq_false (by omega)
       clear c19
       simp only [Option.some.injEq, Prod.mk.injEq] at H
       obtain ⟨rfl, rfl, rfl⟩ := H
       go_wp2
       go_ret
       exact ⟨sqE, sqI58 HI0, sqB, sqQ HK⟩
     ·replace c18 := Bool.eq_false_iff.mpr c18
      subst c18
      have H1 : (some (a1, t322, t323)) = some (r1, r2, r3) := by rw [if_neg (show ¬ (false = true) by decide)] at H; exact H
      clear H
      have H := H1
      clear H1
      simp only [Option.some.injEq, Prod.mk.injEq] at H
      obtain ⟨rfl, rfl, rfl⟩ := H
      go_wp2
      go_ret
      exact ⟨sqE, sqI58 HI0, sqB, sqQ HK⟩

/-! ### spec_DrawReadCred: function 8 -/
def spec_DrawReadCred.f (k : Nat) (l0 : List Int) : Option (ByteArray) := (spec_l01New.f k l0).bind fun bt336 => ((spec_l05Any.f bt336.1 bt336.2.1 bt336.2.2).bind fun bt340 => ((spec_CredText.f k bt340.1 bt340.2.1 bt340.2.2.1 bt340.2.2.2.1 bt340.2.2.2.2.1 bt340.2.2.2.2.2.1 bt340.2.2.2.2.2.2.1 bt340.2.2.2.2.2.2.2.1 bt340.2.2.2.2.2.2.2.2.1 bt340.2.2.2.2.2.2.2.2.2.1).bind fun t352 => ((spec_l01Once.f bt336.1 bt340.2.2.2.2.2.2.2.2.2.2.1 bt340.2.2.2.2.2.2.2.2.2.2.2 3).bind fun bt353 => (if bt353.1 = true then ((spec_l02Spoilt.f k bt336.1 bt353.2.1 bt353.2.2 t352).bind fun bt356 => (some bt356.1)) else (some t352)))))
theorem spec_DrawReadCred.mono : ∀ a0 k, LeO (spec_DrawReadCred.f k a0) (spec_DrawReadCred.f (k + 1) a0) := by
 intro a0 k
 unfold spec_DrawReadCred.f
 repeat' first
   | (with_reducible exact spec_CredText.mono _ _ _ _ _ _ _ _ _ _ _)
   | (with_reducible exact spec_l01New.mono _ _)
   | (with_reducible exact spec_l02Spoilt.mono _ _ _ _ _)
   | (with_reducible exact LeO.refl _)
   | (with_reducible exact LeO.none _)
   | (with_reducible refine LeO.ite ?_ ?_)
   | (with_reducible refine LeO.bind ?_ (fun _ => ?_))
   | exact spec_CredText.mono _ _ _ _ _ _ _ _ _ _ _
   | exact spec_l01New.mono _ _
   | exact spec_l02Spoilt.mono _ _ _ _ _
   | exact LeO.none _
   | refine LeO.ite ?_ ?_
   | refine LeO.bind ?_ (fun _ => ?_)
set_option maxHeartbeats 8000000 in
set_option maxRecDepth 100000 in
theorem spec_DrawReadCred.calls (k : Nat) (A0 : Option Addr) (c0 : Nat) (l0 : List Int) (r : ByteArray) (w : World) (hr0 : Kd.C (Kd.int .u8) w A0 l0.length l0) (hc0 : l0.length ≤ c0) (h : spec_DrawReadCred.f k l0 = some r) :
  Calls Try.prog 8 #[.slice A0 l0.length c0] w fun e w' => e = .returned (.string r) ∧ Below w.heap.size w w' := by
 have HR0 := Aside0.mk hr0
 have HC0 := Aside0.mk hc0
 clear hr0 hc0
 have HB := Aside0.mk (Below.refl w.heap.size w)
 have H : ((spec_l01New.f k l0).bind fun bt336 => ((spec_l05Any.f bt336.1 bt336.2.1 bt336.2.2).bind fun bt340 => ((spec_CredText.f k bt340.1 bt340.2.1 bt340.2.2.1 bt340.2.2.2.1 bt340.2.2.2.2.1 bt340.2.2.2.2.2.1 bt340.2.2.2.2.2.2.1 bt340.2.2.2.2.2.2.2.1 bt340.2.2.2.2.2.2.2.2.1 bt340.2.2.2.2.2.2.2.2.2.1).bind fun t352 => ((spec_l01Once.f bt336.1 bt340.2.2.2.2.2.2.2.2.2.2.1 bt340.2.2.2.2.2.2.2.2.2.2.2 3).bind fun bt353 => (if bt353.1 = true then ((spec_l02Spoilt.f k bt336.1 bt353.2.1 bt353.2.2 t352).bind fun bt356 => (some bt356.1)) else (some t352)))))) = some r := h
 clear h
 replace H := Option.bind_eq_some_iff.mp H
 obtain ⟨⟨t336, t337, t338⟩, A20, H⟩ := H
 try dsimp only at H
 have A2 := Aside0.mk A20
 clear A20
 replace H := Option.bind_eq_some_iff.mp H
 obtain ⟨⟨t340, t341, t342, t343, t344, t345, t346, t347, t348, t349, t350, t351⟩, A30, H⟩ := H
 try dsimp only at H
 have A3 := Aside0.mk A30
 clear A30
 replace H := Option.bind_eq_some_iff.mp H
 obtain ⟨t352, A40, H⟩ := H
 try dsimp only at H
 have A4 := Aside0.mk A40
 clear A40
 replace H := Option.bind_eq_some_iff.mp H
 obtain ⟨⟨t353, t354, t355⟩, A50, H⟩ := H
 try dsimp only at H
 have A5 := Aside0.mk A50
 clear A50
 by_cases c6 : t353 = true
 ·subst c6
  rw [if_pos rfl] at H
  replace H := Option.bind_eq_some_iff.mp H
  obtain ⟨⟨t356, t357, t358⟩, A70, H⟩ := H
  try dsimp only at H
  have A7 := Aside0.mk A70
  clear A70
  obtain rfl := Option.some.inj H
  go_enter Try.func8, Try.ntmps8
  go_wp2_with (first | ((with_reducible refine gate_callee (f := 23) rfl ?_); refine goesL_ (some 6) rfl rfl Try.func23 (by kernel_rfl) rfl #[.slice A0 l0.length c0] rfl sqA ?_; (with_reducible refine (spec_l01New.calls k _ _ l0 t336 t337 t338 w _ ?side1 ?side2 ?side3 A2.out).mono ?_); (case side1 => exact sqB); (case side2 => exact HR0.out); (case side3 => exact HC0.out); rintro e w8 ⟨g339, rfl, hi, hb, hb2⟩; refine ⟨_, rfl, ?_⟩; have HI339 := Aside0.mk (hi); replace HB := Aside0.mk (hb); (try clear hb); (try clear hb2); (try clear hk); (try clear hi)) | ((with_reducible refine gate_callee (f := 26) rfl ?_); refine goesL_ (some 8) rfl rfl Try.func26 (by kernel_rfl) rfl #[.pointer (some ⟨g339, 0, none⟩)] rfl sqA ?_; (with_reducible refine (spec_l05Any.calls g339 t336 t337 t338 t340 t341 t342 t343 t344 t345 t346 t347 t348 t349 t350 t351 w _ ?side1 ?side2 A3.out).mono ?_); (case side1 => exact sqI58 HI339); (case side2 => exact sqB); rintro e w9 ⟨rfl, hi, hb, hk⟩; refine ⟨_, rfl, ?_⟩; replace HI339 := Aside0.mk (hi); replace HB := Aside0.mk (hb); (try clear hb); (try clear hb2); (try clear hk); (try clear hi)) | ((with_reducible refine gate_callee (f := 16) rfl ?_); refine goesL_ (some 9) rfl rfl Try.func16 (by kernel_rfl) rfl #[.agg #[.int .i64 t340, .int .i64 t341, .int .i64 t342, .int .i64 t343, .int .i64 t344, .int .i64 t345, .int .i64 t346, .int .i64 t347, .int .i64 t348, .int .i64 t349]] rfl sqA ?_; (with_reducible refine (spec_CredText.calls k t340 t341 t342 t343 t344 t345 t346 t347 t348 t349 t352 _ A4.out).mono ?_); rintro e w10 ⟨rfl, hb⟩; refine ⟨_, rfl, ?_⟩; replace HI339 := Aside0.mk (IsS58.below (sqI58 HI339) hb); replace HB := sqS hb; (try clear hb); (try clear hb2); (try clear hk); (try clear hi)) | ((with_reducible refine gate_callee (f := 27) rfl ?_); refine goesL_ (some 11) rfl rfl Try.func27 (by kernel_rfl) rfl #[.pointer (some ⟨g339, 0, none⟩), .int .i64 3] rfl sqA ?_; (with_reducible refine (spec_l01Once.calls g339 t336 t350 t351 3 true t354 t355 w _ ?side1 ?side2 A5.out).mono ?_); (case side1 => exact sqI58 HI339); (case side2 => exact sqB); rintro e w11 ⟨rfl, hi, hb, hk⟩; refine ⟨_, rfl, ?_⟩; replace HI339 := Aside0.mk (hi); replace HB := Aside0.mk (hb); (try clear hb); (try clear hb2); (try clear hk); (try clear hi)) | ((with_reducible refine gate_callee (f := 28) rfl ?_); refine goesL_ (some 14) rfl rfl Try.func28 (by kernel_rfl) rfl #[.pointer (some ⟨g339, 0, none⟩), .string t352] rfl sqA ?_; (with_reducible refine (spec_l02Spoilt.calls k g339 t336 t354 t355 t352 t356 t357 t358 w _ ?side1 ?side2 A7.out).mono ?_); (case side1 => exact sqI58 HI339); (case side2 => exact sqB); rintro e w12 ⟨rfl, hi, hb, hk⟩; refine ⟨_, rfl, ?_⟩; replace HI339 := Aside0.mk (hi); replace HB := Aside0.mk (hb); (try clear hb); (try clear hb2); (try clear hk); (try clear hi)))
  go_ret
  exact ⟨sqE, sqB⟩
 ·replace c6 := Bool.eq_false_iff.mpr c6
  subst c6
  rw [if_neg (show ¬ (false = true) by decide)] at H
  obtain rfl := Option.some.inj H
  go_enter Try.func8, Try.ntmps8
  go_wp2_with (first | ((with_reducible refine gate_callee (f := 23) rfl ?_); refine goesL_ (some 6) rfl rfl Try.func23 (by kernel_rfl) rfl #[.slice A0 l0.length c0] rfl sqA ?_; (with_reducible refine (spec_l01New.calls k _ _ l0 t336 t337 t338 w _ ?side1 ?side2 ?side3 A2.out).mono ?_); (case side1 => exact sqB); (case side2 => exact HR0.out); (case side3 => exact HC0.out); rintro e w13 ⟨g339, rfl, hi, hb, hb2⟩; refine ⟨_, rfl, ?_⟩; have HI339 := Aside0.mk (hi); replace HB := Aside0.mk (hb); (try clear hb); (try clear hb2); (try clear hk); (try clear hi)) | ((with_reducible refine gate_callee (f := 26) rfl ?_); refine goesL_ (some 8) rfl rfl Try.func26 (by kernel_rfl) rfl #[.pointer (some ⟨g339, 0, none⟩)] rfl sqA ?_; (with_reducible refine (spec_l05Any.calls g339 t336 t337 t338 t340 t341 t342 t343 t344 t345 t346 t347 t348 t349 t350 t351 w _ ?side1 ?side2 A3.out).mono ?_); (case side1 => exact sqI58 HI339); (case side2 => exact sqB); rintro e w14 ⟨rfl, hi, hb, hk⟩; refine ⟨_, rfl, ?_⟩; replace HI339 := Aside0.mk (hi); replace HB := Aside0.mk (hb); (try clear hb); (try clear hb2); (try clear hk); (try clear hi)) | ((with_reducible refine gate_callee (f := 16) rfl ?_); refine goesL_ (some 9) rfl rfl Try.func16 (by kernel_rfl) rfl #[.agg #[.int .i64 t340, .int .i64 t341, .int .i64 t342, .int .i64 t343, .int .i64 t344, .int .i64 t345, .int .i64 t346, .int .i64 t347, .int .i64 t348, .int .i64 t349]] rfl sqA ?_; (with_reducible refine (spec_CredText.calls k t340 t341 t342 t343 t344 t345 t346 t347 t348 t349 t352 _ A4.out).mono ?_); rintro e w15 ⟨rfl, hb⟩; refine ⟨_, rfl, ?_⟩; replace HI339 := Aside0.mk (IsS58.below (sqI58 HI339) hb); replace HB := sqS hb; (try clear hb); (try clear hb2); (try clear hk); (try clear hi)) | ((with_reducible refine gate_callee (f := 27) rfl ?_); refine goesL_ (some 11) rfl rfl Try.func27 (by kernel_rfl) rfl #[.pointer (some ⟨g339, 0, none⟩), .int .i64 3] rfl sqA ?_; (with_reducible refine (spec_l01Once.calls g339 t336 t350 t351 3 false t354 t355 w _ ?side1 ?side2 A5.out).mono ?_); (case side1 => exact sqI58 HI339); (case side2 => exact sqB); rintro e w16 ⟨rfl, hi, hb, hk⟩; refine ⟨_, rfl, ?_⟩; replace HI339 := Aside0.mk (hi); replace HB := Aside0.mk (hb); (try clear hb); (try clear hb2); (try clear hk); (try clear hi)))
  go_ret
  exact ⟨sqE, sqB⟩

end Go.Proofs.Ythodhbgocnbddaa.PFnWords
