/- What the code that one law of the given program reaches computes, function by function, each with its proof over the given translation.
Conditions: none of our own. (Laid by a program of this session, wip/xp/xp.py; some contracts are typed by hand.) -/
import Derived.Test.YtckjobcagniieaaPFnSignsToldx0
import Derived.Test.YtckjobcagniieaaPFnSignsToldx4
import Derived.Test.YtckjobcagniieaaPFnSignsToldx5
namespace Go.Proofs.Ytckjobcagniieaa.PFnSignsTold
open Go.RowKit Go.Proofs.YtckjobcagniieaaW.PrintWords Go.Proofs.YtckjobcagniieaaW.PrintLast Go.Proofs.YtckjobcagniieaaW.PrintMore
attribute [local go_sem] max2_int min2_int max_two min_two max_three min_three max_four min_four   -- for this text's walks alone
set_option linter.unusedVariables false
set_option linter.unusedSimpArgs false

/-! ### spec_l03Turn: function 83 -/
def spec_l03Turn.f (a0 : Int) (a1 : Int) : Option (Int) := if 0 ≤ a1 then (if 0 ≤ (IntKind.u64.wrap (32 - a1)) then (some (Go.bits .or .u32 (shr .u32 a0 a1) (shl .u32 a0 (IntKind.u64.wrap (32 - a1))))) else (none)) else (none)
set_option maxHeartbeats 8000000 in
set_option maxRecDepth 100000 in
theorem spec_l03Turn.calls (a0 : Int) (a1 : Int) (r : Int) (w : World) (h : spec_l03Turn.f a0 a1 = some r) :
  Calls Try.prog 83 #[.int .u32 a0, .int .u64 a1] w fun e w' => e = .returned (.int .u32 r) ∧ Drawn0 w w' := by
 have H : (if 0 ≤ a1 then (if 0 ≤ (IntKind.u64.wrap (32 - a1)) then (some (Go.bits .or .u32 (shr .u32 a0 a1) (shl .u32 a0 (IntKind.u64.wrap (32 - a1))))) else (none)) else (none)) = some r := h
 clear h
 by_cases c3 : 0 ≤ a1
 ·rw [if_pos c3] at H
  have c3b0 := eq_true c3
  have c3b1 : decide (0 ≤ a1) = true := decide_eq_true c3
  clear c3
  obtain ⟨ji4, hji4⟩ : ∃ j_ : Int, (shr .u32 a0 a1) = j_ := ⟨_, rfl⟩
  replace H : (if 0 ≤ (IntKind.u64.wrap (32 - a1)) then (some (Go.bits .or .u32 (ji4) (shl .u32 a0 (IntKind.u64.wrap (32 - a1))))) else (none)) = some r := by first | (rw [hji4] at H; exact H) | (simp only [hji4] at H ⊢; exact H)
  have hji4_ : (a0 / 2 ^ min a1.toNat 32) = ji4 := hji4
  have hji4z : a1 ≤ 32 → (a0 / 2 ^ a1.toNat) = ji4 := shr_small hji4
  obtain ⟨ji5, hji5⟩ : ∃ j_ : Int, (IntKind.u64.wrap (32 - a1)) = j_ := ⟨_, rfl⟩
  replace H : (if 0 ≤ (ji5) then (some (Go.bits .or .u32 (ji4) (shl .u32 a0 (ji5)))) else (none)) = some r := by first | (rw [hji5] at H; exact H) | (simp only [hji5] at H ⊢; exact H)
  by_cases c6 : 0 ≤ (ji5)
  ·rw [if_pos c6] at H
   have c6b0 := eq_true c6
   have c6b1 : decide (0 ≤ (ji5)) = true := decide_eq_true c6
   clear c6
   obtain ⟨ji7, hji7⟩ : ∃ j_ : Int, (shl .u32 a0 (ji5)) = j_ := ⟨_, rfl⟩
   replace H : (some (Go.bits .or .u32 (ji4) (ji7))) = some r := by first | (rw [hji7] at H; exact H) | (simp only [hji7] at H ⊢; exact H)
   have hji7_ : (IntKind.u32.wrap (a0 * 2 ^ min (ji5).toNat 32)) = ji7 := hji7
   have hji7z : (ji5) ≤ 32 → (IntKind.u32.wrap (a0 * 2 ^ (ji5).toNat)) = ji7 := shl_small hji7
   obtain rfl := Option.some.inj H
   go_enter Try.func83, Try.ntmps83
   go_wp2
   go_ret
   exact ⟨by first | rfl | (simp; done) | (simp only [← hji4, ← hji5, ← hji7] <;> (first | rfl | simp)) | (simp [*]; done), by repeat (first | exact Drawn0.refl _ | apply Drawn0.step)⟩
  ·rw [if_neg c6] at H
   exact absurd H (by simp)
 ·rw [if_neg c3] at H
  exact absurd H (by simp)

-- NOT PRINTED: function 77 (spec_l03Block)

/-! ### spec_Digest: function 61 -/
def spec_Digest.f (a0 : ByteArray) : Option (ByteArray) := if a0.size ≤ 140737488351232 then some (Go.Proofs.Ytckjobcagniieaa.Dig.dig a0) else none
theorem spec_Digest.calls (a0 : ByteArray) (r : ByteArray) (w : World) (h : spec_Digest.f a0 = some r) :
  Calls Try.prog 61 #[.string a0] w fun e w' => e = .returned (.string r) ∧ Below w.heap.size w w' := by
 unfold spec_Digest.f at h
 by_cases c : a0.size ≤ 140737488351232
 ·rw [if_pos c] at h
  obtain rfl := Option.some.inj h
  exact Go.Proofs.Ytckjobcagniieaa.Dig.spec_digest a0 c w
 ·rw [if_neg c] at h
  exact absurd h (by simp)

/-! ### spec_CutDigest: function 66 -/
def spec_CutDigest.f (a0 : ByteArray) (a1 : Int) : Option (ByteArray) := (spec_l01In.f a1 1 32).bind fun t244 => (if t244 = true then ((spec_Digest.f a0).bind fun t245 => (if 0 ≤ a1 then (if a1 ≤ (t245.size : Int) then (some (t245.extract 0 (a1 : Int).toNat)) else (none)) else (none))) else (some (⟨#[]⟩ : ByteArray)))
set_option maxHeartbeats 8000000 in
set_option maxRecDepth 100000 in
theorem spec_CutDigest.calls (a0 : ByteArray) (a1 : Int) (r : ByteArray) (w : World) (h : spec_CutDigest.f a0 a1 = some r) :
  Calls Try.prog 66 #[.string a0, .int .i64 a1] w fun e w' => e = .returned (.string r) ∧ Below w.heap.size w w' := by
 have HB := Aside0.mk (Below.refl w.heap.size w)
 have H : ((spec_l01In.f a1 1 32).bind fun t244 => (if t244 = true then ((spec_Digest.f a0).bind fun t245 => (if 0 ≤ a1 then (if a1 ≤ (t245.size : Int) then (some (t245.extract 0 (a1 : Int).toNat)) else (none)) else (none))) else (some (⟨#[]⟩ : ByteArray)))) = some r := h
 clear h
 replace H := Option.bind_eq_some_iff.mp H
 obtain ⟨t244, A30, H⟩ := H
 try dsimp only at H
 have A3 := Aside0.mk A30
 clear A30
 by_cases c4 : t244 = true
 ·subst c4
  rw [if_pos rfl] at H
  replace H := Option.bind_eq_some_iff.mp H
  obtain ⟨t245, A50, H⟩ := H
  try dsimp only at H
  have A5 := Aside0.mk A50
  clear A50
  by_cases c6 : 0 ≤ a1
  ·rw [if_pos c6] at H
   have c6b0 := eq_true c6
   have c6b1 : decide (0 ≤ a1) = true := decide_eq_true c6
   clear c6
   by_cases c7 : a1 ≤ (t245.size : Int)
   ·rw [if_pos c7] at H
    have c7b0 := eq_true c7
    have c7b1 : decide (a1 ≤ (t245.size : Int)) = true := decide_eq_true c7
    clear c7
    obtain rfl := Option.some.inj H
    go_enter Try.func66, Try.ntmps66
    go_wp2_with (first | ((with_reducible refine gate_callee (f := 52) rfl ?_); refine goesL_ (some 6) rfl rfl Try.func52 (by kernel_rfl) rfl #[.int .i64 a1, .int .i64 1, .int .i64 32] rfl sqA ?_; (with_reducible refine (spec_l01In.calls a1 1 32 true _ A3.out).mono ?_); rintro e w' ⟨rfl, ⟨nd, rfl⟩⟩; refine ⟨_, rfl, ?_⟩) | ((with_reducible refine gate_callee (f := 61) rfl ?_); refine goesL_ (some 9) rfl rfl Try.func61 (by kernel_rfl) rfl #[.string a0] rfl sqA ?_; (with_reducible refine (spec_Digest.calls a0 t245 _ A5.out).mono ?_); rintro e w8 ⟨rfl, hb⟩; refine ⟨_, rfl, ?_⟩; replace HB := sqS hb; (try clear hb); (try clear hb2); (try clear hk); (try clear hi)))
    go_ret
    exact ⟨sqE, sqB⟩
   ·rw [if_neg c7] at H
    exact absurd H (by simp)
  ·rw [if_neg c6] at H
   exact absurd H (by simp)
 ·replace c4 := Bool.eq_false_iff.mpr c4
  subst c4
  rw [if_neg (show ¬ (false = true) by decide)] at H
  obtain rfl := Option.some.inj H
  go_enter Try.func66, Try.ntmps66
  go_wp2_with (first | ((with_reducible refine gate_callee (f := 52) rfl ?_); refine goesL_ (some 6) rfl rfl Try.func52 (by kernel_rfl) rfl #[.int .i64 a1, .int .i64 1, .int .i64 32] rfl sqA ?_; (with_reducible refine (spec_l01In.calls a1 1 32 false _ A3.out).mono ?_); rintro e w' ⟨rfl, ⟨nd, rfl⟩⟩; refine ⟨_, rfl, ?_⟩))
  go_ret
  exact ⟨sqE, sqB⟩

/-! ### spec_l04Cut: function 43 -/
def spec_l04Cut.f (a0 : ByteArray) : Option (ByteArray) := (spec_CutDigest.f a0 8).bind fun t246 => (some t246)
set_option maxHeartbeats 8000000 in
set_option maxRecDepth 100000 in
theorem spec_l04Cut.calls (a0 : ByteArray) (r : ByteArray) (w : World) (h : spec_l04Cut.f a0 = some r) :
  Calls Try.prog 43 #[.string a0] w fun e w' => e = .returned (.string r) ∧ Below w.heap.size w w' := by
 have HB := Aside0.mk (Below.refl w.heap.size w)
 have H : ((spec_CutDigest.f a0 8).bind fun t246 => (some t246)) = some r := h
 clear h
 replace H := Option.bind_eq_some_iff.mp H
 obtain ⟨t246, A20, H⟩ := H
 try dsimp only at H
 have A2 := Aside0.mk A20
 clear A20
 obtain rfl := Option.some.inj H
 go_enter Try.func43, Try.ntmps43
 go_wp2_with (first | ((with_reducible refine gate_callee (f := 66) rfl ?_); refine goesL_ (some 4) rfl rfl Try.func66 (by kernel_rfl) rfl #[.string a0, .int .i64 8] rfl sqA ?_; (with_reducible refine (spec_CutDigest.calls a0 8 t246 _ A2.out).mono ?_); rintro e w3 ⟨rfl, hb⟩; refine ⟨_, rfl, ?_⟩; replace HB := sqS hb; (try clear hb); (try clear hb2); (try clear hk); (try clear hi)))
 go_ret
 exact ⟨sqE, sqB⟩

/-! ### spec_ChainOf: function 13 -/
def spec_ChainOf.l0 : Nat → ByteArray → Int → Int → Option (ByteArray)
 | 0, _, _, _ => none
 | k + 1, x0, x1, x5 => if x5 < x1 then (if x5 < 3 then (if 1 + x0.size ≤ 9223372036854775807 then ((spec_l04Cut.f ((⟨#[99]⟩ : ByteArray) ++ x0)).bind fun t247 => (spec_ChainOf.l0 k t247 x1 (wrap64 (x5 + 1)))) else (none)) else (some x0)) else (some x0)
def spec_ChainOf.f (k : Nat) (a0 : ByteArray) (a1 : Int) : Option (ByteArray) := spec_ChainOf.l0 k a0 a1 0
theorem spec_ChainOf.mono_l : ∀ k, (∀ y0 y1 y2, LeO (spec_ChainOf.l0 k y0 y1 y2) (spec_ChainOf.l0 (k + 1) y0 y1 y2))
 | 0 => fun _ _ _ r h => by simp [spec_ChainOf.l0] at h
 | k + 1 => by
  have ih0 := spec_ChainOf.mono_l k
  ·intro y0 y1 y2
   unfold spec_ChainOf.l0
   repeat' first
   | (with_reducible exact ih0 _ _ _)
   | (with_reducible exact LeO.refl _)
   | (with_reducible exact LeO.none _)
   | (with_reducible refine LeO.ite ?_ ?_)
   | (with_reducible refine LeO.bind ?_ (fun _ => ?_))
   | exact ih0 _ _ _
   | exact LeO.none _
   | refine LeO.ite ?_ ?_
   | refine LeO.bind ?_ (fun _ => ?_)
theorem spec_ChainOf.mono : ∀ a0 a1 k, LeO (spec_ChainOf.f k a0 a1) (spec_ChainOf.f (k + 1) a0 a1) := by
 intro a0 a1 k
 have ih0 := spec_ChainOf.mono_l k
 unfold spec_ChainOf.f
 repeat' first
   | (with_reducible exact ih0 _ _ _)
   | (with_reducible exact LeO.refl _)
   | (with_reducible exact LeO.none _)
   | (with_reducible refine LeO.ite ?_ ?_)
   | (with_reducible refine LeO.bind ?_ (fun _ => ?_))
   | exact ih0 _ _ _
   | exact LeO.none _
   | refine LeO.ite ?_ ?_
   | refine LeO.bind ?_ (fun _ => ?_)
set_option maxHeartbeats 8000000 in
set_option maxRecDepth 100000 in
theorem spec_ChainOf.calls (k : Nat) (a0 : ByteArray) (a1 : Int) (r : ByteArray) (w : World) (h : spec_ChainOf.f k a0 a1 = some r) :
  Calls Try.prog 13 #[.string a0, .int .i64 a1] w fun e w' => e = .returned (.string r) ∧ Below w.heap.size w w' := by
 have HB := Aside0.mk (Below.refl w.heap.size w)
 have H : (spec_ChainOf.l0 k a0 a1 0) = some r := h
 clear h
 have H' := Aside0.mk H
 clear H
 go_enter Try.func13, Try.ntmps13
 go_wp2
 go_loopg [0, 5] k (fun kq v0 v5 w' => ∃ (x0_1 : ByteArray) (x5_1 : Int), v0 = .string x0_1 ∧ v5 = .int .i64 x5_1 ∧ Aside0 (spec_ChainOf.l0 kq x0_1 a1 x5_1 = some r) ∧ Aside0 (kq ≤ k) ∧ Aside0 (Below w.heap.size w w'))
 case atStart => exact ⟨(a0), (0), (by first | rfl | (simp; done) | (simp [*]; done)), (by first | rfl | (simp; done) | (simp [*]; done)), H', ⟨Nat.le_refl _⟩, ⟨sqB⟩⟩
 case round =>
  clear H'
  try clear c1
  try clear p2
  obtain ⟨x0_1, x5_1, rfl, rfl, HA, HK1, HB⟩ := hrel
  cases gk with
  | zero => exact absurd HA.out (by simp [spec_ChainOf.l0])
  | succ k1 =>
   have H := HA.out
   clear HA
   simp only [spec_ChainOf.l0] at H
   by_cases c3 : x5_1 < a1
   ·rw [if_pos c3] at H
    have c3b0 : decide (x5_1 < a1) = true := decide_eq_true c3
    clear c3
    by_cases c4 : x5_1 < 3
    ·rw [if_pos c4] at H
     have c4b0 : decide (x5_1 < 3) = true := decide_eq_true c4
     clear c4
     by_cases c5 : 1 + x0_1.size ≤ 9223372036854775807
     ·rw [if_pos c5] at H
      have c5b0 := eq_true c5
      have c5b1 : decide (1 + x0_1.size ≤ 9223372036854775807) = true := decide_eq_true c5
      try have c5b2 : (9223372036854775807 < 1 + x0_1.size) = False := eq_false (Nat.not_lt.2 c5)
      replace H := Option.bind_eq_some_iff.mp H
      obtain ⟨t247, A60, H⟩ := H
      try dsimp only at H
      have A6 := Aside0.mk A60
      clear A60
      have H' := Aside0.mk H
      clear H
      go_wp2_with (first | ((with_reducible refine gate_callee (f := 43) rfl ?_); refine goesL_ (some 17) rfl rfl Try.func43 (by kernel_rfl) rfl #[.string ((⟨#[99]⟩ : ByteArray) ++ x0_1)] rfl sqA ?_; (with_reducible refine (spec_l04Cut.calls ((⟨#[99]⟩ : ByteArray) ++ x0_1) t247 _ A6.out).mono ?_); rintro e w7 ⟨rfl, hb⟩; refine ⟨_, rfl, ?_⟩; replace HB := sqS hb; (try clear hb); (try clear hb2); (try clear hk); (try clear hi)))
      go_roundg k1
      case measure => have := HK1.out; omega
      case rel => exact ⟨(t247), (wrap64 (x5_1 + 1)), (by first | rfl | (simp; done) | (simp [*]; done)), (by first | rfl | (simp; done) | (simp [*]; done)), H', ⟨by have := HK1.out; omega⟩, ⟨sqB⟩⟩
     ·rw [if_neg c5] at H
      exact absurd H (by simp)
    ·rw [if_neg c4] at H
     have c4b0 : decide (x5_1 < 3) = false := decide_eq_false c4
     clear c4
     obtain rfl := Option.some.inj H
     go_wp2
     go_ret
     exact ⟨sqE, sqB⟩
   ·rw [if_neg c3] at H
    have c3b0 : decide (x5_1 < a1) = false := decide_eq_false c3
    clear c3
    obtain rfl := Option.some.inj H
    go_wp2
    go_ret
    exact ⟨sqE, sqB⟩

-- NOT PRINTED: function 82 (slices_IndexFunc_string_string)

-- NOT PRINTED: function 69 (slices_ContainsFunc_string_string)

/-! ### impl_signFormed: function 46 -/
def impl_signFormed.f (a0_0 : Int) (l0_1 : List ByteArray) (l0_2 : List ByteArray) : Option (Bool) := if l0_1.length ≤ 4000000 ∧ l0_2.length ≤ 4000000 then some (Go.Proofs.Ytckjobcagniieaa.Formed.formedB a0_0 l0_1 l0_2) else none
theorem impl_signFormed.calls (a0_0 : Int) (A0_1 : Option Addr) (c0_1 : Nat) (l0_1 : List ByteArray) (A0_2 : Option Addr) (c0_2 : Nat) (l0_2 : List ByteArray) (r : Bool) (w : World) (hr0_1 : Kd.C Kd.string w A0_1 l0_1.length l0_1) (hc0_1 : l0_1.length ≤ c0_1) (hr0_2 : Kd.C Kd.string w A0_2 l0_2.length l0_2) (hc0_2 : l0_2.length ≤ c0_2) (h : impl_signFormed.f a0_0 l0_1 l0_2 = some r) :
  Calls Try.prog 46 #[.agg #[.int .i64 a0_0, .slice A0_1 l0_1.length c0_1, .slice A0_2 l0_2.length c0_2]] w fun e w' => e = .returned (.bool r) ∧ Below w.heap.size w w' := by
 unfold impl_signFormed.f at h
 by_cases c : l0_1.length ≤ 4000000 ∧ l0_2.length ≤ 4000000
 ·rw [if_pos c] at h
  obtain rfl := Option.some.inj h
  exact Go.Proofs.Ytckjobcagniieaa.Formed.formed_calls a0_0 A0_1 c0_1 l0_1 A0_2 c0_2 l0_2 w hr0_1 hr0_2 c.1 c.2
 ·rw [if_neg c] at h
  exact absurd h (by simp)

/-! ### impl_SignedBy: function 15 -/
mutual
def impl_SignedBy.l0 : Nat → ByteArray → ByteArray → List Int → Int → Int → Int → List ByteArray → List ByteArray → Option (Bool)
 | 0, _, _, _, _, _, _, _, _ => none
 | k + 1, x0, x7, x18, x19, x20, x249000, x249001, x249002 => if x20 < x19 then (if 0 ≤ x20 then (if x20 < (x18.length : Int) then (if x20 < (x249001.length : Int) then ((impl_ChainOf.f k (rdOf ByteArray.empty x249001 x20) (wrap64 (3 - (rd x18 x20)))).bind fun t255 => (if x7.size + t255.size ≤ 9223372036854775807 then (impl_SignedBy.l0 k x0 (x7 ++ t255) x18 x19 (wrap64 (x20 + 1)) x249000 x249001 x249002) else (none))) else (none)) else (none)) else (none)) else ((impl_short.f k 108 x7).bind fun t256 => (impl_SignedBy.l1 k x0 t256 x249000 x249002 (x249002.length : Int) 0))
def impl_SignedBy.l1 : Nat → ByteArray → ByteArray → Int → List ByteArray → Int → Int → Option (Bool)
 | 0, _, _, _, _, _, _ => none
 | k + 1, x0, x10, x11, x41, x42, x43 => if x43 < x42 then (if 0 ≤ x43 then (if x43 < (x41.length : Int) then (if (Int.tmod x11 2) = 0 then (if x10.size + (rdOf ByteArray.empty x41 x43).size ≤ 9223372036854775807 then ((impl_short.f k 110 (x10 ++ (rdOf ByteArray.empty x41 x43))).bind fun t258 => (impl_SignedBy.l1 k x0 t258 (wrap64 (Int.tdiv x11 2)) x41 x42 (wrap64 (x43 + 1)))) else (none)) else (if (rdOf ByteArray.empty x41 x43).size + x10.size ≤ 9223372036854775807 then ((impl_short.f k 110 ((rdOf ByteArray.empty x41 x43) ++ x10)).bind fun t259 => (impl_SignedBy.l1 k x0 t259 (wrap64 (Int.tdiv x11 2)) x41 x42 (wrap64 (x43 + 1)))) else (none))) else (none)) else (none)) else (some (x10.toList == x0.toList))
end
def impl_SignedBy.f (k : Nat) (a0 : ByteArray) (a1 : ByteArray) (a2_0 : Int) (l2_1 : List ByteArray) (l2_2 : List ByteArray) : Option (Bool) := (impl_signFormed.f a2_0 l2_1 l2_2).bind fun t249 => (if t249 = true then ((impl_QuadsOf.f k a1).bind fun t250 => (impl_SignedBy.l0 k a0 (⟨#[]⟩ : ByteArray) t250 (t250.length : Int) 0 a2_0 l2_1 l2_2)) else (some false))
theorem impl_SignedBy.mono_l : ∀ k, (∀ y0 y1 y2 y3 y4 y5 y6 y7, LeO (impl_SignedBy.l0 k y0 y1 y2 y3 y4 y5 y6 y7) (impl_SignedBy.l0 (k + 1) y0 y1 y2 y3 y4 y5 y6 y7)) ∧ (∀ y0 y1 y2 y3 y4 y5, LeO (impl_SignedBy.l1 k y0 y1 y2 y3 y4 y5) (impl_SignedBy.l1 (k + 1) y0 y1 y2 y3 y4 y5))
 | 0 => ⟨fun _ _ _ _ _ _ _ _ r h => by simp [impl_SignedBy.l0] at h, fun _ _ _ _ _ _ r h => by simp [impl_SignedBy.l1] at h⟩
 | k + 1 => by
  obtain ⟨ih0, ih1⟩ := impl_SignedBy.mono_l k
  refine ⟨?_, ?_⟩
  ·intro y0 y1 y2 y3 y4 y5 y6 y7
   unfold impl_SignedBy.l0
   repeat' first
   | (with_reducible exact ih0 _ _ _ _ _ _ _ _)
   | (with_reducible exact ih1 _ _ _ _ _ _)
   | (with_reducible exact impl_ChainOf.mono _ _ _)
   | (with_reducible exact impl_QuadsOf.mono _ _)
   | (with_reducible exact impl_short.mono _ _ _)
   | (with_reducible exact LeO.refl _)
   | (with_reducible exact LeO.none _)
   | (with_reducible refine LeO.ite ?_ ?_)
   | (with_reducible refine LeO.bind ?_ (fun _ => ?_))
   | exact ih0 _ _ _ _ _ _ _ _
   | exact ih1 _ _ _ _ _ _
   | exact impl_ChainOf.mono _ _ _
   | exact impl_QuadsOf.mono _ _
   | exact impl_short.mono _ _ _
   | exact LeO.none _
   | refine LeO.ite ?_ ?_
   | refine LeO.bind ?_ (fun _ => ?_)
  ·intro y0 y1 y2 y3 y4 y5
   unfold impl_SignedBy.l1
   repeat' first
   | (with_reducible exact ih0 _ _ _ _ _ _ _ _)
   | (with_reducible exact ih1 _ _ _ _ _ _)
   | (with_reducible exact impl_ChainOf.mono _ _ _)
   | (with_reducible exact impl_QuadsOf.mono _ _)
   | (with_reducible exact impl_short.mono _ _ _)
   | (with_reducible exact LeO.refl _)
   | (with_reducible exact LeO.none _)
   | (with_reducible refine LeO.ite ?_ ?_)
   | (with_reducible refine LeO.bind ?_ (fun _ => ?_))
   | exact ih0 _ _ _ _ _ _ _ _
   | exact ih1 _ _ _ _ _ _
   | exact impl_ChainOf.mono _ _ _
   | exact impl_QuadsOf.mono _ _
   | exact impl_short.mono _ _ _
   | exact LeO.none _
   | refine LeO.ite ?_ ?_
   | refine LeO.bind ?_ (fun _ => ?_)
theorem impl_SignedBy.mono : ∀ a0 a1 a2 a3 a4 k, LeO (impl_SignedBy.f k a0 a1 a2 a3 a4) (impl_SignedBy.f (k + 1) a0 a1 a2 a3 a4) := by
 intro a0 a1 a2 a3 a4 k
 obtain ⟨ih0, ih1⟩ := impl_SignedBy.mono_l k
 unfold impl_SignedBy.f
 repeat' first
   | (with_reducible exact ih0 _ _ _ _ _ _ _ _)
   | (with_reducible exact ih1 _ _ _ _ _ _)
   | (with_reducible exact impl_ChainOf.mono _ _ _)
   | (with_reducible exact impl_QuadsOf.mono _ _)
   | (with_reducible exact impl_short.mono _ _ _)
   | (with_reducible exact LeO.refl _)
   | (with_reducible exact LeO.none _)
   | (with_reducible refine LeO.ite ?_ ?_)
   | (with_reducible refine LeO.bind ?_ (fun _ => ?_))
   | exact ih0 _ _ _ _ _ _ _ _
   | exact ih1 _ _ _ _ _ _
   | exact impl_ChainOf.mono _ _ _
   | exact impl_QuadsOf.mono _ _
   | exact impl_short.mono _ _ _
   | exact LeO.none _
   | refine LeO.ite ?_ ?_
   | refine LeO.bind ?_ (fun _ => ?_)
set_option maxHeartbeats 8000000 in
set_option maxRecDepth 100000 in
theorem impl_SignedBy.calls (k : Nat) (a0 : ByteArray) (a1 : ByteArray) (a2_0 : Int) (A2_1 : Option Addr) (c2_1 : Nat) (l2_1 : List ByteArray) (A2_2 : Option Addr) (c2_2 : Nat) (l2_2 : List ByteArray) (r : Bool) (w : World) (hr2_1 : Kd.C Kd.string w A2_1 l2_1.length l2_1) (hc2_1 : l2_1.length ≤ c2_1) (hr2_2 : Kd.C Kd.string w A2_2 l2_2.length l2_2) (hc2_2 : l2_2.length ≤ c2_2) (h : impl_SignedBy.f k a0 a1 a2_0 l2_1 l2_2 = some r) :
  Calls Try.prog 15 #[.string a0, .string a1, .agg #[.int .i64 a2_0, .slice A2_1 l2_1.length c2_1, .slice A2_2 l2_2.length c2_2]] w fun e w' => e = .returned (.bool r) ∧ Below w.heap.size w w' := by
 have hu29 := Try.underlying29
 have HR2_1 := Aside0.mk hr2_1
 have HC2_1 := Aside0.mk hc2_1
 clear hr2_1 hc2_1
 have HR2_2 := Aside0.mk hr2_2
 have HC2_2 := Aside0.mk hc2_2
 clear hr2_2 hc2_2
 have HB := Aside0.mk (Below.refl w.heap.size w)
 have H : ((impl_signFormed.f a2_0 l2_1 l2_2).bind fun t249 => (if t249 = true then ((impl_QuadsOf.f k a1).bind fun t250 => (impl_SignedBy.l0 k a0 (⟨#[]⟩ : ByteArray) t250 (t250.length : Int) 0 a2_0 l2_1 l2_2)) else (some false))) = some r := h
 clear h
 replace H := Option.bind_eq_some_iff.mp H
 obtain ⟨t249, A40, H⟩ := H
 try dsimp only at H
 have A4 := Aside0.mk A40
 clear A40
 by_cases c5 : t249 = true
 ·subst c5
  rw [if_pos rfl] at H
  replace H := Option.bind_eq_some_iff.mp H
  obtain ⟨t250, A60, H⟩ := H
  try dsimp only at H
  have A6 := Aside0.mk A60
  clear A60
  have H' := Aside0.mk H
  clear H
  go_enter Try.func15, Try.ntmps15
  go_wp2_with (first | ((with_reducible refine gate_dst (N := 5) rfl ?_); refine sqX (N := 5) (cs := #[.int .i64 a2_0, .slice A2_1 l2_1.length c2_1, .slice A2_2 l2_2.length c2_2]) (t := 29) ?_; intro gb248 hg w7 hbox hb; have BK248 := Aside0.mk (hbox); have GW248 := sqG hg; have GE248 := sqG hg; replace HB := sqS hb; clear hb hbox hg; obtain ⟨hcz8_0, hcz8_1, hcz8_2, hfz8_0, hfz8_1, hfz8_2⟩ := sqC3 BK248) | ((with_reducible refine gate_callee (f := 46) rfl ?_); refine goesL_ (some 15) rfl rfl Try.func46 (by kernel_rfl) rfl #[.agg #[.int .i64 a2_0, .slice A2_1 l2_1.length c2_1, .slice A2_2 l2_2.length c2_2]] rfl sqA ?_; (with_reducible refine (impl_signFormed.calls a2_0 _ _ l2_1 _ _ l2_2 true _ ?side1 ?side2 ?side3 ?side4 A4.out).mono ?_); (case side1 => repeat (first | exact (Kd.C_below HR2_1.out HB.out) | (with_reducible refine Kd.C_alloc ?_ _) | (with_reducible refine Kd.C_drewN ?_ _) | (with_reducible refine Kd.C_drew ?_))); (case side2 => exact HC2_1.out); (case side3 => repeat (first | exact (Kd.C_below HR2_2.out HB.out) | (with_reducible refine Kd.C_alloc ?_ _) | (with_reducible refine Kd.C_drewN ?_ _) | (with_reducible refine Kd.C_drew ?_))); (case side4 => exact HC2_2.out); rintro e w9 ⟨rfl, hb⟩; refine ⟨_, rfl, ?_⟩; replace BK248 := sqL BK248 hb; replace HB := sqS hb; (try clear hb); (try clear hb2); (try clear hk); (try clear hi)) | ((with_reducible refine gate_callee (f := 12) rfl ?_); refine goesL_ (some 18) rfl rfl Try.func12 (by kernel_rfl) rfl #[.string a1] rfl sqA ?_; (with_reducible refine (impl_QuadsOf.calls k a1 t250 _ A6.out).mono ?_); rintro e w10 ⟨v251, rfl, ho0, hb⟩; refine ⟨_, rfl, ?_⟩; have HO252 := Aside0.mk (Kd.R_lower ho0 (below_size (sqB))); replace BK248 := sqL BK248 hb; replace HB := sqS hb; (try clear hb); (try clear hb2); (try clear hk); (try clear hi); (try clear ho0); obtain ⟨Ao11, co11, eo11⟩ := Kd.R_slice HO252.out; subst eo11))
  go_loopg [7, 20] k (fun kq v7 v20 w' => ∃ (x7_1 : ByteArray) (x20_1 : Int), v7 = .string x7_1 ∧ v20 = .int .i64 x20_1 ∧ Aside0 (impl_SignedBy.l0 kq a0 x7_1 t250 (t250.length : Int) x20_1 a2_0 l2_1 l2_2 = some r) ∧ Aside0 (kq ≤ k) ∧ Aside0 (Kd.R (Kd.int .i64) 3 w' w.heap.size (fun _ => True) (.slice Ao11 t250.length co11) t250) ∧ Aside0 (w'.heap[gb248]? = some (.cells #[.int .i64 a2_0, (.slice A2_1 l2_1.length c2_1), (.slice A2_2 l2_2.length c2_2)] 29 (0, 0))) ∧ Aside0 (Below w.heap.size w w'))
  case atStart => exact ⟨((⟨#[]⟩ : ByteArray)), (0), (by first | rfl | (simp; done) | (simp [*]; done)), (by first | rfl | (simp; done) | (simp [*]; done)), H', ⟨Nat.le_refl _⟩, ⟨sqR HO252⟩, ⟨sqK BK248⟩, ⟨sqB⟩⟩
  case round =>
   clear H'
   try clear c1
   try clear c2
   try clear p2
   try clear c4
   try clear c5
   try clear hcz8_0 hcz8_1 hcz8_2 hfz8_0 hfz8_1 hfz8_2
   obtain ⟨x7_1, x20_1, rfl, rfl, HA, HK1, HO_18, BK248, HB⟩ := hrel
   cases gk with
   | zero => exact absurd HA.out (by simp [impl_SignedBy.l0])
   | succ k1 =>
    have H := HA.out
    clear HA
    simp only [impl_SignedBy.l0] at H
    by_cases c12 : x20_1 < (t250.length : Int)
    ·rw [if_pos c12] at H
     have c12b0 : decide (x20_1 < (t250.length : Int)) = true := decide_eq_true c12
     clear c12
     by_cases c13 : 0 ≤ x20_1
     ·rw [if_pos c13] at H
      have c13b0 : decide (0 ≤ x20_1) = true := decide_eq_true c13
      clear c13
      by_cases c14 : x20_1 < (t250.length : Int)
      ·rw [if_pos c14] at H
       have c14b0 : decide (x20_1 < (t250.length : Int)) = true := decide_eq_true c14
       clear c14
       by_cases c15 : x20_1 < (l2_1.length : Int)
       ·rw [if_pos c15] at H
        have c15b0 : decide (x20_1 < (l2_1.length : Int)) = true := decide_eq_true c15
        clear c15
        replace H := Option.bind_eq_some_iff.mp H
        obtain ⟨t255, A160, H⟩ := H
        try dsimp only at H
        have A16 := Aside0.mk A160
        clear A160
        by_cases c17 : x7_1.size + t255.size ≤ 9223372036854775807
        ·rw [if_pos c17] at H
         have c17b0 := eq_true c17
         have c17b1 : decide (x7_1.size + t255.size ≤ 9223372036854775807) = true := decide_eq_true c17
         try have c17b2 : (9223372036854775807 < x7_1.size + t255.size) = False := eq_false (Nat.not_lt.2 c17)
         have H' := Aside0.mk H
         clear H
         have p253 : 0 ≤ (x20_1 : Int) := sqD
         have q253 : x20_1 < (t250.length : Int) := sqD
         obtain ⟨ad253, e253, hx253_0⟩ := Kd.at_int (Kd.R_reads' HO_18.out).2.2 x20_1 p253 q253
         cases e253
         replace p253 := eq_true p253
         replace q253 := eq_true q253
         obtain ⟨hcz18_0, hcz18_1, hcz18_2, hfz18_0, hfz18_1, hfz18_2⟩ := sqC3 BK248
         have p254 : 0 ≤ (x20_1 : Int) := sqD
         have q254 : x20_1 < (l2_1.length : Int) := sqD
         obtain ⟨ad254, e254, hx254_0⟩ := Kd.at_string HR2_1.out x20_1 p254 q254
         cases e254
         replace hx254_0 := sqH HB hx254_0
         replace p254 := eq_true p254
         replace q254 := eq_true q254
         go_wp2_with (first | ((with_reducible refine gate_callee (f := 32) rfl ?_); refine goesL_ (some 33) rfl rfl Try.func32 (by kernel_rfl) rfl #[.string (rdOf ByteArray.empty l2_1 x20_1), .int .i64 (wrap64 (3 - (rd t250 x20_1)))] rfl sqA ?_; (with_reducible refine (impl_ChainOf.calls k1 (rdOf ByteArray.empty l2_1 x20_1) (wrap64 (3 - (rd t250 x20_1))) t255 _ A16.out).mono ?_); rintro e w19 ⟨rfl, hb⟩; refine ⟨_, rfl, ?_⟩; replace HO_18 := Aside0.mk (Kd.R_below (sqR HO_18) hb); replace BK248 := sqL BK248 hb; replace HB := sqS hb; (try clear hb); (try clear hb2); (try clear hk); (try clear hi)))
         go_roundg k1
         case measure => have := HK1.out; omega
         case rel => exact ⟨(x7_1 ++ t255), (wrap64 (x20_1 + 1)), (by first | rfl | (simp; done) | (simp [*]; done)), (by first | rfl | (simp; done) | (simp [*]; done)), H', ⟨by have := HK1.out; omega⟩, ⟨sqR HO_18⟩, ⟨sqK BK248⟩, ⟨sqB⟩⟩
        ·rw [if_neg c17] at H
         exact absurd H (by simp)
       ·rw [if_neg c15] at H
        exact absurd H (by simp)
      ·rw [if_neg c14] at H
       exact absurd H (by simp)
     ·rw [if_neg c13] at H
      exact absurd H (by simp)
    ·rw [if_neg c12] at H
     have c12b0 : decide (x20_1 < (t250.length : Int)) = false := decide_eq_false c12
     clear c12
     replace H := Option.bind_eq_some_iff.mp H
     obtain ⟨t256, A200, H⟩ := H
     try dsimp only at H
     have A20 := Aside0.mk A200
     clear A200
     have H' := Aside0.mk H
     clear H
     go_wp2_with (first | ((with_reducible refine gate_callee (f := 44) rfl ?_); refine goesL_ (some 37) rfl rfl Try.func44 (by kernel_rfl) rfl #[.int .u8 108, .string x7_1] rfl sqA ?_; (with_reducible refine (impl_short.calls k1 108 x7_1 t256 _ A20.out).mono ?_); rintro e w21 ⟨rfl, hb⟩; refine ⟨_, rfl, ?_⟩; replace HO_18 := Aside0.mk (Kd.R_below (sqR HO_18) hb); replace BK248 := sqL BK248 hb; replace HB := sqS hb; (try clear hb); (try clear hb2); (try clear hk); (try clear hi); obtain ⟨hcz22_0, hcz22_1, hcz22_2, hfz22_0, hfz22_1, hfz22_2⟩ := sqC3 BK248))
     go_loopg [10, 11, 43] k1 (fun kq v10 v11 v43 w' => ∃ (x10_2 : ByteArray) (x11_2 : Int) (x43_2 : Int), v10 = .string x10_2 ∧ v11 = .int .i64 x11_2 ∧ v43 = .int .i64 x43_2 ∧ Aside0 (impl_SignedBy.l1 kq a0 x10_2 x11_2 l2_2 (l2_2.length : Int) x43_2 = some r) ∧ Aside0 (kq ≤ k1) ∧ Aside0 (w'.heap[gb248]? = some (.cells #[.int .i64 a2_0, (.slice A2_1 l2_1.length c2_1), (.slice A2_2 l2_2.length c2_2)] 29 (0, 0))) ∧ Aside0 (Below w.heap.size w w'))
     case atStart => exact ⟨(t256), (a2_0), (0), (by first | rfl | (simp; done) | (simp [*]; done)), (by first | rfl | (simp; done) | (simp [*]; done)), (by first | rfl | (simp; done) | (simp [*]; done)), H', ⟨Nat.le_refl _⟩, ⟨sqK BK248⟩, ⟨sqB⟩⟩
     case round =>
      clear H'
      try clear c1
      try clear c2
      try clear p2
      try clear q2
      try clear hx2
      try clear c3
      try clear c4
      try clear c5
      try clear p6
      try clear c12
      try clear c12b0
      try clear c13
      try clear c13b0
      try clear c14
      try clear c14b0
      try clear c15
      try clear c15b0
      try clear c17
      try clear c17b0
      try clear c17b1
      try clear c17b2
      try clear hcz18_0 hcz18_1 hcz18_2
      try clear hcz22_0 hcz22_1 hcz22_2
      try clear hcz8_0 hcz8_1 hcz8_2
      try clear hfz18_0
      try clear hfz18_1
      try clear hfz18_2
      try clear hfz22_0
      try clear hfz22_1
      try clear hfz22_2
      try clear hfz8_0
      try clear hfz8_1
      try clear hfz8_2
      try clear hx253_0
      try clear hx254_0
      try clear p2
      try clear p253
      try clear p254
      try clear q253
      try clear q254
      obtain ⟨x10_2, x11_2, x43_2, rfl, rfl, rfl, HA, HK2, BK248, HB⟩ := hrel
      cases gk with
      | zero => exact absurd HA.out (by simp [impl_SignedBy.l1])
      | succ k2 =>
       have H := HA.out
       clear HA
       simp only [impl_SignedBy.l1] at H
       by_cases c23 : x43_2 < (l2_2.length : Int)
       ·rw [if_pos c23] at H
        have c23b0 : decide (x43_2 < (l2_2.length : Int)) = true := decide_eq_true c23
        clear c23
        by_cases c24 : 0 ≤ x43_2
        ·rw [if_pos c24] at H
         have c24b0 : decide (0 ≤ x43_2) = true := decide_eq_true c24
         clear c24
         by_cases c25 : x43_2 < (l2_2.length : Int)
         ·rw [if_pos c25] at H
          have c25b0 : decide (x43_2 < (l2_2.length : Int)) = true := decide_eq_true c25
          clear c25
          by_cases c26 : (Int.tmod x11_2 2) = 0
          ·rw [if_pos c26] at H
           have c26b0 : ((Int.tmod x11_2 2) == 0) = true := beq_iff_eq.mpr c26
           have c26b1 : ((Int.tmod x11_2 2) != 0) = false := bne_eq_false_iff_eq.mpr c26
           clear c26
           by_cases c27 : x10_2.size + (rdOf ByteArray.empty l2_2 x43_2).size ≤ 9223372036854775807
           ·rw [if_pos c27] at H
            have c27b0 := eq_true c27
            have c27b1 : decide (x10_2.size + (rdOf ByteArray.empty l2_2 x43_2).size ≤ 9223372036854775807) = true := decide_eq_true c27
            try have c27b2 : (9223372036854775807 < x10_2.size + (rdOf ByteArray.empty l2_2 x43_2).size) = False := eq_false (Nat.not_lt.2 c27)
            replace H := Option.bind_eq_some_iff.mp H
            obtain ⟨t258, A280, H⟩ := H
            try dsimp only at H
            have A28 := Aside0.mk A280
            clear A280
            have H' := Aside0.mk H
            clear H
            have p257 : 0 ≤ (x43_2 : Int) := sqD
            have q257 : x43_2 < (l2_2.length : Int) := sqD
            obtain ⟨ad257, e257, hx257_0⟩ := Kd.at_string HR2_2.out x43_2 p257 q257
            cases e257
            replace hx257_0 := sqH HB hx257_0
            replace p257 := eq_true p257
            replace q257 := eq_true q257
            go_wp2_with (first | ((with_reducible refine gate_callee (f := 44) rfl ?_); refine goesL_ (some 53) rfl rfl Try.func44 (by kernel_rfl) rfl #[.int .u8 110, .string (x10_2 ++ (rdOf ByteArray.empty l2_2 x43_2))] rfl sqA ?_; (with_reducible refine (impl_short.calls k2 110 (x10_2 ++ (rdOf ByteArray.empty l2_2 x43_2)) t258 _ A28.out).mono ?_); rintro e w29 ⟨rfl, hb⟩; refine ⟨_, rfl, ?_⟩; replace BK248 := sqL BK248 hb; replace HB := sqS hb; (try clear hb); (try clear hb2); (try clear hk); (try clear hi)))
            go_roundg k2
            case measure => have := HK1.out; have := HK2.out; omega
            case rel => exact ⟨(t258), (wrap64 (Int.tdiv x11_2 2)), (wrap64 (x43_2 + 1)), (by first | rfl | (simp; done) | (simp [*]; done)), (by first | rfl | (simp; done) | (simp [*]; done)), (by first | rfl | (simp; done) | (simp [*]; done)), H', ⟨by have := HK1.out; have := HK2.out; omega⟩, ⟨sqK BK248⟩, ⟨sqB⟩⟩
           ·rw [if_neg c27] at H
            exact absurd H (by simp)
          ·rw [if_neg c26] at H
           have c26b0 : ((Int.tmod x11_2 2) == 0) = false := beq_eq_false_iff_ne.mpr c26
           have c26b1 : ((Int.tmod x11_2 2) != 0) = true := bne_iff_ne.mpr c26
           by_cases c30 : (rdOf ByteArray.empty l2_2 x43_2).size + x10_2.size ≤ 9223372036854775807
           ·rw [if_pos c30] at H
            have c30b0 := eq_true c30
            have c30b1 : decide ((rdOf ByteArray.empty l2_2 x43_2).size + x10_2.size ≤ 9223372036854775807) = true := decide_eq_true c30
            try have c30b2 : (9223372036854775807 < (rdOf ByteArray.empty l2_2 x43_2).size + x10_2.size) = False := eq_false (Nat.not_lt.2 c30)
            replace H := Option.bind_eq_some_iff.mp H
            obtain ⟨t259, A310, H⟩ := H
            try dsimp only at H
            have A31 := Aside0.mk A310
            clear A310
            have H' := Aside0.mk H
            clear H
            have p257 : 0 ≤ (x43_2 : Int) := sqD
            have q257 : x43_2 < (l2_2.length : Int) := sqD
            obtain ⟨ad257, e257, hx257_0⟩ := Kd.at_string HR2_2.out x43_2 p257 q257
            cases e257
            replace hx257_0 := sqH HB hx257_0
            replace p257 := eq_true p257
            replace q257 := eq_true q257
            go_wp2_with (first | ((with_reducible refine gate_callee (f := 44) rfl ?_); refine goesL_ (some 57) rfl rfl Try.func44 (by kernel_rfl) rfl #[.int .u8 110, .string ((rdOf ByteArray.empty l2_2 x43_2) ++ x10_2)] rfl sqA ?_; (with_reducible refine (impl_short.calls k2 110 ((rdOf ByteArray.empty l2_2 x43_2) ++ x10_2) t259 _ A31.out).mono ?_); rintro e w32 ⟨rfl, hb⟩; refine ⟨_, rfl, ?_⟩; replace BK248 := sqL BK248 hb; replace HB := sqS hb; (try clear hb); (try clear hb2); (try clear hk); (try clear hi)))
            go_roundg k2
            case measure => have := HK1.out; have := HK2.out; omega
            case rel => exact ⟨(t259), (wrap64 (Int.tdiv x11_2 2)), (wrap64 (x43_2 + 1)), (by first | rfl | (simp; done) | (simp [*]; done)), (by first | rfl | (simp; done) | (simp [*]; done)), (by first | rfl | (simp; done) | (simp [*]; done)), H', ⟨by have := HK1.out; have := HK2.out; omega⟩, ⟨sqK BK248⟩, ⟨sqB⟩⟩
           ·rw [if_neg c30] at H
            exact absurd H (by simp)
         ·rw [if_neg c25] at H
          exact absurd H (by simp)
        ·rw [if_neg c24] at H
         exact absurd H (by simp)
       ·rw [if_neg c23] at H
        have c23b0 : decide (x43_2 < (l2_2.length : Int)) = false := decide_eq_false c23
        clear c23
        obtain rfl := Option.some.inj H
        go_wp2
        go_ret
        exact ⟨sqE, sqB⟩
 ·replace c5 := Bool.eq_false_iff.mpr c5
  subst c5
  rw [if_neg (show ¬ (false = true) by decide)] at H
  obtain rfl := Option.some.inj H
  go_enter Try.func15, Try.ntmps15
  go_wp2_with (first | ((with_reducible refine gate_dst (N := 5) rfl ?_); refine sqX (N := 5) (cs := #[.int .i64 a2_0, .slice A2_1 l2_1.length c2_1, .slice A2_2 l2_2.length c2_2]) (t := 29) ?_; intro gb248 hg w33 hbox hb; have BK248 := Aside0.mk (hbox); have GW248 := sqG hg; have GE248 := sqG hg; replace HB := sqS hb; clear hb hbox hg; obtain ⟨hcz34_0, hcz34_1, hcz34_2, hfz34_0, hfz34_1, hfz34_2⟩ := sqC3 BK248) | ((with_reducible refine gate_callee (f := 46) rfl ?_); refine goesL_ (some 15) rfl rfl Try.func46 (by kernel_rfl) rfl #[.agg #[.int .i64 a2_0, .slice A2_1 l2_1.length c2_1, .slice A2_2 l2_2.length c2_2]] rfl sqA ?_; (with_reducible refine (impl_signFormed.calls a2_0 _ _ l2_1 _ _ l2_2 false _ ?side1 ?side2 ?side3 ?side4 A4.out).mono ?_); (case side1 => repeat (first | exact (Kd.C_below HR2_1.out HB.out) | (with_reducible refine Kd.C_alloc ?_ _) | (with_reducible refine Kd.C_drewN ?_ _) | (with_reducible refine Kd.C_drew ?_))); (case side2 => exact HC2_1.out); (case side3 => repeat (first | exact (Kd.C_below HR2_2.out HB.out) | (with_reducible refine Kd.C_alloc ?_ _) | (with_reducible refine Kd.C_drewN ?_ _) | (with_reducible refine Kd.C_drew ?_))); (case side4 => exact HC2_2.out); rintro e w35 ⟨rfl, hb⟩; refine ⟨_, rfl, ?_⟩; replace BK248 := sqL BK248 hb; replace HB := sqS hb; (try clear hb); (try clear hb2); (try clear hk); (try clear hi)))
  go_ret
  exact ⟨sqE, sqB⟩

/-! ### spec_QuadsOf: function 35 -/
mutual
def spec_QuadsOf.l0 : Nat → ByteArray → List Int → Int → Int → Option (List Int)
 | 0, _, _, _, _ => none
 | k + 1, x3, x4, x5, x6 => if x6 < 2 then (spec_QuadsOf.l1 k x3 x4 x5 x6 6) else ((some (([wrap64 (Int.tdiv (wrap64 (24 - x5)) 16), Int.tmod (wrap64 (Int.tdiv (wrap64 (24 - x5)) 4)) 4, Int.tmod (wrap64 (24 - x5)) 4] : List Int) : List Int)).bind fun y264 => (if x4.length + y264.length < 17592186044416 then (some (x4 ++ y264)) else (none)))
def spec_QuadsOf.l1 : Nat → ByteArray → List Int → Int → Int → Int → Option (List Int)
 | 0, _, _, _, _, _ => none
 | k + 1, x3, x4, x5, x6, x7 => if x7 ≥ 0 then (if 0 ≤ x6 then (if x6 < (x3.size : Int) then (if 0 ≤ (IntKind.u64.wrap (x7)) then (if x4.length < 17592186044416 then (spec_QuadsOf.l1 k x3 (x4 ++ [Go.bits .and .i64 (shr .i64 (wrap64 (bt x3 x6)) (IntKind.u64.wrap (x7))) 3]) (wrap64 (x5 + (Go.bits .and .i64 (shr .i64 (wrap64 (bt x3 x6)) (IntKind.u64.wrap (x7))) 3))) x6 (wrap64 (x7 - 2))) else (none)) else (none)) else (none)) else (none)) else (spec_QuadsOf.l0 k x3 x4 x5 (wrap64 (x6 + 1)))
end
def spec_QuadsOf.f (k : Nat) (a0 : ByteArray) : Option (List Int) := (spec_Digest.f a0).bind fun t260 => (spec_QuadsOf.l0 k t260 (([] : List Int)) 0 0)
theorem spec_QuadsOf.mono_l : ∀ k, (∀ y0 y1 y2 y3, LeO (spec_QuadsOf.l0 k y0 y1 y2 y3) (spec_QuadsOf.l0 (k + 1) y0 y1 y2 y3)) ∧ (∀ y0 y1 y2 y3 y4, LeO (spec_QuadsOf.l1 k y0 y1 y2 y3 y4) (spec_QuadsOf.l1 (k + 1) y0 y1 y2 y3 y4))
 | 0 => ⟨fun _ _ _ _ r h => by simp [spec_QuadsOf.l0] at h, fun _ _ _ _ _ r h => by simp [spec_QuadsOf.l1] at h⟩
 | k + 1 => by
  obtain ⟨ih0, ih1⟩ := spec_QuadsOf.mono_l k
  refine ⟨?_, ?_⟩
  ·intro y0 y1 y2 y3
   unfold spec_QuadsOf.l0
   repeat' first
   | (with_reducible exact ih0 _ _ _ _)
   | (with_reducible exact ih1 _ _ _ _ _)
   | (with_reducible exact LeO.refl _)
   | (with_reducible exact LeO.none _)
   | (with_reducible refine LeO.ite ?_ ?_)
   | (with_reducible refine LeO.bind ?_ (fun _ => ?_))
   | exact ih0 _ _ _ _
   | exact ih1 _ _ _ _ _
   | exact LeO.none _
   | refine LeO.ite ?_ ?_
   | refine LeO.bind ?_ (fun _ => ?_)
  ·intro y0 y1 y2 y3 y4
   unfold spec_QuadsOf.l1
   repeat' first
   | (with_reducible exact ih0 _ _ _ _)
   | (with_reducible exact ih1 _ _ _ _ _)
   | (with_reducible exact LeO.refl _)
   | (with_reducible exact LeO.none _)
   | (with_reducible refine LeO.ite ?_ ?_)
   | (with_reducible refine LeO.bind ?_ (fun _ => ?_))
   | exact ih0 _ _ _ _
   | exact ih1 _ _ _ _ _
   | exact LeO.none _
   | refine LeO.ite ?_ ?_
   | refine LeO.bind ?_ (fun _ => ?_)
theorem spec_QuadsOf.mono : ∀ a0 k, LeO (spec_QuadsOf.f k a0) (spec_QuadsOf.f (k + 1) a0) := by
 intro a0 k
 obtain ⟨ih0, ih1⟩ := spec_QuadsOf.mono_l k
 unfold spec_QuadsOf.f
 repeat' first
   | (with_reducible exact ih0 _ _ _ _)
   | (with_reducible exact ih1 _ _ _ _ _)
   | (with_reducible exact LeO.refl _)
   | (with_reducible exact LeO.none _)
   | (with_reducible refine LeO.ite ?_ ?_)
   | (with_reducible refine LeO.bind ?_ (fun _ => ?_))
   | exact ih0 _ _ _ _
   | exact ih1 _ _ _ _ _
   | exact LeO.none _
   | refine LeO.ite ?_ ?_
   | refine LeO.bind ?_ (fun _ => ?_)
set_option maxHeartbeats 8000000 in
set_option maxRecDepth 100000 in
theorem spec_QuadsOf.calls (k : Nat) (a0 : ByteArray) (r : List Int) (w : World) (h : spec_QuadsOf.f k a0 = some r) :
  Calls Try.prog 35 #[.string a0] w fun e w' => ∃ v0_ : Value, e = .returned (v0_) ∧ Kd.R (Kd.int .i64) 3 w' w.heap.size (fun _ => True) v0_ r ∧ Below w.heap.size w w' := by
 have HB := Aside0.mk (Below.refl w.heap.size w)
 have H : ((spec_Digest.f a0).bind fun t260 => (spec_QuadsOf.l0 k t260 (([] : List Int)) 0 0)) = some r := h
 clear h
 replace H := Option.bind_eq_some_iff.mp H
 obtain ⟨t260, A20, H⟩ := H
 try dsimp only at H
 have A2 := Aside0.mk A20
 clear A20
 obtain ⟨y261, hy261⟩ : ∃ y_ : List Int, y_ = (([] : List Int)) := ⟨_, rfl⟩
 replace H : (spec_QuadsOf.l0 k t260 y261 0 0) = some r := by first | (rw [hy261]; with_reducible exact H) | (have H2_ := (Option.bind_some _ _).symm.trans H; rw [hy261]; with_reducible exact H2_) | (have H2_ := (Option.bind_some _ _).symm.trans H; with_reducible exact H2_) | with_reducible exact H | (rw [hy261]; exact H) | exact H
 have Ny261 := Aside0.mk hy261
 clear hy261
 have H' := Aside0.mk H
 clear H
 go_enter Try.func35, Try.ntmps35
 go_wp2_with (first | ((with_reducible refine gate_callee (f := 61) rfl ?_); refine goesL_ (some 11) rfl rfl Try.func61 (by kernel_rfl) rfl #[.string a0] rfl sqA ?_; (with_reducible refine (spec_Digest.calls a0 t260 _ A2.out).mono ?_); rintro e w3 ⟨rfl, hb⟩; refine ⟨_, rfl, ?_⟩; replace HB := sqS hb; (try clear hb); (try clear hb2); (try clear hk); (try clear hi)) | ((with_reducible refine gate_dst (N := 12) rfl ?_); refine Kd.R_lit (Kd.int .i64) _ 3 ?hg (N := 12) ?hd (xs := ([] : List Int)) (inner := []) (ok := fun _ => True) (okp := fun _ => True) ?hr ?hp (fun _ hk => hk) trivial (Below.refl _ _) (Nat.le_refl _) (by simp) ?_; (case hd => rfl); (case hg => rfl); (case hr => first | (go_simp; done) | (go_simp; rfl)); (case hp => exact (Reps.none _ _)); intro v262 w4 ho5 hb hg_ hnew_; clear hg_ hnew_; (first | rw [← Ny261.out] at ho5 | (simp only [Int.reduceToNat] at ho5; rw [← Ny261.out] at ho5)); have HO263 := Aside0.mk (Kd.R_lower ho5 (below_size (sqB))); replace HB := sqS hb; clear hb ho5))
 go_loopg [4, 5, 6] k (fun kq v4 v5 v6 w' => ∃ (x4_1 : List Int) (x5_1 : Int) (x6_1 : Int), v5 = .int .i64 x5_1 ∧ v6 = .int .i64 x6_1 ∧ Aside0 (spec_QuadsOf.l0 kq t260 x4_1 x5_1 x6_1 = some r) ∧ Aside0 (kq ≤ k) ∧ Aside0 (Kd.R (Kd.int .i64) 3 w' w.heap.size (fun _ => True) v4 x4_1) ∧ Aside0 (Below w.heap.size w w'))
 case atStart => exact ⟨(y261), (0), (0), (by first | rfl | (simp; done) | (simp [*]; done)), (by first | rfl | (simp; done) | (simp [*]; done)), H', ⟨Nat.le_refl _⟩, ⟨sqR HO263⟩, ⟨sqB⟩⟩
 case round =>
  clear H'
  try clear p2
  try clear c3
  obtain ⟨x4_1, x5_1, x6_1, rfl, rfl, HA, HK1, HO_4, HB⟩ := hrel
  cases gk with
  | zero => exact absurd HA.out (by simp [spec_QuadsOf.l0])
  | succ k1 =>
   have H := HA.out
   clear HA
   simp only [spec_QuadsOf.l0] at H
   by_cases c6 : x6_1 < 2
   ·rw [if_pos c6] at H
    have c6b0 : decide (x6_1 < 2) = true := decide_eq_true c6
    clear c6
    have H' := Aside0.mk H
    clear H
    go_wp2
    go_loopg [4, 5, 7] k1 (fun kq v4 v5 v7 w' => ∃ (x4_2 : List Int) (x5_2 : Int) (x7_2 : Int), v5 = .int .i64 x5_2 ∧ v7 = .int .i64 x7_2 ∧ Aside0 (spec_QuadsOf.l1 kq t260 x4_2 x5_2 x6_1 x7_2 = some r) ∧ Aside0 (kq ≤ k1) ∧ Aside0 (Kd.R (Kd.int .i64) 3 w' w.heap.size (fun _ => True) v4 x4_2) ∧ Aside0 (Below w.heap.size w w'))
    case atStart => exact ⟨(x4_1), (x5_1), (6), (by first | rfl | (simp; done) | (simp [*]; done)), (by first | rfl | (simp; done) | (simp [*]; done)), H', ⟨Nat.le_refl _⟩, ⟨sqR HO_4⟩, ⟨sqB⟩⟩
    case round =>
     clear H'
     try clear p2
     try clear c3
     try clear c6
     try clear c6b0
     try clear p2
     obtain ⟨x4_2, x5_2, x7_2, rfl, rfl, HA, HK2, HO_4, HB⟩ := hrel
     cases gk with
     | zero => exact absurd HA.out (by simp [spec_QuadsOf.l1])
     | succ k2 =>
      have H := HA.out
      clear HA
      simp only [spec_QuadsOf.l1] at H
      by_cases c7 : x7_2 ≥ 0
      ·rw [if_pos c7] at H
       have c7b0 : decide (0 ≤ x7_2) = true := decide_eq_true c7
       clear c7
       by_cases c8 : 0 ≤ x6_1
       ·rw [if_pos c8] at H
        have c8b0 : decide (0 ≤ x6_1) = true := decide_eq_true c8
        clear c8
        by_cases c9 : x6_1 < (t260.size : Int)
        ·rw [if_pos c9] at H
         have c9b0 : decide (x6_1 < (t260.size : Int)) = true := decide_eq_true c9
         clear c9
         obtain ⟨ji11, hji11⟩ : ∃ j_ : Int, (IntKind.u64.wrap (x7_2)) = j_ := ⟨_, rfl⟩
         replace H : (if 0 ≤ (ji11) then (if x4_2.length < 17592186044416 then (spec_QuadsOf.l1 k2 t260 (x4_2 ++ [Go.bits .and .i64 (shr .i64 (wrap64 (bt t260 x6_1)) (ji11)) 3]) (wrap64 (x5_2 + (Go.bits .and .i64 (shr .i64 (wrap64 (bt t260 x6_1)) (ji11)) 3))) x6_1 (wrap64 (x7_2 - 2))) else (none)) else (none)) = some r := by first | (rw [hji11] at H; exact H) | (simp only [hji11] at H ⊢; exact H)
         by_cases c12 : 0 ≤ (ji11)
         ·rw [if_pos c12] at H
          have c12b0 := eq_true c12
          have c12b1 : decide (0 ≤ (ji11)) = true := decide_eq_true c12
          clear c12
          obtain ⟨ji13, hji13⟩ : ∃ j_ : Int, (shr .i64 (wrap64 (bt t260 x6_1)) (ji11)) = j_ := ⟨_, rfl⟩
          replace H : (if x4_2.length < 17592186044416 then (spec_QuadsOf.l1 k2 t260 (x4_2 ++ [Go.bits .and .i64 (ji13) 3]) (wrap64 (x5_2 + (Go.bits .and .i64 (ji13) 3))) x6_1 (wrap64 (x7_2 - 2))) else (none)) = some r := by first | (rw [hji13] at H; exact H) | (simp only [hji13] at H ⊢; exact H)
          have hji13_ : ((wrap64 (bt t260 x6_1)) / 2 ^ min (ji11).toNat 64) = ji13 := hji13
          have hji13z : (ji11) ≤ 64 → ((wrap64 (bt t260 x6_1)) / 2 ^ (ji11).toNat) = ji13 := shr_small hji13
          by_cases c14 : x4_2.length < 17592186044416
          ·rw [if_pos c14] at H
           have LMc14 := Aside0.mk c14
           clear c14
           obtain ⟨y270, hy270⟩ : ∃ y_ : List Int, y_ = (x4_2 ++ [Go.bits .and .i64 (ji13) 3]) := ⟨_, rfl⟩
           replace H : (spec_QuadsOf.l1 k2 t260 y270 (wrap64 (x5_2 + (Go.bits .and .i64 (ji13) 3))) x6_1 (wrap64 (x7_2 - 2))) = some r := by first | (rw [hy270]; with_reducible exact H) | (have H2_ := (Option.bind_some _ _).symm.trans H; rw [hy270]; with_reducible exact H2_) | (have H2_ := (Option.bind_some _ _).symm.trans H; with_reducible exact H2_) | with_reducible exact H | (rw [hy270]; exact H) | exact H
           have Ny270 := Aside0.mk hy270
           clear hy270
           have H' := Aside0.mk H
           clear H
           have p10 : 0 ≤ (x6_1 : Int) := sqD
           have q10 : x6_1 < (t260.size : Int) := sqD
           have hx10 := bt_at t260 x6_1
           replace p10 := eq_true p10
           replace q10 := eq_true q10
           go_wp2_with (first | ((with_reducible refine gate_builtin (b := .append) (xs := #[.tmp 29, .tmp 31]) rfl ?_); at_builtin; refine Kd.R_append (Kd.int .i64) (w0 := w) w.heap.size rfl (.tmp 29) (.tmp 31) 24 3 (.int .i64 0) 8 rfl Try.underlying24 info3 rfl (by decide) (by omega) u4 x4_2 (Go.bits .and .i64 (ji13) 3) [.int .i64 (Go.bits .and .i64 (ji13) 3)] (fun _ => True) (fun _ => False) rfl rfl ?aP (fun _ hk => hk.elim) ?aF ?aO ?aB ?aS ?aL ?_; (case aP => exact rfl); (case aB => exact (sqB)); (case aF => exact (fun _ _ => trivial)); (case aO => exact (sqR HO_4)); (case aS => exact (below_size (sqB))); (case aL => have := LMc14.out; omega); intro v271 w15 ho hb hg hat; rw [← Ny270.out] at ho; have n0_ := Aside0.mk (hb); have n1_ := Aside0.mk (ho); clear HB; clear HO_4; have HB := n0_; have HO272 := n1_; clear n0_ n1_; clear ho hb hg hat))
           go_roundg k2
           case measure => have := HK1.out; have := HK2.out; omega
           case rel => exact ⟨(y270), (wrap64 (x5_2 + (Go.bits .and .i64 (ji13) 3))), (wrap64 (x7_2 - 2)), (by first | rfl | (simp; done) | (simp only [← hji13] <;> (first | rfl | simp)) | (simp [*]; done)), (by first | rfl | (simp; done) | (simp [*]; done)), H', ⟨by have := HK1.out; have := HK2.out; omega⟩, ⟨sqR HO272⟩, ⟨sqB⟩⟩
          ·rw [if_neg c14] at H
           exact absurd H (by simp)
         ·rw [if_neg c12] at H
          exact absurd H (by simp)
        ·rw [if_neg c9] at H
         exact absurd H (by simp)
       ·rw [if_neg c8] at H
        exact absurd H (by simp)
      ·rw [if_neg c7] at H
       have c7b0 : decide (0 ≤ x7_2) = false := decide_eq_false c7
       clear c7
       have H' := Aside0.mk H
       clear H
       go_wp2
       go_roundg k2
       case measure => have := HK1.out; have := HK2.out; omega
       case rel => exact ⟨(x4_2), (x5_2), (wrap64 (x6_1 + 1)), (by first | rfl | (simp; done) | (simp [*]; done)), (by first | rfl | (simp; done) | (simp [*]; done)), H', ⟨by have := HK1.out; have := HK2.out; omega⟩, ⟨sqR HO_4⟩, ⟨sqB⟩⟩
   ·rw [if_neg c6] at H
    have c6b0 : decide (x6_1 < 2) = false := decide_eq_false c6
    clear c6
    obtain ⟨y264, hy264⟩ : ∃ y_ : List Int, y_ = (([wrap64 (Int.tdiv (wrap64 (24 - x5_1)) 16), Int.tmod (wrap64 (Int.tdiv (wrap64 (24 - x5_1)) 4)) 4, Int.tmod (wrap64 (24 - x5_1)) 4] : List Int)) := ⟨_, rfl⟩
    replace H : (if x4_1.length + y264.length < 17592186044416 then (some (x4_1 ++ y264)) else (none)) = some r := by first | (rw [hy264]; with_reducible exact H) | (have H2_ := (Option.bind_some _ _).symm.trans H; rw [hy264]; with_reducible exact H2_) | (have H2_ := (Option.bind_some _ _).symm.trans H; with_reducible exact H2_) | with_reducible exact H | (rw [hy264]; exact H) | exact H
    have Ny264 := Aside0.mk hy264
    clear hy264
    by_cases c16 : x4_1.length + y264.length < 17592186044416
    ·rw [if_pos c16] at H
     have LMc16 := Aside0.mk c16
     clear c16
     obtain ⟨y267, hy267⟩ : ∃ y_ : List Int, y_ = (x4_1 ++ y264) := ⟨_, rfl⟩
     replace H : (some y267) = some r := by first | (rw [hy267]; with_reducible exact H) | (have H2_ := (Option.bind_some _ _).symm.trans H; rw [hy267]; with_reducible exact H2_) | (have H2_ := (Option.bind_some _ _).symm.trans H; with_reducible exact H2_) | with_reducible exact H | (rw [hy267]; exact H) | exact H
     have Ny267 := Aside0.mk hy267
     clear hy267
     obtain rfl := Option.some.inj H
     go_wp2_with (first | ((with_reducible refine gate_dst (N := 46) rfl ?_); refine Kd.R_lit (Kd.int .i64) _ 3 ?hg (N := 46) ?hd (xs := ([wrap64 (Int.tdiv (wrap64 (24 - x5_1)) 16), Int.tmod (wrap64 (Int.tdiv (wrap64 (24 - x5_1)) 4)) 4, Int.tmod (wrap64 (24 - x5_1)) 4] : List Int)) (inner := [.int .i64 (wrap64 (Int.tdiv (wrap64 (24 - x5_1)) 16)), .int .i64 (Int.tmod (wrap64 (Int.tdiv (wrap64 (24 - x5_1)) 4)) 4), .int .i64 (Int.tmod (wrap64 (24 - x5_1)) 4)]) (ok := fun _ => True) (okp := fun _ => True) ?hr ?hp (fun _ hk => hk) trivial (Below.refl _ _) (Nat.le_refl _) (by simp) ?_; (case hd => rfl); (case hg => rfl); (case hr => first | (go_simp; done) | (go_simp; rfl)); (case hp => exact (Reps.one (show Kd.M (Kd.int .i64) _ _ _ (wrap64 (Int.tdiv (wrap64 (24 - x5_1)) 16)) [.int .i64 (wrap64 (Int.tdiv (wrap64 (24 - x5_1)) 16))] from rfl) (Reps.one (show Kd.M (Kd.int .i64) _ _ _ (Int.tmod (wrap64 (Int.tdiv (wrap64 (24 - x5_1)) 4)) 4) [.int .i64 (Int.tmod (wrap64 (Int.tdiv (wrap64 (24 - x5_1)) 4)) 4)] from rfl) (Reps.one (show Kd.M (Kd.int .i64) _ _ _ (Int.tmod (wrap64 (24 - x5_1)) 4) [.int .i64 (Int.tmod (wrap64 (24 - x5_1)) 4)] from rfl) (Reps.none _ _))))); intro v265 w17 ho18 hb hg_ hnew_; clear hg_ hnew_; (first | rw [← Ny264.out] at ho18 | (simp only [Int.reduceToNat] at ho18; rw [← Ny264.out] at ho18)); have HO266 := Aside0.mk (Kd.R_lower (Kd.R_new' ho18 (Kd.R_lt (sqR HO_4))) (below_size (sqB))); replace HO_4 := Aside0.mk (Kd.R_elder' (sqR HO_4) (Kd.R_base ho18) hb); replace HB := sqS hb; clear hb ho18; obtain ⟨Ao20, co20, eo20⟩ := Kd.R_slice HO266.out; subst eo20) | ((with_reducible refine gate_builtin (b := .append) (xs := #[.tmp 38, .tmp 46]) rfl ?_); at_builtin; refine Kd.R_append_rows (Kd.int .i64) (w0 := w) w.heap.size rfl (.tmp 38) (.tmp 46) 24 3 (.int .i64 0) 8 rfl Try.underlying24 info3 rfl (by decide) (by omega) u4 x4_1 y264 _ _ _ (fun k_ => some k_ ≠ (.slice Ao20 y264.length co20 : Value).ownBlock) (fun _ => False) rfl rfl ?aO ?aR (fun _ _ h => h) (fun _ h => h.elim) ?aF ?aB ?aS ?aL ?_; (case aR => repeat (first | exact (Kd.R_reads' HO266.out).2.2 | (with_reducible refine Kd.C_alloc ?_ _) | (with_reducible refine Kd.C_drewN ?_ _) | (with_reducible refine Kd.C_drew ?_))); (case aB => exact (sqB)); (case aF => exact (fun k_ hk => Kd.fresh' (Kd.R_lt (sqR HO266)) k_ hk)); (case aO => exact (by (with_reducible repeat (first | apply Kd.R_alloc | apply Kd.R_drewN | apply Kd.R_drew)); exact Kd.R_mono HO_4.out (fun _ hk => hk.2))); (case aS => exact (below_size (sqB))); (case aL => have := LMc16.out; omega); intro v268 w19 ho hb hg hat; rw [← Ny267.out] at ho; have n0_ := Aside0.mk (Kd.R_after (ok := (fun _ => True)) (sqR HO266) hg hat); have n1_ := Aside0.mk (hb); have n2_ := Aside0.mk (ho); clear HO266; clear HB; clear HO_4; have HO266 := n0_; have HB := n1_; have HO269 := n2_; clear n0_ n1_ n2_; clear ho hb hg hat))
     go_ret
     exact ⟨_, sqE, by (with_reducible repeat (first | apply Kd.R_alloc | apply Kd.R_drewN | apply Kd.R_drew)); exact Kd.R_mono HO269.out (fun _ hk => trivial), sqB⟩
    ·rw [if_neg c16] at H
     exact absurd H (by simp)

/-! ### spec_l04Steps: function 70 -/
def spec_l04Steps.l0 : Nat → Int → Int → Option (Int)
 | 0, _, _ => none
 | k + 1, x1, x2 => if x2 > 1 then (spec_l04Steps.l0 k (wrap64 (x1 + 1)) (wrap64 (Int.tdiv x2 2))) else (some x1)
def spec_l04Steps.f (k : Nat)  : Option (Int) := spec_l04Steps.l0 k 0 4
theorem spec_l04Steps.mono_l : ∀ k, (∀ y0 y1, LeO (spec_l04Steps.l0 k y0 y1) (spec_l04Steps.l0 (k + 1) y0 y1))
 | 0 => fun _ _ r h => by simp [spec_l04Steps.l0] at h
 | k + 1 => by
  have ih0 := spec_l04Steps.mono_l k
  ·intro y0 y1
   unfold spec_l04Steps.l0
   repeat' first
   | (with_reducible exact ih0 _ _)
   | (with_reducible exact LeO.refl _)
   | (with_reducible exact LeO.none _)
   | (with_reducible refine LeO.ite ?_ ?_)
   | (with_reducible refine LeO.bind ?_ (fun _ => ?_))
   | exact ih0 _ _
   | exact LeO.none _
   | refine LeO.ite ?_ ?_
   | refine LeO.bind ?_ (fun _ => ?_)
theorem spec_l04Steps.mono : ∀ k, LeO (spec_l04Steps.f k ) (spec_l04Steps.f (k + 1) ) := by
 intro  k
 have ih0 := spec_l04Steps.mono_l k
 unfold spec_l04Steps.f
 repeat' first
   | (with_reducible exact ih0 _ _)
   | (with_reducible exact LeO.refl _)
   | (with_reducible exact LeO.none _)
   | (with_reducible refine LeO.ite ?_ ?_)
   | (with_reducible refine LeO.bind ?_ (fun _ => ?_))
   | exact ih0 _ _
   | exact LeO.none _
   | refine LeO.ite ?_ ?_
   | refine LeO.bind ?_ (fun _ => ?_)
set_option maxHeartbeats 8000000 in
set_option maxRecDepth 100000 in
theorem spec_l04Steps.calls (k : Nat)  (r : Int) (w : World) (h : spec_l04Steps.f k  = some r) :
  Calls Try.prog 70 #[] w fun e w' => e = .returned (.int .i64 r) ∧ Drawn0 w w' := by
 have H : (spec_l04Steps.l0 k 0 4) = some r := h
 clear h
 have H' := Aside0.mk H
 clear H
 go_enter Try.func70, Try.ntmps70
 go_wp2
 go_loopg [1, 2] k (fun kq v1 v2 w' => ∃ (x1_1 : Int) (x2_1 : Int), v1 = .int .i64 x1_1 ∧ v2 = .int .i64 x2_1 ∧ Aside0 (spec_l04Steps.l0 kq x1_1 x2_1 = some r) ∧ Aside0 (kq ≤ k) ∧ Drawn0 w w')
 case atStart => exact ⟨(0), (4), (by first | rfl | (simp; done) | (simp [*]; done)), (by first | rfl | (simp; done) | (simp [*]; done)), H', ⟨Nat.le_refl _⟩, by repeat (first | exact Drawn0.refl _ | apply Drawn0.step)⟩
 case round =>
  clear H'
  obtain ⟨x1_1, x2_1, rfl, rfl, HA, HK1, ⟨m1, rfl⟩⟩ := hrel
  cases gk with
  | zero => exact absurd HA.out (by simp [spec_l04Steps.l0])
  | succ k1 =>
   have H := HA.out
   clear HA
   simp only [spec_l04Steps.l0] at H
   by_cases c1 : x2_1 > 1
   ·rw [if_pos c1] at H
    have c1b0 : decide (1 < x2_1) = true := decide_eq_true c1
    clear c1
    have H' := Aside0.mk H
    clear H
    go_wp2
    go_roundg k1
    case measure => have := HK1.out; omega
    case rel => exact ⟨(wrap64 (x1_1 + 1)), (wrap64 (Int.tdiv x2_1 2)), (by first | rfl | (simp; done) | (simp [*]; done)), (by first | rfl | (simp; done) | (simp [*]; done)), H', ⟨by have := HK1.out; omega⟩, by repeat (first | exact Drawn0.refl _ | apply Drawn0.step)⟩
   ·rw [if_neg c1] at H
    have c1b0 : decide (1 < x2_1) = false := decide_eq_false c1
    clear c1
    obtain rfl := Option.some.inj H
    go_wp2
    go_ret
    exact ⟨by first | rfl | (simp; done) | (simp [*]; done), by repeat (first | exact Drawn0.refl _ | apply Drawn0.step)⟩

end Go.Proofs.Ytckjobcagniieaa.PFnSignsTold
