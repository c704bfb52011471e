/- What the code that one law of the given program reaches computes, function by function, each with its proof over the given translation.
Conditions: none of our own. (Laid by a program of this session, wip/xp/xp.py; some contracts are typed by hand.) -/
import Derived.Test.YtnebbjcgkoaloaaPFnMembersToldx0
import Derived.Test.YtnebbjcgkoaloaaPFnMembersToldx3
import Derived.Test.YtnebbjcgkoaloaaPFnMembersToldx4
namespace Go.Proofs.Ytnebbjcgkoaloaa.PFnMembersTold
open Go.RowKit Go.Proofs.YtnebbjcgkoaloaaW.PrintWords Go.Proofs.YtnebbjcgkoaloaaW.PrintLast Go.Proofs.YtnebbjcgkoaloaaW.PrintMore
attribute [local go_sem] max2_int min2_int max_two min_two max_three min_three max_four min_four   -- for this text's walks alone
set_option linter.unusedVariables false
set_option linter.unusedSimpArgs false

attribute [local go_sem high] eqA36
/-! ### impl_Fact_74: function 74 -/
def impl_Fact_74.l0 : Nat → List (S36) → Int → Int → Int → Int → Int → Option (Int)
 | 0, _, _, _, _, _, _ => none
 | k + 1, x0, x7, x8, x130000, x130001, x130002 => if x8 < x7 then (if 0 ≤ x8 then (if x8 < (x0.length : Int) then (if ((x130000 == ((rd_T36 x0 x8).f0.f0) && (x130001 == ((rd_T36 x0 x8).f0.f1))) && (x130002 == ((rd_T36 x0 x8).f1))) = true then (some x8) else (impl_Fact_74.l0 k x0 x7 (wrap64 (x8 + 1)) x130000 x130001 x130002)) else (none)) else (none)) else (some (-1))
def impl_Fact_74.f (k : Nat) (l0 : List (S36)) (a1_0 : Int) (a1_1 : Int) (a1_2 : Int) : Option (Int) := impl_Fact_74.l0 k l0 (l0.length : Int) 0 a1_0 a1_1 a1_2
theorem impl_Fact_74.mono_l : ∀ k, (∀ y0 y1 y2 y3 y4 y5, LeO (impl_Fact_74.l0 k y0 y1 y2 y3 y4 y5) (impl_Fact_74.l0 (k + 1) y0 y1 y2 y3 y4 y5))
 | 0 => fun _ _ _ _ _ _ r h => by simp [impl_Fact_74.l0] at h
 | k + 1 => by
  have ih0 := impl_Fact_74.mono_l k
  ·intro y0 y1 y2 y3 y4 y5
   unfold impl_Fact_74.l0
   repeat' first
   | (with_reducible exact ih0 _ _ _ _ _ _)
   | (with_reducible exact LeO.refl _)
   | (with_reducible exact LeO.none _)
   | (with_reducible refine LeO.ite ?_ ?_)
   | (with_reducible refine LeO.bind ?_ (fun _ => ?_))
   | exact ih0 _ _ _ _ _ _
   | exact LeO.none _
   | refine LeO.ite ?_ ?_
   | refine LeO.bind ?_ (fun _ => ?_)
theorem impl_Fact_74.mono : ∀ a0 a1 a2 a3 k, LeO (impl_Fact_74.f k a0 a1 a2 a3) (impl_Fact_74.f (k + 1) a0 a1 a2 a3) := by
 intro a0 a1 a2 a3 k
 have ih0 := impl_Fact_74.mono_l k
 unfold impl_Fact_74.f
 repeat' first
   | (with_reducible exact ih0 _ _ _ _ _ _)
   | (with_reducible exact LeO.refl _)
   | (with_reducible exact LeO.none _)
   | (with_reducible refine LeO.ite ?_ ?_)
   | (with_reducible refine LeO.bind ?_ (fun _ => ?_))
   | exact ih0 _ _ _ _ _ _
   | exact LeO.none _
   | refine LeO.ite ?_ ?_
   | refine LeO.bind ?_ (fun _ => ?_)
set_option maxHeartbeats 8000000 in
set_option maxRecDepth 100000 in
theorem impl_Fact_74.calls (k : Nat) (A0 : Option Addr) (c0 : Nat) (l0 : List (S36)) (a1_0 : Int) (a1_1 : Int) (a1_2 : Int) (r : Int) (w : World) (hr0 : Kd.C k36 w A0 l0.length l0) (hc0 : l0.length ≤ c0) (h : impl_Fact_74.f k l0 a1_0 a1_1 a1_2 = some r) :
  Calls Try.prog 74 #[.slice A0 l0.length c0, .agg #[.int .i64 a1_0, .int .i64 a1_1, .int .i64 a1_2]] w fun e w' => e = .returned (.int .i64 r) ∧ Below w.heap.size w w' := by
 have hu36 := Try.underlying36
 have HR0 := Aside0.mk hr0
 have HC0 := Aside0.mk hc0
 clear hr0 hc0
 have HB := Aside0.mk (Below.refl w.heap.size w)
 have H : (impl_Fact_74.l0 k l0 (l0.length : Int) 0 a1_0 a1_1 a1_2) = some r := h
 clear h
 have H' := Aside0.mk H
 clear H
 go_enter Try.func74, Try.ntmps74
 go_wp2_with (first | ((with_reducible refine gate_dst (N := 3) rfl ?_); refine sqX (N := 3) (cs := #[.int .i64 a1_0, .int .i64 a1_1, .int .i64 a1_2]) (t := 36) ?_; intro gb129 hg w3 hbox hb; have BK129 := Aside0.mk (hbox); have GW129 := sqG hg; have GE129 := sqG hg; replace HB := sqS hb; clear hb hbox hg))
 repeat (go_quiet (first | ((with_reducible refine gate_dst (N := 3) rfl ?_); refine sqX (N := 3) (cs := #[.int .i64 a1_0, .int .i64 a1_1, .int .i64 a1_2]) (t := 36) ?_; intro gb129 hg w3 hbox hb; have BK129 := Aside0.mk (hbox); have GW129 := sqG hg; have GE129 := sqG hg; replace HB := sqS hb; clear hb hbox hg)); try go_wp2_with (first | ((with_reducible refine gate_dst (N := 3) rfl ?_); refine sqX (N := 3) (cs := #[.int .i64 a1_0, .int .i64 a1_1, .int .i64 a1_2]) (t := 36) ?_; intro gb129 hg w3 hbox hb; have BK129 := Aside0.mk (hbox); have GW129 := sqG hg; have GE129 := sqG hg; replace HB := sqS hb; clear hb hbox hg)))
 go_loopg [8] k (fun kq v8 w' => ∃ (x8_1 : Int), v8 = .int .i64 x8_1 ∧ Aside0 (impl_Fact_74.l0 kq l0 (l0.length : Int) x8_1 a1_0 a1_1 a1_2 = some r) ∧ Aside0 (kq ≤ k) ∧ Aside0 (w'.heap[gb129]? = some (.cells #[.int .i64 a1_0, .int .i64 a1_1, .int .i64 a1_2] 36 (0, 0))) ∧ Aside0 (Below w.heap.size w w'))
 case atStart => exact ⟨(0), (by first | rfl | (simp; done) | (simp [*]; done)), H', ⟨Nat.le_refl _⟩, ⟨sqK BK129⟩, ⟨sqB⟩⟩
 case round =>
  clear H'
  try clear p2
  obtain ⟨x8_1, rfl, HA, HK1, BK129, HB⟩ := hrel
  cases gk with
  | zero => exact absurd HA.out (by simp [impl_Fact_74.l0])
  | succ k1 =>
   have H := HA.out
   clear HA
   simp only [impl_Fact_74.l0] at H
   by_cases c4 : x8_1 < (l0.length : Int)
   ·rw [if_pos c4] at H
    have c4b0 : decide (x8_1 < (l0.length : Int)) = true := decide_eq_true c4
    clear c4
    by_cases c5 : 0 ≤ x8_1
    ·rw [if_pos c5] at H
     have c5b0 : decide (0 ≤ x8_1) = true := decide_eq_true c5
     clear c5
     by_cases c6 : x8_1 < (l0.length : Int)
     ·rw [if_pos c6] at H
      have c6b0 : decide (x8_1 < (l0.length : Int)) = true := decide_eq_true c6
      clear c6
      by_cases c7 : ((a1_0 == ((rd_T36 l0 x8_1).f0.f0) && (a1_1 == ((rd_T36 l0 x8_1).f0.f1))) && (a1_2 == ((rd_T36 l0 x8_1).f1))) = true
      ·rw [if_pos c7] at H
       have c7b0 : ((a1_0 == ((rd_T36 l0 x8_1).f0.f0) && (a1_1 == ((rd_T36 l0 x8_1).f0.f1))) && (a1_2 == ((rd_T36 l0 x8_1).f1))) = true := c7
       clear c7
       obtain rfl := Option.some.inj H
       obtain ⟨hcz8_0, hcz8_1, hcz8_2, hfz8_0, hfz8_1, hfz8_2⟩ := sqC3 BK129
       have p130 : 0 ≤ (x8_1 : Int) := sqD
       have q130 : x8_1 < (l0.length : Int) := sqD
       obtain ⟨ad130, e130, hx130_0, hx130_1, hx130_2⟩ := at_T36 HR0.out x8_1 p130 q130
       cases e130
       replace hx130_0 := sqH HB hx130_0
       replace hx130_1 := sqH HB hx130_1
       replace hx130_2 := sqH HB hx130_2
       replace p130 := eq_true p130
       replace q130 := eq_true q130
       go_wp2
       repeat (go_quiet (fail); try go_wp2)
       go_ret
       exact ⟨sqE, sqB⟩
      ·rw [if_neg c7] at H
       have c7b0 : ((a1_0 == ((rd_T36 l0 x8_1).f0.f0) && (a1_1 == ((rd_T36 l0 x8_1).f0.f1))) && (a1_2 == ((rd_T36 l0 x8_1).f1))) = false := by simpa using c7
       clear c7
       have H' := Aside0.mk H
       clear H
       obtain ⟨hcz9_0, hcz9_1, hcz9_2, hfz9_0, hfz9_1, hfz9_2⟩ := sqC3 BK129
       have p130 : 0 ≤ (x8_1 : Int) := sqD
       have q130 : x8_1 < (l0.length : Int) := sqD
       obtain ⟨ad130, e130, hx130_0, hx130_1, hx130_2⟩ := at_T36 HR0.out x8_1 p130 q130
       cases e130
       replace hx130_0 := sqH HB hx130_0
       replace hx130_1 := sqH HB hx130_1
       replace hx130_2 := sqH HB hx130_2
       replace p130 := eq_true p130
       replace q130 := eq_true q130
       go_wp2
       repeat (go_quiet (fail); try go_wp2)
       go_roundg k1
       case measure => have := HK1.out; omega
       case rel => exact ⟨(wrap64 (x8_1 + 1)), (by first | rfl | (simp; done) | (simp [*]; done)), H', ⟨by have := HK1.out; omega⟩, ⟨sqK BK129⟩, ⟨sqB⟩⟩
     ·rw [if_neg c6] at H
      exact absurd H (by simp)
    ·rw [if_neg c5] at H
     exact absurd H (by simp)
   ·rw [if_neg c4] at H
    have c4b0 : decide (x8_1 < (l0.length : Int)) = false := decide_eq_false c4
    clear c4
    obtain rfl := Option.some.inj H
    go_wp2
    repeat (go_quiet (fail); try go_wp2)
    go_ret
    exact ⟨sqE, sqB⟩

/-! ### impl_derive: function 51 -/
def impl_derive.who (k : Nat) (l0 : List S36) (x y : Int) : Option (List Int) := (impl_whoOf.f k l0 x y).bind fun p => if p.length ≤ 1000000000 then some p else none
def impl_derive.mk (d : Go.Proofs.Ytnebbjcgkoaloaa.Derive.DV) : S78 := ⟨⟨⟨d.1, d.2.1⟩, d.2.2.1⟩, d.2.2.2⟩
def impl_derive.f (k : Nat) (l0 : List S36) (a1_0 a1_1 a1_2 a1_3 a1_4 a1_5 a1_6 a1_7 a1_8 a1_9 : Int) : Option (List S78) :=
 (Go.Proofs.Ytnebbjcgkoaloaa.Derive.deriveL l0.length (impl_derive.who k l0) (fun x y z => impl_Fact_74.f k l0 x y z) (fun i => (rd_T36 l0 i).f1) a1_0 a1_1 a1_2 a1_3 a1_4 a1_5 a1_6 a1_7).bind fun r => if r.length ≤ 4000000 then some (r.map impl_derive.mk) else none
theorem impl_derive.who_mono (k : Nat) (l0 : List S36) (x y : Int) (p : List Int) (h : impl_derive.who k l0 x y = some p) : impl_derive.who (k + 1) l0 x y = some p := by
 unfold impl_derive.who at h ⊢
 obtain ⟨q, hq, h⟩ := Option.bind_eq_some_iff.1 h
 rw [impl_whoOf.mono _ _ _ k q hq]
 exact h
theorem impl_derive.mono : ∀ a0 a1 a2 a3 a4 a5 a6 a7 a8 a9 a10 k, LeO (impl_derive.f k a0 a1 a2 a3 a4 a5 a6 a7 a8 a9 a10) (impl_derive.f (k + 1) a0 a1 a2 a3 a4 a5 a6 a7 a8 a9 a10) := by
 intro a0 a1 a2 a3 a4 a5 a6 a7 a8 a9 a10 k r h
 unfold impl_derive.f at h ⊢
 obtain ⟨q, hq, h⟩ := Option.bind_eq_some_iff.1 h
 rw [Go.Proofs.Ytnebbjcgkoaloaa.Derive.deriveL_mono (fun x y p hp => impl_derive.who_mono k a0 x y p hp) (fun x y z j hj => impl_Fact_74.mono a0 x y z k j hj) hq]
 exact h
theorem impl_derive.calls (k : Nat) (A0 : Option Addr) (c0 : Nat) (l0 : List S36) (a1_0 a1_1 a1_2 a1_3 a1_4 a1_5 a1_6 a1_7 a1_8 a1_9 : Int) (r : List S78) (w : World) (hr0 : Kd.C k36 w A0 l0.length l0) (hc0 : l0.length ≤ c0) (h : impl_derive.f k l0 a1_0 a1_1 a1_2 a1_3 a1_4 a1_5 a1_6 a1_7 a1_8 a1_9 = some r) :
  Calls Try.prog 51 #[.slice A0 l0.length c0, .agg #[.int .i64 a1_0, .int .i64 a1_1, .int .i64 a1_2, .int .i64 a1_3, .int .i64 a1_4, .int .i64 a1_5, .int .i64 a1_6, .int .i64 a1_7, .int .i64 a1_8, .int .i64 a1_9]] w fun e w' => ∃ v0_ : Value, e = .returned (v0_) ∧ Kd.N k78 78 w' w.heap.size (fun k_ => (w.heap.size ≤ k_)) v0_ r ∧ Below w.heap.size w w' := by
 unfold impl_derive.f at h
 obtain ⟨q, hq, h⟩ := Option.bind_eq_some_iff.1 h
 by_cases c : q.length ≤ 4000000
 ·rw [if_pos c] at h
  obtain rfl := Option.some.inj h
  refine (Go.Proofs.Ytnebbjcgkoaloaa.Derive.derive_calls A0 l0.length c0 (impl_derive.who k l0) _ _ a1_0 a1_1 a1_2 a1_3 a1_4 a1_5 a1_6 a1_7 a1_8 a1_9 q c w (fun x y p hp W hb => ?_) (fun x y z j hj W hb => ?_) (fun W hb i h0 h1 => ?_) (fun x y p hp => ?_) hq).mono ?_
  ·unfold impl_derive.who at hp
   obtain ⟨p', hp', hp⟩ := Option.bind_eq_some_iff.1 hp
   by_cases c2 : p'.length ≤ 1000000000
   ·rw [if_pos c2] at hp
    obtain rfl := Option.some.inj hp
    exact impl_whoOf.calls k A0 c0 l0 x y p' W (Kd.C_below hr0 hb) hc0 hp'
   ·rw [if_neg c2] at hp
    cases hp
  ·exact impl_Fact_74.calls k A0 c0 l0 x y z j W (Kd.C_below hr0 hb) hc0 hj
  ·obtain ⟨ad, e, _, _, h3⟩ := at_T36 (Kd.C_below hr0 hb) i h0 h1
   exact ⟨ad, e, h3⟩
  ·unfold impl_derive.who at hp
   obtain ⟨p', _, hp⟩ := Option.bind_eq_some_iff.1 hp
   by_cases c2 : p'.length ≤ 1000000000
   ·rw [if_pos c2] at hp
    obtain rfl := Option.some.inj hp
    exact c2
   ·rw [if_neg c2] at hp
    cases hp
  ·rintro e w' ⟨v, rfl, hR, hb⟩
   refine ⟨v, rfl, Kd.R_N (Go.Proofs.Ytnebbjcgkoaloaa.Derive.R_map impl_derive.mk rfl ?_ hR), hb⟩
   rintro w base ok ⟨x1, x2, x3, x4⟩ cs ⟨_, _, rfl, rfl, _, _, rfl, rfl, _, _, rfl, rfl, v, rfl, hh⟩
   exact k78_mkM w base ok (impl_derive.mk (x1, x2, x3, x4)) hh
 ·rw [if_neg c] at h
  exact absurd h (by simp)

/-! ### impl_Fact_52: function 52 -/
def impl_Fact_52.f (k : Nat) (l0 : List (S36)) (a1_0 : Int) (a1_1 : Int) (a1_2 : Int) : Option (Bool) := (impl_Fact_74.f k l0 a1_0 a1_1 a1_2).bind fun t132 => (some (decide (t132 ≥ 0)))
theorem impl_Fact_52.mono : ∀ a0 a1 a2 a3 k, LeO (impl_Fact_52.f k a0 a1 a2 a3) (impl_Fact_52.f (k + 1) a0 a1 a2 a3) := by
 intro a0 a1 a2 a3 k
 unfold impl_Fact_52.f
 repeat' first
   | (with_reducible exact impl_Fact_74.mono _ _ _ _ _)
   | (with_reducible exact LeO.refl _)
   | (with_reducible exact LeO.none _)
   | (with_reducible refine LeO.ite ?_ ?_)
   | (with_reducible refine LeO.bind ?_ (fun _ => ?_))
   | exact impl_Fact_74.mono _ _ _ _ _
   | exact LeO.none _
   | refine LeO.ite ?_ ?_
   | refine LeO.bind ?_ (fun _ => ?_)
set_option maxHeartbeats 8000000 in
set_option maxRecDepth 100000 in
theorem impl_Fact_52.calls (k : Nat) (A0 : Option Addr) (c0 : Nat) (l0 : List (S36)) (a1_0 : Int) (a1_1 : Int) (a1_2 : Int) (r : Bool) (w : World) (hr0 : Kd.C k36 w A0 l0.length l0) (hc0 : l0.length ≤ c0) (h : impl_Fact_52.f k l0 a1_0 a1_1 a1_2 = some r) :
  Calls Try.prog 52 #[.slice A0 l0.length c0, .agg #[.int .i64 a1_0, .int .i64 a1_1, .int .i64 a1_2]] w fun e w' => e = .returned (.bool r) ∧ Below w.heap.size w w' := by
 have hu36 := Try.underlying36
 have HR0 := Aside0.mk hr0
 have HC0 := Aside0.mk hc0
 clear hr0 hc0
 have HB := Aside0.mk (Below.refl w.heap.size w)
 have H : ((impl_Fact_74.f k l0 a1_0 a1_1 a1_2).bind fun t132 => (some (decide (t132 ≥ 0)))) = some r := h
 clear h
 replace H := Option.bind_eq_some_iff.mp H
 obtain ⟨t132, A30, H⟩ := H
 try dsimp only at H
 have A3 := Aside0.mk A30
 clear A30
 obtain rfl := Option.some.inj H
 go_enter Try.func52, Try.ntmps52
 go_wp2_with (first | ((with_reducible refine gate_dst (N := 3) rfl ?_); refine sqX (N := 3) (cs := #[.int .i64 a1_0, .int .i64 a1_1, .int .i64 a1_2]) (t := 36) ?_; intro gb131 hg w4 hbox hb; have BK131 := Aside0.mk (hbox); have GW131 := sqG hg; have GE131 := sqG hg; replace HB := sqS hb; clear hb hbox hg; obtain ⟨hcz5_0, hcz5_1, hcz5_2, hfz5_0, hfz5_1, hfz5_2⟩ := sqC3 BK131) | ((with_reducible refine gate_callee (f := 74) rfl ?_); refine goesL_ (some 7) rfl rfl Try.func74 (by kernel_rfl) rfl #[.slice A0 l0.length c0, .agg #[.int .i64 a1_0, .int .i64 a1_1, .int .i64 a1_2]] rfl sqA ?_; (with_reducible refine (impl_Fact_74.calls k _ _ l0 a1_0 a1_1 a1_2 t132 _ ?side1 ?side2 A3.out).mono ?_); (case side1 => repeat (first | exact (Kd.C_below HR0.out HB.out) | (with_reducible refine Kd.C_alloc ?_ _) | (with_reducible refine Kd.C_drewN ?_ _) | (with_reducible refine Kd.C_drew ?_))); (case side2 => exact HC0.out); rintro e w6 ⟨rfl, hb⟩; refine ⟨_, rfl, ?_⟩; replace BK131 := sqL BK131 hb; replace HB := sqS hb; (try clear hb); (try clear hb2); (try clear hk); (try clear hi)))
 go_ret
 exact ⟨sqE, sqB⟩

/-! ### impl_findFacts: function 48 -/
mutual
def impl_findFacts.l0 : Nat → List (S29) → List (S36) → List (S72) → Int → Option ((List (S72)))
 | 0, _, _, _, _ => none
 | k + 1, x0, x3, x4, x5 => if x5 < (x3.length : Int) then (impl_findFacts.l1 k x0 x3 x4 (x3.length : Int) x0 (x0.length : Int) 0) else (some x4)
def impl_findFacts.l1 : Nat → List (S29) → List (S36) → List (S72) → Int → List (S29) → Int → Int → Option ((List (S72)))
 | 0, _, _, _, _, _, _, _ => none
 | k + 1, x0, x3, x4, x5, x18, x19, x20 => if x20 < x19 then (if 0 ≤ x20 then (if x20 < (x18.length : Int) then ((impl_CredOk.f k ((rd_T29 x18 x20).f0) ((rd_T29 x18 x20).f1.f0) ((rd_T29 x18 x20).f1.f1) ((rd_T29 x18 x20).f2) ((rd_T29 x18 x20).f3.f0) ((rd_T29 x18 x20).f3.f1) ((rd_T29 x18 x20).f4.f0) ((rd_T29 x18 x20).f4.f1) ((rd_T29 x18 x20).f5) ((rd_T29 x18 x20).f6)).bind fun t141 => (if t141 = true then ((impl_Fact_49.f x3).bind fun t142 => ((impl_derive.f k t142 ((rd_T29 x18 x20).f0) ((rd_T29 x18 x20).f1.f0) ((rd_T29 x18 x20).f1.f1) ((rd_T29 x18 x20).f2) ((rd_T29 x18 x20).f3.f0) ((rd_T29 x18 x20).f3.f1) ((rd_T29 x18 x20).f4.f0) ((rd_T29 x18 x20).f4.f1) ((rd_T29 x18 x20).f5) ((rd_T29 x18 x20).f6)).bind fun t145 => (impl_findFacts.l2 k x0 x3 x4 x5 x20 x18 x19 x20 t145 (t145.length : Int) 0))) else (impl_findFacts.l1 k x0 x3 x4 x5 x18 x19 (wrap64 (x20 + 1))))) else (none)) else (none)) else (impl_findFacts.l0 k x0 x3 x4 x5)
def impl_findFacts.l2 : Nat → List (S29) → List (S36) → List (S72) → Int → Int → List (S29) → Int → Int → List (S78) → Int → Int → Option ((List (S72)))
 | 0, _, _, _, _, _, _, _, _, _, _, _ => none
 | k + 1, x0, x3, x4, x5, x6, x18, x19, x20, x31, x32, x33 => if x33 < x32 then (if 0 ≤ x33 then (if x33 < (x31.length : Int) then ((impl_Fact_52.f k x3 ((rd_T78 x31 x33).f0.f0.f0) ((rd_T78 x31 x33).f0.f0.f1) ((rd_T78 x31 x33).f0.f1)).bind fun t150 => (if t150 = true then (impl_findFacts.l2 k x0 x3 x4 x5 x6 x18 x19 x20 x31 x32 (wrap64 (x33 + 1))) else (if x3.length < 5864062014805 then (if x4.length < 2513169434916 then (impl_findFacts.l2 k x0 (x3 ++ [(⟨(⟨(rd_T78 x31 x33).f0.f0.f0, (rd_T78 x31 x33).f0.f0.f1⟩ : S27), (rd_T78 x31 x33).f0.f1⟩ : S36)]) (x4 ++ [(⟨(⟨(⟨(rd_T78 x31 x33).f0.f0.f0, (rd_T78 x31 x33).f0.f0.f1⟩ : S27), (rd_T78 x31 x33).f0.f1⟩ : S36), x6, (rd_T78 x31 x33).f1⟩ : S72)]) x5 x6 x18 x19 x20 x31 x32 (wrap64 (x33 + 1))) else (none)) else (none)))) else (none)) else (none)) else (impl_findFacts.l1 k x0 x3 x4 x5 x18 x19 (wrap64 (x20 + 1)))
end
def impl_findFacts.f (k : Nat) (l0 : List (S29)) : Option ((List (S72))) := impl_findFacts.l0 k l0 (([] : List (S36))) (([] : List (S72))) (-1)
theorem impl_findFacts.mono_l : ∀ k, (∀ y0 y1 y2 y3, LeO (impl_findFacts.l0 k y0 y1 y2 y3) (impl_findFacts.l0 (k + 1) y0 y1 y2 y3)) ∧ (∀ y0 y1 y2 y3 y4 y5 y6, LeO (impl_findFacts.l1 k y0 y1 y2 y3 y4 y5 y6) (impl_findFacts.l1 (k + 1) y0 y1 y2 y3 y4 y5 y6)) ∧ (∀ y0 y1 y2 y3 y4 y5 y6 y7 y8 y9 y10, LeO (impl_findFacts.l2 k y0 y1 y2 y3 y4 y5 y6 y7 y8 y9 y10) (impl_findFacts.l2 (k + 1) y0 y1 y2 y3 y4 y5 y6 y7 y8 y9 y10))
 | 0 => ⟨fun _ _ _ _ r h => by simp [impl_findFacts.l0] at h, fun _ _ _ _ _ _ _ r h => by simp [impl_findFacts.l1] at h, fun _ _ _ _ _ _ _ _ _ _ _ r h => by simp [impl_findFacts.l2] at h⟩
 | k + 1 => by
  obtain ⟨ih0, ih1, ih2⟩ := impl_findFacts.mono_l k
  refine ⟨?_, ?_, ?_⟩
  ·intro y0 y1 y2 y3
   unfold impl_findFacts.l0
   repeat' first
   | (with_reducible exact ih0 _ _ _ _)
   | (with_reducible exact ih1 _ _ _ _ _ _ _)
   | (with_reducible exact ih2 _ _ _ _ _ _ _ _ _ _ _)
   | (with_reducible exact impl_CredOk.mono _ _ _ _ _ _ _ _ _ _ _)
   | (with_reducible exact impl_Fact_52.mono _ _ _ _ _)
   | (with_reducible exact impl_derive.mono _ _ _ _ _ _ _ _ _ _ _ _)
   | (with_reducible exact LeO.refl _)
   | (with_reducible exact LeO.none _)
   | (with_reducible refine LeO.ite ?_ ?_)
   | (with_reducible refine LeO.bind ?_ (fun _ => ?_))
   | exact ih0 _ _ _ _
   | exact ih1 _ _ _ _ _ _ _
   | exact ih2 _ _ _ _ _ _ _ _ _ _ _
   | exact impl_CredOk.mono _ _ _ _ _ _ _ _ _ _ _
   | exact impl_Fact_52.mono _ _ _ _ _
   | exact impl_derive.mono _ _ _ _ _ _ _ _ _ _ _ _
   | exact LeO.none _
   | refine LeO.ite ?_ ?_
   | refine LeO.bind ?_ (fun _ => ?_)
  ·intro y0 y1 y2 y3 y4 y5 y6
   unfold impl_findFacts.l1
   repeat' first
   | (with_reducible exact ih0 _ _ _ _)
   | (with_reducible exact ih1 _ _ _ _ _ _ _)
   | (with_reducible exact ih2 _ _ _ _ _ _ _ _ _ _ _)
   | (with_reducible exact impl_CredOk.mono _ _ _ _ _ _ _ _ _ _ _)
   | (with_reducible exact impl_Fact_52.mono _ _ _ _ _)
   | (with_reducible exact impl_derive.mono _ _ _ _ _ _ _ _ _ _ _ _)
   | (with_reducible exact LeO.refl _)
   | (with_reducible exact LeO.none _)
   | (with_reducible refine LeO.ite ?_ ?_)
   | (with_reducible refine LeO.bind ?_ (fun _ => ?_))
   | exact ih0 _ _ _ _
   | exact ih1 _ _ _ _ _ _ _
   | exact ih2 _ _ _ _ _ _ _ _ _ _ _
   | exact impl_CredOk.mono _ _ _ _ _ _ _ _ _ _ _
   | exact impl_Fact_52.mono _ _ _ _ _
   | exact impl_derive.mono _ _ _ _ _ _ _ _ _ _ _ _
   | exact LeO.none _
   | refine LeO.ite ?_ ?_
   | refine LeO.bind ?_ (fun _ => ?_)
  ·intro y0 y1 y2 y3 y4 y5 y6 y7 y8 y9 y10
   unfold impl_findFacts.l2
   repeat' first
   | (with_reducible exact ih0 _ _ _ _)
   | (with_reducible exact ih1 _ _ _ _ _ _ _)
   | (with_reducible exact ih2 _ _ _ _ _ _ _ _ _ _ _)
   | (with_reducible exact impl_CredOk.mono _ _ _ _ _ _ _ _ _ _ _)
   | (with_reducible exact impl_Fact_52.mono _ _ _ _ _)
   | (with_reducible exact impl_derive.mono _ _ _ _ _ _ _ _ _ _ _ _)
   | (with_reducible exact LeO.refl _)
   | (with_reducible exact LeO.none _)
   | (with_reducible refine LeO.ite ?_ ?_)
   | (with_reducible refine LeO.bind ?_ (fun _ => ?_))
   | exact ih0 _ _ _ _
   | exact ih1 _ _ _ _ _ _ _
   | exact ih2 _ _ _ _ _ _ _ _ _ _ _
   | exact impl_CredOk.mono _ _ _ _ _ _ _ _ _ _ _
   | exact impl_Fact_52.mono _ _ _ _ _
   | exact impl_derive.mono _ _ _ _ _ _ _ _ _ _ _ _
   | exact LeO.none _
   | refine LeO.ite ?_ ?_
   | refine LeO.bind ?_ (fun _ => ?_)
theorem impl_findFacts.mono : ∀ a0 k, LeO (impl_findFacts.f k a0) (impl_findFacts.f (k + 1) a0) := by
 intro a0 k
 obtain ⟨ih0, ih1, ih2⟩ := impl_findFacts.mono_l k
 unfold impl_findFacts.f
 repeat' first
   | (with_reducible exact ih0 _ _ _ _)
   | (with_reducible exact ih1 _ _ _ _ _ _ _)
   | (with_reducible exact ih2 _ _ _ _ _ _ _ _ _ _ _)
   | (with_reducible exact impl_CredOk.mono _ _ _ _ _ _ _ _ _ _ _)
   | (with_reducible exact impl_Fact_52.mono _ _ _ _ _)
   | (with_reducible exact impl_derive.mono _ _ _ _ _ _ _ _ _ _ _ _)
   | (with_reducible exact LeO.refl _)
   | (with_reducible exact LeO.none _)
   | (with_reducible refine LeO.ite ?_ ?_)
   | (with_reducible refine LeO.bind ?_ (fun _ => ?_))
   | exact ih0 _ _ _ _
   | exact ih1 _ _ _ _ _ _ _
   | exact ih2 _ _ _ _ _ _ _ _ _ _ _
   | exact impl_CredOk.mono _ _ _ _ _ _ _ _ _ _ _
   | exact impl_Fact_52.mono _ _ _ _ _
   | exact impl_derive.mono _ _ _ _ _ _ _ _ _ _ _ _
   | exact LeO.none _
   | refine LeO.ite ?_ ?_
   | refine LeO.bind ?_ (fun _ => ?_)
set_option maxHeartbeats 8000000 in
set_option maxRecDepth 100000 in
theorem impl_findFacts.calls (k : Nat) (A0 : Option Addr) (c0 : Nat) (l0 : List (S29)) (r : List (S72)) (w : World) (hr0 : Kd.C k29 w A0 l0.length l0) (hc0 : l0.length ≤ c0) (h : impl_findFacts.f k l0 = some r) :
  Calls Try.prog 48 #[.slice A0 l0.length c0] w fun e w' => ∃ v0_ : Value, e = .returned (v0_) ∧ Kd.N k72 72 w' w.heap.size (fun k_ => (w.heap.size ≤ k_)) v0_ r ∧ Below w.heap.size w w' := by
 have hu29 := Try.underlying29
 have hu78 := Try.underlying78
 have hu36 := Try.underlying36
 have hu72 := Try.underlying72
 have HR0 := Aside0.mk hr0
 have HC0 := Aside0.mk hc0
 clear hr0 hc0
 have HB := Aside0.mk (Below.refl w.heap.size w)
 have H : (impl_findFacts.l0 k l0 (([] : List (S36))) (([] : List (S72))) (-1)) = some r := h
 clear h
 obtain ⟨y133, hy133⟩ : ∃ y_ : List (S36), y_ = (([] : List (S36))) := ⟨_, rfl⟩
 replace H : (impl_findFacts.l0 k l0 y133 (([] : List (S72))) (-1)) = some r := by first | (rw [hy133]; with_reducible exact H) | (have H2_ := (Option.bind_some _ _).symm.trans H; rw [hy133]; with_reducible exact H2_) | (have H2_ := (Option.bind_some _ _).symm.trans H; with_reducible exact H2_) | with_reducible exact H | (rw [hy133]; exact H) | exact H
 have Ny133 := Aside0.mk hy133
 clear hy133
 obtain ⟨y136, hy136⟩ : ∃ y_ : List (S72), y_ = (([] : List (S72))) := ⟨_, rfl⟩
 replace H : (impl_findFacts.l0 k l0 y133 y136 (-1)) = some r := by first | (rw [hy136]; with_reducible exact H) | (have H2_ := (Option.bind_some _ _).symm.trans H; rw [hy136]; with_reducible exact H2_) | (have H2_ := (Option.bind_some _ _).symm.trans H; with_reducible exact H2_) | with_reducible exact H | (rw [hy136]; exact H) | exact H
 have Ny136 := Aside0.mk hy136
 clear hy136
 have H' := Aside0.mk H
 clear H
 go_enter Try.func48, Try.ntmps48
 go_wp2_with (first | ((with_reducible refine gate_dst (N := 10) rfl ?_); refine Kd.R_lit k36 _ 36 ?hg (N := 10) ?hd (xs := ([] : List (S36))) (inner := []) (ok := fun _ => True) (okp := fun _ => True) ?hr ?hp (fun _ hk => hk) trivial (Below.refl _ _) (Nat.le_refl _) (by simp) ?_; (case hd => rfl); (case hg => rfl); (case hr => first | (go_simp; done) | (go_simp; rfl)); (case hp => exact (Reps.none _ _)); intro v134 w2 ho3 hb hg_ hnew_; clear hg_ hnew_; (first | rw [← Ny133.out] at ho3 | (simp only [Int.reduceToNat] at ho3; rw [← Ny133.out] at ho3)); have HO135 := Aside0.mk (Kd.R_lower (Kd.R_newM (M := fun k_ => (w.heap.size ≤ k_)) ho3 (below_size (sqB)) (fun k_ h_ => h_)) (below_size (sqB))); replace HB := sqS hb; clear hb ho3) | ((with_reducible refine gate_dst (N := 11) rfl ?_); refine Kd.N_lit k72 _ 72 ?hg (N' := 11) ?hd (xs := ([] : List (S72))) (inner := []) (ok := (fun k_ => (w.heap.size ≤ k_) ∧ some k_ ≠ (v134 : Value).ownBlock)) (okp := (fun k_ => (w.heap.size ≤ k_) ∧ some k_ ≠ (v134 : Value).ownBlock)) ?hr ?hp (fun _ hk => hk) ((show ∀ k_, w2.heap.size ≤ k_ → (fun k_ => (w.heap.size ≤ k_) ∧ some k_ ≠ (v134 : Value).ownBlock) k_ from fun k_ hk => ⟨(Nat.le_trans (below_size (sqB)) hk), Kd.fresh' (Kd.R_lt (sqR HO135)) k_ hk⟩) _ (Nat.le_refl _)) (Below.refl _ _) (Nat.le_refl _) (by simp) ?_; (case hd => rfl); (case hg => rfl); (case hr => first | (go_simp; done) | (go_simp; rfl)); (case hp => exact (Reps.none _ _)); intro v137 w4 ho5 hb hg_ hnew_; clear hg_ hnew_; (first | rw [← Ny136.out] at ho5 | (simp only [Int.reduceToNat] at ho5; rw [← Ny136.out] at ho5)); replace HO135 := Aside0.mk (Kd.R_below (sqR HO135) hb); have HO138 := Aside0.mk (Kd.N_lower ho5 (below_size (sqB))); replace HB := sqS hb; clear hb ho5))
 go_loopg [3, 4, 5] k (fun kq v3 v4 v5 w' => ∃ (x3_1 : List (S36)) (x4_1 : List (S72)) (x5_1 : Int), v5 = .int .i64 x5_1 ∧ Aside0 (impl_findFacts.l0 kq l0 x3_1 x4_1 x5_1 = some r) ∧ Aside0 (kq ≤ k) ∧ Aside0 (Kd.R k36 36 w' w.heap.size (fun k_ => (w.heap.size ≤ k_)) v3 x3_1) ∧ Aside0 (Kd.N k72 72 w' w.heap.size (fun k_ => (w.heap.size ≤ k_) ∧ some k_ ≠ (v3 : Value).ownBlock) v4 x4_1) ∧ Aside0 (Below w.heap.size w w'))
 case atStart => exact ⟨(y133), (y136), ((-1)), (by first | rfl | (simp; done) | (simp [*]; done)), H', ⟨Nat.le_refl _⟩, ⟨by (with_reducible repeat (first | apply Kd.R_alloc | apply Kd.R_drewN | apply Kd.R_drew)); exact Kd.R_mono HO135.out (fun _ hk => hk.1)⟩, ⟨by (with_reducible repeat (first | apply Kd.N_alloc | apply Kd.N_drewN | apply Kd.N_drew)); exact HO138.out⟩, ⟨sqB⟩⟩
 case round =>
  clear H'
  try clear p2
  try clear c4
  obtain ⟨x3_1, x4_1, x5_1, rfl, HA, HK1, HO_3, HO_4, HB⟩ := hrel
  cases gk with
  | zero => exact absurd HA.out (by simp [impl_findFacts.l0])
  | succ k1 =>
   have H := HA.out
   clear HA
   simp only [impl_findFacts.l0] at H
   by_cases c6 : x5_1 < (x3_1.length : Int)
   ·rw [if_pos c6] at H
    have c6b0 : decide (x5_1 < (x3_1.length : Int)) = true := decide_eq_true c6
    clear c6
    have H' := Aside0.mk H
    clear H
    obtain ⟨Ao7, co7, eo7⟩ := Kd.R_slice HO_3.out
    subst eo7
    go_wp2
    go_loopg [3, 4, 20] k1 (fun kq v3 v4 v20 w' => ∃ (x3_2 : List (S36)) (x4_2 : List (S72)) (x20_2 : Int), v20 = .int .i64 x20_2 ∧ Aside0 (impl_findFacts.l1 kq l0 x3_2 x4_2 (x3_1.length : Int) l0 (l0.length : Int) x20_2 = some r) ∧ Aside0 (kq ≤ k1) ∧ Aside0 (Kd.R k36 36 w' w.heap.size (fun k_ => (w.heap.size ≤ k_)) v3 x3_2) ∧ Aside0 (Kd.N k72 72 w' w.heap.size (fun k_ => (w.heap.size ≤ k_) ∧ some k_ ≠ (v3 : Value).ownBlock) v4 x4_2) ∧ Aside0 (Below w.heap.size w w'))
    case atStart => exact ⟨(x3_1), (x4_1), (0), (by first | rfl | (simp; done) | (simp [*]; done)), H', ⟨Nat.le_refl _⟩, ⟨sqR HO_3⟩, ⟨by (with_reducible repeat (first | apply Kd.N_alloc | apply Kd.N_drewN | apply Kd.N_drew)); exact HO_4.out⟩, ⟨sqB⟩⟩
    case round =>
     clear H'
     try clear p2
     try clear c4
     try clear c6
     try clear c6b0
     try clear p2
     obtain ⟨x3_2, x4_2, x20_2, rfl, HA, HK2, HO_3, HO_4, HB⟩ := hrel
     cases gk with
     | zero => exact absurd HA.out (by simp [impl_findFacts.l1])
     | succ k2 =>
      have H := HA.out
      clear HA
      simp only [impl_findFacts.l1] at H
      by_cases c8 : x20_2 < (l0.length : Int)
      ·rw [if_pos c8] at H
       have c8b0 : decide (x20_2 < (l0.length : Int)) = true := decide_eq_true c8
       clear c8
       by_cases c9 : 0 ≤ x20_2
       ·rw [if_pos c9] at H
        have c9b0 : decide (0 ≤ x20_2) = true := decide_eq_true c9
        clear c9
        by_cases c10 : x20_2 < (l0.length : Int)
        ·rw [if_pos c10] at H
         have c10b0 : decide (x20_2 < (l0.length : Int)) = true := decide_eq_true c10
         clear c10
         replace H := Option.bind_eq_some_iff.mp H
         obtain ⟨t141, A110, H⟩ := H
         try dsimp only at H
         have A11 := Aside0.mk A110
         clear A110
         by_cases c12 : t141 = true
         ·subst c12
          rw [if_pos rfl] at H
          replace H := Option.bind_eq_some_iff.mp H
          obtain ⟨t142, A130, H⟩ := H
          try dsimp only at H
          have A13 := Aside0.mk A130
          clear A130
          replace H := Option.bind_eq_some_iff.mp H
          obtain ⟨t145, A140, H⟩ := H
          try dsimp only at H
          have A14 := Aside0.mk A140
          clear A140
          have H' := Aside0.mk H
          clear H
          have p139 : 0 ≤ (x20_2 : Int) := sqD
          have q139 : x20_2 < (l0.length : Int) := sqD
          obtain ⟨ad139, e139, hx139_0, hx139_1, hx139_2, hx139_3, hx139_4, hx139_5, hx139_6, hx139_7, hx139_8, hx139_9⟩ := at_T29 HR0.out x20_2 p139 q139
          cases e139
          replace hx139_0 := sqH HB hx139_0
          replace hx139_1 := sqH HB hx139_1
          replace hx139_2 := sqH HB hx139_2
          replace hx139_3 := sqH HB hx139_3
          replace hx139_4 := sqH HB hx139_4
          replace hx139_5 := sqH HB hx139_5
          replace hx139_6 := sqH HB hx139_6
          replace hx139_7 := sqH HB hx139_7
          replace hx139_8 := sqH HB hx139_8
          replace hx139_9 := sqH HB hx139_9
          replace p139 := eq_true p139
          replace q139 := eq_true q139
          try go_wp2_with (first | ((with_reducible refine gate_dst (N := 7) rfl ?_); refine sqX (N := 7) (cs := #[.int .i64 0, .int .i64 0, .int .i64 0, .int .i64 0, .int .i64 0, .int .i64 0, .int .i64 0, .int .i64 0, .int .i64 0, .int .i64 0]) (t := 29) ?_; intro gb140 hg w15 hbox hb; replace HO_3 := Aside0.mk (Kd.R_below (sqR HO_3) hb); replace HO_4 := Aside0.mk (Kd.N_below (Kd.N_elderB (by (with_reducible repeat (first | apply Kd.N_alloc | apply Kd.N_drewN | apply Kd.N_drew)); exact HO_4.out) gb140 (Nat.le_of_eq hg.symm)) hb); have BK140 := Aside0.mk (hbox); have GW140 := sqG hg; have GE140 := sqG hg; replace HB := sqS hb; clear hb hbox hg; obtain ⟨hcz16_0, hcz16_1, hcz16_2, hcz16_3, hcz16_4, hcz16_5, hcz16_6, hcz16_7, hcz16_8, hcz16_9, hfz16_0, hfz16_1, hfz16_2, hfz16_3, hfz16_4, hfz16_5, hfz16_6, hfz16_7, hfz16_8, hfz16_9⟩ := sqC10 BK140) | ((with_reducible refine gate_callee (f := 50) rfl ?_); refine goesL_ (some 26) rfl rfl Try.func50 (by kernel_rfl) rfl #[.agg #[.int .i64 ((rd_T29 l0 x20_2).f0), .int .i64 ((rd_T29 l0 x20_2).f1.f0), .int .i64 ((rd_T29 l0 x20_2).f1.f1), .int .i64 ((rd_T29 l0 x20_2).f2), .int .i64 ((rd_T29 l0 x20_2).f3.f0), .int .i64 ((rd_T29 l0 x20_2).f3.f1), .int .i64 ((rd_T29 l0 x20_2).f4.f0), .int .i64 ((rd_T29 l0 x20_2).f4.f1), .int .i64 ((rd_T29 l0 x20_2).f5), .int .i64 ((rd_T29 l0 x20_2).f6)]] rfl sqA ?_; (with_reducible refine (impl_CredOk.calls k2 ((rd_T29 l0 x20_2).f0) ((rd_T29 l0 x20_2).f1.f0) ((rd_T29 l0 x20_2).f1.f1) ((rd_T29 l0 x20_2).f2) ((rd_T29 l0 x20_2).f3.f0) ((rd_T29 l0 x20_2).f3.f1) ((rd_T29 l0 x20_2).f4.f0) ((rd_T29 l0 x20_2).f4.f1) ((rd_T29 l0 x20_2).f5) ((rd_T29 l0 x20_2).f6) true _ A11.out).mono ?_); rintro e w17 ⟨rfl, hb⟩; refine ⟨_, rfl, ?_⟩; replace HO_3 := Aside0.mk (Kd.R_below (by (with_reducible repeat (first | apply Kd.R_alloc | apply Kd.R_drewN | apply Kd.R_drew)); exact (Kd.R_mono (Kd.R_far (p := ⟨gb140, 9, none⟩) (Kd.R_far (p := ⟨gb140, 8, none⟩) (Kd.R_far (p := ⟨gb140, 7, none⟩) (Kd.R_far (p := ⟨gb140, 6, none⟩) (Kd.R_far (p := ⟨gb140, 5, none⟩) (Kd.R_far (p := ⟨gb140, 4, none⟩) (Kd.R_far (p := ⟨gb140, 3, none⟩) (Kd.R_far (p := ⟨gb140, 2, none⟩) (Kd.R_far (p := ⟨gb140, 1, none⟩) (Kd.R_far (p := ⟨gb140, 0, none⟩) (Kd.R_types HO_3.out BK140.out (by decide)) (fun _ hk => hk.2) (.int .i64 ((rd_T29 l0 x20_2).f0))) (fun _ hk => hk.2) (.int .i64 ((rd_T29 l0 x20_2).f1.f0))) (fun _ hk => hk.2) (.int .i64 ((rd_T29 l0 x20_2).f1.f1))) (fun _ hk => hk.2) (.int .i64 ((rd_T29 l0 x20_2).f2))) (fun _ hk => hk.2) (.int .i64 ((rd_T29 l0 x20_2).f3.f0))) (fun _ hk => hk.2) (.int .i64 ((rd_T29 l0 x20_2).f3.f1))) (fun _ hk => hk.2) (.int .i64 ((rd_T29 l0 x20_2).f4.f0))) (fun _ hk => hk.2) (.int .i64 ((rd_T29 l0 x20_2).f4.f1))) (fun _ hk => hk.2) (.int .i64 ((rd_T29 l0 x20_2).f5))) (fun _ hk => hk.2) (.int .i64 ((rd_T29 l0 x20_2).f6))) (fun _ h_ => h_.1))) hb); replace HO_4 := Aside0.mk (Kd.N_below (by (with_reducible repeat (first | apply Kd.N_alloc | apply Kd.N_drewN | apply Kd.N_drew)); exact (Kd.N_mono (Kd.N_far (p := ⟨gb140, 9, none⟩) (Kd.N_far (p := ⟨gb140, 8, none⟩) (Kd.N_far (p := ⟨gb140, 7, none⟩) (Kd.N_far (p := ⟨gb140, 6, none⟩) (Kd.N_far (p := ⟨gb140, 5, none⟩) (Kd.N_far (p := ⟨gb140, 4, none⟩) (Kd.N_far (p := ⟨gb140, 3, none⟩) (Kd.N_far (p := ⟨gb140, 2, none⟩) (Kd.N_far (p := ⟨gb140, 1, none⟩) (Kd.N_far (p := ⟨gb140, 0, none⟩) (Kd.N_mono HO_4.out (fun k_ hk => (⟨hk, hk.2⟩ : _ ∧ k_ ≠ gb140))) (fun _ hk => hk.2) (.int .i64 ((rd_T29 l0 x20_2).f0))) (fun _ hk => hk.2) (.int .i64 ((rd_T29 l0 x20_2).f1.f0))) (fun _ hk => hk.2) (.int .i64 ((rd_T29 l0 x20_2).f1.f1))) (fun _ hk => hk.2) (.int .i64 ((rd_T29 l0 x20_2).f2))) (fun _ hk => hk.2) (.int .i64 ((rd_T29 l0 x20_2).f3.f0))) (fun _ hk => hk.2) (.int .i64 ((rd_T29 l0 x20_2).f3.f1))) (fun _ hk => hk.2) (.int .i64 ((rd_T29 l0 x20_2).f4.f0))) (fun _ hk => hk.2) (.int .i64 ((rd_T29 l0 x20_2).f4.f1))) (fun _ hk => hk.2) (.int .i64 ((rd_T29 l0 x20_2).f5))) (fun _ hk => hk.2) (.int .i64 ((rd_T29 l0 x20_2).f6))) (fun _ h_ => h_.1))) hb); replace BK140 := sqLW (o' := .cells #[.int .i64 ((rd_T29 l0 x20_2).f0), .int .i64 ((rd_T29 l0 x20_2).f1.f0), .int .i64 ((rd_T29 l0 x20_2).f1.f1), .int .i64 ((rd_T29 l0 x20_2).f2), .int .i64 ((rd_T29 l0 x20_2).f3.f0), .int .i64 ((rd_T29 l0 x20_2).f3.f1), .int .i64 ((rd_T29 l0 x20_2).f4.f0), .int .i64 ((rd_T29 l0 x20_2).f4.f1), .int .i64 ((rd_T29 l0 x20_2).f5), .int .i64 ((rd_T29 l0 x20_2).f6)] 29 (0, 0)) BK140 hb; replace HB := sqS hb; (try clear hb); (try clear hb2); (try clear hk); (try clear hi)))
          replace HO_3 := Aside0.mk (Kd.R_drew HO_3.out); replace HO_4 := Aside0.mk (Kd.N_drew HO_4.out); replace BK140 := Aside0.mk (blk_drew BK140.out); replace HB := Aside0.mk (below_drew1 HB.out)
          obtain ⟨Ao19, co19, eo19⟩ := Kd.R_slice HO_3.out
          (first | subst eo19 | (injection eo19 with f1_ f2_ f3_; have f4_ := f1_.symm; have f5_ := f3_.symm; clear f1_ f2_ f3_; subst f4_; subst f5_))
          refine start_ (n := 6) (S := fun w' => w'.cell? ⟨gb140, 0, none⟩ = some (.int .i64 ((rd_T29 l0 x20_2).f0)) ∧ w'.cell? ⟨gb140, 1, none⟩ = some (.int .i64 ((rd_T29 l0 x20_2).f1.f0)) ∧ w'.cell? ⟨gb140, 2, none⟩ = some (.int .i64 ((rd_T29 l0 x20_2).f1.f1)) ∧ w'.cell? ⟨gb140, 3, none⟩ = some (.int .i64 ((rd_T29 l0 x20_2).f2)) ∧ w'.cell? ⟨gb140, 4, none⟩ = some (.int .i64 ((rd_T29 l0 x20_2).f3.f0)) ∧ w'.cell? ⟨gb140, 5, none⟩ = some (.int .i64 ((rd_T29 l0 x20_2).f3.f1)) ∧ w'.cell? ⟨gb140, 6, none⟩ = some (.int .i64 ((rd_T29 l0 x20_2).f4.f0)) ∧ w'.cell? ⟨gb140, 7, none⟩ = some (.int .i64 ((rd_T29 l0 x20_2).f4.f1)) ∧ w'.cell? ⟨gb140, 8, none⟩ = some (.int .i64 ((rd_T29 l0 x20_2).f5)) ∧ w'.cell? ⟨gb140, 9, none⟩ = some (.int .i64 ((rd_T29 l0 x20_2).f6))) (ds := []) #[false, false, false, false, false, false] (by kernel_rfl) rfl rfl sqF (fun hHeld => ?_)
          generalize w17.drew = w18 at HO_3 HO_4 BK140 HB hHeld ⊢
          refine sqP (i := 0) (N := some 28) #[true, false, false, false, false, false] rfl rfl (by kernel_rfl) ?_
          refine sqP (i := 5) (N := some 33) #[true, false, false, false, false, true] rfl rfl (by kernel_rfl) ?_
          refine sqTk (i := 2) (N := some 30) #[true, false, true, false, false, true] rfl rfl (by kernel_rfl) hHeld ?_
          refine one_ (i := 1) (N := some 29) #[true, true, true, false, false, true] rfl rfl (by kernel_rfl) (by decide) (fun K hK => ?_)
          refine goes_ Try.func49 (by kernel_rfl) rfl #[.slice Ao19 x3_2.length co19] (by rfl) rfl rfl sqA ?_
          with_reducible refine (impl_Fact_49.calls _ _ x3_2 t142 _ ?side1 ?side2 A13.out).mono ?_
          (case side1 => repeat (first | exact (Kd.R_reads' HO_3.out).2.2 | (with_reducible refine Kd.C_alloc ?_ _) | (with_reducible refine Kd.C_drewN ?_ _) | (with_reducible refine Kd.C_drew ?_)))
          (case side2 => exact (Kd.R_reads' HO_3.out).2.1)
          rintro e w20 ⟨v143, rfl, ho0, hb⟩
          refine ⟨_, rfl, ?_⟩
          replace HO_4 := Aside0.mk (Kd.N_elder' (by (with_reducible repeat (first | apply Kd.N_alloc | apply Kd.N_drewN | apply Kd.N_drew)); exact HO_4.out) (Kd.R_base ho0) hb); have HO144 := Aside0.mk (Kd.R_lower (Kd.R_new' (Kd.R_newM (M := fun k_ => (w.heap.size ≤ k_)) ho0 (below_size (sqB)) (fun k_ h_ => h_)) (Kd.R_lt (sqR HO_3))) (below_size (sqB))); replace HO_3 := Aside0.mk (Kd.R_elder' (sqR HO_3) (Kd.R_base ho0) hb); replace BK140 := sqL BK140 hb; replace HB := sqS hb
          (try clear hb)
          (try clear hb2)
          (try clear hk)
          (try clear hi)
          (try clear ho0)
          obtain ⟨Ao21, co21, eo21⟩ := Kd.R_slice HO144.out
          (first | subst eo21 | (injection eo21 with f1_ f2_ f3_; have f4_ := f1_.symm; have f5_ := f3_.symm; clear f1_ f2_ f3_; subst f4_; subst f5_))
          refine hK.out _ _ sqF (fun hHeld => ?_)
          clear hK K
          refine sqV (N := some 29) ?_
          refine one_ (i := 3) (N := some 31) #[true, true, true, true, false, true] rfl rfl (by kernel_rfl) (by decide) (fun K hK => ?_)
          refine goes_ Try.func51 (by kernel_rfl) rfl #[.slice Ao21 t142.length co21, .agg #[.int .i64 ((rd_T29 l0 x20_2).f0), .int .i64 ((rd_T29 l0 x20_2).f1.f0), .int .i64 ((rd_T29 l0 x20_2).f1.f1), .int .i64 ((rd_T29 l0 x20_2).f2), .int .i64 ((rd_T29 l0 x20_2).f3.f0), .int .i64 ((rd_T29 l0 x20_2).f3.f1), .int .i64 ((rd_T29 l0 x20_2).f4.f0), .int .i64 ((rd_T29 l0 x20_2).f4.f1), .int .i64 ((rd_T29 l0 x20_2).f5), .int .i64 ((rd_T29 l0 x20_2).f6)]] (by rfl) rfl rfl sqA ?_
          with_reducible refine (impl_derive.calls k2 _ _ t142 ((rd_T29 l0 x20_2).f0) ((rd_T29 l0 x20_2).f1.f0) ((rd_T29 l0 x20_2).f1.f1) ((rd_T29 l0 x20_2).f2) ((rd_T29 l0 x20_2).f3.f0) ((rd_T29 l0 x20_2).f3.f1) ((rd_T29 l0 x20_2).f4.f0) ((rd_T29 l0 x20_2).f4.f1) ((rd_T29 l0 x20_2).f5) ((rd_T29 l0 x20_2).f6) t145 _ ?side1 ?side2 A14.out).mono ?_
          (case side1 => repeat (first | exact (Kd.R_reads' HO144.out).2.2 | (with_reducible refine Kd.C_alloc ?_ _) | (with_reducible refine Kd.C_drewN ?_ _) | (with_reducible refine Kd.C_drew ?_)))
          (case side2 => exact (Kd.R_reads' HO144.out).2.1)
          rintro e w22 ⟨v146, rfl, ho0, hb⟩
          refine ⟨_, rfl, ?_⟩
          have HO147 := Aside0.mk (Kd.N_lower (Kd.N_mono (ok' := fun k_ => (w.heap.size ≤ k_) ∧ some k_ ≠ (.slice Ao19 x3_2.length co19 : Value).ownBlock ∧ some k_ ≠ (u4 : Value).ownBlock ∧ some k_ ≠ (.slice Ao21 t142.length co21 : Value).ownBlock ∧ k_ ≠ gb140) (Kd.N_mono ho0 (fun k_ h_ => And.intro trivial (And.intro h_ trivial))) (fun k_ hk_ => ⟨(Nat.le_trans (below_size (sqB)) hk_.2.1), (Kd.fresh' (Kd.R_lt (sqR HO_3)) k_ hk_.2.1), (Kd.fresh' (Kd.N_lt (by (with_reducible repeat (first | apply Kd.N_alloc | apply Kd.N_drewN | apply Kd.N_drew)); exact HO_4.out)) k_ hk_.2.1), (Kd.fresh' (Kd.R_lt (sqR HO144)) k_ hk_.2.1), (Kd.freshB (g := gb140) (o := .cells #[.int .i64 ((rd_T29 l0 x20_2).f0), .int .i64 ((rd_T29 l0 x20_2).f1.f0), .int .i64 ((rd_T29 l0 x20_2).f1.f1), .int .i64 ((rd_T29 l0 x20_2).f2), .int .i64 ((rd_T29 l0 x20_2).f3.f0), .int .i64 ((rd_T29 l0 x20_2).f3.f1), .int .i64 ((rd_T29 l0 x20_2).f4.f0), .int .i64 ((rd_T29 l0 x20_2).f4.f1), .int .i64 ((rd_T29 l0 x20_2).f5), .int .i64 ((rd_T29 l0 x20_2).f6)] 29 (0, 0)) (sqK BK140) k_ hk_.2.1)⟩)) (below_size (sqB))); replace HO_3 := Aside0.mk (Kd.R_below (sqR HO_3) hb); replace HO_4 := Aside0.mk (Kd.N_elder' (by (with_reducible repeat (first | apply Kd.N_alloc | apply Kd.N_drewN | apply Kd.N_drew)); exact HO_4.out) (Kd.N_base ho0) hb); replace HO144 := Aside0.mk (Kd.R_below (sqR HO144) hb); replace BK140 := sqL BK140 hb; replace HB := sqS hb
          (try clear hb)
          (try clear hb2)
          (try clear hk)
          (try clear hi)
          (try clear ho0)
          obtain ⟨Ao23, co23, eo23⟩ := Kd.N_slice HO147.out
          (first | subst eo23 | (injection eo23 with f1_ f2_ f3_; have f4_ := f1_.symm; have f5_ := f3_.symm; clear f1_ f2_ f3_; subst f4_; subst f5_))
          refine hK.out _ _ sqF (fun hHeld => ?_)
          clear hK K
          refine sqV (N := some 31) ?_
          refine sqP (i := 4) (N := some 32) #[true, true, true, true, true, true] rfl rfl (by kernel_rfl) ?_
          refine done_ (by kernel_rfl) ?_
          try go_wp2
          go_loopg [3, 4, 33] k2 (fun kq v3 v4 v33 w' => ∃ (x3_3 : List (S36)) (x4_3 : List (S72)) (x33_3 : Int), v33 = .int .i64 x33_3 ∧ Aside0 (impl_findFacts.l2 kq l0 x3_3 x4_3 (x3_1.length : Int) x20_2 l0 (l0.length : Int) x20_2 t145 (t145.length : Int) x33_3 = some r) ∧ Aside0 (kq ≤ k2) ∧ Aside0 (Kd.R k36 36 w' w.heap.size (fun k_ => (w.heap.size ≤ k_)) v3 x3_3) ∧ Aside0 (Kd.N k72 72 w' w.heap.size (fun k_ => (w.heap.size ≤ k_) ∧ some k_ ≠ (v3 : Value).ownBlock ∧ some k_ ≠ ((.slice Ao23 t145.length co23) : Value).ownBlock ∧ k_ ≠ gb140) v4 x4_3) ∧ Aside0 (Kd.N k78 78 w' w.heap.size (fun k_ => (w.heap.size ≤ k_) ∧ some k_ ≠ (v3 : Value).ownBlock ∧ some k_ ≠ (v4 : Value).ownBlock ∧ k_ ≠ gb140) (.slice Ao23 t145.length co23) t145) ∧ Aside0 (w'.heap[gb140]? = some (.cells #[.int .i64 ((rd_T29 l0 x20_2).f0), .int .i64 ((rd_T29 l0 x20_2).f1.f0), .int .i64 ((rd_T29 l0 x20_2).f1.f1), .int .i64 ((rd_T29 l0 x20_2).f2), .int .i64 ((rd_T29 l0 x20_2).f3.f0), .int .i64 ((rd_T29 l0 x20_2).f3.f1), .int .i64 ((rd_T29 l0 x20_2).f4.f0), .int .i64 ((rd_T29 l0 x20_2).f4.f1), .int .i64 ((rd_T29 l0 x20_2).f5), .int .i64 ((rd_T29 l0 x20_2).f6)] 29 (0, 0))) ∧ Aside0 (Below w.heap.size w w'))
          case atStart => exact ⟨(x3_2), (x4_2), (0), (by first | rfl | (simp; done) | (simp [*]; done)), H', ⟨Nat.le_refl _⟩, ⟨by (with_reducible repeat (first | apply Kd.R_alloc | apply Kd.R_drewN | apply Kd.R_drew)); exact Kd.R_mono HO_3.out (fun _ hk => hk.1)⟩, ⟨by (with_reducible repeat (first | apply Kd.N_alloc | apply Kd.N_drewN | apply Kd.N_drew)); exact Kd.N_mono HO_4.out (fun _ hk => ⟨hk.1.1.1.1, ⟨hk.1.1.1.2, ⟨hk.2, hk.1.1.2⟩⟩⟩)⟩, ⟨by (with_reducible repeat (first | apply Kd.N_alloc | apply Kd.N_drewN | apply Kd.N_drew)); exact Kd.N_mono HO147.out (fun _ hk => ⟨hk.1, ⟨hk.2.1, ⟨hk.2.2.1, hk.2.2.2.2⟩⟩⟩)⟩, ⟨sqK BK140⟩, ⟨sqB⟩⟩
          case round =>
           clear H'
           try clear c1
           try clear p1
           try clear q1
           try clear hx1
           try clear p2
           try clear c4
           try clear c5
           try clear c6
           try clear c6b0
           try clear p6
           try clear c8
           try clear c8b0
           try clear c9
           try clear c9b0
           try clear c10
           try clear c10b0
           try clear c12
           try clear p13
           try clear q13
           try clear hx13
           try clear hcz16_0 hcz16_1 hcz16_2 hcz16_3 hcz16_4 hcz16_5 hcz16_6 hcz16_7 hcz16_8 hcz16_9 hfz16_0 hfz16_1 hfz16_2 hfz16_3 hfz16_4 hfz16_5 hfz16_6 hfz16_7 hfz16_8 hfz16_9
           try clear hx139_0
           try clear hx139_1
           try clear hx139_2
           try clear hx139_3
           try clear hx139_4
           try clear hx139_5
           try clear hx139_6
           try clear hx139_7
           try clear hx139_8
           try clear hx139_9
           try clear p139
           try clear p2
           try clear q139
           obtain ⟨x3_3, x4_3, x33_3, rfl, HA, HK3, HO_3, HO_4, HO_31, BK140, HB⟩ := hrel
           cases gk with
           | zero => exact absurd HA.out (by simp [impl_findFacts.l2])
           | succ k3 =>
            have H := HA.out
            clear HA
            simp only [impl_findFacts.l2] at H
            by_cases c24 : x33_3 < (t145.length : Int)
            ·rw [if_pos c24] at H
             have c24b0 : decide (x33_3 < (t145.length : Int)) = true := decide_eq_true c24
             clear c24
             by_cases c25 : 0 ≤ x33_3
             ·rw [if_pos c25] at H
              have c25b0 : decide (0 ≤ x33_3) = true := decide_eq_true c25
              clear c25
              by_cases c26 : x33_3 < (t145.length : Int)
              ·rw [if_pos c26] at H
               have c26b0 : decide (x33_3 < (t145.length : Int)) = true := decide_eq_true c26
               clear c26
               replace H := Option.bind_eq_some_iff.mp H
               obtain ⟨t150, A270, H⟩ := H
               try dsimp only at H
               have A27 := Aside0.mk A270
               clear A270
               by_cases c28 : t150 = true
               ·subst c28
                rw [if_pos rfl] at H
                have H' := Aside0.mk H
                clear H
                have p148 : 0 ≤ (x33_3 : Int) := sqD
                have q148 : x33_3 < (t145.length : Int) := sqD
                obtain ⟨ad148, A148_3, c148_3, e148, hx148_0, hx148_1, hx148_2, hx148_3, hl148_3, hi148_3⟩ := at_T78 (Kd.N_reads' HO_31.out).2.2 x33_3 p148 q148
                cases e148
                obtain ⟨ce148, hce148, hMe148, hcc148⟩ := Kd.N_get HO_31.out z78 x33_3 p148 (by first | exact q148 | exact sqD | (have e_ := (Kd.N_reads' HO_31.out).1; omega))
                obtain ⟨ua148_3, uc148_3, rfl, ul148_3, ge148_3⟩ := k78_openF hMe148
                have hv148_3 := hcc148 3 _ rfl
                rw [add_field _ _ 3 (by omega)] at hv148_3
                replace hv148_3 := Option.some.inj (hv148_3.symm.trans hx148_3)
                injection hv148_3 with hva_ hvn_ hvc_
                rw [hva_] at ge148_3
                rw [hvc_] at ul148_3
                have HL148_3 := Aside0.mk (show Kd.V (Kd.int .i64) 3 _ w.heap.size _ _ ((rd_T78 t145 x33_3).f1) from Kd.V_mk ul148_3 ge148_3)
                clear hva_ hvn_ hvc_ ge148_3 ul148_3
                clear hcc148 hce148
                have HR148_3 := Aside0.mk hi148_3
                have HC148_3 := Aside0.mk hl148_3
                clear hi148_3 hl148_3
                replace p148 := eq_true p148
                replace q148 := eq_true q148
                go_wp2_with (first | ((with_reducible refine gate_dst (N := 9) rfl ?_); refine sqX (N := 9) (cs := #[.int .i64 0, .int .i64 0, .int .i64 0, .slice none 0 0]) (t := 78) ?_; intro gb149 hg w29 hbox hb; replace HO_3 := Aside0.mk (Kd.R_below (sqR HO_3) hb); replace HO_4 := Aside0.mk (Kd.N_below (Kd.N_elderB (by (with_reducible repeat (first | apply Kd.N_alloc | apply Kd.N_drewN | apply Kd.N_drew)); exact HO_4.out) gb149 (Nat.le_of_eq hg.symm)) hb); replace HO_31 := Aside0.mk (Kd.N_below (Kd.N_elderB (by (with_reducible repeat (first | apply Kd.N_alloc | apply Kd.N_drewN | apply Kd.N_drew)); exact HO_31.out) gb149 (Nat.le_of_eq hg.symm)) hb); replace HL148_3 := Aside0.mk (Kd.V_below (Kd.V_elderB (by (with_reducible repeat (first | apply Kd.V_alloc | apply Kd.V_drewN | apply Kd.V_drew)); exact HL148_3.out) gb149 (Nat.le_of_eq hg.symm)) hb); replace HR148_3 := Aside0.mk (Kd.C_below (by repeat (first | (with_reducible exact HR148_3.out) | (with_reducible refine Kd.C_alloc ?_ _) | (with_reducible refine Kd.C_drewN ?_ _) | (with_reducible refine Kd.C_drew ?_) | exact HR148_3.out)) hb); have BK149 := Aside0.mk (hbox); have GW149 := sqG hg; have GE149 := sqG hg; have NB140_149 := sqN BK140 hg; have NB149_140 := sqM BK140 hg; replace BK140 := sqL BK140 hb; replace HB := sqS hb; clear hb hbox hg; have hnb30 := NB149_140.out; have hnc30 := NB140_149.out; obtain ⟨hcz31_0, hcz31_1, hcz31_2, hcz31_3, hfz31_0, hfz31_1, hfz31_2, hfz31_3⟩ := sqC4 BK149; obtain ⟨Ao32, co32, eo32⟩ := Kd.R_slice HO_3.out; subst eo32) | ((with_reducible refine gate_callee (f := 52) rfl ?_); refine goesL_ (some 40) rfl rfl Try.func52 (by kernel_rfl) rfl #[.slice Ao32 x3_3.length co32, .agg #[.int .i64 ((rd_T78 t145 x33_3).f0.f0.f0), .int .i64 ((rd_T78 t145 x33_3).f0.f0.f1), .int .i64 ((rd_T78 t145 x33_3).f0.f1)]] rfl sqA ?_; (with_reducible refine (impl_Fact_52.calls k3 _ _ x3_3 ((rd_T78 t145 x33_3).f0.f0.f0) ((rd_T78 t145 x33_3).f0.f0.f1) ((rd_T78 t145 x33_3).f0.f1) true _ ?side1 ?side2 A27.out).mono ?_); (case side1 => refine (Kd.R_reads' (e := 36) (base := w.heap.size) (ok := fun k_ => (w.heap.size ≤ k_)) (n := x3_3.length) (c := co32) ?_).2.2; exact (by (with_reducible repeat (first | apply Kd.R_alloc | apply Kd.R_drewN | apply Kd.R_drew)); exact (Kd.R_mono (Kd.R_far (p := ⟨gb149, 3, none⟩) (Kd.R_far (p := ⟨gb149, 2, none⟩) (Kd.R_far (p := ⟨gb149, 1, none⟩) (Kd.R_far (p := ⟨gb149, 0, none⟩) (Kd.R_types HO_3.out BK149.out (by decide)) (fun _ hk => hk.2) (.int .i64 ((rd_T78 t145 x33_3).f0.f0.f0))) (fun _ hk => hk.2) (.int .i64 ((rd_T78 t145 x33_3).f0.f0.f1))) (fun _ hk => hk.2) (.int .i64 ((rd_T78 t145 x33_3).f0.f1))) (fun _ hk => hk.2) (.slice A148_3 ((rd_T78 t145 x33_3).f1).length c148_3)) (fun _ h_ => h_.1)))); (case side2 => exact (Kd.R_reads' HO_3.out).2.1); rintro e w33 ⟨rfl, hb⟩; refine ⟨_, rfl, ?_⟩; replace HO_3 := Aside0.mk (Kd.R_below (by (with_reducible repeat (first | apply Kd.R_alloc | apply Kd.R_drewN | apply Kd.R_drew)); exact (Kd.R_mono (Kd.R_far (p := ⟨gb149, 3, none⟩) (Kd.R_far (p := ⟨gb149, 2, none⟩) (Kd.R_far (p := ⟨gb149, 1, none⟩) (Kd.R_far (p := ⟨gb149, 0, none⟩) (Kd.R_types HO_3.out BK149.out (by decide)) (fun _ hk => hk.2) (.int .i64 ((rd_T78 t145 x33_3).f0.f0.f0))) (fun _ hk => hk.2) (.int .i64 ((rd_T78 t145 x33_3).f0.f0.f1))) (fun _ hk => hk.2) (.int .i64 ((rd_T78 t145 x33_3).f0.f1))) (fun _ hk => hk.2) (.slice A148_3 ((rd_T78 t145 x33_3).f1).length c148_3)) (fun _ h_ => h_.1))) hb); replace HO_4 := Aside0.mk (Kd.N_below (by (with_reducible repeat (first | apply Kd.N_alloc | apply Kd.N_drewN | apply Kd.N_drew)); exact (Kd.N_mono (Kd.N_far (p := ⟨gb149, 3, none⟩) (Kd.N_far (p := ⟨gb149, 2, none⟩) (Kd.N_far (p := ⟨gb149, 1, none⟩) (Kd.N_far (p := ⟨gb149, 0, none⟩) (Kd.N_mono HO_4.out (fun k_ hk => (⟨hk, hk.2⟩ : _ ∧ k_ ≠ gb149))) (fun _ hk => hk.2) (.int .i64 ((rd_T78 t145 x33_3).f0.f0.f0))) (fun _ hk => hk.2) (.int .i64 ((rd_T78 t145 x33_3).f0.f0.f1))) (fun _ hk => hk.2) (.int .i64 ((rd_T78 t145 x33_3).f0.f1))) (fun _ hk => hk.2) (.slice A148_3 ((rd_T78 t145 x33_3).f1).length c148_3)) (fun _ h_ => h_.1))) hb); replace HO_31 := Aside0.mk (Kd.N_below (by (with_reducible repeat (first | apply Kd.N_alloc | apply Kd.N_drewN | apply Kd.N_drew)); exact (Kd.N_mono (Kd.N_far (p := ⟨gb149, 3, none⟩) (Kd.N_far (p := ⟨gb149, 2, none⟩) (Kd.N_far (p := ⟨gb149, 1, none⟩) (Kd.N_far (p := ⟨gb149, 0, none⟩) (Kd.N_mono HO_31.out (fun k_ hk => (⟨hk, hk.2⟩ : _ ∧ k_ ≠ gb149))) (fun _ hk => hk.2) (.int .i64 ((rd_T78 t145 x33_3).f0.f0.f0))) (fun _ hk => hk.2) (.int .i64 ((rd_T78 t145 x33_3).f0.f0.f1))) (fun _ hk => hk.2) (.int .i64 ((rd_T78 t145 x33_3).f0.f1))) (fun _ hk => hk.2) (.slice A148_3 ((rd_T78 t145 x33_3).f1).length c148_3)) (fun _ h_ => h_.1))) hb); replace BK140 := sqLW (o' := .cells #[.int .i64 ((rd_T29 l0 x20_2).f0), .int .i64 ((rd_T29 l0 x20_2).f1.f0), .int .i64 ((rd_T29 l0 x20_2).f1.f1), .int .i64 ((rd_T29 l0 x20_2).f2), .int .i64 ((rd_T29 l0 x20_2).f3.f0), .int .i64 ((rd_T29 l0 x20_2).f3.f1), .int .i64 ((rd_T29 l0 x20_2).f4.f0), .int .i64 ((rd_T29 l0 x20_2).f4.f1), .int .i64 ((rd_T29 l0 x20_2).f5), .int .i64 ((rd_T29 l0 x20_2).f6)] 29 (0, 0)) BK140 hb; replace HR148_3 := Aside0.mk (Kd.C_below ((Kd.V_reads' (by (with_reducible repeat (first | apply Kd.V_alloc | apply Kd.V_drewN | apply Kd.V_drew)); exact (Kd.V_mono (Kd.V_far (p := ⟨gb149, 3, none⟩) (Kd.V_far (p := ⟨gb149, 2, none⟩) (Kd.V_far (p := ⟨gb149, 1, none⟩) (Kd.V_far (p := ⟨gb149, 0, none⟩) (Kd.V_mono HL148_3.out (fun k_ hk => (⟨hk, hk.2⟩ : _ ∧ k_ ≠ gb149))) (fun _ hk => hk.2) (.int .i64 ((rd_T78 t145 x33_3).f0.f0.f0))) (fun _ hk => hk.2) (.int .i64 ((rd_T78 t145 x33_3).f0.f0.f1))) (fun _ hk => hk.2) (.int .i64 ((rd_T78 t145 x33_3).f0.f1))) (fun _ hk => hk.2) (.slice A148_3 ((rd_T78 t145 x33_3).f1).length c148_3)) (fun _ h_ => h_.1)))).2.2) hb); replace HL148_3 := Aside0.mk (Kd.V_below (by (with_reducible repeat (first | apply Kd.V_alloc | apply Kd.V_drewN | apply Kd.V_drew)); exact (Kd.V_mono (Kd.V_far (p := ⟨gb149, 3, none⟩) (Kd.V_far (p := ⟨gb149, 2, none⟩) (Kd.V_far (p := ⟨gb149, 1, none⟩) (Kd.V_far (p := ⟨gb149, 0, none⟩) (Kd.V_mono HL148_3.out (fun k_ hk => (⟨hk, hk.2⟩ : _ ∧ k_ ≠ gb149))) (fun _ hk => hk.2) (.int .i64 ((rd_T78 t145 x33_3).f0.f0.f0))) (fun _ hk => hk.2) (.int .i64 ((rd_T78 t145 x33_3).f0.f0.f1))) (fun _ hk => hk.2) (.int .i64 ((rd_T78 t145 x33_3).f0.f1))) (fun _ hk => hk.2) (.slice A148_3 ((rd_T78 t145 x33_3).f1).length c148_3)) (fun _ h_ => h_.1))) hb); replace BK149 := sqLW (o' := .cells #[.int .i64 ((rd_T78 t145 x33_3).f0.f0.f0), .int .i64 ((rd_T78 t145 x33_3).f0.f0.f1), .int .i64 ((rd_T78 t145 x33_3).f0.f1), .slice A148_3 ((rd_T78 t145 x33_3).f1).length c148_3] 78 (0, 0)) BK149 hb; replace HB := sqS hb; (try clear hb); (try clear hb2); (try clear hk); (try clear hi)))
                go_roundg k3
                case measure => have := HK1.out; have := HK2.out; have := HK3.out; omega
                case rel => exact ⟨(x3_3), (x4_3), (wrap64 (x33_3 + 1)), (by first | rfl | (simp; done) | (simp [*]; done)), H', ⟨by have := HK1.out; have := HK2.out; have := HK3.out; omega⟩, ⟨sqR HO_3⟩, ⟨by (with_reducible repeat (first | apply Kd.N_alloc | apply Kd.N_drewN | apply Kd.N_drew)); exact Kd.N_mono HO_4.out (fun _ hk => ⟨hk.1.1, ⟨hk.1.2.1, ⟨hk.1.2.2.1, hk.1.2.2.2⟩⟩⟩)⟩, ⟨by (with_reducible repeat (first | apply Kd.N_alloc | apply Kd.N_drewN | apply Kd.N_drew)); exact Kd.N_mono HO_31.out (fun _ hk => ⟨hk.1.1, ⟨hk.1.2.1, ⟨hk.1.2.2.1, hk.1.2.2.2⟩⟩⟩)⟩, ⟨sqK BK140⟩, ⟨sqB⟩⟩
               ·replace c28 := Bool.eq_false_iff.mpr c28
                subst c28
                rw [if_neg (show ¬ (false = true) by decide)] at H
                by_cases c34 : x3_3.length < 5864062014805
                ·rw [if_pos c34] at H
                 have LMc34 := Aside0.mk c34
                 clear c34
                 obtain ⟨y151, hy151⟩ : ∃ y_ : List (S36), y_ = (x3_3 ++ [(⟨(⟨(rd_T78 t145 x33_3).f0.f0.f0, (rd_T78 t145 x33_3).f0.f0.f1⟩ : S27), (rd_T78 t145 x33_3).f0.f1⟩ : S36)]) := ⟨_, rfl⟩
                 replace H : (if x4_3.length < 2513169434916 then (impl_findFacts.l2 k3 l0 y151 (x4_3 ++ [(⟨(⟨(⟨(rd_T78 t145 x33_3).f0.f0.f0, (rd_T78 t145 x33_3).f0.f0.f1⟩ : S27), (rd_T78 t145 x33_3).f0.f1⟩ : S36), x20_2, (rd_T78 t145 x33_3).f1⟩ : S72)]) (x3_1.length : Int) x20_2 l0 (l0.length : Int) x20_2 t145 (t145.length : Int) (wrap64 (x33_3 + 1))) else (none)) = some r := by first | (rw [hy151]; with_reducible exact H) | (have H2_ := (Option.bind_some _ _).symm.trans H; rw [hy151]; with_reducible exact H2_) | (have H2_ := (Option.bind_some _ _).symm.trans H; with_reducible exact H2_) | with_reducible exact H | (rw [hy151]; exact H) | exact H
                 have Ny151 := Aside0.mk hy151
                 clear hy151
                 by_cases c35 : x4_3.length < 2513169434916
                 ·rw [if_pos c35] at H
                  have LMc35 := Aside0.mk c35
                  clear c35
                  obtain ⟨y154, hy154⟩ : ∃ y_ : List (S72), y_ = (x4_3 ++ [(⟨(⟨(⟨(rd_T78 t145 x33_3).f0.f0.f0, (rd_T78 t145 x33_3).f0.f0.f1⟩ : S27), (rd_T78 t145 x33_3).f0.f1⟩ : S36), x20_2, (rd_T78 t145 x33_3).f1⟩ : S72)]) := ⟨_, rfl⟩
                  replace H : (impl_findFacts.l2 k3 l0 y151 y154 (x3_1.length : Int) x20_2 l0 (l0.length : Int) x20_2 t145 (t145.length : Int) (wrap64 (x33_3 + 1))) = some r := by first | (rw [hy154]; with_reducible exact H) | (have H2_ := (Option.bind_some _ _).symm.trans H; rw [hy154]; with_reducible exact H2_) | (have H2_ := (Option.bind_some _ _).symm.trans H; with_reducible exact H2_) | with_reducible exact H | (rw [hy154]; exact H) | exact H
                  have Ny154 := Aside0.mk hy154
                  clear hy154
                  have H' := Aside0.mk H
                  clear H
                  have p148 : 0 ≤ (x33_3 : Int) := sqD
                  have q148 : x33_3 < (t145.length : Int) := sqD
                  obtain ⟨ad148, A148_3, c148_3, e148, hx148_0, hx148_1, hx148_2, hx148_3, hl148_3, hi148_3⟩ := at_T78 (Kd.N_reads' HO_31.out).2.2 x33_3 p148 q148
                  cases e148
                  obtain ⟨ce148, hce148, hMe148, hcc148⟩ := Kd.N_get HO_31.out z78 x33_3 p148 (by first | exact q148 | exact sqD | (have e_ := (Kd.N_reads' HO_31.out).1; omega))
                  obtain ⟨ua148_3, uc148_3, rfl, ul148_3, ge148_3⟩ := k78_openF hMe148
                  have hv148_3 := hcc148 3 _ rfl
                  rw [add_field _ _ 3 (by omega)] at hv148_3
                  replace hv148_3 := Option.some.inj (hv148_3.symm.trans hx148_3)
                  injection hv148_3 with hva_ hvn_ hvc_
                  rw [hva_] at ge148_3
                  rw [hvc_] at ul148_3
                  have HL148_3 := Aside0.mk (show Kd.V (Kd.int .i64) 3 _ w.heap.size _ _ ((rd_T78 t145 x33_3).f1) from Kd.V_mk ul148_3 ge148_3)
                  clear hva_ hvn_ hvc_ ge148_3 ul148_3
                  clear hcc148 hce148
                  have HR148_3 := Aside0.mk hi148_3
                  have HC148_3 := Aside0.mk hl148_3
                  clear hi148_3 hl148_3
                  replace p148 := eq_true p148
                  replace q148 := eq_true q148
                  go_wp2_with (first | ((with_reducible refine gate_dst (N := 9) rfl ?_); refine sqX (N := 9) (cs := #[.int .i64 0, .int .i64 0, .int .i64 0, .slice none 0 0]) (t := 78) ?_; intro gb149 hg w36 hbox hb; replace HO_3 := Aside0.mk (Kd.R_below (sqR HO_3) hb); replace HO_4 := Aside0.mk (Kd.N_below (Kd.N_elderB (by (with_reducible repeat (first | apply Kd.N_alloc | apply Kd.N_drewN | apply Kd.N_drew)); exact HO_4.out) gb149 (Nat.le_of_eq hg.symm)) hb); replace HO_31 := Aside0.mk (Kd.N_below (Kd.N_elderB (by (with_reducible repeat (first | apply Kd.N_alloc | apply Kd.N_drewN | apply Kd.N_drew)); exact HO_31.out) gb149 (Nat.le_of_eq hg.symm)) hb); replace HL148_3 := Aside0.mk (Kd.V_below (Kd.V_elderB (by (with_reducible repeat (first | apply Kd.V_alloc | apply Kd.V_drewN | apply Kd.V_drew)); exact HL148_3.out) gb149 (Nat.le_of_eq hg.symm)) hb); replace HR148_3 := Aside0.mk (Kd.C_below (by repeat (first | (with_reducible exact HR148_3.out) | (with_reducible refine Kd.C_alloc ?_ _) | (with_reducible refine Kd.C_drewN ?_ _) | (with_reducible refine Kd.C_drew ?_) | exact HR148_3.out)) hb); have BK149 := Aside0.mk (hbox); have GW149 := sqG hg; have GE149 := sqG hg; have NB140_149 := sqN BK140 hg; have NB149_140 := sqM BK140 hg; replace BK140 := sqL BK140 hb; replace HB := sqS hb; clear hb hbox hg; have hnb37 := NB149_140.out; have hnc37 := NB140_149.out; obtain ⟨hcz38_0, hcz38_1, hcz38_2, hcz38_3, hfz38_0, hfz38_1, hfz38_2, hfz38_3⟩ := sqC4 BK149; obtain ⟨Ao39, co39, eo39⟩ := Kd.R_slice HO_3.out; subst eo39) | ((with_reducible refine gate_callee (f := 52) rfl ?_); refine goesL_ (some 40) rfl rfl Try.func52 (by kernel_rfl) rfl #[.slice Ao39 x3_3.length co39, .agg #[.int .i64 ((rd_T78 t145 x33_3).f0.f0.f0), .int .i64 ((rd_T78 t145 x33_3).f0.f0.f1), .int .i64 ((rd_T78 t145 x33_3).f0.f1)]] rfl sqA ?_; (with_reducible refine (impl_Fact_52.calls k3 _ _ x3_3 ((rd_T78 t145 x33_3).f0.f0.f0) ((rd_T78 t145 x33_3).f0.f0.f1) ((rd_T78 t145 x33_3).f0.f1) false _ ?side1 ?side2 A27.out).mono ?_); (case side1 => refine (Kd.R_reads' (e := 36) (base := w.heap.size) (ok := fun k_ => (w.heap.size ≤ k_)) (n := x3_3.length) (c := co39) ?_).2.2; exact (by (with_reducible repeat (first | apply Kd.R_alloc | apply Kd.R_drewN | apply Kd.R_drew)); exact (Kd.R_mono (Kd.R_far (p := ⟨gb149, 3, none⟩) (Kd.R_far (p := ⟨gb149, 2, none⟩) (Kd.R_far (p := ⟨gb149, 1, none⟩) (Kd.R_far (p := ⟨gb149, 0, none⟩) (Kd.R_types HO_3.out BK149.out (by decide)) (fun _ hk => hk.2) (.int .i64 ((rd_T78 t145 x33_3).f0.f0.f0))) (fun _ hk => hk.2) (.int .i64 ((rd_T78 t145 x33_3).f0.f0.f1))) (fun _ hk => hk.2) (.int .i64 ((rd_T78 t145 x33_3).f0.f1))) (fun _ hk => hk.2) (.slice A148_3 ((rd_T78 t145 x33_3).f1).length c148_3)) (fun _ h_ => h_.1)))); (case side2 => exact (Kd.R_reads' HO_3.out).2.1); rintro e w40 ⟨rfl, hb⟩; refine ⟨_, rfl, ?_⟩; replace HO_3 := Aside0.mk (Kd.R_below (by (with_reducible repeat (first | apply Kd.R_alloc | apply Kd.R_drewN | apply Kd.R_drew)); exact (Kd.R_mono (Kd.R_far (p := ⟨gb149, 3, none⟩) (Kd.R_far (p := ⟨gb149, 2, none⟩) (Kd.R_far (p := ⟨gb149, 1, none⟩) (Kd.R_far (p := ⟨gb149, 0, none⟩) (Kd.R_types HO_3.out BK149.out (by decide)) (fun _ hk => hk.2) (.int .i64 ((rd_T78 t145 x33_3).f0.f0.f0))) (fun _ hk => hk.2) (.int .i64 ((rd_T78 t145 x33_3).f0.f0.f1))) (fun _ hk => hk.2) (.int .i64 ((rd_T78 t145 x33_3).f0.f1))) (fun _ hk => hk.2) (.slice A148_3 ((rd_T78 t145 x33_3).f1).length c148_3)) (fun _ h_ => h_.1))) hb); replace HO_4 := Aside0.mk (Kd.N_below (by (with_reducible repeat (first | apply Kd.N_alloc | apply Kd.N_drewN | apply Kd.N_drew)); exact (Kd.N_mono (Kd.N_far (p := ⟨gb149, 3, none⟩) (Kd.N_far (p := ⟨gb149, 2, none⟩) (Kd.N_far (p := ⟨gb149, 1, none⟩) (Kd.N_far (p := ⟨gb149, 0, none⟩) (Kd.N_mono HO_4.out (fun k_ hk => (⟨hk, hk.2⟩ : _ ∧ k_ ≠ gb149))) (fun _ hk => hk.2) (.int .i64 ((rd_T78 t145 x33_3).f0.f0.f0))) (fun _ hk => hk.2) (.int .i64 ((rd_T78 t145 x33_3).f0.f0.f1))) (fun _ hk => hk.2) (.int .i64 ((rd_T78 t145 x33_3).f0.f1))) (fun _ hk => hk.2) (.slice A148_3 ((rd_T78 t145 x33_3).f1).length c148_3)) (fun _ h_ => h_.1))) hb); replace HO_31 := Aside0.mk (Kd.N_below (by (with_reducible repeat (first | apply Kd.N_alloc | apply Kd.N_drewN | apply Kd.N_drew)); exact (Kd.N_mono (Kd.N_far (p := ⟨gb149, 3, none⟩) (Kd.N_far (p := ⟨gb149, 2, none⟩) (Kd.N_far (p := ⟨gb149, 1, none⟩) (Kd.N_far (p := ⟨gb149, 0, none⟩) (Kd.N_mono HO_31.out (fun k_ hk => (⟨hk, hk.2⟩ : _ ∧ k_ ≠ gb149))) (fun _ hk => hk.2) (.int .i64 ((rd_T78 t145 x33_3).f0.f0.f0))) (fun _ hk => hk.2) (.int .i64 ((rd_T78 t145 x33_3).f0.f0.f1))) (fun _ hk => hk.2) (.int .i64 ((rd_T78 t145 x33_3).f0.f1))) (fun _ hk => hk.2) (.slice A148_3 ((rd_T78 t145 x33_3).f1).length c148_3)) (fun _ h_ => h_.1))) hb); replace BK140 := sqLW (o' := .cells #[.int .i64 ((rd_T29 l0 x20_2).f0), .int .i64 ((rd_T29 l0 x20_2).f1.f0), .int .i64 ((rd_T29 l0 x20_2).f1.f1), .int .i64 ((rd_T29 l0 x20_2).f2), .int .i64 ((rd_T29 l0 x20_2).f3.f0), .int .i64 ((rd_T29 l0 x20_2).f3.f1), .int .i64 ((rd_T29 l0 x20_2).f4.f0), .int .i64 ((rd_T29 l0 x20_2).f4.f1), .int .i64 ((rd_T29 l0 x20_2).f5), .int .i64 ((rd_T29 l0 x20_2).f6)] 29 (0, 0)) BK140 hb; replace HR148_3 := Aside0.mk (Kd.C_below ((Kd.V_reads' (by (with_reducible repeat (first | apply Kd.V_alloc | apply Kd.V_drewN | apply Kd.V_drew)); exact (Kd.V_mono (Kd.V_far (p := ⟨gb149, 3, none⟩) (Kd.V_far (p := ⟨gb149, 2, none⟩) (Kd.V_far (p := ⟨gb149, 1, none⟩) (Kd.V_far (p := ⟨gb149, 0, none⟩) (Kd.V_mono HL148_3.out (fun k_ hk => (⟨hk, hk.2⟩ : _ ∧ k_ ≠ gb149))) (fun _ hk => hk.2) (.int .i64 ((rd_T78 t145 x33_3).f0.f0.f0))) (fun _ hk => hk.2) (.int .i64 ((rd_T78 t145 x33_3).f0.f0.f1))) (fun _ hk => hk.2) (.int .i64 ((rd_T78 t145 x33_3).f0.f1))) (fun _ hk => hk.2) (.slice A148_3 ((rd_T78 t145 x33_3).f1).length c148_3)) (fun _ h_ => h_.1)))).2.2) hb); replace HL148_3 := Aside0.mk (Kd.V_below (by (with_reducible repeat (first | apply Kd.V_alloc | apply Kd.V_drewN | apply Kd.V_drew)); exact (Kd.V_mono (Kd.V_far (p := ⟨gb149, 3, none⟩) (Kd.V_far (p := ⟨gb149, 2, none⟩) (Kd.V_far (p := ⟨gb149, 1, none⟩) (Kd.V_far (p := ⟨gb149, 0, none⟩) (Kd.V_mono HL148_3.out (fun k_ hk => (⟨hk, hk.2⟩ : _ ∧ k_ ≠ gb149))) (fun _ hk => hk.2) (.int .i64 ((rd_T78 t145 x33_3).f0.f0.f0))) (fun _ hk => hk.2) (.int .i64 ((rd_T78 t145 x33_3).f0.f0.f1))) (fun _ hk => hk.2) (.int .i64 ((rd_T78 t145 x33_3).f0.f1))) (fun _ hk => hk.2) (.slice A148_3 ((rd_T78 t145 x33_3).f1).length c148_3)) (fun _ h_ => h_.1))) hb); replace BK149 := sqLW (o' := .cells #[.int .i64 ((rd_T78 t145 x33_3).f0.f0.f0), .int .i64 ((rd_T78 t145 x33_3).f0.f0.f1), .int .i64 ((rd_T78 t145 x33_3).f0.f1), .slice A148_3 ((rd_T78 t145 x33_3).f1).length c148_3] 78 (0, 0)) BK149 hb; replace HB := sqS hb; (try clear hb); (try clear hb2); (try clear hk); (try clear hi); obtain ⟨hcz41_0, hcz41_1, hcz41_2, hcz41_3, hfz41_0, hfz41_1, hfz41_2, hfz41_3⟩ := sqC4 BK149) | ((with_reducible refine gate_builtin (b := .append) (xs := #[.tmp 42, .tmp 45]) rfl ?_); at_builtin; refine Kd.R_append k36 (w0 := w) w.heap.size rfl (.tmp 42) (.tmp 45) 31 36 (.agg #[(.int .i64 0), (.int .i64 0), (.int .i64 0)]) 24 rfl Try.underlying31 info36 rfl (by decide) (by omega) (.slice Ao39 x3_3.length co39) x3_3 (⟨(⟨(rd_T78 t145 x33_3).f0.f0.f0, (rd_T78 t145 x33_3).f0.f0.f1⟩ : S27), (rd_T78 t145 x33_3).f0.f1⟩ : S36) [.int .i64 ((rd_T78 t145 x33_3).f0.f0.f0), .int .i64 ((rd_T78 t145 x33_3).f0.f0.f1), .int .i64 ((rd_T78 t145 x33_3).f0.f1)] (fun k_ => (w.heap.size ≤ k_)) (fun _ => False) rfl rfl ?aP (fun _ hk => hk.elim) ?aF ?aO ?aB ?aS ?aL ?_; (case aP => exact k36_mkM _ _ _ (⟨(⟨(rd_T78 t145 x33_3).f0.f0.f0, (rd_T78 t145 x33_3).f0.f0.f1⟩ : S27), (rd_T78 t145 x33_3).f0.f1⟩ : S36)); (case aB => exact (sqB)); (case aF => exact (fun k_ hk => (Nat.le_trans (below_size (sqB)) hk))); (case aO => exact (sqR HO_3)); (case aS => exact (below_size (sqB))); (case aL => have := LMc34.out; omega); intro v152 w42 ho hb hg hat; rw [← Ny151.out] at ho; have n0_ := Aside0.mk (Kd.N_afterv (ok := (fun k_ => (w.heap.size ≤ k_) ∧ some k_ ≠ (.slice (some ad148) t145.length co23 : Value).ownBlock ∧ k_ ≠ gb140 ∧ k_ ≠ gb149)) (by (with_reducible repeat (first | apply Kd.N_alloc | apply Kd.N_drewN | apply Kd.N_drew)); exact Kd.N_mono HO_4.out (fun _ hk => ⟨⟨hk.1.1, ⟨hk.1.2.2.1, ⟨hk.1.2.2.2, hk.2⟩⟩⟩, hk.1.2.1⟩)) hg hat); have n1_ := Aside0.mk (Kd.N_afterv (ok := (fun k_ => (w.heap.size ≤ k_) ∧ some k_ ≠ (u4 : Value).ownBlock ∧ k_ ≠ gb140 ∧ k_ ≠ gb149)) (by (with_reducible repeat (first | apply Kd.N_alloc | apply Kd.N_drewN | apply Kd.N_drew)); exact Kd.N_mono HO_31.out (fun _ hk => ⟨⟨hk.1.1, ⟨hk.1.2.2.1, ⟨hk.1.2.2.2, hk.2⟩⟩⟩, hk.1.2.1⟩)) hg hat); have n2_ := Aside0.mk (blk_grown (g := gb140) (o := .cells #[.int .i64 ((rd_T29 l0 x20_2).f0), .int .i64 ((rd_T29 l0 x20_2).f1.f0), .int .i64 ((rd_T29 l0 x20_2).f1.f1), .int .i64 ((rd_T29 l0 x20_2).f2), .int .i64 ((rd_T29 l0 x20_2).f3.f0), .int .i64 ((rd_T29 l0 x20_2).f3.f1), .int .i64 ((rd_T29 l0 x20_2).f4.f0), .int .i64 ((rd_T29 l0 x20_2).f4.f1), .int .i64 ((rd_T29 l0 x20_2).f5), .int .i64 ((rd_T29 l0 x20_2).f6)] 29 (0, 0)) (sqK BK140) hg (Kd.R_ne HO_3.out BK140.out (by decide))); have n3_ := Aside0.mk (Kd.V_afterv (ok := (fun k_ => (w.heap.size ≤ k_) ∧ some k_ ≠ (u4 : Value).ownBlock ∧ some k_ ≠ (.slice (some ad148) t145.length co23 : Value).ownBlock ∧ k_ ≠ gb140 ∧ k_ ≠ gb149)) (by (with_reducible repeat (first | apply Kd.V_alloc | apply Kd.V_drewN | apply Kd.V_drew)); exact Kd.V_mono HL148_3.out (fun _ hk => ⟨⟨hk.1.1.1, ⟨hk.1.1.2.2.1, ⟨hk.1.2, ⟨hk.1.1.2.2.2, hk.2⟩⟩⟩⟩, hk.1.1.2.1⟩)) hg hat); have n4_ := Aside0.mk (blk_grown (g := gb149) (o := .cells #[.int .i64 ((rd_T78 t145 x33_3).f0.f0.f0), .int .i64 ((rd_T78 t145 x33_3).f0.f0.f1), .int .i64 ((rd_T78 t145 x33_3).f0.f1), .slice A148_3 ((rd_T78 t145 x33_3).f1).length c148_3] 78 (0, 0)) (sqK BK149) hg (Kd.R_ne HO_3.out BK149.out (by decide))); have n5_ := Aside0.mk (hb); have n6_ := Aside0.mk (ho); clear HO_4; clear HO_31; clear BK140; clear HL148_3; clear BK149; clear HB; clear HO_3; have HO_4 := n0_; have HO_31 := n1_; have BK140 := n2_; have HL148_3 := n3_; have BK149 := n4_; have HB := n5_; have HO153 := n6_; clear n0_ n1_ n2_ n3_ n4_ n5_ n6_; clear ho hb hg hat; obtain ⟨hcz43_0, hcz43_1, hcz43_2, hcz43_3, hfz43_0, hfz43_1, hfz43_2, hfz43_3⟩ := sqC4 BK149) | ((with_reducible refine gate_builtin (b := .append) (xs := #[.tmp 47, .tmp 54]) rfl ?_); at_builtin; refine Kd.N_append k72 (w0 := w) w.heap.size rfl (.tmp 47) (.tmp 54) 69 72 (.agg #[(.int .i64 0), (.int .i64 0), (.int .i64 0), (.int .i64 0), (.slice none 0 0)]) 56 rfl Try.underlying69 info72 rfl (by decide) (by omega) u4 x4_3 (⟨(⟨(⟨(rd_T78 t145 x33_3).f0.f0.f0, (rd_T78 t145 x33_3).f0.f0.f1⟩ : S27), (rd_T78 t145 x33_3).f0.f1⟩ : S36), x20_2, (rd_T78 t145 x33_3).f1⟩ : S72) [.int .i64 ((rd_T78 t145 x33_3).f0.f0.f0), .int .i64 ((rd_T78 t145 x33_3).f0.f0.f1), .int .i64 ((rd_T78 t145 x33_3).f0.f1), .int .i64 x20_2, .slice A148_3 ((rd_T78 t145 x33_3).f1).length c148_3] (fun k_ => (w.heap.size ≤ k_) ∧ some k_ ≠ (.slice (some ad148) t145.length co23 : Value).ownBlock ∧ some k_ ≠ (v152 : Value).ownBlock ∧ k_ ≠ gb140 ∧ k_ ≠ gb149) (fun k_ => ((fun k_ => (w.heap.size ≤ k_) ∧ some k_ ≠ (.slice (some ad148) t145.length co23 : Value).ownBlock ∧ some k_ ≠ (v152 : Value).ownBlock ∧ k_ ≠ gb140 ∧ k_ ≠ gb149)) k_ ∧ some k_ ≠ (u4 : Value).ownBlock) rfl rfl ?aP (fun _ hk => hk) ?aF ?aO ?aB ?aS ?aL ?_; (case aP => exact (k72_mkF _ _ (⟨(⟨(⟨(rd_T78 t145 x33_3).f0.f0.f0, (rd_T78 t145 x33_3).f0.f0.f1⟩ : S27), (rd_T78 t145 x33_3).f0.f1⟩ : S36), x20_2, (rd_T78 t145 x33_3).f1⟩ : S72) (Kd.V_reads' (Kd.V_mono (ok' := (fun k_ => ((fun k_ => (w.heap.size ≤ k_) ∧ some k_ ≠ (.slice (some ad148) t145.length co23 : Value).ownBlock ∧ some k_ ≠ (v152 : Value).ownBlock ∧ k_ ≠ gb140 ∧ k_ ≠ gb149)) k_ ∧ some k_ ≠ (u4 : Value).ownBlock)) (HL148_3.out) (fun k_ hk => ⟨⟨hk.1.1, ⟨hk.1.2.2.1, ⟨hk.2, ⟨hk.1.2.2.2.1, hk.1.2.2.2.2⟩⟩⟩⟩, hk.1.2.1⟩))).2.1 (Kd.V_F (Kd.V_mono (ok' := (fun k_ => ((fun k_ => (w.heap.size ≤ k_) ∧ some k_ ≠ (.slice (some ad148) t145.length co23 : Value).ownBlock ∧ some k_ ≠ (v152 : Value).ownBlock ∧ k_ ≠ gb140 ∧ k_ ≠ gb149)) k_ ∧ some k_ ≠ (u4 : Value).ownBlock)) (HL148_3.out) (fun k_ hk => ⟨⟨hk.1.1, ⟨hk.1.2.2.1, ⟨hk.2, ⟨hk.1.2.2.2.1, hk.1.2.2.2.2⟩⟩⟩⟩, hk.1.2.1⟩))))); (case aB => exact (sqB)); (case aF => exact (fun k_ hk => ⟨(Nat.le_trans (below_size (sqB)) hk), Kd.fresh' (Kd.N_lt (by (with_reducible repeat (first | apply Kd.N_alloc | apply Kd.N_drewN | apply Kd.N_drew)); exact HO_31.out)) k_ hk, Kd.fresh' (Kd.R_lt (sqR HO153)) k_ hk, Kd.freshB (g := gb140) (o := .cells #[.int .i64 ((rd_T29 l0 x20_2).f0), .int .i64 ((rd_T29 l0 x20_2).f1.f0), .int .i64 ((rd_T29 l0 x20_2).f1.f1), .int .i64 ((rd_T29 l0 x20_2).f2), .int .i64 ((rd_T29 l0 x20_2).f3.f0), .int .i64 ((rd_T29 l0 x20_2).f3.f1), .int .i64 ((rd_T29 l0 x20_2).f4.f0), .int .i64 ((rd_T29 l0 x20_2).f4.f1), .int .i64 ((rd_T29 l0 x20_2).f5), .int .i64 ((rd_T29 l0 x20_2).f6)] 29 (0, 0)) (sqK BK140) k_ hk, Kd.freshB (g := gb149) (o := .cells #[.int .i64 ((rd_T78 t145 x33_3).f0.f0.f0), .int .i64 ((rd_T78 t145 x33_3).f0.f0.f1), .int .i64 ((rd_T78 t145 x33_3).f0.f1), .slice A148_3 ((rd_T78 t145 x33_3).f1).length c148_3] 78 (0, 0)) (sqK BK149) k_ hk⟩)); (case aO => exact (by (with_reducible repeat (first | apply Kd.N_alloc | apply Kd.N_drewN | apply Kd.N_drew)); exact Kd.N_mono HO_4.out (fun _ hk => ⟨hk.1.1, ⟨hk.1.2.1, ⟨hk.2, ⟨hk.1.2.2.1, hk.1.2.2.2⟩⟩⟩⟩))); (case aS => exact (below_size (sqB))); (case aL => have := LMc35.out; omega); intro v155 w44 ho hb hg hat; rw [← Ny154.out] at ho; have n0_ := Aside0.mk (Kd.N_afterv (ok := (fun k_ => (w.heap.size ≤ k_) ∧ some k_ ≠ (v152 : Value).ownBlock ∧ k_ ≠ gb140 ∧ k_ ≠ gb149)) (by (with_reducible repeat (first | apply Kd.N_alloc | apply Kd.N_drewN | apply Kd.N_drew)); exact Kd.N_mono HO_31.out (fun _ hk => ⟨⟨hk.1.1, ⟨hk.2, ⟨hk.1.2.2.1, hk.1.2.2.2⟩⟩⟩, hk.1.2.1⟩)) hg hat); have n1_ := Aside0.mk (blk_grown (g := gb140) (o := .cells #[.int .i64 ((rd_T29 l0 x20_2).f0), .int .i64 ((rd_T29 l0 x20_2).f1.f0), .int .i64 ((rd_T29 l0 x20_2).f1.f1), .int .i64 ((rd_T29 l0 x20_2).f2), .int .i64 ((rd_T29 l0 x20_2).f3.f0), .int .i64 ((rd_T29 l0 x20_2).f3.f1), .int .i64 ((rd_T29 l0 x20_2).f4.f0), .int .i64 ((rd_T29 l0 x20_2).f4.f1), .int .i64 ((rd_T29 l0 x20_2).f5), .int .i64 ((rd_T29 l0 x20_2).f6)] 29 (0, 0)) (sqK BK140) hg (Kd.N_ne HO_4.out BK140.out (by decide))); have n2_ := Aside0.mk (Kd.V_afterv (ok := (fun k_ => (w.heap.size ≤ k_) ∧ some k_ ≠ (.slice (some ad148) t145.length co23 : Value).ownBlock ∧ some k_ ≠ (v152 : Value).ownBlock ∧ k_ ≠ gb140 ∧ k_ ≠ gb149)) (by (with_reducible repeat (first | apply Kd.V_alloc | apply Kd.V_drewN | apply Kd.V_drew)); exact Kd.V_mono HL148_3.out (fun _ hk => ⟨⟨hk.1.1, ⟨hk.1.2.2.1, ⟨hk.2, ⟨hk.1.2.2.2.1, hk.1.2.2.2.2⟩⟩⟩⟩, hk.1.2.1⟩)) hg hat); have n3_ := Aside0.mk (blk_grown (g := gb149) (o := .cells #[.int .i64 ((rd_T78 t145 x33_3).f0.f0.f0), .int .i64 ((rd_T78 t145 x33_3).f0.f0.f1), .int .i64 ((rd_T78 t145 x33_3).f0.f1), .slice A148_3 ((rd_T78 t145 x33_3).f1).length c148_3] 78 (0, 0)) (sqK BK149) hg (Kd.N_ne HO_4.out BK149.out (by decide))); have n4_ := Aside0.mk (Kd.R_over' (sqR HO153) (Kd.N_typed (by (with_reducible repeat (first | apply Kd.N_alloc | apply Kd.N_drewN | apply Kd.N_drew)); exact HO_4.out)) (by decide) hg); have n5_ := Aside0.mk (hb); have n6_ := Aside0.mk (ho); clear HO_31; clear BK140; clear HL148_3; clear BK149; clear HO153; clear HB; clear HO_4; have HO_31 := n0_; have BK140 := n1_; have HL148_3 := n2_; have BK149 := n3_; have HO153 := n4_; have HB := n5_; have HO156 := n6_; clear n0_ n1_ n2_ n3_ n4_ n5_ n6_; clear ho hb hg hat))
                  go_roundg k3
                  case measure => have := HK1.out; have := HK2.out; have := HK3.out; omega
                  case rel => exact ⟨(y151), (y154), (wrap64 (x33_3 + 1)), (by first | rfl | (simp; done) | (simp [*]; done)), H', ⟨by have := HK1.out; have := HK2.out; have := HK3.out; omega⟩, ⟨sqR HO153⟩, ⟨by (with_reducible repeat (first | apply Kd.N_alloc | apply Kd.N_drewN | apply Kd.N_drew)); exact Kd.N_mono HO156.out (fun _ hk => ⟨hk.1, ⟨hk.2.2.1, ⟨hk.2.1, hk.2.2.2.1⟩⟩⟩)⟩, ⟨by (with_reducible repeat (first | apply Kd.N_alloc | apply Kd.N_drewN | apply Kd.N_drew)); exact Kd.N_mono HO_31.out (fun _ hk => ⟨hk.1.1, ⟨hk.1.2.1, ⟨hk.2, hk.1.2.2.1⟩⟩⟩)⟩, ⟨sqK BK140⟩, ⟨sqB⟩⟩
                 ·rw [if_neg c35] at H
                  exact absurd H (by simp)
                ·rw [if_neg c34] at H
                 exact absurd H (by simp)
              ·rw [if_neg c26] at H
               exact absurd H (by simp)
             ·rw [if_neg c25] at H
              exact absurd H (by simp)
            ·rw [if_neg c24] at H
             have c24b0 : decide (x33_3 < (t145.length : Int)) = false := decide_eq_false c24
             clear c24
             have H' := Aside0.mk H
             clear H
             go_wp2
             go_roundg k3
             case measure => have := HK1.out; have := HK2.out; have := HK3.out; omega
             case rel => exact ⟨(x3_3), (x4_3), (wrap64 (x20_2 + 1)), (by first | rfl | (simp; done) | (simp [*]; done)), H', ⟨by have := HK1.out; have := HK2.out; have := HK3.out; omega⟩, ⟨sqR HO_3⟩, ⟨by (with_reducible repeat (first | apply Kd.N_alloc | apply Kd.N_drewN | apply Kd.N_drew)); exact Kd.N_mono HO_4.out (fun _ hk => ⟨hk.1, hk.2.1⟩)⟩, ⟨sqB⟩⟩
         ·replace c12 := Bool.eq_false_iff.mpr c12
          subst c12
          rw [if_neg (show ¬ (false = true) by decide)] at H
          have H' := Aside0.mk H
          clear H
          have p139 : 0 ≤ (x20_2 : Int) := sqD
          have q139 : x20_2 < (l0.length : Int) := sqD
          obtain ⟨ad139, e139, hx139_0, hx139_1, hx139_2, hx139_3, hx139_4, hx139_5, hx139_6, hx139_7, hx139_8, hx139_9⟩ := at_T29 HR0.out x20_2 p139 q139
          cases e139
          replace hx139_0 := sqH HB hx139_0
          replace hx139_1 := sqH HB hx139_1
          replace hx139_2 := sqH HB hx139_2
          replace hx139_3 := sqH HB hx139_3
          replace hx139_4 := sqH HB hx139_4
          replace hx139_5 := sqH HB hx139_5
          replace hx139_6 := sqH HB hx139_6
          replace hx139_7 := sqH HB hx139_7
          replace hx139_8 := sqH HB hx139_8
          replace hx139_9 := sqH HB hx139_9
          replace p139 := eq_true p139
          replace q139 := eq_true q139
          go_wp2_with (first | ((with_reducible refine gate_dst (N := 7) rfl ?_); refine sqX (N := 7) (cs := #[.int .i64 0, .int .i64 0, .int .i64 0, .int .i64 0, .int .i64 0, .int .i64 0, .int .i64 0, .int .i64 0, .int .i64 0, .int .i64 0]) (t := 29) ?_; intro gb140 hg w45 hbox hb; replace HO_3 := Aside0.mk (Kd.R_below (sqR HO_3) hb); replace HO_4 := Aside0.mk (Kd.N_below (Kd.N_elderB (by (with_reducible repeat (first | apply Kd.N_alloc | apply Kd.N_drewN | apply Kd.N_drew)); exact HO_4.out) gb140 (Nat.le_of_eq hg.symm)) hb); have BK140 := Aside0.mk (hbox); have GW140 := sqG hg; have GE140 := sqG hg; replace HB := sqS hb; clear hb hbox hg; obtain ⟨hcz46_0, hcz46_1, hcz46_2, hcz46_3, hcz46_4, hcz46_5, hcz46_6, hcz46_7, hcz46_8, hcz46_9, hfz46_0, hfz46_1, hfz46_2, hfz46_3, hfz46_4, hfz46_5, hfz46_6, hfz46_7, hfz46_8, hfz46_9⟩ := sqC10 BK140) | ((with_reducible refine gate_callee (f := 50) rfl ?_); refine goesL_ (some 26) rfl rfl Try.func50 (by kernel_rfl) rfl #[.agg #[.int .i64 ((rd_T29 l0 x20_2).f0), .int .i64 ((rd_T29 l0 x20_2).f1.f0), .int .i64 ((rd_T29 l0 x20_2).f1.f1), .int .i64 ((rd_T29 l0 x20_2).f2), .int .i64 ((rd_T29 l0 x20_2).f3.f0), .int .i64 ((rd_T29 l0 x20_2).f3.f1), .int .i64 ((rd_T29 l0 x20_2).f4.f0), .int .i64 ((rd_T29 l0 x20_2).f4.f1), .int .i64 ((rd_T29 l0 x20_2).f5), .int .i64 ((rd_T29 l0 x20_2).f6)]] rfl sqA ?_; (with_reducible refine (impl_CredOk.calls k2 ((rd_T29 l0 x20_2).f0) ((rd_T29 l0 x20_2).f1.f0) ((rd_T29 l0 x20_2).f1.f1) ((rd_T29 l0 x20_2).f2) ((rd_T29 l0 x20_2).f3.f0) ((rd_T29 l0 x20_2).f3.f1) ((rd_T29 l0 x20_2).f4.f0) ((rd_T29 l0 x20_2).f4.f1) ((rd_T29 l0 x20_2).f5) ((rd_T29 l0 x20_2).f6) false _ A11.out).mono ?_); rintro e w47 ⟨rfl, hb⟩; refine ⟨_, rfl, ?_⟩; replace HO_3 := Aside0.mk (Kd.R_below (by (with_reducible repeat (first | apply Kd.R_alloc | apply Kd.R_drewN | apply Kd.R_drew)); exact (Kd.R_mono (Kd.R_far (p := ⟨gb140, 9, none⟩) (Kd.R_far (p := ⟨gb140, 8, none⟩) (Kd.R_far (p := ⟨gb140, 7, none⟩) (Kd.R_far (p := ⟨gb140, 6, none⟩) (Kd.R_far (p := ⟨gb140, 5, none⟩) (Kd.R_far (p := ⟨gb140, 4, none⟩) (Kd.R_far (p := ⟨gb140, 3, none⟩) (Kd.R_far (p := ⟨gb140, 2, none⟩) (Kd.R_far (p := ⟨gb140, 1, none⟩) (Kd.R_far (p := ⟨gb140, 0, none⟩) (Kd.R_types HO_3.out BK140.out (by decide)) (fun _ hk => hk.2) (.int .i64 ((rd_T29 l0 x20_2).f0))) (fun _ hk => hk.2) (.int .i64 ((rd_T29 l0 x20_2).f1.f0))) (fun _ hk => hk.2) (.int .i64 ((rd_T29 l0 x20_2).f1.f1))) (fun _ hk => hk.2) (.int .i64 ((rd_T29 l0 x20_2).f2))) (fun _ hk => hk.2) (.int .i64 ((rd_T29 l0 x20_2).f3.f0))) (fun _ hk => hk.2) (.int .i64 ((rd_T29 l0 x20_2).f3.f1))) (fun _ hk => hk.2) (.int .i64 ((rd_T29 l0 x20_2).f4.f0))) (fun _ hk => hk.2) (.int .i64 ((rd_T29 l0 x20_2).f4.f1))) (fun _ hk => hk.2) (.int .i64 ((rd_T29 l0 x20_2).f5))) (fun _ hk => hk.2) (.int .i64 ((rd_T29 l0 x20_2).f6))) (fun _ h_ => h_.1))) hb); replace HO_4 := Aside0.mk (Kd.N_below (by (with_reducible repeat (first | apply Kd.N_alloc | apply Kd.N_drewN | apply Kd.N_drew)); exact (Kd.N_mono (Kd.N_far (p := ⟨gb140, 9, none⟩) (Kd.N_far (p := ⟨gb140, 8, none⟩) (Kd.N_far (p := ⟨gb140, 7, none⟩) (Kd.N_far (p := ⟨gb140, 6, none⟩) (Kd.N_far (p := ⟨gb140, 5, none⟩) (Kd.N_far (p := ⟨gb140, 4, none⟩) (Kd.N_far (p := ⟨gb140, 3, none⟩) (Kd.N_far (p := ⟨gb140, 2, none⟩) (Kd.N_far (p := ⟨gb140, 1, none⟩) (Kd.N_far (p := ⟨gb140, 0, none⟩) (Kd.N_mono HO_4.out (fun k_ hk => (⟨hk, hk.2⟩ : _ ∧ k_ ≠ gb140))) (fun _ hk => hk.2) (.int .i64 ((rd_T29 l0 x20_2).f0))) (fun _ hk => hk.2) (.int .i64 ((rd_T29 l0 x20_2).f1.f0))) (fun _ hk => hk.2) (.int .i64 ((rd_T29 l0 x20_2).f1.f1))) (fun _ hk => hk.2) (.int .i64 ((rd_T29 l0 x20_2).f2))) (fun _ hk => hk.2) (.int .i64 ((rd_T29 l0 x20_2).f3.f0))) (fun _ hk => hk.2) (.int .i64 ((rd_T29 l0 x20_2).f3.f1))) (fun _ hk => hk.2) (.int .i64 ((rd_T29 l0 x20_2).f4.f0))) (fun _ hk => hk.2) (.int .i64 ((rd_T29 l0 x20_2).f4.f1))) (fun _ hk => hk.2) (.int .i64 ((rd_T29 l0 x20_2).f5))) (fun _ hk => hk.2) (.int .i64 ((rd_T29 l0 x20_2).f6))) (fun _ h_ => h_.1))) hb); replace BK140 := sqLW (o' := .cells #[.int .i64 ((rd_T29 l0 x20_2).f0), .int .i64 ((rd_T29 l0 x20_2).f1.f0), .int .i64 ((rd_T29 l0 x20_2).f1.f1), .int .i64 ((rd_T29 l0 x20_2).f2), .int .i64 ((rd_T29 l0 x20_2).f3.f0), .int .i64 ((rd_T29 l0 x20_2).f3.f1), .int .i64 ((rd_T29 l0 x20_2).f4.f0), .int .i64 ((rd_T29 l0 x20_2).f4.f1), .int .i64 ((rd_T29 l0 x20_2).f5), .int .i64 ((rd_T29 l0 x20_2).f6)] 29 (0, 0)) BK140 hb; replace HB := sqS hb; (try clear hb); (try clear hb2); (try clear hk); (try clear hi)))
          go_roundg k2
          case measure => have := HK1.out; have := HK2.out; omega
          case rel => exact ⟨(x3_2), (x4_2), (wrap64 (x20_2 + 1)), (by first | rfl | (simp; done) | (simp [*]; done)), H', ⟨by have := HK1.out; have := HK2.out; omega⟩, ⟨sqR HO_3⟩, ⟨by (with_reducible repeat (first | apply Kd.N_alloc | apply Kd.N_drewN | apply Kd.N_drew)); exact Kd.N_mono HO_4.out (fun _ hk => ⟨hk.1.1, hk.1.2⟩)⟩, ⟨sqB⟩⟩
        ·rw [if_neg c10] at H
         exact absurd H (by simp)
       ·rw [if_neg c9] at H
        exact absurd H (by simp)
      ·rw [if_neg c8] at H
       have c8b0 : decide (x20_2 < (l0.length : Int)) = false := decide_eq_false c8
       clear c8
       have H' := Aside0.mk H
       clear H
       go_wp2
       go_roundg k2
       case measure => have := HK1.out; have := HK2.out; omega
       case rel => exact ⟨(x3_2), (x4_2), ((x3_1.length : Int)), (by first | rfl | (simp; done) | (simp [*]; done)), H', ⟨by have := HK1.out; have := HK2.out; omega⟩, ⟨sqR HO_3⟩, ⟨by (with_reducible repeat (first | apply Kd.N_alloc | apply Kd.N_drewN | apply Kd.N_drew)); exact HO_4.out⟩, ⟨sqB⟩⟩
   ·rw [if_neg c6] at H
    have c6b0 : decide (x5_1 < (x3_1.length : Int)) = false := decide_eq_false c6
    clear c6
    obtain rfl := Option.some.inj H
    obtain ⟨Ao48, co48, eo48⟩ := Kd.R_slice HO_3.out
    subst eo48
    go_wp2
    go_ret
    exact ⟨_, sqE, by (with_reducible repeat (first | apply Kd.N_alloc | apply Kd.N_drewN | apply Kd.N_drew)); exact Kd.N_mono HO_4.out (fun _ hk => hk.1), sqB⟩

end Go.Proofs.Ytnebbjcgkoaloaa.PFnMembersTold
