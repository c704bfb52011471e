/- What the code that one law of the given program reaches computes, function by function, each with its proof over the given translation.
Conditions: none of our own. (Laid by a program of this session, wip/xp/xp.py; some contracts are typed by hand.) -/
import Derived.Test.YtnebbjcgkoaloaaPFnMembersToldx0
import Derived.Test.YtnebbjcgkoaloaaPFnMembersToldx1
namespace Go.Proofs.Ytnebbjcgkoaloaa.PFnMembersTold
open Go.RowKit Go.Proofs.YtnebbjcgkoaloaaW.PrintWords Go.Proofs.YtnebbjcgkoaloaaW.PrintLast Go.Proofs.YtnebbjcgkoaloaaW.PrintMore
attribute [local go_sem] max2_int min2_int max_two min_two max_three min_three max_four min_four   -- for this text's walks alone
set_option linter.unusedVariables false
set_option linter.unusedSimpArgs false

attribute [local go_sem high] eqA27
/-! ### laws_big: function 9 -/
def laws_big.f (l0 : List Int) : Option (Bool) := some (decide ((l0.length : Int) > 1048576))
set_option maxHeartbeats 8000000 in
set_option maxRecDepth 100000 in
theorem laws_big.calls (A0 : Option Addr) (c0 : Nat) (l0 : List Int) (r : Bool) (w : World) (hr0 : Kd.C (Kd.int .u8) w A0 l0.length l0) (hc0 : l0.length ≤ c0) (h : laws_big.f l0 = some r) :
  Calls Try.prog 9 #[.slice A0 l0.length c0] w fun e w' => e = .returned (.bool r) ∧ Drawn0 w w' := by
 have HR0 := Aside0.mk hr0
 have HC0 := Aside0.mk hc0
 clear hr0 hc0
 have H : (some (decide ((l0.length : Int) > 1048576))) = some r := h
 clear h
 obtain rfl := Option.some.inj H
 go_enter Try.func9, Try.ntmps9
 go_wp2
 go_ret
 exact ⟨by first | rfl | (simp; done) | (simp [*]; done), by repeat (first | exact Drawn0.refl _ | apply Drawn0.step)⟩

/-! ### impl_Fact_49: function 49 -/
def impl_Fact_49.f (l0 : List S36) : Option (List S36) := if l0.length ≤ 4000000 then some l0 else none
theorem info_cloneimpl_Fact_49 : (Try.prog.info? 36).map (fun i => (i.zero, i.size, i.bytes)) = some (some (.agg #[(.int .i64 0), (.int .i64 0), (.int .i64 0)]), 3, 24) := by kernel_rfl
theorem slice_nilimpl_Fact_49 {P : Program} (w : World) (t e : TypeId) (a : Option Addr) (n c : Nat) (h : P.underlying t = some (.slice e)) : (binOp .eql t (.slice a n c) (.slice none 0 0)).run P w = .ok (.bool a.isNone) w := by
 have h1 : ∀ d : Nat, (Op.equalIn (d + 1) t (.slice a n c) (.slice none 0 0)).run P w = .ok a.isNone w := by intro d; cases a <;> simp [Op.equalIn, run_underlying h]
 have h2 : (Op.equal t (.slice a n c) (.slice none 0 0)).run P w = .ok a.isNone w := h1 9999
 simp only [binOp]
 simp [h2]
set_option maxHeartbeats 4000000 in
set_option maxRecDepth 100000 in
theorem impl_Fact_49.calls (A0 : Option Addr) (c0 : Nat) (l0 : List S36) (r : List S36) (w : World) (hr0 : Kd.C k36 w A0 l0.length l0) (hc0 : l0.length ≤ c0) (h : impl_Fact_49.f l0 = some r) :
  Calls Try.prog 49 #[.slice A0 l0.length c0] w fun e w' => ∃ v0_ : Value, e = .returned (v0_) ∧ Kd.R k36 36 w' w.heap.size (fun _ => True) v0_ r ∧ Below w.heap.size w w' := by
 have hu_ := Try.underlying31
 unfold impl_Fact_49.f at h
 by_cases c : l0.length ≤ 4000000
 ·rw [if_pos c] at h
  obtain rfl := Option.some.inj h
  have HL := Aside0.mk c
  have HR := Aside0.mk hr0
  clear c h hr0
  cases A0 with
  | none =>
   have h0 : l0.length = 0 := by
    rcases Nat.eq_zero_or_pos l0.length with h | h
    ·exact h
    ·obtain ⟨_, e, _⟩ := HR.out.2.2 (by omega)
     cases e
   obtain rfl := List.length_eq_zero_iff.1 h0
   clear h0
   have hq_ := slice_nilimpl_Fact_49 (P := Try.prog) w 31 36 none 0 c0 hu_
   go_enter Try.func49, Try.ntmps49
   go_wp2_with fail
   go_ret
   exact ⟨_, rfl, Kd.R_nil _ _ _ _ _, Below.refl _ _⟩
  | some a =>
   have hq_ := slice_nilimpl_Fact_49 (P := Try.prog) w 31 36 (some a) l0.length c0 hu_
   go_enter Try.func49, Try.ntmps49
   go_wp2_with (first
    | ((with_reducible refine gate_dst (N := 5) rfl ?_); (try (refine gate_guard (by rfl) ?_; dsimp only)); refine Kd.R_lit k36 w.heap.size 36 ?hg (N := 5) ?hd (xs := ([] : List S36)) (inner := []) (ok := fun _ => True) (okp := fun _ => False) ?hr ?hp (fun _ hk => hk.elim) ?hf (Below.refl _ _) (Nat.le_refl _) (by simp) ?_; (case hd => rfl); (case hg => rfl); (case hr => first | (go_simp; done) | (go_simp; rfl)); (case hp => exact (Reps.none _ _)); (case hf => trivial); intro v5 w5 hR5 hB5 hG5 hN5; have HR5 := Aside0.mk hR5; have HB5 := Aside0.mk hB5; have HC5 := Aside0.mk (Kd.C_below HR.out hB5); clear hR5 hB5 hG5 hN5)
    | ((with_reducible refine gate_builtin (b := .append) (xs := #[.tmp 5, .tmp 6]) rfl ?_); at_builtin; refine Kd.R_append_rows k36 (w0 := w) w.heap.size rfl (.tmp 5) (.tmp 6) 31 36 (.agg #[(.int .i64 0), (.int .i64 0), (.int .i64 0)]) 24 rfl Try.underlying31 info_cloneimpl_Fact_49 rfl (by decide) (by decide) _ ([] : List S36) l0 _ _ _ (fun _ => True) (fun _ => False) rfl rfl HR5.out HC5.out (fun x cs h => by rw [k36_open h]; exact k36_mkM _ _ _ _) (fun _ h => h.elim) (fun _ _ => trivial) HB5.out HB5.out.size ?aL ?_; (case aL => have := HL.out; simp; omega); intro v7 w7 ho7 hb7 hg7 hat7; have HO7 := Aside0.mk ho7; have HB7 := Aside0.mk hb7; clear ho7 hb7 hg7 hat7))
   go_ret
   exact ⟨_, rfl, by have := HO7.out; rw [List.nil_append] at this; exact this, HB7.out⟩
 ·rw [if_neg c] at h
  exact absurd h (by simp)

/-! ### impl_in: function 70 -/
def impl_in.f (a0 : Int) (a1 : Int) (a2 : Int) : Option (Bool) := if a0 ≥ a1 then (some (decide (a0 ≤ a2))) else (some false)
set_option maxHeartbeats 8000000 in
set_option maxRecDepth 100000 in
theorem impl_in.calls (a0 : Int) (a1 : Int) (a2 : Int) (r : Bool) (w : World) (h : impl_in.f a0 a1 a2 = some r) :
  Calls Try.prog 70 #[.int .i64 a0, .int .i64 a1, .int .i64 a2] w fun e w' => e = .returned (.bool r) ∧ Drawn0 w w' := by
 have H : (if a0 ≥ a1 then (some (decide (a0 ≤ a2))) else (some false)) = some r := h
 clear h
 by_cases c4 : a0 ≥ a1
 ·rw [if_pos c4] at H
  have c4b0 : decide (a1 ≤ a0) = true := decide_eq_true c4
  clear c4
  obtain rfl := Option.some.inj H
  go_enter Try.func70, Try.ntmps70
  go_wp2
  go_ret
  exact ⟨by first | rfl | (simp; done) | (simp [*]; done), by repeat (first | exact Drawn0.refl _ | apply Drawn0.step)⟩
 ·rw [if_neg c4] at H
  have c4b0 : decide (a1 ≤ a0) = false := decide_eq_false c4
  clear c4
  obtain rfl := Option.some.inj H
  go_enter Try.func70, Try.ntmps70
  go_wp2
  go_ret
  exact ⟨by first | rfl | (simp; done) | (simp [*]; done), by repeat (first | exact Drawn0.refl _ | apply Drawn0.step)⟩

/-! ### impl_RoleOk: function 69 -/
def impl_RoleOk.f (a0_0 : Int) (a0_1 : Int) : Option (Bool) := (impl_in.f a0_0 0 5).bind fun t102 => (if t102 = true then ((impl_in.f a0_1 0 3).bind fun t103 => (some t103)) else (some false))
set_option maxHeartbeats 8000000 in
set_option maxRecDepth 100000 in
theorem impl_RoleOk.calls (a0_0 : Int) (a0_1 : Int) (r : Bool) (w : World) (h : impl_RoleOk.f a0_0 a0_1 = some r) :
  Calls Try.prog 69 #[.agg #[.int .i64 a0_0, .int .i64 a0_1]] w fun e w' => e = .returned (.bool r) ∧ Below w.heap.size w w' := by
 have hu27 := Try.underlying27
 have HB := Aside0.mk (Below.refl w.heap.size w)
 have H : ((impl_in.f a0_0 0 5).bind fun t102 => (if t102 = true then ((impl_in.f a0_1 0 3).bind fun t103 => (some t103)) else (some false))) = some r := h
 clear h
 replace H := Option.bind_eq_some_iff.mp H
 obtain ⟨t102, A20, H⟩ := H
 try dsimp only at H
 have A2 := Aside0.mk A20
 clear A20
 by_cases c3 : t102 = true
 ·subst c3
  rw [if_pos rfl] at H
  replace H := Option.bind_eq_some_iff.mp H
  obtain ⟨t103, A40, H⟩ := H
  try dsimp only at H
  have A4 := Aside0.mk A40
  clear A40
  obtain rfl := Option.some.inj H
  go_enter Try.func69, Try.ntmps69
  go_wp2_with (first | ((with_reducible refine gate_dst (N := 1) rfl ?_); refine sqX (N := 1) (cs := #[.int .i64 a0_0, .int .i64 a0_1]) (t := 27) ?_; intro gb101 hg w5 hbox hb; have BK101 := Aside0.mk (hbox); have GW101 := sqG hg; have GE101 := sqG hg; replace HB := sqS hb; clear hb hbox hg; obtain ⟨hcz6_0, hcz6_1, hfz6_0, hfz6_1⟩ := sqC2 BK101) | ((with_reducible refine gate_callee (f := 70) rfl ?_); refine goesL_ (some 5) rfl rfl Try.func70 (by kernel_rfl) rfl #[.int .i64 a0_0, .int .i64 0, .int .i64 5] rfl sqA ?_; (with_reducible refine (impl_in.calls a0_0 0 5 true _ A2.out).mono ?_); rintro e w' ⟨rfl, ⟨nd, rfl⟩⟩; refine ⟨_, rfl, ?_⟩) | (go_at_call 70; (with_reducible refine (impl_in.calls a0_1 0 3 t103 _ A4.out).mono ?_); rintro e w' ⟨rfl, ⟨nd, rfl⟩⟩))
  go_ret
  exact ⟨sqE, sqB⟩
 ·replace c3 := Bool.eq_false_iff.mpr c3
  subst c3
  rw [if_neg (show ¬ (false = true) by decide)] at H
  obtain rfl := Option.some.inj H
  go_enter Try.func69, Try.ntmps69
  go_wp2_with (first | ((with_reducible refine gate_dst (N := 1) rfl ?_); refine sqX (N := 1) (cs := #[.int .i64 a0_0, .int .i64 a0_1]) (t := 27) ?_; intro gb101 hg w7 hbox hb; have BK101 := Aside0.mk (hbox); have GW101 := sqG hg; have GE101 := sqG hg; replace HB := sqS hb; clear hb hbox hg; obtain ⟨hcz8_0, hcz8_1, hfz8_0, hfz8_1⟩ := sqC2 BK101) | ((with_reducible refine gate_callee (f := 70) rfl ?_); refine goesL_ (some 5) rfl rfl Try.func70 (by kernel_rfl) rfl #[.int .i64 a0_0, .int .i64 0, .int .i64 5] rfl sqA ?_; (with_reducible refine (impl_in.calls a0_0 0 5 false _ A2.out).mono ?_); rintro e w' ⟨rfl, ⟨nd, rfl⟩⟩; refine ⟨_, rfl, ?_⟩))
  go_ret
  exact ⟨sqE, sqB⟩

/-! ### impl_isPerson: function 71 -/
def impl_isPerson.f (a0 : Int) : Option (Bool) := (impl_in.f a0 0 5).bind fun t104 => (some t104)
set_option maxHeartbeats 8000000 in
set_option maxRecDepth 100000 in
theorem impl_isPerson.calls (a0 : Int) (r : Bool) (w : World) (h : impl_isPerson.f a0 = some r) :
  Calls Try.prog 71 #[.int .i64 a0] w fun e w' => e = .returned (.bool r) ∧ Drawn0 w w' := by
 have H : ((impl_in.f a0 0 5).bind fun t104 => (some t104)) = some r := h
 clear h
 replace H := Option.bind_eq_some_iff.mp H
 obtain ⟨t104, A20, H⟩ := H
 try dsimp only at H
 have A2 := Aside0.mk A20
 clear A20
 obtain rfl := Option.some.inj H
 go_enter Try.func71, Try.ntmps71
 go_wp2_with (first | ((with_reducible refine gate_callee (f := 70) rfl ?_); refine goesL_ (some 4) rfl rfl Try.func70 (by kernel_rfl) rfl #[.int .i64 a0, .int .i64 0, .int .i64 5] rfl sqA ?_; (with_reducible refine (impl_in.calls a0 0 5 t104 _ A2.out).mono ?_); rintro e w' ⟨rfl, ⟨nd, rfl⟩⟩; refine ⟨_, rfl, ?_⟩))
 go_ret
 exact ⟨by first | rfl | (simp; done) | (simp [*]; done), by repeat (first | exact Drawn0.refl _ | apply Drawn0.step)⟩

/-! ### impl_CredOk: function 50 -/
def impl_CredOk.j0 : Nat → Bool → Int → Int → Int → Int → Int → Int → Int → Int → Int → Int → Option (Bool)
 | 0, _, _, _, _, _, _, _, _, _, _, _ => none
 | k + 1, x19, x106000, x106001, x106002, x106003, x106004, x106005, x106006, x106007, x106008, x106009 => if x19 = true then (some false) else (if x106000 = 1 then ((impl_isPerson.f x106003).bind fun t110 => (if t110 = true then (if (x106004 == 0 && (x106005 == 0)) = true then (some (x106006 == 0 && (x106007 == 0))) else (some false)) else (some false))) else (if x106000 = 2 then (if x106003 = 0 then ((impl_RoleOk.f x106004 x106005).bind fun t111 => (if t111 = true then (some (x106006 == 0 && (x106007 == 0))) else (some false))) else (some false)) else (if x106000 = 3 then (if x106003 = 0 then ((impl_RoleOk.f x106004 x106005).bind fun t112 => (if t112 = true then ((impl_RoleOk.f x106006 x106007).bind fun t113 => (if t113 = true then (some (x106006 == 0)) else (some false))) else (some false))) else (some false)) else (if x106000 = 4 then (if x106003 = 0 then ((impl_RoleOk.f x106004 x106005).bind fun t114 => (if t114 = true then ((impl_RoleOk.f x106006 x106007).bind fun t115 => (some t115)) else (some false))) else (some false)) else (some false)))))
def impl_CredOk.f (k : Nat) (a0_0 : Int) (a0_1 : Int) (a0_2 : Int) (a0_3 : Int) (a0_4 : Int) (a0_5 : Int) (a0_6 : Int) (a0_7 : Int) (a0_8 : Int) (a0_9 : Int) : Option (Bool) := (impl_RoleOk.f a0_1 a0_2).bind fun t106 => (if t106 = true then ((impl_in.f a0_8 1 9999).bind fun t107 => (if t107 = true then ((impl_in.f a0_9 0 99).bind fun t108 => (impl_CredOk.j0 k (!t108) a0_0 a0_1 a0_2 a0_3 a0_4 a0_5 a0_6 a0_7 a0_8 a0_9)) else (impl_CredOk.j0 k true a0_0 a0_1 a0_2 a0_3 a0_4 a0_5 a0_6 a0_7 a0_8 a0_9))) else (impl_CredOk.j0 k true a0_0 a0_1 a0_2 a0_3 a0_4 a0_5 a0_6 a0_7 a0_8 a0_9))
theorem impl_CredOk.mono_l : ∀ k, (∀ y0 y1 y2 y3 y4 y5 y6 y7 y8 y9 y10, LeO (impl_CredOk.j0 k y0 y1 y2 y3 y4 y5 y6 y7 y8 y9 y10) (impl_CredOk.j0 (k + 1) y0 y1 y2 y3 y4 y5 y6 y7 y8 y9 y10))
 | 0 => fun _ _ _ _ _ _ _ _ _ _ _ r h => by simp [impl_CredOk.j0] at h
 | k + 1 => by
  have ih0 := impl_CredOk.mono_l k
  ·intro y0 y1 y2 y3 y4 y5 y6 y7 y8 y9 y10
   unfold impl_CredOk.j0
   repeat' first
   | (with_reducible exact ih0 _ _ _ _ _ _ _ _ _ _ _)
   | (with_reducible exact LeO.refl _)
   | (with_reducible exact LeO.none _)
   | (with_reducible refine LeO.ite ?_ ?_)
   | (with_reducible refine LeO.bind ?_ (fun _ => ?_))
   | exact ih0 _ _ _ _ _ _ _ _ _ _ _
   | exact LeO.none _
   | refine LeO.ite ?_ ?_
   | refine LeO.bind ?_ (fun _ => ?_)
theorem impl_CredOk.mono : ∀ a0 a1 a2 a3 a4 a5 a6 a7 a8 a9 k, LeO (impl_CredOk.f k a0 a1 a2 a3 a4 a5 a6 a7 a8 a9) (impl_CredOk.f (k + 1) a0 a1 a2 a3 a4 a5 a6 a7 a8 a9) := by
 intro a0 a1 a2 a3 a4 a5 a6 a7 a8 a9 k
 have ih0 := impl_CredOk.mono_l k
 unfold impl_CredOk.f
 repeat' first
   | (with_reducible exact ih0 _ _ _ _ _ _ _ _ _ _ _)
   | (with_reducible exact LeO.refl _)
   | (with_reducible exact LeO.none _)
   | (with_reducible refine LeO.ite ?_ ?_)
   | (with_reducible refine LeO.bind ?_ (fun _ => ?_))
   | exact ih0 _ _ _ _ _ _ _ _ _ _ _
   | exact LeO.none _
   | refine LeO.ite ?_ ?_
   | refine LeO.bind ?_ (fun _ => ?_)
set_option maxHeartbeats 8000000 in
set_option maxRecDepth 100000 in
theorem impl_CredOk.calls (k : Nat) (a0_0 : Int) (a0_1 : Int) (a0_2 : Int) (a0_3 : Int) (a0_4 : Int) (a0_5 : Int) (a0_6 : Int) (a0_7 : Int) (a0_8 : Int) (a0_9 : Int) (r : Bool) (w : World) (h : impl_CredOk.f k a0_0 a0_1 a0_2 a0_3 a0_4 a0_5 a0_6 a0_7 a0_8 a0_9 = some r) :
  Calls Try.prog 50 #[.agg #[.int .i64 a0_0, .int .i64 a0_1, .int .i64 a0_2, .int .i64 a0_3, .int .i64 a0_4, .int .i64 a0_5, .int .i64 a0_6, .int .i64 a0_7, .int .i64 a0_8, .int .i64 a0_9]] w fun e w' => e = .returned (.bool r) ∧ Below w.heap.size w w' := by
 have hu29 := Try.underlying29
 have hu27 := Try.underlying27
 have HB := Aside0.mk (Below.refl w.heap.size w)
 have H : ((impl_RoleOk.f a0_1 a0_2).bind fun t106 => (if t106 = true then ((impl_in.f a0_8 1 9999).bind fun t107 => (if t107 = true then ((impl_in.f a0_9 0 99).bind fun t108 => (impl_CredOk.j0 k (!t108) a0_0 a0_1 a0_2 a0_3 a0_4 a0_5 a0_6 a0_7 a0_8 a0_9)) else (impl_CredOk.j0 k true a0_0 a0_1 a0_2 a0_3 a0_4 a0_5 a0_6 a0_7 a0_8 a0_9))) else (impl_CredOk.j0 k true a0_0 a0_1 a0_2 a0_3 a0_4 a0_5 a0_6 a0_7 a0_8 a0_9))) = some r := h
 clear h
 have HC2 := Aside0.mk H
 clear H
 go_enter Try.func50, Try.ntmps50
 go_upto_region 1 with (first | ((with_reducible refine gate_dst (N := 1) rfl ?_); refine sqX (N := 1) (cs := #[.int .i64 a0_0, .int .i64 a0_1, .int .i64 a0_2, .int .i64 a0_3, .int .i64 a0_4, .int .i64 a0_5, .int .i64 a0_6, .int .i64 a0_7, .int .i64 a0_8, .int .i64 a0_9]) (t := 29) ?_; intro gb105 hg w3 hbox hb; have BK105 := Aside0.mk (hbox); have GW105 := sqG hg; have GE105 := sqG hg; replace HB := sqS hb; clear hb hbox hg))
 (try simp only [Act.put, List.setIfInBounds_toArray, List.set_cons_zero, List.set_cons_succ])
 go_cut [19] (fun v19 wc => ∃ (kq : Nat) (x19_1 : Bool), v19 = .bool x19_1 ∧ Aside0 (impl_CredOk.j0 kq x19_1 a0_0 a0_1 a0_2 a0_3 a0_4 a0_5 a0_6 a0_7 a0_8 a0_9 = some r) ∧ Aside0 (kq ≤ k) ∧ Aside0 (wc.heap[gb105]? = some (.cells #[.int .i64 a0_0, .int .i64 a0_1, .int .i64 a0_2, .int .i64 a0_3, .int .i64 a0_4, .int .i64 a0_5, .int .i64 a0_6, .int .i64 a0_7, .int .i64 a0_8, .int .i64 a0_9] 29 (0, 0))) ∧ Aside0 (Below w.heap.size w wc))
 case first =>
  have H := HC2.out
  clear HC2
  replace H := Option.bind_eq_some_iff.mp H
  obtain ⟨t106, A40, H⟩ := H
  try dsimp only at H
  have A4 := Aside0.mk A40
  clear A40
  by_cases c5 : t106 = true
  ·subst c5
   rw [if_pos rfl] at H
   replace H := Option.bind_eq_some_iff.mp H
   obtain ⟨t107, A60, H⟩ := H
   try dsimp only at H
   have A6 := Aside0.mk A60
   clear A60
   by_cases c7 : t107 = true
   ·subst c7
    rw [if_pos rfl] at H
    replace H := Option.bind_eq_some_iff.mp H
    obtain ⟨t108, A80, H⟩ := H
    try dsimp only at H
    have A8 := Aside0.mk A80
    clear A80
    have H' := Aside0.mk H
    clear H
    obtain ⟨hcz9_0, hcz9_1, hcz9_2, hcz9_3, hcz9_4, hcz9_5, hcz9_6, hcz9_7, hcz9_8, hcz9_9, hfz9_0, hfz9_1, hfz9_2, hfz9_3, hfz9_4, hfz9_5, hfz9_6, hfz9_7, hfz9_8, hfz9_9⟩ := sqC10 BK105
    go_wp2_with (first | ((with_reducible refine gate_callee (f := 69) rfl ?_); refine goesL_ (some 6) rfl rfl Try.func69 (by kernel_rfl) rfl #[.agg #[.int .i64 a0_1, .int .i64 a0_2]] rfl sqA ?_; (with_reducible refine (impl_RoleOk.calls a0_1 a0_2 true _ A4.out).mono ?_); rintro e w10 ⟨rfl, hb⟩; refine ⟨_, rfl, ?_⟩; replace BK105 := sqL BK105 hb; replace HB := sqS hb; (try clear hb); (try clear hb2); (try clear hk); (try clear hi); obtain ⟨hcz11_0, hcz11_1, hcz11_2, hcz11_3, hcz11_4, hcz11_5, hcz11_6, hcz11_7, hcz11_8, hcz11_9, hfz11_0, hfz11_1, hfz11_2, hfz11_3, hfz11_4, hfz11_5, hfz11_6, hfz11_7, hfz11_8, hfz11_9⟩ := sqC10 BK105) | (go_at_call 70; (with_reducible refine (impl_in.calls a0_8 1 9999 true _ A6.out).mono ?_); rintro e w' ⟨rfl, ⟨nd, rfl⟩⟩) | (go_at_call 70; (with_reducible refine (impl_in.calls a0_9 0 99 t108 _ A8.out).mono ?_); rintro e w' ⟨rfl, ⟨nd, rfl⟩⟩))
    go_meet
    case rel => exact ⟨_, (!t108), (by first | rfl | (simp; done) | (simp [*]; done)), H', ⟨by first | omega | exact Nat.le_refl _⟩, ⟨sqK BK105⟩, ⟨sqB⟩⟩
   ·replace c7 := Bool.eq_false_iff.mpr c7
    subst c7
    rw [if_neg (show ¬ (false = true) by decide)] at H
    have H' := Aside0.mk H
    clear H
    obtain ⟨hcz12_0, hcz12_1, hcz12_2, hcz12_3, hcz12_4, hcz12_5, hcz12_6, hcz12_7, hcz12_8, hcz12_9, hfz12_0, hfz12_1, hfz12_2, hfz12_3, hfz12_4, hfz12_5, hfz12_6, hfz12_7, hfz12_8, hfz12_9⟩ := sqC10 BK105
    go_wp2_with (first | ((with_reducible refine gate_callee (f := 69) rfl ?_); refine goesL_ (some 6) rfl rfl Try.func69 (by kernel_rfl) rfl #[.agg #[.int .i64 a0_1, .int .i64 a0_2]] rfl sqA ?_; (with_reducible refine (impl_RoleOk.calls a0_1 a0_2 true _ A4.out).mono ?_); rintro e w13 ⟨rfl, hb⟩; refine ⟨_, rfl, ?_⟩; replace BK105 := sqL BK105 hb; replace HB := sqS hb; (try clear hb); (try clear hb2); (try clear hk); (try clear hi); obtain ⟨hcz14_0, hcz14_1, hcz14_2, hcz14_3, hcz14_4, hcz14_5, hcz14_6, hcz14_7, hcz14_8, hcz14_9, hfz14_0, hfz14_1, hfz14_2, hfz14_3, hfz14_4, hfz14_5, hfz14_6, hfz14_7, hfz14_8, hfz14_9⟩ := sqC10 BK105) | (go_at_call 70; (with_reducible refine (impl_in.calls a0_8 1 9999 false _ A6.out).mono ?_); rintro e w' ⟨rfl, ⟨nd, rfl⟩⟩))
    go_meet
    case rel => exact ⟨_, (true), (by first | rfl | (simp; done) | (simp [*]; done)), H', ⟨by first | omega | exact Nat.le_refl _⟩, ⟨sqK BK105⟩, ⟨sqB⟩⟩
  ·replace c5 := Bool.eq_false_iff.mpr c5
   subst c5
   rw [if_neg (show ¬ (false = true) by decide)] at H
   have H' := Aside0.mk H
   clear H
   obtain ⟨hcz15_0, hcz15_1, hcz15_2, hcz15_3, hcz15_4, hcz15_5, hcz15_6, hcz15_7, hcz15_8, hcz15_9, hfz15_0, hfz15_1, hfz15_2, hfz15_3, hfz15_4, hfz15_5, hfz15_6, hfz15_7, hfz15_8, hfz15_9⟩ := sqC10 BK105
   go_wp2_with (first | ((with_reducible refine gate_callee (f := 69) rfl ?_); refine goesL_ (some 6) rfl rfl Try.func69 (by kernel_rfl) rfl #[.agg #[.int .i64 a0_1, .int .i64 a0_2]] rfl sqA ?_; (with_reducible refine (impl_RoleOk.calls a0_1 a0_2 false _ A4.out).mono ?_); rintro e w16 ⟨rfl, hb⟩; refine ⟨_, rfl, ?_⟩; replace BK105 := sqL BK105 hb; replace HB := sqS hb; (try clear hb); (try clear hb2); (try clear hk); (try clear hi)))
   go_meet
   case rel => exact ⟨_, (true), (by first | rfl | (simp; done) | (simp [*]; done)), H', ⟨by first | omega | exact Nat.le_refl _⟩, ⟨sqK BK105⟩, ⟨sqB⟩⟩
 case rest =>
  clear HC2
  try clear p2
  try clear c5
  try clear c6
  try clear c7
  try clear hcz11_0 hcz11_1 hcz11_2 hcz11_3 hcz11_4 hcz11_5 hcz11_6 hcz11_7 hcz11_8 hcz11_9
  try clear hcz12_0 hcz12_1 hcz12_2 hcz12_3 hcz12_4 hcz12_5 hcz12_6 hcz12_7 hcz12_8 hcz12_9
  try clear hcz14_0 hcz14_1 hcz14_2 hcz14_3 hcz14_4 hcz14_5 hcz14_6 hcz14_7 hcz14_8 hcz14_9
  try clear hcz15_0 hcz15_1 hcz15_2 hcz15_3 hcz15_4 hcz15_5 hcz15_6 hcz15_7 hcz15_8 hcz15_9
  try clear hcz9_0 hcz9_1 hcz9_2 hcz9_3 hcz9_4 hcz9_5 hcz9_6 hcz9_7 hcz9_8 hcz9_9
  try clear hfz11_0
  try clear hfz11_1
  try clear hfz11_2
  try clear hfz11_3
  try clear hfz11_4
  try clear hfz11_5
  try clear hfz11_6
  try clear hfz11_7
  try clear hfz11_8
  try clear hfz11_9
  try clear hfz12_0
  try clear hfz12_1
  try clear hfz12_2
  try clear hfz12_3
  try clear hfz12_4
  try clear hfz12_5
  try clear hfz12_6
  try clear hfz12_7
  try clear hfz12_8
  try clear hfz12_9
  try clear hfz14_0
  try clear hfz14_1
  try clear hfz14_2
  try clear hfz14_3
  try clear hfz14_4
  try clear hfz14_5
  try clear hfz14_6
  try clear hfz14_7
  try clear hfz14_8
  try clear hfz14_9
  try clear hfz15_0
  try clear hfz15_1
  try clear hfz15_2
  try clear hfz15_3
  try clear hfz15_4
  try clear hfz15_5
  try clear hfz15_6
  try clear hfz15_7
  try clear hfz15_8
  try clear hfz15_9
  try clear hfz9_0
  try clear hfz9_1
  try clear hfz9_2
  try clear hfz9_3
  try clear hfz9_4
  try clear hfz9_5
  try clear hfz9_6
  try clear hfz9_7
  try clear hfz9_8
  try clear hfz9_9
  obtain ⟨kq, x19_1, rfl, HA, HJ1, BK105, HB⟩ := hcut
  cases kq with
  | zero => exact absurd HA.out (by simp [impl_CredOk.j0])
  | succ kj1 =>
   have H := HA.out
   clear HA
   simp only [impl_CredOk.j0] at H
   by_cases c17 : x19_1 = true
   ·subst c17
    rw [if_pos rfl] at H
    obtain rfl := Option.some.inj H
    go_wp2
    go_ret
    exact ⟨sqE, sqB⟩
   ·replace c17 := Bool.eq_false_iff.mpr c17
    subst c17
    rw [if_neg (show ¬ (false = true) by decide)] at H
    by_cases c18 : a0_0 = 1
    ·rw [if_pos c18] at H
     have c18b0 : (a0_0 == 1) = true := beq_iff_eq.mpr c18
     have c18b1 : (a0_0 != 1) = false := bne_eq_false_iff_eq.mpr c18
     clear c18
     replace H := Option.bind_eq_some_iff.mp H
     obtain ⟨t110, A190, H⟩ := H
     try dsimp only at H
     have A19 := Aside0.mk A190
     clear A190
     by_cases c20 : t110 = true
     ·subst c20
      rw [if_pos rfl] at H
      by_cases c21 : (a0_4 == 0 && (a0_5 == 0)) = true
      ·rw [if_pos c21] at H
       have c21b0 : (a0_4 == 0 && (a0_5 == 0)) = true := c21
       (try (have c21b1 : decide (a0_4 = 0 && (a0_5 == 0)) = true := by simpa using c21))
       (try (have c21b2 : (a0_4 == 0 && (a0_5 == 0)) = true := by simpa using c21))
       clear c21
       obtain rfl := Option.some.inj H
       go_wp2_with (first | ((with_reducible refine gate_dst (N := 3) rfl ?_); refine sqX (N := 3) (cs := #[.int .i64 0, .int .i64 0]) (t := 27) ?_; intro gb109 hg w22 hbox hb; have BK109 := Aside0.mk (hbox); have GW109 := sqG hg; have GE109 := sqG hg; have NB105_109 := sqN BK105 hg; have NB109_105 := sqM BK105 hg; replace BK105 := sqL BK105 hb; replace HB := sqS hb; clear hb hbox hg; have hnb23 := NB109_105.out; have hnc23 := NB105_109.out; obtain ⟨hcz24_0, hcz24_1, hfz24_0, hfz24_1⟩ := sqC2 BK109; obtain ⟨hcz25_0, hcz25_1, hcz25_2, hcz25_3, hcz25_4, hcz25_5, hcz25_6, hcz25_7, hcz25_8, hcz25_9, hfz25_0, hfz25_1, hfz25_2, hfz25_3, hfz25_4, hfz25_5, hfz25_6, hfz25_7, hfz25_8, hfz25_9⟩ := sqC10 BK105) | ((with_reducible refine gate_callee (f := 71) rfl ?_); refine goesL_ (some 27) rfl rfl Try.func71 (by kernel_rfl) rfl #[.int .i64 a0_3] rfl sqA ?_; (with_reducible refine (impl_isPerson.calls a0_3 true _ A19.out).mono ?_); rintro e w' ⟨rfl, ⟨nd, rfl⟩⟩; refine ⟨_, rfl, ?_⟩))
       go_ret
       exact ⟨sqE, sqB⟩
      ·rw [if_neg c21] at H
       have c21b0 : (a0_4 == 0 && (a0_5 == 0)) = false := by simpa using c21
       (try (have c21b1 : decide (a0_4 = 0 && (a0_5 == 0)) = false := by simpa using c21))
       (try (have c21b2 : (a0_4 == 0 && (a0_5 == 0)) = false := by simpa using c21))
       (try (have c21b3 : ¬ (a0_4 = 0 && (a0_5 == 0)) := by simpa using c21))
       clear c21
       obtain rfl := Option.some.inj H
       go_wp2_with (first | ((with_reducible refine gate_dst (N := 3) rfl ?_); refine sqX (N := 3) (cs := #[.int .i64 0, .int .i64 0]) (t := 27) ?_; intro gb109 hg w26 hbox hb; have BK109 := Aside0.mk (hbox); have GW109 := sqG hg; have GE109 := sqG hg; have NB105_109 := sqN BK105 hg; have NB109_105 := sqM BK105 hg; replace BK105 := sqL BK105 hb; replace HB := sqS hb; clear hb hbox hg; have hnb27 := NB109_105.out; have hnc27 := NB105_109.out; obtain ⟨hcz28_0, hcz28_1, hfz28_0, hfz28_1⟩ := sqC2 BK109; obtain ⟨hcz29_0, hcz29_1, hcz29_2, hcz29_3, hcz29_4, hcz29_5, hcz29_6, hcz29_7, hcz29_8, hcz29_9, hfz29_0, hfz29_1, hfz29_2, hfz29_3, hfz29_4, hfz29_5, hfz29_6, hfz29_7, hfz29_8, hfz29_9⟩ := sqC10 BK105) | ((with_reducible refine gate_callee (f := 71) rfl ?_); refine goesL_ (some 27) rfl rfl Try.func71 (by kernel_rfl) rfl #[.int .i64 a0_3] rfl sqA ?_; (with_reducible refine (impl_isPerson.calls a0_3 true _ A19.out).mono ?_); rintro e w' ⟨rfl, ⟨nd, rfl⟩⟩; refine ⟨_, rfl, ?_⟩))
       go_ret
       exact ⟨sqE, sqB⟩
     ·replace c20 := Bool.eq_false_iff.mpr c20
      subst c20
      rw [if_neg (show ¬ (false = true) by decide)] at H
      obtain rfl := Option.some.inj H
      go_wp2_with (first | ((with_reducible refine gate_dst (N := 3) rfl ?_); refine sqX (N := 3) (cs := #[.int .i64 0, .int .i64 0]) (t := 27) ?_; intro gb109 hg w30 hbox hb; have BK109 := Aside0.mk (hbox); have GW109 := sqG hg; have GE109 := sqG hg; have NB105_109 := sqN BK105 hg; have NB109_105 := sqM BK105 hg; replace BK105 := sqL BK105 hb; replace HB := sqS hb; clear hb hbox hg; have hnb31 := NB109_105.out; have hnc31 := NB105_109.out; obtain ⟨hcz32_0, hcz32_1, hfz32_0, hfz32_1⟩ := sqC2 BK109; obtain ⟨hcz33_0, hcz33_1, hcz33_2, hcz33_3, hcz33_4, hcz33_5, hcz33_6, hcz33_7, hcz33_8, hcz33_9, hfz33_0, hfz33_1, hfz33_2, hfz33_3, hfz33_4, hfz33_5, hfz33_6, hfz33_7, hfz33_8, hfz33_9⟩ := sqC10 BK105) | ((with_reducible refine gate_callee (f := 71) rfl ?_); refine goesL_ (some 27) rfl rfl Try.func71 (by kernel_rfl) rfl #[.int .i64 a0_3] rfl sqA ?_; (with_reducible refine (impl_isPerson.calls a0_3 false _ A19.out).mono ?_); rintro e w' ⟨rfl, ⟨nd, rfl⟩⟩; refine ⟨_, rfl, ?_⟩))
      go_ret
      exact ⟨sqE, sqB⟩
    ·rw [if_neg c18] at H
     have c18b0 : (a0_0 == 1) = false := beq_eq_false_iff_ne.mpr c18
     have c18b1 : (a0_0 != 1) = true := bne_iff_ne.mpr c18
     by_cases c34 : a0_0 = 2
     ·rw [if_pos c34] at H
      have c34b0 : (a0_0 == 2) = true := beq_iff_eq.mpr c34
      have c34b1 : (a0_0 != 2) = false := bne_eq_false_iff_eq.mpr c34
      clear c34
      by_cases c35 : a0_3 = 0
      ·rw [if_pos c35] at H
       have c35b0 : (a0_3 == 0) = true := beq_iff_eq.mpr c35
       have c35b1 : (a0_3 != 0) = false := bne_eq_false_iff_eq.mpr c35
       clear c35
       replace H := Option.bind_eq_some_iff.mp H
       obtain ⟨t111, A360, H⟩ := H
       try dsimp only at H
       have A36 := Aside0.mk A360
       clear A360
       by_cases c37 : t111 = true
       ·subst c37
        rw [if_pos rfl] at H
        obtain rfl := Option.some.inj H
        go_wp2_with (first | ((with_reducible refine gate_dst (N := 3) rfl ?_); refine sqX (N := 3) (cs := #[.int .i64 0, .int .i64 0]) (t := 27) ?_; intro gb109 hg w38 hbox hb; have BK109 := Aside0.mk (hbox); have GW109 := sqG hg; have GE109 := sqG hg; have NB105_109 := sqN BK105 hg; have NB109_105 := sqM BK105 hg; replace BK105 := sqL BK105 hb; replace HB := sqS hb; clear hb hbox hg; have hnb39 := NB109_105.out; have hnc39 := NB105_109.out; obtain ⟨hcz40_0, hcz40_1, hfz40_0, hfz40_1⟩ := sqC2 BK109; obtain ⟨hcz41_0, hcz41_1, hcz41_2, hcz41_3, hcz41_4, hcz41_5, hcz41_6, hcz41_7, hcz41_8, hcz41_9, hfz41_0, hfz41_1, hfz41_2, hfz41_3, hfz41_4, hfz41_5, hfz41_6, hfz41_7, hfz41_8, hfz41_9⟩ := sqC10 BK105) | (go_at_call 69; (with_reducible refine (impl_RoleOk.calls a0_4 a0_5 true _ A36.out).mono ?_); rintro e w42 ⟨rfl, hb⟩; replace BK105 := sqLW (o' := .cells #[.int .i64 a0_0, .int .i64 a0_1, .int .i64 a0_2, .int .i64 a0_3, .int .i64 a0_4, .int .i64 a0_5, .int .i64 a0_6, .int .i64 a0_7, .int .i64 a0_8, .int .i64 a0_9] 29 (0, 0)) BK105 hb; replace BK109 := sqLW (o' := .cells #[.int .i64 0, .int .i64 0] 27 (0, 0)) BK109 hb; replace HB := sqS hb; (try clear hb); (try clear hb2); (try clear hk); (try clear hi); obtain ⟨hcz43_0, hcz43_1, hcz43_2, hcz43_3, hcz43_4, hcz43_5, hcz43_6, hcz43_7, hcz43_8, hcz43_9, hfz43_0, hfz43_1, hfz43_2, hfz43_3, hfz43_4, hfz43_5, hfz43_6, hfz43_7, hfz43_8, hfz43_9⟩ := sqC10 BK105; obtain ⟨hcz44_0, hcz44_1, hfz44_0, hfz44_1⟩ := sqC2 BK109))
        go_ret
        exact ⟨sqE, sqB⟩
       ·replace c37 := Bool.eq_false_iff.mpr c37
        subst c37
        rw [if_neg (show ¬ (false = true) by decide)] at H
        obtain rfl := Option.some.inj H
        go_wp2_with (first | ((with_reducible refine gate_dst (N := 3) rfl ?_); refine sqX (N := 3) (cs := #[.int .i64 0, .int .i64 0]) (t := 27) ?_; intro gb109 hg w45 hbox hb; have BK109 := Aside0.mk (hbox); have GW109 := sqG hg; have GE109 := sqG hg; have NB105_109 := sqN BK105 hg; have NB109_105 := sqM BK105 hg; replace BK105 := sqL BK105 hb; replace HB := sqS hb; clear hb hbox hg; have hnb46 := NB109_105.out; have hnc46 := NB105_109.out; obtain ⟨hcz47_0, hcz47_1, hfz47_0, hfz47_1⟩ := sqC2 BK109; obtain ⟨hcz48_0, hcz48_1, hcz48_2, hcz48_3, hcz48_4, hcz48_5, hcz48_6, hcz48_7, hcz48_8, hcz48_9, hfz48_0, hfz48_1, hfz48_2, hfz48_3, hfz48_4, hfz48_5, hfz48_6, hfz48_7, hfz48_8, hfz48_9⟩ := sqC10 BK105) | (go_at_call 69; (with_reducible refine (impl_RoleOk.calls a0_4 a0_5 false _ A36.out).mono ?_); rintro e w49 ⟨rfl, hb⟩; replace BK105 := sqLW (o' := .cells #[.int .i64 a0_0, .int .i64 a0_1, .int .i64 a0_2, .int .i64 a0_3, .int .i64 a0_4, .int .i64 a0_5, .int .i64 a0_6, .int .i64 a0_7, .int .i64 a0_8, .int .i64 a0_9] 29 (0, 0)) BK105 hb; replace BK109 := sqLW (o' := .cells #[.int .i64 0, .int .i64 0] 27 (0, 0)) BK109 hb; replace HB := sqS hb; (try clear hb); (try clear hb2); (try clear hk); (try clear hi)))
        go_ret
        exact ⟨sqE, sqB⟩
      ·rw [if_neg c35] at H
       have c35b0 : (a0_3 == 0) = false := beq_eq_false_iff_ne.mpr c35
       have c35b1 : (a0_3 != 0) = true := bne_iff_ne.mpr c35
       obtain rfl := Option.some.inj H
       go_wp2_with (first | ((with_reducible refine gate_dst (N := 3) rfl ?_); refine sqX (N := 3) (cs := #[.int .i64 0, .int .i64 0]) (t := 27) ?_; intro gb109 hg w50 hbox hb; have BK109 := Aside0.mk (hbox); have GW109 := sqG hg; have GE109 := sqG hg; have NB105_109 := sqN BK105 hg; have NB109_105 := sqM BK105 hg; replace BK105 := sqL BK105 hb; replace HB := sqS hb; clear hb hbox hg; have hnb51 := NB109_105.out; have hnc51 := NB105_109.out; obtain ⟨hcz52_0, hcz52_1, hfz52_0, hfz52_1⟩ := sqC2 BK109; obtain ⟨hcz53_0, hcz53_1, hcz53_2, hcz53_3, hcz53_4, hcz53_5, hcz53_6, hcz53_7, hcz53_8, hcz53_9, hfz53_0, hfz53_1, hfz53_2, hfz53_3, hfz53_4, hfz53_5, hfz53_6, hfz53_7, hfz53_8, hfz53_9⟩ := sqC10 BK105))
       go_ret
       exact ⟨sqE, sqB⟩
     ·rw [if_neg c34] at H
      have c34b0 : (a0_0 == 2) = false := beq_eq_false_iff_ne.mpr c34
      have c34b1 : (a0_0 != 2) = true := bne_iff_ne.mpr c34
      by_cases c54 : a0_0 = 3
      ·rw [if_pos c54] at H
       have c54b0 : (a0_0 == 3) = true := beq_iff_eq.mpr c54
       have c54b1 : (a0_0 != 3) = false := bne_eq_false_iff_eq.mpr c54
       clear c54
       by_cases c55 : a0_3 = 0
       ·rw [if_pos c55] at H
        have c55b0 : (a0_3 == 0) = true := beq_iff_eq.mpr c55
        have c55b1 : (a0_3 != 0) = false := bne_eq_false_iff_eq.mpr c55
        clear c55
        replace H := Option.bind_eq_some_iff.mp H
        obtain ⟨t112, A560, H⟩ := H
        try dsimp only at H
        have A56 := Aside0.mk A560
        clear A560
        by_cases c57 : t112 = true
        ·subst c57
         rw [if_pos rfl] at H
         replace H := Option.bind_eq_some_iff.mp H
         obtain ⟨t113, A580, H⟩ := H
         try dsimp only at H
         have A58 := Aside0.mk A580
         clear A580
         by_cases c59 : t113 = true
         ·subst c59
          rw [if_pos rfl] at H
          obtain rfl := Option.some.inj H
          go_wp2_with (first | ((with_reducible refine gate_dst (N := 3) rfl ?_); refine sqX (N := 3) (cs := #[.int .i64 0, .int .i64 0]) (t := 27) ?_; intro gb109 hg w60 hbox hb; have BK109 := Aside0.mk (hbox); have GW109 := sqG hg; have GE109 := sqG hg; have NB105_109 := sqN BK105 hg; have NB109_105 := sqM BK105 hg; replace BK105 := sqL BK105 hb; replace HB := sqS hb; clear hb hbox hg; have hnb61 := NB109_105.out; have hnc61 := NB105_109.out; obtain ⟨hcz62_0, hcz62_1, hfz62_0, hfz62_1⟩ := sqC2 BK109; obtain ⟨hcz63_0, hcz63_1, hcz63_2, hcz63_3, hcz63_4, hcz63_5, hcz63_6, hcz63_7, hcz63_8, hcz63_9, hfz63_0, hfz63_1, hfz63_2, hfz63_3, hfz63_4, hfz63_5, hfz63_6, hfz63_7, hfz63_8, hfz63_9⟩ := sqC10 BK105) | (go_at_call 69; (with_reducible refine (impl_RoleOk.calls a0_4 a0_5 true _ A56.out).mono ?_); rintro e w64 ⟨rfl, hb⟩; replace BK105 := sqLW (o' := .cells #[.int .i64 a0_0, .int .i64 a0_1, .int .i64 a0_2, .int .i64 a0_3, .int .i64 a0_4, .int .i64 a0_5, .int .i64 a0_6, .int .i64 a0_7, .int .i64 a0_8, .int .i64 a0_9] 29 (0, 0)) BK105 hb; replace BK109 := sqLW (o' := .cells #[.int .i64 0, .int .i64 0] 27 (0, 0)) BK109 hb; replace HB := sqS hb; (try clear hb); (try clear hb2); (try clear hk); (try clear hi); obtain ⟨hcz65_0, hcz65_1, hcz65_2, hcz65_3, hcz65_4, hcz65_5, hcz65_6, hcz65_7, hcz65_8, hcz65_9, hfz65_0, hfz65_1, hfz65_2, hfz65_3, hfz65_4, hfz65_5, hfz65_6, hfz65_7, hfz65_8, hfz65_9⟩ := sqC10 BK105) | (go_at_call 69; (with_reducible refine (impl_RoleOk.calls a0_6 a0_7 true _ A58.out).mono ?_); rintro e w66 ⟨rfl, hb⟩; replace BK105 := sqL BK105 hb; replace BK109 := sqL BK109 hb; replace HB := sqS hb; (try clear hb); (try clear hb2); (try clear hk); (try clear hi); obtain ⟨hcz67_0, hcz67_1, hcz67_2, hcz67_3, hcz67_4, hcz67_5, hcz67_6, hcz67_7, hcz67_8, hcz67_9, hfz67_0, hfz67_1, hfz67_2, hfz67_3, hfz67_4, hfz67_5, hfz67_6, hfz67_7, hfz67_8, hfz67_9⟩ := sqC10 BK105))
          go_ret
          exact ⟨sqE, sqB⟩
         ·replace c59 := Bool.eq_false_iff.mpr c59
          subst c59
          rw [if_neg (show ¬ (false = true) by decide)] at H
          obtain rfl := Option.some.inj H
          go_wp2_with (first | ((with_reducible refine gate_dst (N := 3) rfl ?_); refine sqX (N := 3) (cs := #[.int .i64 0, .int .i64 0]) (t := 27) ?_; intro gb109 hg w68 hbox hb; have BK109 := Aside0.mk (hbox); have GW109 := sqG hg; have GE109 := sqG hg; have NB105_109 := sqN BK105 hg; have NB109_105 := sqM BK105 hg; replace BK105 := sqL BK105 hb; replace HB := sqS hb; clear hb hbox hg; have hnb69 := NB109_105.out; have hnc69 := NB105_109.out; obtain ⟨hcz70_0, hcz70_1, hfz70_0, hfz70_1⟩ := sqC2 BK109; obtain ⟨hcz71_0, hcz71_1, hcz71_2, hcz71_3, hcz71_4, hcz71_5, hcz71_6, hcz71_7, hcz71_8, hcz71_9, hfz71_0, hfz71_1, hfz71_2, hfz71_3, hfz71_4, hfz71_5, hfz71_6, hfz71_7, hfz71_8, hfz71_9⟩ := sqC10 BK105) | (go_at_call 69; (with_reducible refine (impl_RoleOk.calls a0_4 a0_5 true _ A56.out).mono ?_); rintro e w72 ⟨rfl, hb⟩; replace BK105 := sqLW (o' := .cells #[.int .i64 a0_0, .int .i64 a0_1, .int .i64 a0_2, .int .i64 a0_3, .int .i64 a0_4, .int .i64 a0_5, .int .i64 a0_6, .int .i64 a0_7, .int .i64 a0_8, .int .i64 a0_9] 29 (0, 0)) BK105 hb; replace BK109 := sqLW (o' := .cells #[.int .i64 0, .int .i64 0] 27 (0, 0)) BK109 hb; replace HB := sqS hb; (try clear hb); (try clear hb2); (try clear hk); (try clear hi); obtain ⟨hcz73_0, hcz73_1, hcz73_2, hcz73_3, hcz73_4, hcz73_5, hcz73_6, hcz73_7, hcz73_8, hcz73_9, hfz73_0, hfz73_1, hfz73_2, hfz73_3, hfz73_4, hfz73_5, hfz73_6, hfz73_7, hfz73_8, hfz73_9⟩ := sqC10 BK105) | (go_at_call 69; (with_reducible refine (impl_RoleOk.calls a0_6 a0_7 false _ A58.out).mono ?_); rintro e w74 ⟨rfl, hb⟩; replace BK105 := sqL BK105 hb; replace BK109 := sqL BK109 hb; replace HB := sqS hb; (try clear hb); (try clear hb2); (try clear hk); (try clear hi)))
          go_ret
          exact ⟨sqE, sqB⟩
        ·replace c57 := Bool.eq_false_iff.mpr c57
         subst c57
         rw [if_neg (show ¬ (false = true) by decide)] at H
         obtain rfl := Option.some.inj H
         go_wp2_with (first | ((with_reducible refine gate_dst (N := 3) rfl ?_); refine sqX (N := 3) (cs := #[.int .i64 0, .int .i64 0]) (t := 27) ?_; intro gb109 hg w75 hbox hb; have BK109 := Aside0.mk (hbox); have GW109 := sqG hg; have GE109 := sqG hg; have NB105_109 := sqN BK105 hg; have NB109_105 := sqM BK105 hg; replace BK105 := sqL BK105 hb; replace HB := sqS hb; clear hb hbox hg; have hnb76 := NB109_105.out; have hnc76 := NB105_109.out; obtain ⟨hcz77_0, hcz77_1, hfz77_0, hfz77_1⟩ := sqC2 BK109; obtain ⟨hcz78_0, hcz78_1, hcz78_2, hcz78_3, hcz78_4, hcz78_5, hcz78_6, hcz78_7, hcz78_8, hcz78_9, hfz78_0, hfz78_1, hfz78_2, hfz78_3, hfz78_4, hfz78_5, hfz78_6, hfz78_7, hfz78_8, hfz78_9⟩ := sqC10 BK105) | (go_at_call 69; (with_reducible refine (impl_RoleOk.calls a0_4 a0_5 false _ A56.out).mono ?_); rintro e w79 ⟨rfl, hb⟩; replace BK105 := sqLW (o' := .cells #[.int .i64 a0_0, .int .i64 a0_1, .int .i64 a0_2, .int .i64 a0_3, .int .i64 a0_4, .int .i64 a0_5, .int .i64 a0_6, .int .i64 a0_7, .int .i64 a0_8, .int .i64 a0_9] 29 (0, 0)) BK105 hb; replace BK109 := sqLW (o' := .cells #[.int .i64 0, .int .i64 0] 27 (0, 0)) BK109 hb; replace HB := sqS hb; (try clear hb); (try clear hb2); (try clear hk); (try clear hi)))
         go_ret
         exact ⟨sqE, sqB⟩
       ·rw [if_neg c55] at H
        have c55b0 : (a0_3 == 0) = false := beq_eq_false_iff_ne.mpr c55
        have c55b1 : (a0_3 != 0) = true := bne_iff_ne.mpr c55
        obtain rfl := Option.some.inj H
        go_wp2_with (first | ((with_reducible refine gate_dst (N := 3) rfl ?_); refine sqX (N := 3) (cs := #[.int .i64 0, .int .i64 0]) (t := 27) ?_; intro gb109 hg w80 hbox hb; have BK109 := Aside0.mk (hbox); have GW109 := sqG hg; have GE109 := sqG hg; have NB105_109 := sqN BK105 hg; have NB109_105 := sqM BK105 hg; replace BK105 := sqL BK105 hb; replace HB := sqS hb; clear hb hbox hg; have hnb81 := NB109_105.out; have hnc81 := NB105_109.out; obtain ⟨hcz82_0, hcz82_1, hfz82_0, hfz82_1⟩ := sqC2 BK109; obtain ⟨hcz83_0, hcz83_1, hcz83_2, hcz83_3, hcz83_4, hcz83_5, hcz83_6, hcz83_7, hcz83_8, hcz83_9, hfz83_0, hfz83_1, hfz83_2, hfz83_3, hfz83_4, hfz83_5, hfz83_6, hfz83_7, hfz83_8, hfz83_9⟩ := sqC10 BK105))
        go_ret
        exact ⟨sqE, sqB⟩
      ·rw [if_neg c54] at H
       have c54b0 : (a0_0 == 3) = false := beq_eq_false_iff_ne.mpr c54
       have c54b1 : (a0_0 != 3) = true := bne_iff_ne.mpr c54
       by_cases c84 : a0_0 = 4
       ·rw [if_pos c84] at H
        have c84b0 : (a0_0 == 4) = true := beq_iff_eq.mpr c84
        have c84b1 : (a0_0 != 4) = false := bne_eq_false_iff_eq.mpr c84
        clear c84
        by_cases c85 : a0_3 = 0
        ·rw [if_pos c85] at H
         have c85b0 : (a0_3 == 0) = true := beq_iff_eq.mpr c85
         have c85b1 : (a0_3 != 0) = false := bne_eq_false_iff_eq.mpr c85
         clear c85
         replace H := Option.bind_eq_some_iff.mp H
         obtain ⟨t114, A860, H⟩ := H
         try dsimp only at H
         have A86 := Aside0.mk A860
         clear A860
         by_cases c87 : t114 = true
         ·subst c87
          rw [if_pos rfl] at H
          replace H := Option.bind_eq_some_iff.mp H
          obtain ⟨t115, A880, H⟩ := H
          try dsimp only at H
          have A88 := Aside0.mk A880
          clear A880
          obtain rfl := Option.some.inj H
          go_wp2_with (first | ((with_reducible refine gate_dst (N := 3) rfl ?_); refine sqX (N := 3) (cs := #[.int .i64 0, .int .i64 0]) (t := 27) ?_; intro gb109 hg w89 hbox hb; have BK109 := Aside0.mk (hbox); have GW109 := sqG hg; have GE109 := sqG hg; have NB105_109 := sqN BK105 hg; have NB109_105 := sqM BK105 hg; replace BK105 := sqL BK105 hb; replace HB := sqS hb; clear hb hbox hg; have hnb90 := NB109_105.out; have hnc90 := NB105_109.out; obtain ⟨hcz91_0, hcz91_1, hfz91_0, hfz91_1⟩ := sqC2 BK109; obtain ⟨hcz92_0, hcz92_1, hcz92_2, hcz92_3, hcz92_4, hcz92_5, hcz92_6, hcz92_7, hcz92_8, hcz92_9, hfz92_0, hfz92_1, hfz92_2, hfz92_3, hfz92_4, hfz92_5, hfz92_6, hfz92_7, hfz92_8, hfz92_9⟩ := sqC10 BK105) | (go_at_call 69; (with_reducible refine (impl_RoleOk.calls a0_4 a0_5 true _ A86.out).mono ?_); rintro e w93 ⟨rfl, hb⟩; replace BK105 := sqLW (o' := .cells #[.int .i64 a0_0, .int .i64 a0_1, .int .i64 a0_2, .int .i64 a0_3, .int .i64 a0_4, .int .i64 a0_5, .int .i64 a0_6, .int .i64 a0_7, .int .i64 a0_8, .int .i64 a0_9] 29 (0, 0)) BK105 hb; replace BK109 := sqLW (o' := .cells #[.int .i64 0, .int .i64 0] 27 (0, 0)) BK109 hb; replace HB := sqS hb; (try clear hb); (try clear hb2); (try clear hk); (try clear hi); obtain ⟨hcz94_0, hcz94_1, hcz94_2, hcz94_3, hcz94_4, hcz94_5, hcz94_6, hcz94_7, hcz94_8, hcz94_9, hfz94_0, hfz94_1, hfz94_2, hfz94_3, hfz94_4, hfz94_5, hfz94_6, hfz94_7, hfz94_8, hfz94_9⟩ := sqC10 BK105) | (go_at_call 69; (with_reducible refine (impl_RoleOk.calls a0_6 a0_7 t115 _ A88.out).mono ?_); rintro e w95 ⟨rfl, hb⟩; replace BK105 := sqL BK105 hb; replace BK109 := sqL BK109 hb; replace HB := sqS hb; (try clear hb); (try clear hb2); (try clear hk); (try clear hi)))
          go_ret
          exact ⟨sqE, sqB⟩
         ·replace c87 := Bool.eq_false_iff.mpr c87
          subst c87
          rw [if_neg (show ¬ (false = true) by decide)] at H
          obtain rfl := Option.some.inj H
          go_wp2_with (first | ((with_reducible refine gate_dst (N := 3) rfl ?_); refine sqX (N := 3) (cs := #[.int .i64 0, .int .i64 0]) (t := 27) ?_; intro gb109 hg w96 hbox hb; have BK109 := Aside0.mk (hbox); have GW109 := sqG hg; have GE109 := sqG hg; have NB105_109 := sqN BK105 hg; have NB109_105 := sqM BK105 hg; replace BK105 := sqL BK105 hb; replace HB := sqS hb; clear hb hbox hg; have hnb97 := NB109_105.out; have hnc97 := NB105_109.out; obtain ⟨hcz98_0, hcz98_1, hfz98_0, hfz98_1⟩ := sqC2 BK109; obtain ⟨hcz99_0, hcz99_1, hcz99_2, hcz99_3, hcz99_4, hcz99_5, hcz99_6, hcz99_7, hcz99_8, hcz99_9, hfz99_0, hfz99_1, hfz99_2, hfz99_3, hfz99_4, hfz99_5, hfz99_6, hfz99_7, hfz99_8, hfz99_9⟩ := sqC10 BK105) | (go_at_call 69; (with_reducible refine (impl_RoleOk.calls a0_4 a0_5 false _ A86.out).mono ?_); rintro e w100 ⟨rfl, hb⟩; replace BK105 := sqLW (o' := .cells #[.int .i64 a0_0, .int .i64 a0_1, .int .i64 a0_2, .int .i64 a0_3, .int .i64 a0_4, .int .i64 a0_5, .int .i64 a0_6, .int .i64 a0_7, .int .i64 a0_8, .int .i64 a0_9] 29 (0, 0)) BK105 hb; replace BK109 := sqLW (o' := .cells #[.int .i64 0, .int .i64 0] 27 (0, 0)) BK109 hb; replace HB := sqS hb; (try clear hb); (try clear hb2); (try clear hk); (try clear hi)))
          go_ret
          exact ⟨sqE, sqB⟩
        ·rw [if_neg c85] at H
         have c85b0 : (a0_3 == 0) = false := beq_eq_false_iff_ne.mpr c85
         have c85b1 : (a0_3 != 0) = true := bne_iff_ne.mpr c85
         obtain rfl := Option.some.inj H
         go_wp2_with (first | ((with_reducible refine gate_dst (N := 3) rfl ?_); refine sqX (N := 3) (cs := #[.int .i64 0, .int .i64 0]) (t := 27) ?_; intro gb109 hg w101 hbox hb; have BK109 := Aside0.mk (hbox); have GW109 := sqG hg; have GE109 := sqG hg; have NB105_109 := sqN BK105 hg; have NB109_105 := sqM BK105 hg; replace BK105 := sqL BK105 hb; replace HB := sqS hb; clear hb hbox hg; have hnb102 := NB109_105.out; have hnc102 := NB105_109.out; obtain ⟨hcz103_0, hcz103_1, hfz103_0, hfz103_1⟩ := sqC2 BK109; obtain ⟨hcz104_0, hcz104_1, hcz104_2, hcz104_3, hcz104_4, hcz104_5, hcz104_6, hcz104_7, hcz104_8, hcz104_9, hfz104_0, hfz104_1, hfz104_2, hfz104_3, hfz104_4, hfz104_5, hfz104_6, hfz104_7, hfz104_8, hfz104_9⟩ := sqC10 BK105))
         go_ret
         exact ⟨sqE, sqB⟩
       ·rw [if_neg c84] at H
        have c84b0 : (a0_0 == 4) = false := beq_eq_false_iff_ne.mpr c84
        have c84b1 : (a0_0 != 4) = true := bne_iff_ne.mpr c84
        obtain rfl := Option.some.inj H
        go_wp2_with (first | ((with_reducible refine gate_dst (N := 3) rfl ?_); refine sqX (N := 3) (cs := #[.int .i64 0, .int .i64 0]) (t := 27) ?_; intro gb109 hg w105 hbox hb; have BK109 := Aside0.mk (hbox); have GW109 := sqG hg; have GE109 := sqG hg; have NB105_109 := sqN BK105 hg; have NB109_105 := sqM BK105 hg; replace BK105 := sqL BK105 hb; replace HB := sqS hb; clear hb hbox hg; have hnb106 := NB109_105.out; have hnc106 := NB105_109.out; obtain ⟨hcz107_0, hcz107_1, hfz107_0, hfz107_1⟩ := sqC2 BK109; obtain ⟨hcz108_0, hcz108_1, hcz108_2, hcz108_3, hcz108_4, hcz108_5, hcz108_6, hcz108_7, hcz108_8, hcz108_9, hfz108_0, hfz108_1, hfz108_2, hfz108_3, hfz108_4, hfz108_5, hfz108_6, hfz108_7, hfz108_8, hfz108_9⟩ := sqC10 BK105))
        go_ret
        exact ⟨sqE, sqB⟩

/-! ### impl_factOk: function 82 -/
def impl_factOk.f (a0_0 : Int) (a0_1 : Int) (a0_2 : Int) : Option (Bool) := (impl_RoleOk.f a0_0 a0_1).bind fun t117 => (if t117 = true then ((impl_isPerson.f a0_2).bind fun t118 => (some t118)) else (some false))
set_option maxHeartbeats 8000000 in
set_option maxRecDepth 100000 in
theorem impl_factOk.calls (a0_0 : Int) (a0_1 : Int) (a0_2 : Int) (r : Bool) (w : World) (h : impl_factOk.f a0_0 a0_1 a0_2 = some r) :
  Calls Try.prog 82 #[.agg #[.int .i64 a0_0, .int .i64 a0_1, .int .i64 a0_2]] w fun e w' => e = .returned (.bool r) ∧ Below w.heap.size w w' := by
 have hu36 := Try.underlying36
 have hu27 := Try.underlying27
 have HB := Aside0.mk (Below.refl w.heap.size w)
 have H : ((impl_RoleOk.f a0_0 a0_1).bind fun t117 => (if t117 = true then ((impl_isPerson.f a0_2).bind fun t118 => (some t118)) else (some false))) = some r := h
 clear h
 replace H := Option.bind_eq_some_iff.mp H
 obtain ⟨t117, A20, H⟩ := H
 try dsimp only at H
 have A2 := Aside0.mk A20
 clear A20
 by_cases c3 : t117 = true
 ·subst c3
  rw [if_pos rfl] at H
  replace H := Option.bind_eq_some_iff.mp H
  obtain ⟨t118, A40, H⟩ := H
  try dsimp only at H
  have A4 := Aside0.mk A40
  clear A40
  obtain rfl := Option.some.inj H
  go_enter Try.func82, Try.ntmps82
  go_wp2_with (first | ((with_reducible refine gate_dst (N := 1) rfl ?_); refine sqX (N := 1) (cs := #[.int .i64 a0_0, .int .i64 a0_1, .int .i64 a0_2]) (t := 36) ?_; intro gb116 hg w5 hbox hb; have BK116 := Aside0.mk (hbox); have GW116 := sqG hg; have GE116 := sqG hg; replace HB := sqS hb; clear hb hbox hg; obtain ⟨hcz6_0, hcz6_1, hcz6_2, hfz6_0, hfz6_1, hfz6_2⟩ := sqC3 BK116) | ((with_reducible refine gate_callee (f := 69) rfl ?_); refine goesL_ (some 5) rfl rfl Try.func69 (by kernel_rfl) rfl #[.agg #[.int .i64 a0_0, .int .i64 a0_1]] rfl sqA ?_; (with_reducible refine (impl_RoleOk.calls a0_0 a0_1 true _ A2.out).mono ?_); rintro e w7 ⟨rfl, hb⟩; refine ⟨_, rfl, ?_⟩; replace BK116 := sqL BK116 hb; replace HB := sqS hb; (try clear hb); (try clear hb2); (try clear hk); (try clear hi); obtain ⟨hcz8_0, hcz8_1, hcz8_2, hfz8_0, hfz8_1, hfz8_2⟩ := sqC3 BK116) | (go_at_call 71; (with_reducible refine (impl_isPerson.calls a0_2 t118 _ A4.out).mono ?_); rintro e w' ⟨rfl, ⟨nd, rfl⟩⟩))
  go_ret
  exact ⟨sqE, sqB⟩
 ·replace c3 := Bool.eq_false_iff.mpr c3
  subst c3
  rw [if_neg (show ¬ (false = true) by decide)] at H
  obtain rfl := Option.some.inj H
  go_enter Try.func82, Try.ntmps82
  go_wp2_with (first | ((with_reducible refine gate_dst (N := 1) rfl ?_); refine sqX (N := 1) (cs := #[.int .i64 a0_0, .int .i64 a0_1, .int .i64 a0_2]) (t := 36) ?_; intro gb116 hg w9 hbox hb; have BK116 := Aside0.mk (hbox); have GW116 := sqG hg; have GE116 := sqG hg; replace HB := sqS hb; clear hb hbox hg; obtain ⟨hcz10_0, hcz10_1, hcz10_2, hfz10_0, hfz10_1, hfz10_2⟩ := sqC3 BK116) | ((with_reducible refine gate_callee (f := 69) rfl ?_); refine goesL_ (some 5) rfl rfl Try.func69 (by kernel_rfl) rfl #[.agg #[.int .i64 a0_0, .int .i64 a0_1]] rfl sqA ?_; (with_reducible refine (impl_RoleOk.calls a0_0 a0_1 false _ A2.out).mono ?_); rintro e w11 ⟨rfl, hb⟩; refine ⟨_, rfl, ?_⟩; replace BK116 := sqL BK116 hb; replace HB := sqS hb; (try clear hb); (try clear hb2); (try clear hk); (try clear hi)))
  go_ret
  exact ⟨sqE, sqB⟩

/-! ### impl_whoOf: function 73 -/
def impl_whoOf.l0 : Nat → List Int → List (S36) → Int → Int → Int → Int → Option (List Int)
 | 0, _, _, _, _, _, _ => none
 | k + 1, x5, x9, x10, x11, x120000, x120001 => if x11 < x10 then (if 0 ≤ x11 then (if x11 < (x9.length : Int) then (if (((rd_T36 x9 x11).f0.f0) == x120000 && (((rd_T36 x9 x11).f0.f1) == x120001)) = true then ((impl_factOk.f ((rd_T36 x9 x11).f0.f0) ((rd_T36 x9 x11).f0.f1) ((rd_T36 x9 x11).f1)).bind fun t125 => (if t125 = true then (if x5.length < 17592186044416 then (impl_whoOf.l0 k (x5 ++ [x11]) x9 x10 (wrap64 (x11 + 1)) x120000 x120001) else (none)) else (impl_whoOf.l0 k x5 x9 x10 (wrap64 (x11 + 1)) x120000 x120001))) else (impl_whoOf.l0 k x5 x9 x10 (wrap64 (x11 + 1)) x120000 x120001)) else (none)) else (none)) else (some x5)
def impl_whoOf.f (k : Nat) (l0 : List (S36)) (a1_0 : Int) (a1_1 : Int) : Option (List Int) := impl_whoOf.l0 k (([] : List Int)) l0 (l0.length : Int) 0 a1_0 a1_1
theorem impl_whoOf.mono_l : ∀ k, (∀ y0 y1 y2 y3 y4 y5, LeO (impl_whoOf.l0 k y0 y1 y2 y3 y4 y5) (impl_whoOf.l0 (k + 1) y0 y1 y2 y3 y4 y5))
 | 0 => fun _ _ _ _ _ _ r h => by simp [impl_whoOf.l0] at h
 | k + 1 => by
  have ih0 := impl_whoOf.mono_l k
  ·intro y0 y1 y2 y3 y4 y5
   unfold impl_whoOf.l0
   repeat' first
   | (with_reducible exact ih0 _ _ _ _ _ _)
   | (with_reducible exact LeO.refl _)
   | (with_reducible exact LeO.none _)
   | (with_reducible refine LeO.ite ?_ ?_)
   | (with_reducible refine LeO.bind ?_ (fun _ => ?_))
   | exact ih0 _ _ _ _ _ _
   | exact LeO.none _
   | refine LeO.ite ?_ ?_
   | refine LeO.bind ?_ (fun _ => ?_)
theorem impl_whoOf.mono : ∀ a0 a1 a2 k, LeO (impl_whoOf.f k a0 a1 a2) (impl_whoOf.f (k + 1) a0 a1 a2) := by
 intro a0 a1 a2 k
 have ih0 := impl_whoOf.mono_l k
 unfold impl_whoOf.f
 repeat' first
   | (with_reducible exact ih0 _ _ _ _ _ _)
   | (with_reducible exact LeO.refl _)
   | (with_reducible exact LeO.none _)
   | (with_reducible refine LeO.ite ?_ ?_)
   | (with_reducible refine LeO.bind ?_ (fun _ => ?_))
   | exact ih0 _ _ _ _ _ _
   | exact LeO.none _
   | refine LeO.ite ?_ ?_
   | refine LeO.bind ?_ (fun _ => ?_)
set_option maxHeartbeats 8000000 in
set_option maxRecDepth 100000 in
theorem impl_whoOf.calls (k : Nat) (A0 : Option Addr) (c0 : Nat) (l0 : List (S36)) (a1_0 : Int) (a1_1 : Int) (r : List Int) (w : World) (hr0 : Kd.C k36 w A0 l0.length l0) (hc0 : l0.length ≤ c0) (h : impl_whoOf.f k l0 a1_0 a1_1 = some r) :
  Calls Try.prog 73 #[.slice A0 l0.length c0, .agg #[.int .i64 a1_0, .int .i64 a1_1]] w fun e w' => ∃ v0_ : Value, e = .returned (v0_) ∧ Kd.R (Kd.int .i64) 3 w' w.heap.size (fun _ => True) v0_ r ∧ Below w.heap.size w w' := by
 have hu27 := Try.underlying27
 have hu36 := Try.underlying36
 have HR0 := Aside0.mk hr0
 have HC0 := Aside0.mk hc0
 clear hr0 hc0
 have HB := Aside0.mk (Below.refl w.heap.size w)
 have H : (impl_whoOf.l0 k (([] : List Int)) l0 (l0.length : Int) 0 a1_0 a1_1) = some r := h
 clear h
 obtain ⟨y120, hy120⟩ : ∃ y_ : List Int, y_ = (([] : List Int)) := ⟨_, rfl⟩
 replace H : (impl_whoOf.l0 k y120 l0 (l0.length : Int) 0 a1_0 a1_1) = some r := by first | (rw [hy120]; with_reducible exact H) | (have H2_ := (Option.bind_some _ _).symm.trans H; rw [hy120]; with_reducible exact H2_) | (have H2_ := (Option.bind_some _ _).symm.trans H; with_reducible exact H2_) | with_reducible exact H | (rw [hy120]; exact H) | exact H
 have Ny120 := Aside0.mk hy120
 clear hy120
 have H' := Aside0.mk H
 clear H
 go_enter Try.func73, Try.ntmps73
 go_wp2_with (first | ((with_reducible refine gate_dst (N := 3) rfl ?_); refine sqX (N := 3) (cs := #[.int .i64 a1_0, .int .i64 a1_1]) (t := 27) ?_; intro gb119 hg w3 hbox hb; have BK119 := Aside0.mk (hbox); have GW119 := sqG hg; have GE119 := sqG hg; replace HB := sqS hb; clear hb hbox hg) | ((with_reducible refine gate_dst (N := 8) rfl ?_); refine Kd.R_lit (Kd.int .i64) _ 3 ?hg (N := 8) ?hd (xs := ([] : List Int)) (inner := []) (ok := fun _ => True) (okp := fun _ => True) ?hr ?hp (fun _ hk => hk) trivial (Below.refl _ _) (Nat.le_refl _) (by simp) ?_; (case hd => rfl); (case hg => rfl); (case hr => first | (go_simp; done) | (go_simp; rfl)); (case hp => exact (Reps.none _ _)); intro v121 w4 ho5 hb hg_ hnew_; clear hg_ hnew_; (first | rw [← Ny120.out] at ho5 | (simp only [Int.reduceToNat] at ho5; rw [← Ny120.out] at ho5)); have HO122 := Aside0.mk (Kd.R_lower ho5 (below_size (sqB))); replace BK119 := sqL BK119 hb; replace HB := sqS hb; clear hb ho5))
 go_loopg [5, 11] k (fun kq v5 v11 w' => ∃ (x5_1 : List Int) (x11_1 : Int), v11 = .int .i64 x11_1 ∧ Aside0 (impl_whoOf.l0 kq x5_1 l0 (l0.length : Int) x11_1 a1_0 a1_1 = some r) ∧ Aside0 (kq ≤ k) ∧ Aside0 (Kd.R (Kd.int .i64) 3 w' w.heap.size (fun _ => True) v5 x5_1) ∧ Aside0 (w'.heap[gb119]? = some (.cells #[.int .i64 a1_0, .int .i64 a1_1] 27 (0, 0))) ∧ Aside0 (Below w.heap.size w w'))
 case atStart => exact ⟨(y120), (0), (by first | rfl | (simp; done) | (simp [*]; done)), H', ⟨Nat.le_refl _⟩, ⟨sqR HO122⟩, ⟨sqK BK119⟩, ⟨sqB⟩⟩
 case round =>
  clear H'
  try clear p2
  obtain ⟨x5_1, x11_1, rfl, HA, HK1, HO_5, BK119, HB⟩ := hrel
  cases gk with
  | zero => exact absurd HA.out (by simp [impl_whoOf.l0])
  | succ k1 =>
   have H := HA.out
   clear HA
   simp only [impl_whoOf.l0] at H
   by_cases c6 : x11_1 < (l0.length : Int)
   ·rw [if_pos c6] at H
    have c6b0 : decide (x11_1 < (l0.length : Int)) = true := decide_eq_true c6
    clear c6
    by_cases c7 : 0 ≤ x11_1
    ·rw [if_pos c7] at H
     have c7b0 : decide (0 ≤ x11_1) = true := decide_eq_true c7
     clear c7
     by_cases c8 : x11_1 < (l0.length : Int)
     ·rw [if_pos c8] at H
      have c8b0 : decide (x11_1 < (l0.length : Int)) = true := decide_eq_true c8
      clear c8
      by_cases c9 : (((rd_T36 l0 x11_1).f0.f0) == a1_0 && (((rd_T36 l0 x11_1).f0.f1) == a1_1)) = true
      ·rw [if_pos c9] at H
       have c9b0 : (((rd_T36 l0 x11_1).f0.f0) == a1_0 && (((rd_T36 l0 x11_1).f0.f1) == a1_1)) = true := c9
       (try (have c9b1 : decide (((rd_T36 l0 x11_1).f0.f0) = a1_0 && (((rd_T36 l0 x11_1).f0.f1) == a1_1)) = true := by simpa using c9))
       (try (have c9b2 : (((rd_T36 l0 x11_1).f0.f0) == a1_0 && (((rd_T36 l0 x11_1).f0.f1) == a1_1)) = true := by simpa using c9))
       clear c9
       replace H := Option.bind_eq_some_iff.mp H
       obtain ⟨t125, A100, H⟩ := H
       try dsimp only at H
       have A10 := Aside0.mk A100
       clear A100
       by_cases c11 : t125 = true
       ·subst c11
        rw [if_pos rfl] at H
        by_cases c12 : x5_1.length < 17592186044416
        ·rw [if_pos c12] at H
         have LMc12 := Aside0.mk c12
         clear c12
         obtain ⟨y126, hy126⟩ : ∃ y_ : List Int, y_ = (x5_1 ++ [x11_1]) := ⟨_, rfl⟩
         replace H : (impl_whoOf.l0 k1 y126 l0 (l0.length : Int) (wrap64 (x11_1 + 1)) a1_0 a1_1) = some r := by first | (rw [hy126]; with_reducible exact H) | (have H2_ := (Option.bind_some _ _).symm.trans H; rw [hy126]; with_reducible exact H2_) | (have H2_ := (Option.bind_some _ _).symm.trans H; with_reducible exact H2_) | with_reducible exact H | (rw [hy126]; exact H) | exact H
         have Ny126 := Aside0.mk hy126
         clear hy126
         have H' := Aside0.mk H
         clear H
         have p123 : 0 ≤ (x11_1 : Int) := sqD
         have q123 : x11_1 < (l0.length : Int) := sqD
         obtain ⟨ad123, e123, hx123_0, hx123_1, hx123_2⟩ := at_T36 HR0.out x11_1 p123 q123
         cases e123
         replace hx123_0 := sqH HB hx123_0
         replace hx123_1 := sqH HB hx123_1
         replace hx123_2 := sqH HB hx123_2
         replace p123 := eq_true p123
         replace q123 := eq_true q123
         go_wp2_with (first | ((with_reducible refine gate_dst (N := 7) rfl ?_); refine sqX (N := 7) (cs := #[.int .i64 0, .int .i64 0, .int .i64 0]) (t := 36) ?_; intro gb124 hg w13 hbox hb; replace HO_5 := Aside0.mk (Kd.R_below (sqR HO_5) hb); have BK124 := Aside0.mk (hbox); have GW124 := sqG hg; have GE124 := sqG hg; have NB119_124 := sqN BK119 hg; have NB124_119 := sqM BK119 hg; replace BK119 := sqL BK119 hb; replace HB := sqS hb; clear hb hbox hg; have hnb14 := NB124_119.out; have hnc14 := NB119_124.out; obtain ⟨hcz15_0, hcz15_1, hcz15_2, hfz15_0, hfz15_1, hfz15_2⟩ := sqC3 BK124; obtain ⟨hcz16_0, hcz16_1, hfz16_0, hfz16_1⟩ := sqC2 BK119) | (go_at_call 82; (with_reducible refine (impl_factOk.calls ((rd_T36 l0 x11_1).f0.f0) ((rd_T36 l0 x11_1).f0.f1) ((rd_T36 l0 x11_1).f1) true _ A10.out).mono ?_); rintro e w17 ⟨rfl, hb⟩; replace HO_5 := Aside0.mk (Kd.R_below (by (with_reducible repeat (first | apply Kd.R_alloc | apply Kd.R_drewN | apply Kd.R_drew)); exact (Kd.R_mono (Kd.R_far (p := ⟨gb124, 2, none⟩) (Kd.R_far (p := ⟨gb124, 1, none⟩) (Kd.R_far (p := ⟨gb124, 0, none⟩) (Kd.R_types HO_5.out BK124.out (by decide)) (fun _ hk => hk.2) (.int .i64 ((rd_T36 l0 x11_1).f0.f0))) (fun _ hk => hk.2) (.int .i64 ((rd_T36 l0 x11_1).f0.f1))) (fun _ hk => hk.2) (.int .i64 ((rd_T36 l0 x11_1).f1))) (fun _ h_ => h_.1))) hb); replace BK119 := sqLW (o' := .cells #[.int .i64 a1_0, .int .i64 a1_1] 27 (0, 0)) BK119 hb; replace BK124 := sqLW (o' := .cells #[.int .i64 ((rd_T36 l0 x11_1).f0.f0), .int .i64 ((rd_T36 l0 x11_1).f0.f1), .int .i64 ((rd_T36 l0 x11_1).f1)] 36 (0, 0)) BK124 hb; replace HB := sqS hb; (try clear hb); (try clear hb2); (try clear hk); (try clear hi)) | ((with_reducible refine gate_builtin (b := .append) (xs := #[.tmp 24, .tmp 26]) rfl ?_); at_builtin; refine Kd.R_append (Kd.int .i64) (w0 := w) w.heap.size rfl (.tmp 24) (.tmp 26) 40 3 (.int .i64 0) 8 rfl Try.underlying40 info3 rfl (by decide) (by omega) u5 x5_1 x11_1 [.int .i64 x11_1] (fun _ => True) (fun _ => False) rfl rfl ?aP (fun _ hk => hk.elim) ?aF ?aO ?aB ?aS ?aL ?_; (case aP => exact rfl); (case aB => exact (sqB)); (case aF => exact (fun _ _ => trivial)); (case aO => exact (sqR HO_5)); (case aS => exact (below_size (sqB))); (case aL => have := LMc12.out; omega); intro v127 w18 ho hb hg hat; rw [← Ny126.out] at ho; have n0_ := Aside0.mk (blk_grown (g := gb119) (o := .cells #[.int .i64 a1_0, .int .i64 a1_1] 27 (0, 0)) (sqK BK119) hg (Kd.R_ne HO_5.out BK119.out (by decide))); have n1_ := Aside0.mk (blk_grown (g := gb124) (o := .cells #[.int .i64 ((rd_T36 l0 x11_1).f0.f0), .int .i64 ((rd_T36 l0 x11_1).f0.f1), .int .i64 ((rd_T36 l0 x11_1).f1)] 36 (0, 0)) (sqK BK124) hg (Kd.R_ne HO_5.out BK124.out (by decide))); have n2_ := Aside0.mk (hb); have n3_ := Aside0.mk (ho); clear BK119; clear BK124; clear HB; clear HO_5; have BK119 := n0_; have BK124 := n1_; have HB := n2_; have HO128 := n3_; clear n0_ n1_ n2_ n3_; clear ho hb hg hat))
         go_roundg k1
         case measure => have := HK1.out; omega
         case rel => exact ⟨(y126), (wrap64 (x11_1 + 1)), (by first | rfl | (simp; done) | (simp [*]; done)), H', ⟨by have := HK1.out; omega⟩, ⟨sqR HO128⟩, ⟨sqK BK119⟩, ⟨sqB⟩⟩
        ·rw [if_neg c12] at H
         exact absurd H (by simp)
       ·replace c11 := Bool.eq_false_iff.mpr c11
        subst c11
        rw [if_neg (show ¬ (false = true) by decide)] at H
        have H' := Aside0.mk H
        clear H
        have p123 : 0 ≤ (x11_1 : Int) := sqD
        have q123 : x11_1 < (l0.length : Int) := sqD
        obtain ⟨ad123, e123, hx123_0, hx123_1, hx123_2⟩ := at_T36 HR0.out x11_1 p123 q123
        cases e123
        replace hx123_0 := sqH HB hx123_0
        replace hx123_1 := sqH HB hx123_1
        replace hx123_2 := sqH HB hx123_2
        replace p123 := eq_true p123
        replace q123 := eq_true q123
        go_wp2_with (first | ((with_reducible refine gate_dst (N := 7) rfl ?_); refine sqX (N := 7) (cs := #[.int .i64 0, .int .i64 0, .int .i64 0]) (t := 36) ?_; intro gb124 hg w19 hbox hb; replace HO_5 := Aside0.mk (Kd.R_below (sqR HO_5) hb); have BK124 := Aside0.mk (hbox); have GW124 := sqG hg; have GE124 := sqG hg; have NB119_124 := sqN BK119 hg; have NB124_119 := sqM BK119 hg; replace BK119 := sqL BK119 hb; replace HB := sqS hb; clear hb hbox hg; have hnb20 := NB124_119.out; have hnc20 := NB119_124.out; obtain ⟨hcz21_0, hcz21_1, hcz21_2, hfz21_0, hfz21_1, hfz21_2⟩ := sqC3 BK124; obtain ⟨hcz22_0, hcz22_1, hfz22_0, hfz22_1⟩ := sqC2 BK119) | (go_at_call 82; (with_reducible refine (impl_factOk.calls ((rd_T36 l0 x11_1).f0.f0) ((rd_T36 l0 x11_1).f0.f1) ((rd_T36 l0 x11_1).f1) false _ A10.out).mono ?_); rintro e w23 ⟨rfl, hb⟩; replace HO_5 := Aside0.mk (Kd.R_below (by (with_reducible repeat (first | apply Kd.R_alloc | apply Kd.R_drewN | apply Kd.R_drew)); exact (Kd.R_mono (Kd.R_far (p := ⟨gb124, 2, none⟩) (Kd.R_far (p := ⟨gb124, 1, none⟩) (Kd.R_far (p := ⟨gb124, 0, none⟩) (Kd.R_types HO_5.out BK124.out (by decide)) (fun _ hk => hk.2) (.int .i64 ((rd_T36 l0 x11_1).f0.f0))) (fun _ hk => hk.2) (.int .i64 ((rd_T36 l0 x11_1).f0.f1))) (fun _ hk => hk.2) (.int .i64 ((rd_T36 l0 x11_1).f1))) (fun _ h_ => h_.1))) hb); replace BK119 := sqLW (o' := .cells #[.int .i64 a1_0, .int .i64 a1_1] 27 (0, 0)) BK119 hb; replace BK124 := sqLW (o' := .cells #[.int .i64 ((rd_T36 l0 x11_1).f0.f0), .int .i64 ((rd_T36 l0 x11_1).f0.f1), .int .i64 ((rd_T36 l0 x11_1).f1)] 36 (0, 0)) BK124 hb; replace HB := sqS hb; (try clear hb); (try clear hb2); (try clear hk); (try clear hi)))
        go_roundg k1
        case measure => have := HK1.out; omega
        case rel => exact ⟨(x5_1), (wrap64 (x11_1 + 1)), (by first | rfl | (simp; done) | (simp [*]; done)), H', ⟨by have := HK1.out; omega⟩, ⟨sqR HO_5⟩, ⟨sqK BK119⟩, ⟨sqB⟩⟩
      ·rw [if_neg c9] at H
       have c9b0 : (((rd_T36 l0 x11_1).f0.f0) == a1_0 && (((rd_T36 l0 x11_1).f0.f1) == a1_1)) = false := by simpa using c9
       (try (have c9b1 : decide (((rd_T36 l0 x11_1).f0.f0) = a1_0 && (((rd_T36 l0 x11_1).f0.f1) == a1_1)) = false := by simpa using c9))
       (try (have c9b2 : (((rd_T36 l0 x11_1).f0.f0) == a1_0 && (((rd_T36 l0 x11_1).f0.f1) == a1_1)) = false := by simpa using c9))
       (try (have c9b3 : ¬ (((rd_T36 l0 x11_1).f0.f0) = a1_0 && (((rd_T36 l0 x11_1).f0.f1) == a1_1)) := by simpa using c9))
       clear c9
       have H' := Aside0.mk H
       clear H
       have p123 : 0 ≤ (x11_1 : Int) := sqD
       have q123 : x11_1 < (l0.length : Int) := sqD
       obtain ⟨ad123, e123, hx123_0, hx123_1, hx123_2⟩ := at_T36 HR0.out x11_1 p123 q123
       cases e123
       replace hx123_0 := sqH HB hx123_0
       replace hx123_1 := sqH HB hx123_1
       replace hx123_2 := sqH HB hx123_2
       replace p123 := eq_true p123
       replace q123 := eq_true q123
       go_wp2_with (first | ((with_reducible refine gate_dst (N := 7) rfl ?_); refine sqX (N := 7) (cs := #[.int .i64 0, .int .i64 0, .int .i64 0]) (t := 36) ?_; intro gb124 hg w24 hbox hb; replace HO_5 := Aside0.mk (Kd.R_below (sqR HO_5) hb); have BK124 := Aside0.mk (hbox); have GW124 := sqG hg; have GE124 := sqG hg; have NB119_124 := sqN BK119 hg; have NB124_119 := sqM BK119 hg; replace BK119 := sqL BK119 hb; replace HB := sqS hb; clear hb hbox hg; have hnb25 := NB124_119.out; have hnc25 := NB119_124.out; obtain ⟨hcz26_0, hcz26_1, hcz26_2, hfz26_0, hfz26_1, hfz26_2⟩ := sqC3 BK124; obtain ⟨hcz27_0, hcz27_1, hfz27_0, hfz27_1⟩ := sqC2 BK119))
       go_roundg k1
       case measure => have := HK1.out; omega
       case rel => exact ⟨(x5_1), (wrap64 (x11_1 + 1)), (by first | rfl | (simp; done) | (simp [*]; done)), H', ⟨by have := HK1.out; omega⟩, ⟨by (with_reducible repeat (first | apply Kd.R_alloc | apply Kd.R_drewN | apply Kd.R_drew)); exact Kd.R_mono (Kd.R_far (p := ⟨gb124, 2, none⟩) (Kd.R_far (p := ⟨gb124, 1, none⟩) (Kd.R_far (p := ⟨gb124, 0, none⟩) (Kd.R_types HO_5.out BK124.out (by decide)) (fun _ hk => hk.2) (.int .i64 ((rd_T36 l0 x11_1).f0.f0))) (fun _ hk => hk.2) (.int .i64 ((rd_T36 l0 x11_1).f0.f1))) (fun _ hk => hk.2) (.int .i64 ((rd_T36 l0 x11_1).f1))) (fun _ hk => trivial)⟩, ⟨sqW BK119⟩, ⟨sqB⟩⟩
     ·rw [if_neg c8] at H
      exact absurd H (by simp)
    ·rw [if_neg c7] at H
     exact absurd H (by simp)
   ·rw [if_neg c6] at H
    have c6b0 : decide (x11_1 < (l0.length : Int)) = false := decide_eq_false c6
    clear c6
    obtain rfl := Option.some.inj H
    go_wp2
    go_ret
    exact ⟨_, sqE, sqR HO_5, sqB⟩

end Go.Proofs.Ytnebbjcgkoaloaa.PFnMembersTold
