/- What the code that one law of the given program reaches computes, function by function, each with its proof over the given translation.
Conditions: none of our own. (Laid by a program of this session, wip/xp/xp.py; some contracts are typed by hand.) -/
import Derived.Test.YtckjobcagniieaaPFnSignsx0
import Derived.Test.YtckjobcagniieaaPFnSignsx7
namespace Go.Proofs.Ytckjobcagniieaa.PFnSigns
open Go.RowKit Go.Proofs.YtckjobcagniieaaW.PrintWords Go.Proofs.YtckjobcagniieaaW.PrintLast Go.Proofs.YtckjobcagniieaaW.PrintMore
attribute [local go_sem] max2_int min2_int max_two min_two max_three min_three max_four min_four   -- for this text's walks alone
set_option linter.unusedVariables false
set_option linter.unusedSimpArgs false

/-! ### spec_SecretOf: function 33 -/
def spec_SecretOf.j0 : Nat → Int → Int → Int → Bool → Option (ByteArray)
  | 0, _, _, _, _ => none
  | k + 1, x0, x1, x2, x19 => if x19 = true then (some (⟨#[]⟩ : ByteArray)) else ((spec_l01Var.f k x0).bind fun t342 => (if 1 + t342.size ≤ 9223372036854775807 then ((spec_l01Var.f k x1).bind fun t343 => (if ((⟨#[115]⟩ : ByteArray) ++ t342).size + t343.size ≤ 9223372036854775807 then ((spec_l01Var.f k x2).bind fun t344 => (if (((⟨#[115]⟩ : ByteArray) ++ t342) ++ t343).size + t344.size ≤ 9223372036854775807 then ((spec_l04Cut.f ((((⟨#[115]⟩ : ByteArray) ++ t342) ++ t343) ++ t344)).bind fun t345 => (some t345)) else (none))) else (none))) else (none)))
def spec_SecretOf.f (k : Nat) (a0 : Int) (a1 : Int) (a2 : Int) : Option (ByteArray) := (spec_l04Few.f a0).bind fun t339 => (if t339 = true then ((spec_l04Few.f a1).bind fun t340 => (if t340 = true then ((spec_l04Few.f a2).bind fun t341 => (spec_SecretOf.j0 k a0 a1 a2 (!t341))) else (spec_SecretOf.j0 k a0 a1 a2 true))) else (spec_SecretOf.j0 k a0 a1 a2 true))
theorem spec_SecretOf.mono_l : ∀ k, (∀ y0 y1 y2 y3, LeO (spec_SecretOf.j0 k y0 y1 y2 y3) (spec_SecretOf.j0 (k + 1) y0 y1 y2 y3))
  | 0 => fun _ _ _ _ r h => by simp [spec_SecretOf.j0] at h
  | k + 1 => by
    have ih0 := spec_SecretOf.mono_l k
    · intro y0 y1 y2 y3
      unfold spec_SecretOf.j0
      repeat' first
      | (with_reducible exact ih0 _ _ _ _)
      | (with_reducible exact spec_l01Var.mono _ _)
      | (with_reducible exact LeO.refl _)
      | (with_reducible exact LeO.none _)
      | (with_reducible refine LeO.ite ?_ ?_)
      | (with_reducible refine LeO.bind ?_ (fun _ => ?_))
      | exact ih0 _ _ _ _
      | exact spec_l01Var.mono _ _
      | exact LeO.none _
      | refine LeO.ite ?_ ?_
      | refine LeO.bind ?_ (fun _ => ?_)
theorem spec_SecretOf.mono : ∀ a0 a1 a2 k, LeO (spec_SecretOf.f k a0 a1 a2) (spec_SecretOf.f (k + 1) a0 a1 a2) := by
  intro a0 a1 a2 k
  have ih0 := spec_SecretOf.mono_l k
  unfold spec_SecretOf.f
  repeat' first
      | (with_reducible exact ih0 _ _ _ _)
      | (with_reducible exact spec_l01Var.mono _ _)
      | (with_reducible exact LeO.refl _)
      | (with_reducible exact LeO.none _)
      | (with_reducible refine LeO.ite ?_ ?_)
      | (with_reducible refine LeO.bind ?_ (fun _ => ?_))
      | exact ih0 _ _ _ _
      | exact spec_l01Var.mono _ _
      | exact LeO.none _
      | refine LeO.ite ?_ ?_
      | refine LeO.bind ?_ (fun _ => ?_)
set_option maxHeartbeats 8000000 in
set_option maxRecDepth 100000 in
theorem spec_SecretOf.calls (k : Nat) (a0 : Int) (a1 : Int) (a2 : Int) (r : ByteArray) (w : World) (h : spec_SecretOf.f k a0 a1 a2 = some r) :
    Calls Try.prog 33 #[.int .i64 a0, .int .i64 a1, .int .i64 a2] w fun e w' => e = .returned (.string r) ∧ Below w.heap.size w w' := by
  have HB := Aside0.mk (Below.refl w.heap.size w)
  have H : ((spec_l04Few.f a0).bind fun t339 => (if t339 = true then ((spec_l04Few.f a1).bind fun t340 => (if t340 = true then ((spec_l04Few.f a2).bind fun t341 => (spec_SecretOf.j0 k a0 a1 a2 (!t341))) else (spec_SecretOf.j0 k a0 a1 a2 true))) else (spec_SecretOf.j0 k a0 a1 a2 true))) = some r := h
  clear h
  have HC4 := Aside0.mk H
  clear H
  go_enter Try.func33, Try.ntmps33
  go_upto_region 1 with (fail)
  go_cut [19] (fun v19 wc => ∃ (kq : Nat) (x19_3 : Bool), v19 = .bool x19_3 ∧ Aside0 (spec_SecretOf.j0 kq a0 a1 a2 x19_3 = some r) ∧ Aside0 (kq ≤ k) ∧ Aside0 (Below w.heap.size w wc))
  case first =>
    have H := HC4.out
    clear HC4
    replace H := Option.bind_eq_some_iff.mp H
    obtain ⟨t339, A50, H⟩ := H
    replace H : (if t339 = true then ((spec_l04Few.f a1).bind fun t340 => (if t340 = true then ((spec_l04Few.f a2).bind fun t341 => (spec_SecretOf.j0 k a0 a1 a2 (!t341))) else (spec_SecretOf.j0 k a0 a1 a2 true))) else (spec_SecretOf.j0 k a0 a1 a2 true)) = some r := H
    have A5 := Aside0.mk A50
    clear A50
    by_cases c6 : t339 = true
    · subst c6
      have H1 : ((spec_l04Few.f a1).bind fun t340 => (if t340 = true then ((spec_l04Few.f a2).bind fun t341 => (spec_SecretOf.j0 k a0 a1 a2 (!t341))) else (spec_SecretOf.j0 k a0 a1 a2 true))) = some r := by rw [if_pos rfl] at H; exact H
      clear H
      have H := H1
      clear H1
      replace H := Option.bind_eq_some_iff.mp H
      obtain ⟨t340, A70, H⟩ := H
      replace H : (if t340 = true then ((spec_l04Few.f a2).bind fun t341 => (spec_SecretOf.j0 k a0 a1 a2 (!t341))) else (spec_SecretOf.j0 k a0 a1 a2 true)) = some r := H
      have A7 := Aside0.mk A70
      clear A70
      by_cases c8 : t340 = true
      · subst c8
        have H1 : ((spec_l04Few.f a2).bind fun t341 => (spec_SecretOf.j0 k a0 a1 a2 (!t341))) = some r := by rw [if_pos rfl] at H; exact H
        clear H
        have H := H1
        clear H1
        replace H := Option.bind_eq_some_iff.mp H
        obtain ⟨t341, A90, H⟩ := H
        replace H : (spec_SecretOf.j0 k a0 a1 a2 (!t341)) = some r := H
        have A9 := Aside0.mk A90
        clear A90
        have H' := Aside0.mk H
        clear H
        go_wp2_with (first | ((with_reducible refine gate_callee (f := 53) rfl ?_); refine goesL_ (some 8) rfl rfl Try.func53 (by kernel_rfl) rfl #[.int .i64 a0] rfl (by (try simp only [List.map_toArray, List.map_cons, List.map_nil]); first | done | rfl | (simp only [List.length_drop, List.length_take]; rfl)) ?_; (with_reducible refine (spec_l04Few.calls a0 true _ A5.out).mono ?_); rintro e w' ⟨rfl, ⟨nd, rfl⟩⟩; refine ⟨_, rfl, ?_⟩) | (go_at_call 53; (with_reducible refine (spec_l04Few.calls a1 true _ A7.out).mono ?_); rintro e w' ⟨rfl, ⟨nd, rfl⟩⟩) | (go_at_call 53; (with_reducible refine (spec_l04Few.calls a2 t341 _ A9.out).mono ?_); rintro e w' ⟨rfl, ⟨nd, rfl⟩⟩))
        go_meet
        case rel => exact ⟨_, (!t341), (by first | rfl | (simp; done) | (simp [*]; done)), H', ⟨by first | omega | exact Nat.le_refl _⟩, ⟨by repeat (first | (with_reducible first | exact HB.out | apply below_alloc | apply pw_below_drewN | apply below_drew1) | exact HB.out)⟩⟩
      · replace c8 := Bool.eq_false_iff.mpr c8
        subst c8
        have H1 : (spec_SecretOf.j0 k a0 a1 a2 true) = some r := by rw [if_neg (show ¬ (false = true) by decide)] at H; exact H
        clear H
        have H := H1
        clear H1
        have H' := Aside0.mk H
        clear H
        go_wp2_with (first | ((with_reducible refine gate_callee (f := 53) rfl ?_); refine goesL_ (some 8) rfl rfl Try.func53 (by kernel_rfl) rfl #[.int .i64 a0] rfl (by (try simp only [List.map_toArray, List.map_cons, List.map_nil]); first | done | rfl | (simp only [List.length_drop, List.length_take]; rfl)) ?_; (with_reducible refine (spec_l04Few.calls a0 true _ A5.out).mono ?_); rintro e w' ⟨rfl, ⟨nd, rfl⟩⟩; refine ⟨_, rfl, ?_⟩) | (go_at_call 53; (with_reducible refine (spec_l04Few.calls a1 false _ A7.out).mono ?_); rintro e w' ⟨rfl, ⟨nd, rfl⟩⟩))
        go_meet
        case rel => exact ⟨_, (true), (by first | rfl | (simp; done) | (simp [*]; done)), H', ⟨by first | omega | exact Nat.le_refl _⟩, ⟨by repeat (first | (with_reducible first | exact HB.out | apply below_alloc | apply pw_below_drewN | apply below_drew1) | exact HB.out)⟩⟩
    · replace c6 := Bool.eq_false_iff.mpr c6
      subst c6
      have H1 : (spec_SecretOf.j0 k a0 a1 a2 true) = some r := by rw [if_neg (show ¬ (false = true) by decide)] at H; exact H
      clear H
      have H := H1
      clear H1
      have H' := Aside0.mk H
      clear H
      go_wp2_with (first | ((with_reducible refine gate_callee (f := 53) rfl ?_); refine goesL_ (some 8) rfl rfl Try.func53 (by kernel_rfl) rfl #[.int .i64 a0] rfl (by (try simp only [List.map_toArray, List.map_cons, List.map_nil]); first | done | rfl | (simp only [List.length_drop, List.length_take]; rfl)) ?_; (with_reducible refine (spec_l04Few.calls a0 false _ A5.out).mono ?_); rintro e w' ⟨rfl, ⟨nd, rfl⟩⟩; refine ⟨_, rfl, ?_⟩))
      go_meet
      case rel => exact ⟨_, (true), (by first | rfl | (simp; done) | (simp [*]; done)), H', ⟨by first | omega | exact Nat.le_refl _⟩, ⟨by repeat (first | (with_reducible first | exact HB.out | apply below_alloc | apply pw_below_drewN | apply below_drew1) | exact HB.out)⟩⟩
  case rest =>
    clear HC4
    try clear p2
    try clear c3
    try clear c5
    try clear c6
    try clear c8
    obtain ⟨kq, x19_3, rfl, HA, HJ3, HB⟩ := hcut
    cases kq with
    | zero => exact absurd HA.out (by simp [spec_SecretOf.j0])
    | succ kj3 =>
      have H := HA.out
      clear HA
      simp only [spec_SecretOf.j0] at H
      by_cases c10 : x19_3 = true
      · subst c10
        have H1 : (some (⟨#[]⟩ : ByteArray)) = some r := by rw [if_pos rfl] at H; exact H
        clear H
        have H := H1
        clear H1
        obtain rfl := Option.some.inj H
        go_wp2
        go_ret
        exact ⟨by first | rfl | (simp [errW_none, errW_some] <;> rfl) | (simp [*, errW_none, errW_some] <;> rfl), by repeat (first | (with_reducible first | exact HB.out | apply below_alloc | apply pw_below_drewN | apply below_drew1) | exact HB.out)⟩
      · replace c10 := Bool.eq_false_iff.mpr c10
        subst c10
        have H1 : ((spec_l01Var.f kj3 a0).bind fun t342 => (if 1 + t342.size ≤ 9223372036854775807 then ((spec_l01Var.f kj3 a1).bind fun t343 => (if ((⟨#[115]⟩ : ByteArray) ++ t342).size + t343.size ≤ 9223372036854775807 then ((spec_l01Var.f kj3 a2).bind fun t344 => (if (((⟨#[115]⟩ : ByteArray) ++ t342) ++ t343).size + t344.size ≤ 9223372036854775807 then ((spec_l04Cut.f ((((⟨#[115]⟩ : ByteArray) ++ t342) ++ t343) ++ t344)).bind fun t345 => (some t345)) else (none))) else (none))) else (none))) = some r := by rw [if_neg (show ¬ (false = true) by decide)] at H; exact H
        clear H
        have H := H1
        clear H1
        replace H := Option.bind_eq_some_iff.mp H
        obtain ⟨t342, A110, H⟩ := H
        replace H : (if 1 + t342.size ≤ 9223372036854775807 then ((spec_l01Var.f kj3 a1).bind fun t343 => (if ((⟨#[115]⟩ : ByteArray) ++ t342).size + t343.size ≤ 9223372036854775807 then ((spec_l01Var.f kj3 a2).bind fun t344 => (if (((⟨#[115]⟩ : ByteArray) ++ t342) ++ t343).size + t344.size ≤ 9223372036854775807 then ((spec_l04Cut.f ((((⟨#[115]⟩ : ByteArray) ++ t342) ++ t343) ++ t344)).bind fun t345 => (some t345)) else (none))) else (none))) else (none)) = some r := H
        have A11 := Aside0.mk A110
        clear A110
        by_cases c12 : 1 + t342.size ≤ 9223372036854775807
        · rw [if_pos c12] at H
          have c12b0 := eq_true c12
          have c12b1 : decide (1 + t342.size ≤ 9223372036854775807) = true := decide_eq_true c12
          try have c12b2 : (9223372036854775807 < 1 + t342.size) = False := eq_false (Nat.not_lt.2 c12)
          replace H := Option.bind_eq_some_iff.mp H
          obtain ⟨t343, A130, H⟩ := H
          replace H : (if ((⟨#[115]⟩ : ByteArray) ++ t342).size + t343.size ≤ 9223372036854775807 then ((spec_l01Var.f kj3 a2).bind fun t344 => (if (((⟨#[115]⟩ : ByteArray) ++ t342) ++ t343).size + t344.size ≤ 9223372036854775807 then ((spec_l04Cut.f ((((⟨#[115]⟩ : ByteArray) ++ t342) ++ t343) ++ t344)).bind fun t345 => (some t345)) else (none))) else (none)) = some r := H
          have A13 := Aside0.mk A130
          clear A130
          by_cases c14 : ((⟨#[115]⟩ : ByteArray) ++ t342).size + t343.size ≤ 9223372036854775807
          · rw [if_pos c14] at H
            have c14b0 := eq_true c14
            have c14b1 : decide (((⟨#[115]⟩ : ByteArray) ++ t342).size + t343.size ≤ 9223372036854775807) = true := decide_eq_true c14
            try have c14b2 : (9223372036854775807 < ((⟨#[115]⟩ : ByteArray) ++ t342).size + t343.size) = False := eq_false (Nat.not_lt.2 c14)
            try have c14z2 : (9223372036854775807 < 1 + t342.size + t343.size) = False := eq_false (Nat.not_lt.2 (Nat.le_trans (Nat.le_of_eq (by first | rfl | (simp only [ByteArray.size_append]; done) | (simp only [ByteArray.size_append]; rfl))) c14))
            try have c14z1 : decide (1 + t342.size + t343.size ≤ 9223372036854775807) = true := decide_eq_true (Nat.le_trans (Nat.le_of_eq (by first | rfl | (simp only [ByteArray.size_append]; done) | (simp only [ByteArray.size_append]; rfl))) c14)
            replace H := Option.bind_eq_some_iff.mp H
            obtain ⟨t344, A150, H⟩ := H
            replace H : (if (((⟨#[115]⟩ : ByteArray) ++ t342) ++ t343).size + t344.size ≤ 9223372036854775807 then ((spec_l04Cut.f ((((⟨#[115]⟩ : ByteArray) ++ t342) ++ t343) ++ t344)).bind fun t345 => (some t345)) else (none)) = some r := H
            have A15 := Aside0.mk A150
            clear A150
            by_cases c16 : (((⟨#[115]⟩ : ByteArray) ++ t342) ++ t343).size + t344.size ≤ 9223372036854775807
            · rw [if_pos c16] at H
              have c16b0 := eq_true c16
              have c16b1 : decide ((((⟨#[115]⟩ : ByteArray) ++ t342) ++ t343).size + t344.size ≤ 9223372036854775807) = true := decide_eq_true c16
              try have c16b2 : (9223372036854775807 < (((⟨#[115]⟩ : ByteArray) ++ t342) ++ t343).size + t344.size) = False := eq_false (Nat.not_lt.2 c16)
              try have c16z2 : (9223372036854775807 < 1 + t342.size + t343.size + t344.size) = False := eq_false (Nat.not_lt.2 (Nat.le_trans (Nat.le_of_eq (by first | rfl | (simp only [ByteArray.size_append]; done) | (simp only [ByteArray.size_append]; rfl))) c16))
              try have c16z1 : decide (1 + t342.size + t343.size + t344.size ≤ 9223372036854775807) = true := decide_eq_true (Nat.le_trans (Nat.le_of_eq (by first | rfl | (simp only [ByteArray.size_append]; done) | (simp only [ByteArray.size_append]; rfl))) c16)
              replace H := Option.bind_eq_some_iff.mp H
              obtain ⟨t345, A170, H⟩ := H
              replace H : (some t345) = some r := H
              have A17 := Aside0.mk A170
              clear A170
              obtain rfl := Option.some.inj H
              go_wp2_with (first | ((with_reducible refine gate_callee (f := 60) rfl ?_); refine goesL_ (some 21) rfl rfl Try.func60 (by kernel_rfl) rfl #[.int .i64 a0] rfl (by (try simp only [List.map_toArray, List.map_cons, List.map_nil]); first | done | rfl | (simp only [List.length_drop, List.length_take]; rfl)) ?_; (with_reducible refine (spec_l01Var.calls kj3 a0 t342 _ A11.out).mono ?_); rintro e w18 ⟨rfl, hb⟩; refine ⟨_, rfl, ?_⟩; have n0_ := Aside0.mk (below_step (by repeat (first | (with_reducible first | exact HB.out | apply below_alloc | apply pw_below_drewN | apply below_drew1) | exact HB.out)) hb); clear HB; have HB := n0_; clear n0_; (try clear hb); (try clear hb2); (try clear hk); (try clear hi)) | ((with_reducible refine gate_callee (f := 60) rfl ?_); refine goesL_ (some 24) rfl rfl Try.func60 (by kernel_rfl) rfl #[.int .i64 a1] rfl (by (try simp only [List.map_toArray, List.map_cons, List.map_nil]); first | done | rfl | (simp only [List.length_drop, List.length_take]; rfl)) ?_; (with_reducible refine (spec_l01Var.calls kj3 a1 t343 _ A13.out).mono ?_); rintro e w19 ⟨rfl, hb⟩; refine ⟨_, rfl, ?_⟩; have n0_ := Aside0.mk (below_step (by repeat (first | (with_reducible first | exact HB.out | apply below_alloc | apply pw_below_drewN | apply below_drew1) | exact HB.out)) hb); clear HB; have HB := n0_; clear n0_; (try clear hb); (try clear hb2); (try clear hk); (try clear hi)) | ((with_reducible refine gate_callee (f := 60) rfl ?_); refine goesL_ (some 27) rfl rfl Try.func60 (by kernel_rfl) rfl #[.int .i64 a2] rfl (by (try simp only [List.map_toArray, List.map_cons, List.map_nil]); first | done | rfl | (simp only [List.length_drop, List.length_take]; rfl)) ?_; (with_reducible refine (spec_l01Var.calls kj3 a2 t344 _ A15.out).mono ?_); rintro e w20 ⟨rfl, hb⟩; refine ⟨_, rfl, ?_⟩; have n0_ := Aside0.mk (below_step (by repeat (first | (with_reducible first | exact HB.out | apply below_alloc | apply pw_below_drewN | apply below_drew1) | exact HB.out)) hb); clear HB; have HB := n0_; clear n0_; (try clear hb); (try clear hb2); (try clear hk); (try clear hi)) | ((with_reducible refine gate_callee (f := 43) rfl ?_); refine goesL_ (some 29) rfl rfl Try.func43 (by kernel_rfl) rfl #[.string ((((⟨#[115]⟩ : ByteArray) ++ t342) ++ t343) ++ t344)] rfl (by (try simp only [List.map_toArray, List.map_cons, List.map_nil]); first | done | rfl | (simp only [List.length_drop, List.length_take]; rfl)) ?_; (with_reducible refine (spec_l04Cut.calls ((((⟨#[115]⟩ : ByteArray) ++ t342) ++ t343) ++ t344) t345 _ A17.out).mono ?_); rintro e w21 ⟨rfl, hb⟩; refine ⟨_, rfl, ?_⟩; have n0_ := Aside0.mk (below_step (by repeat (first | (with_reducible first | exact HB.out | apply below_alloc | apply pw_below_drewN | apply below_drew1) | exact HB.out)) hb); clear HB; have HB := n0_; clear n0_; (try clear hb); (try clear hb2); (try clear hk); (try clear hi)))
              go_ret
              exact ⟨by first | rfl | (simp [errW_none, errW_some] <;> rfl) | (simp [*, errW_none, errW_some] <;> rfl), by repeat (first | (with_reducible first | exact HB.out | apply below_alloc | apply pw_below_drewN | apply below_drew1) | exact HB.out)⟩
            · rw [if_neg c16] at H
              exact absurd H (by simp)
          · rw [if_neg c14] at H
            exact absurd H (by simp)
        · rw [if_neg c12] at H
          exact absurd H (by simp)

/-! ### spec_LeafKey: function 19 -/
def spec_LeafKey.l0 : Nat → Int → Int → ByteArray → Int → Option (ByteArray)
  | 0, _, _, _, _ => none
  | k + 1, x0, x1, x5, x6 => if x6 < 11 then ((spec_SecretOf.f k x0 x1 x6).bind fun t346 => ((spec_ChainOf.f k t346 3).bind fun t347 => (if x5.size + t347.size ≤ 9223372036854775807 then (spec_LeafKey.l0 k x0 x1 (x5 ++ t347) (wrap64 (x6 + 1))) else (none)))) else ((spec_l04Cut.f x5).bind fun t348 => (some t348))
def spec_LeafKey.f (k : Nat) (a0 : Int) (a1 : Int) : Option (ByteArray) := spec_LeafKey.l0 k a0 a1 (⟨#[108]⟩ : ByteArray) 0
theorem spec_LeafKey.mono_l : ∀ k, (∀ y0 y1 y2 y3, LeO (spec_LeafKey.l0 k y0 y1 y2 y3) (spec_LeafKey.l0 (k + 1) y0 y1 y2 y3))
  | 0 => fun _ _ _ _ r h => by simp [spec_LeafKey.l0] at h
  | k + 1 => by
    have ih0 := spec_LeafKey.mono_l k
    · intro y0 y1 y2 y3
      unfold spec_LeafKey.l0
      repeat' first
      | (with_reducible exact ih0 _ _ _ _)
      | (with_reducible exact spec_ChainOf.mono _ _ _)
      | (with_reducible exact spec_SecretOf.mono _ _ _ _)
      | (with_reducible exact LeO.refl _)
      | (with_reducible exact LeO.none _)
      | (with_reducible refine LeO.ite ?_ ?_)
      | (with_reducible refine LeO.bind ?_ (fun _ => ?_))
      | exact ih0 _ _ _ _
      | exact spec_ChainOf.mono _ _ _
      | exact spec_SecretOf.mono _ _ _ _
      | exact LeO.none _
      | refine LeO.ite ?_ ?_
      | refine LeO.bind ?_ (fun _ => ?_)
theorem spec_LeafKey.mono : ∀ a0 a1 k, LeO (spec_LeafKey.f k a0 a1) (spec_LeafKey.f (k + 1) a0 a1) := by
  intro a0 a1 k
  have ih0 := spec_LeafKey.mono_l k
  unfold spec_LeafKey.f
  repeat' first
      | (with_reducible exact ih0 _ _ _ _)
      | (with_reducible exact spec_ChainOf.mono _ _ _)
      | (with_reducible exact spec_SecretOf.mono _ _ _ _)
      | (with_reducible exact LeO.refl _)
      | (with_reducible exact LeO.none _)
      | (with_reducible refine LeO.ite ?_ ?_)
      | (with_reducible refine LeO.bind ?_ (fun _ => ?_))
      | exact ih0 _ _ _ _
      | exact spec_ChainOf.mono _ _ _
      | exact spec_SecretOf.mono _ _ _ _
      | exact LeO.none _
      | refine LeO.ite ?_ ?_
      | refine LeO.bind ?_ (fun _ => ?_)
set_option maxHeartbeats 8000000 in
set_option maxRecDepth 100000 in
theorem spec_LeafKey.calls (k : Nat) (a0 : Int) (a1 : Int) (r : ByteArray) (w : World) (h : spec_LeafKey.f k a0 a1 = some r) :
    Calls Try.prog 19 #[.int .i64 a0, .int .i64 a1] w fun e w' => e = .returned (.string r) ∧ Below w.heap.size w w' := by
  have HB := Aside0.mk (Below.refl w.heap.size w)
  have H : (spec_LeafKey.l0 k a0 a1 (⟨#[108]⟩ : ByteArray) 0) = some r := h
  clear h
  have H' := Aside0.mk H
  clear H
  go_enter Try.func19, Try.ntmps19
  go_wp2
  go_loopg [5, 6] k (fun kq v5 v6 w' => ∃ (x5_1 : ByteArray) (x6_1 : Int), v5 = .string x5_1 ∧ v6 = .int .i64 x6_1 ∧ Aside0 (spec_LeafKey.l0 kq a0 a1 x5_1 x6_1 = some r) ∧ Aside0 (kq ≤ k) ∧ Aside0 (Below w.heap.size w w'))
  case atStart => exact ⟨((⟨#[108]⟩ : ByteArray)), (0), (by first | rfl | (simp; done) | (simp [*]; done)), (by first | rfl | (simp; done) | (simp [*]; done)), H', ⟨Nat.le_refl _⟩, ⟨by repeat (first | (with_reducible first | exact HB.out | apply below_alloc | apply pw_below_drewN | apply below_drew1) | exact HB.out)⟩⟩
  case round =>
    clear H'
    try clear c1
    try clear p2
    obtain ⟨x5_1, x6_1, rfl, rfl, HA, HK1, HB⟩ := hrel
    cases gk with
    | zero => exact absurd HA.out (by simp [spec_LeafKey.l0])
    | succ k1 =>
      have H := HA.out
      clear HA
      simp only [spec_LeafKey.l0] at H
      by_cases c3 : x6_1 < 11
      · rw [if_pos c3] at H
        have c3b0 : decide (x6_1 < 11) = true := decide_eq_true c3
        clear c3
        replace H := Option.bind_eq_some_iff.mp H
        obtain ⟨t346, A40, H⟩ := H
        replace H : ((spec_ChainOf.f k1 t346 3).bind fun t347 => (if x5_1.size + t347.size ≤ 9223372036854775807 then (spec_LeafKey.l0 k1 a0 a1 (x5_1 ++ t347) (wrap64 (x6_1 + 1))) else (none))) = some r := H
        have A4 := Aside0.mk A40
        clear A40
        replace H := Option.bind_eq_some_iff.mp H
        obtain ⟨t347, A50, H⟩ := H
        replace H : (if x5_1.size + t347.size ≤ 9223372036854775807 then (spec_LeafKey.l0 k1 a0 a1 (x5_1 ++ t347) (wrap64 (x6_1 + 1))) else (none)) = some r := H
        have A5 := Aside0.mk A50
        clear A50
        by_cases c6 : x5_1.size + t347.size ≤ 9223372036854775807
        · rw [if_pos c6] at H
          have c6b0 := eq_true c6
          have c6b1 : decide (x5_1.size + t347.size ≤ 9223372036854775807) = true := decide_eq_true c6
          try have c6b2 : (9223372036854775807 < x5_1.size + t347.size) = False := eq_false (Nat.not_lt.2 c6)
          have H' := Aside0.mk H
          clear H
          go_wp2_with (first | ((with_reducible refine gate_callee (f := 33) rfl ?_); refine goesL_ (some 15) rfl rfl Try.func33 (by kernel_rfl) rfl #[.int .i64 a0, .int .i64 a1, .int .i64 x6_1] rfl (by (try simp only [List.map_toArray, List.map_cons, List.map_nil]); first | done | rfl | (simp only [List.length_drop, List.length_take]; rfl)) ?_; (with_reducible refine (spec_SecretOf.calls k1 a0 a1 x6_1 t346 _ A4.out).mono ?_); rintro e w7 ⟨rfl, hb⟩; refine ⟨_, rfl, ?_⟩; have n0_ := Aside0.mk (below_step (by repeat (first | (with_reducible first | exact HB.out | apply below_alloc | apply pw_below_drewN | apply below_drew1) | exact HB.out)) hb); clear HB; have HB := n0_; clear n0_; (try clear hb); (try clear hb2); (try clear hk); (try clear hi)) | ((with_reducible refine gate_callee (f := 13) rfl ?_); refine goesL_ (some 16) rfl rfl Try.func13 (by kernel_rfl) rfl #[.string t346, .int .i64 3] rfl (by (try simp only [List.map_toArray, List.map_cons, List.map_nil]); first | done | rfl | (simp only [List.length_drop, List.length_take]; rfl)) ?_; (with_reducible refine (spec_ChainOf.calls k1 t346 3 t347 _ A5.out).mono ?_); rintro e w8 ⟨rfl, hb⟩; refine ⟨_, rfl, ?_⟩; have n0_ := Aside0.mk (below_step (by repeat (first | (with_reducible first | exact HB.out | apply below_alloc | apply pw_below_drewN | apply below_drew1) | exact HB.out)) hb); clear HB; have HB := n0_; clear n0_; (try clear hb); (try clear hb2); (try clear hk); (try clear hi)))
          go_roundg k1
          case measure => have := HK1.out; omega
          case rel => exact ⟨(x5_1 ++ t347), (wrap64 (x6_1 + 1)), (by first | rfl | (simp; done) | (simp [*]; done)), (by first | rfl | (simp; done) | (simp [*]; done)), H', ⟨by have := HK1.out; omega⟩, ⟨by repeat (first | (with_reducible first | exact HB.out | apply below_alloc | apply pw_below_drewN | apply below_drew1) | exact HB.out)⟩⟩
        · rw [if_neg c6] at H
          exact absurd H (by simp)
      · rw [if_neg c3] at H
        have c3b0 : decide (x6_1 < 11) = false := decide_eq_false c3
        clear c3
        replace H := Option.bind_eq_some_iff.mp H
        obtain ⟨t348, A90, H⟩ := H
        replace H : (some t348) = some r := H
        have A9 := Aside0.mk A90
        clear A90
        obtain rfl := Option.some.inj H
        go_wp2_with (first | ((with_reducible refine gate_callee (f := 43) rfl ?_); refine goesL_ (some 19) rfl rfl Try.func43 (by kernel_rfl) rfl #[.string x5_1] rfl (by (try simp only [List.map_toArray, List.map_cons, List.map_nil]); first | done | rfl | (simp only [List.length_drop, List.length_take]; rfl)) ?_; (with_reducible refine (spec_l04Cut.calls x5_1 t348 _ A9.out).mono ?_); rintro e w10 ⟨rfl, hb⟩; refine ⟨_, rfl, ?_⟩; have n0_ := Aside0.mk (below_step (by repeat (first | (with_reducible first | exact HB.out | apply below_alloc | apply pw_below_drewN | apply below_drew1) | exact HB.out)) hb); clear HB; have HB := n0_; clear n0_; (try clear hb); (try clear hb2); (try clear hk); (try clear hi)))
        go_ret
        exact ⟨by first | rfl | (simp [errW_none, errW_some] <;> rfl) | (simp [*, errW_none, errW_some] <;> rfl), by repeat (first | (with_reducible first | exact HB.out | apply below_alloc | apply pw_below_drewN | apply below_drew1) | exact HB.out)⟩

/-! ### spec_l04Rows: function 47 -/
def spec_l04Rows.f (k : Nat) (a0 : Int) : Option (List (List ByteArray)) := Go.Proofs.Ytckjobcagniieaa.Levels.treeOf (fun i => spec_LeafKey.f k a0 (i : Int)) (fun a b => spec_l04Cut.f ((⟨#[110]⟩ ++ a) ++ b))
theorem spec_l04Rows.mono : ∀ a0 k, LeO (spec_l04Rows.f k a0) (spec_l04Rows.f (k + 1) a0) := by
  intro a0 k r h
  exact Go.Proofs.Ytckjobcagniieaa.Levels.treeOf_mono (fun i r h => spec_LeafKey.mono a0 _ k r h) (fun a b r h => h) h
theorem spec_l04Rows.calls (k : Nat) (a0 : Int) (r : List (List ByteArray)) (w : World) (h : spec_l04Rows.f k a0 = some r) :
    Calls Try.prog 47 #[.int .i64 a0] w fun e w' => ∃ v0_ : Value, e = .returned (v0_) ∧ Kd.S (Kd.slice 9 Kd.string) 27 w' w.heap.size (fun _ => True) v0_ r ∧ Below w.heap.size w w' := by
  obtain ⟨g, hg, rfl, hl, hc⟩ := Go.Proofs.Ytckjobcagniieaa.Levels.treeOf_open h
  exact Go.Proofs.Ytckjobcagniieaa.Levels.rows_calls g hg a0 (fun i hi W => spec_LeafKey.calls k a0 _ _ W (hl i hi)) (fun q i hq hi W => spec_l04Cut.calls _ _ W (hc q i hq hi)) w

/-! ### spec_KeyOf: function 17 -/
def spec_KeyOf.f (k : Nat) (a0 : Int) : Option (ByteArray) := (spec_l04Rows.f k a0).bind fun t349 => (if 0 ≤ (wrap64 ((t349.length : Int) - 1)) then (if (wrap64 ((t349.length : Int) - 1)) < (t349.length : Int) then (if 0 < ((rd_L5 t349 (wrap64 ((t349.length : Int) - 1))).length : Int) then (some (rdOf ByteArray.empty (rd_L5 t349 (wrap64 ((t349.length : Int) - 1))) 0)) else (none)) else (none)) else (none))
theorem spec_KeyOf.mono : ∀ a0 k, LeO (spec_KeyOf.f k a0) (spec_KeyOf.f (k + 1) a0) := by
  intro a0 k
  unfold spec_KeyOf.f
  repeat' first
      | (with_reducible exact spec_l04Rows.mono _ _)
      | (with_reducible exact LeO.refl _)
      | (with_reducible exact LeO.none _)
      | (with_reducible refine LeO.ite ?_ ?_)
      | (with_reducible refine LeO.bind ?_ (fun _ => ?_))
      | exact spec_l04Rows.mono _ _
      | exact LeO.none _
      | refine LeO.ite ?_ ?_
      | refine LeO.bind ?_ (fun _ => ?_)
set_option maxHeartbeats 8000000 in
set_option maxRecDepth 100000 in
theorem spec_KeyOf.calls (k : Nat) (a0 : Int) (r : ByteArray) (w : World) (h : spec_KeyOf.f k a0 = some r) :
    Calls Try.prog 17 #[.int .i64 a0] w fun e w' => e = .returned (.string r) ∧ Below w.heap.size w w' := by
  have HB := Aside0.mk (Below.refl w.heap.size w)
  have H : ((spec_l04Rows.f k a0).bind fun t349 => (if 0 ≤ (wrap64 ((t349.length : Int) - 1)) then (if (wrap64 ((t349.length : Int) - 1)) < (t349.length : Int) then (if 0 < ((rd_L5 t349 (wrap64 ((t349.length : Int) - 1))).length : Int) then (some (rdOf ByteArray.empty (rd_L5 t349 (wrap64 ((t349.length : Int) - 1))) 0)) else (none)) else (none)) else (none))) = some r := h
  clear h
  replace H := Option.bind_eq_some_iff.mp H
  obtain ⟨t349, A20, H⟩ := H
  replace H : (if 0 ≤ (wrap64 ((t349.length : Int) - 1)) then (if (wrap64 ((t349.length : Int) - 1)) < (t349.length : Int) then (if 0 < ((rd_L5 t349 (wrap64 ((t349.length : Int) - 1))).length : Int) then (some (rdOf ByteArray.empty (rd_L5 t349 (wrap64 ((t349.length : Int) - 1))) 0)) else (none)) else (none)) else (none)) = some r := H
  have A2 := Aside0.mk A20
  clear A20
  obtain ⟨ji3, hji3⟩ : ∃ j_ : Int, (wrap64 ((t349.length : Int) - 1)) = j_ := ⟨_, rfl⟩
  replace H : (if 0 ≤ (ji3) then (if (ji3) < (t349.length : Int) then (if 0 < ((rd_L5 t349 (ji3)).length : Int) then (some (rdOf ByteArray.empty (rd_L5 t349 (ji3)) 0)) else (none)) else (none)) else (none)) = some r := by first | (rw [hji3] at H; exact H) | (simp only [hji3] at H ⊢; exact H)
  (try rw [hji3] at A2)
  have hji3w : (IntKind.i64.wrap ((t349.length : Int) - 1)) = ji3 := (i64_w _).trans hji3
  by_cases c4 : 0 ≤ (ji3)
  · rw [if_pos c4] at H
    have c4b0 : decide (0 ≤ (ji3)) = true := decide_eq_true c4
    clear c4
    by_cases c5 : (ji3) < (t349.length : Int)
    · rw [if_pos c5] at H
      have c5b0 : decide ((ji3) < (t349.length : Int)) = true := decide_eq_true c5
      clear c5
      by_cases c6 : 0 < ((rd_L5 t349 (ji3)).length : Int)
      · rw [if_pos c6] at H
        have c6b0 : decide (0 < ((rd_L5 t349 (ji3)).length : Int)) = true := decide_eq_true c6
        have c6b1 : decide (0 < (rd_L5 t349 (ji3)).length) = true := decide_eq_true (by omega)
        clear c6
        obtain rfl := Option.some.inj H
        go_enter Try.func17, Try.ntmps17
        go_wp2_with (first | ((with_reducible refine gate_callee (f := 47) rfl ?_); refine goesL_ (some 5) rfl rfl Try.func47 (by kernel_rfl) rfl #[.int .i64 a0] rfl (by (try simp only [List.map_toArray, List.map_cons, List.map_nil]); first | done | rfl | (simp only [List.length_drop, List.length_take]; rfl)) ?_; (with_reducible refine (spec_l04Rows.calls k a0 t349 _ A2.out).mono ?_); rintro e w7 ⟨v350, rfl, ho0, hb⟩; refine ⟨_, rfl, ?_⟩; have n0_ := Aside0.mk (Kd.S_lower ho0 (below_size (by repeat (first | (with_reducible first | exact HB.out | apply below_alloc | apply pw_below_drewN | apply below_drew1) | exact HB.out)))); have n1_ := Aside0.mk (below_step (by repeat (first | (with_reducible first | exact HB.out | apply below_alloc | apply pw_below_drewN | apply below_drew1) | exact HB.out)) hb); clear HB; have HO351 := n0_; have HB := n1_; clear n0_ n1_; (try clear hb); (try clear hb2); (try clear hk); (try clear hi); (try clear ho0); obtain ⟨Ao8, co8, eo8⟩ := Kd.S_slice HO351.out; subst eo8; have p352 : 0 ≤ ((ji3) : Int) := of_decide_eq_true (by first | (with_reducible assumption) | assumption); have q352 : (ji3) < (t349.length : Int) := of_decide_eq_true (by first | (with_reducible assumption) | assumption); obtain ⟨ad352, A352_0, c352_0, e352, hx352_0, hl352_0, hi352_0⟩ := at_L5 (Kd.S_reads' HO351.out).2.2 (ji3) p352 q352; cases e352; obtain ⟨ce352, hce352, hMe352, hcc352⟩ := Kd.S_get HO351.out [] (ji3) p352 (by first | exact q352 | exact of_decide_eq_true (by first | (with_reducible assumption) | assumption) | (have e_ := (Kd.S_reads' HO351.out).1; omega)); obtain ⟨ve352_0, rfl, ge352_0⟩ := hMe352; have hv352_0 := hcc352 0 _ rfl; rw [Nat.add_zero, show ((Kd.slice 9 Kd.string)).sz = 1 from rfl, Nat.mul_one] at hv352_0; replace hv352_0 := Option.some.inj (hv352_0.symm.trans hx352_0); rw [hv352_0] at ge352_0; have HL352_0 := Aside0.mk (show Kd.R Kd.string 9 _ _ _ _ (rd_L5 t349 (ji3)) from ge352_0); clear hv352_0 ge352_0; clear hcc352 hce352; have HR352_0 := Aside0.mk hi352_0; have HC352_0 := Aside0.mk hl352_0; clear hi352_0 hl352_0; replace p352 := eq_true p352; replace q352 := eq_true q352; have p353 : 0 ≤ (0 : Int) := (by omega); have q353 : 0 < ((rd_L5 t349 (ji3)).length : Int) := of_decide_eq_true (by first | (with_reducible assumption) | assumption); obtain ⟨ad353, e353, hx353_0⟩ := Kd.at_string (by repeat (first | (with_reducible exact HR352_0.out) | (with_reducible refine Kd.C_alloc ?_ _) | (with_reducible refine Kd.C_drewN ?_ _) | (with_reducible refine Kd.C_drew ?_) | exact HR352_0.out)) 0 p353 q353; cases e353; have qi353 : (0 < (rd_L5 t349 (ji3)).length) = True := eq_true (by omega); (try rw [show ((0 : Int)).toNat = 0 from rfl] at hx353_0); (try rw [Addr.add_zero'] at hx353_0); replace p353 := eq_true p353; replace q353 := eq_true q353))
        go_ret
        exact ⟨by first | rfl | (simp [errW_none, errW_some] <;> rfl) | (simp only [← hji3]; first | rfl | (simp [errW_none, errW_some] <;> rfl)) | (simp [*, errW_none, errW_some] <;> rfl), by repeat (first | (with_reducible first | exact HB.out | apply below_alloc | apply pw_below_drewN | apply below_drew1) | exact HB.out)⟩
      · rw [if_neg c6] at H
        exact absurd H (by simp)
    · rw [if_neg c5] at H
      exact absurd H (by simp)
  · rw [if_neg c4] at H
    exact absurd H (by simp)

end Go.Proofs.Ytckjobcagniieaa.PFnSigns
