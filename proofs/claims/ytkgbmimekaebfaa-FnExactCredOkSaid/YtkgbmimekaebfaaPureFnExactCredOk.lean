/-
The law FnExactCredOk of the given program answers true at every input: the plain statement that is left when the printed walk has stepped through the code.
Conditions: the bounds of the given row (sizes of texts and lists, numbers of their kinds); none of our own.
-/
import Derived.Test.YtkgbmimekaebfaaPFnExactCredOkx3
import Derived.Laws.BitsAllLaws
namespace Go.Proofs.Ytkgbmimekaebfaa.Pure
open Go.RowKit Go.Proofs.Ytkgbmimekaebfaa.PFnExactCredOk Go.Proofs.YtkgbmimekaebfaaW.PrintWords Go.Proofs.YtkgbmimekaebfaaW.PrintLast Go.Proofs.YtkgbmimekaebfaaW.PrintMore
set_option linter.unusedVariables false

theorem evp {α : Type} {c : Prop} [Decidable c] {f g : Nat → Option α} {r : α} (hc : c) (h : Ev f r) : Ev (fun k => if c then f k else g k) r := Ev.congr (fun _ => if_pos hc) h
theorem evn {α : Type} {c : Prop} [Decidable c] {f g : Nat → Option α} {r : α} (hc : ¬ c) (h : Ev g r) : Ev (fun k => if c then f k else g k) r := Ev.congr (fun _ => if_neg hc) h
theorem evs {α : Type} {x y : α} (h : x = y) : Ev (fun _ => some x) y := by subst h; exact Ev.now _
theorem evc {α : Type} {x : Option α} {y : α} (h : x = some y) : Ev (fun _ => x) y := by subst h; exact Ev.now _
theorem w64 {n : Int} (h1 : -9223372036854775808 ≤ n) (h2 : n ≤ 9223372036854775807) : wrap64 n = n := IntWalk.wrap64_in n ⟨h1, h2⟩
theorem w64n (n : Nat) (h : n ≤ 9223372036854775807) : wrap64 (n : Int) = (n : Int) := w64 (by omega) (by omega)
theorem w64s (n : Nat) (h : n + 1 ≤ 9223372036854775807) : wrap64 ((n : Int) + 1) = ((n + 1 : Nat) : Int) := by rw [w64 (by omega) (by omega)]; rfl
theorem w64a (a b : Nat) (h : a + b ≤ 9223372036854775807) : wrap64 ((a : Int) + (b : Int)) = ((a + b : Nat) : Int) := by rw [w64 (by omega) (by omega)]; rfl
theorem w64m (a b : Nat) (h : a * b ≤ 9223372036854775807) : wrap64 ((a : Int) * (b : Int)) = ((a * b : Nat) : Int) := by
  have e : ((a * b : Nat) : Int) = (a : Int) * (b : Int) := Int.natCast_mul a b
  rw [w64 (by omega) (by omega), e]
theorem wf64 {n : Int} (h : (Lit.int .i64 n).wf = true) : -9223372036854775808 ≤ n ∧ n ≤ 9223372036854775807 := by
  simp [Lit.wf, IntKind.min, IntKind.max, IntKind.bits, IntKind.signed] at h
  omega
theorem bt_lo (s : ByteArray) (i : Int) : 0 ≤ bt s i := (bt_range s i).1
theorem bt_hi (s : ByteArray) (i : Int) : bt s i ≤ 255 := (bt_range s i).2
theorem wfu32 {n : Int} (h : (Lit.int .u32 n).wf = true) : 0 ≤ n ∧ n < 4294967296 := by
  simp [Lit.wf, IntKind.min, IntKind.max, IntKind.bits, IntKind.signed] at h
  omega
theorem evb {α β : Type} {x : Option α} {f : Nat → α → Option β} {a : α} {r : β} (h : x = some a) (k : Ev (fun n => f n a) r) : Ev (fun n => x.bind (f n)) r := Ev.bind (g := fun _ => x) (evc h) k
theorem i64_nat (a b : Nat) (ha : a < 9223372036854775808) (hb : b < 9223372036854775808) : Go.bits .and .i64 (a : Int) (b : Int) = ((a &&& b : Nat) : Int) ∧ Go.bits .or .i64 (a : Int) (b : Int) = ((a ||| b : Nat) : Int) :=
  bits_nat .i64 63 (by decide) (fun m h0 h1 => by rw [IntKind.wrap_i64]; omega) a b ha hb

theorem spec_l01In_is (x a b : Int) : spec_l01In.f x a b = some (decide (a ≤ x ∧ x ≤ b)) := by
  unfold spec_l01In.f
  by_cases h : x ≥ a
  · rw [if_pos h]; congr 1; rw [decide_eq_decide]; exact ⟨fun h2 => ⟨h, h2⟩, fun h2 => h2.2⟩
  · rw [if_neg h]; congr 1; symm; rw [decide_eq_false_iff_not]; exact fun h2 => h h2.1

theorem impl_in_is (x a b : Int) : impl_in.f x a b = some (decide (a ≤ x ∧ x ≤ b)) := by
  unfold impl_in.f
  by_cases h : x ≥ a
  · rw [if_pos h]; congr 1; rw [decide_eq_decide]; exact ⟨fun h2 => ⟨h, h2⟩, fun h2 => h2.2⟩
  · rw [if_neg h]; congr 1; symm; rw [decide_eq_false_iff_not]; exact fun h2 => h h2.1

def roleB (w n : Int) : Bool := decide (0 ≤ w ∧ w ≤ 5) && decide (0 ≤ n ∧ n ≤ 3)
theorem spec_RoleOk_is (w n : Int) : spec_RoleOk.f w n = some (roleB w n) := by
  simp only [spec_RoleOk.f, spec_l01In_is, Option.bind_some, roleB]
  cases decide (0 ≤ w ∧ w ≤ 5) <;> rfl
theorem impl_RoleOk_is (w n : Int) : impl_RoleOk.f w n = some (roleB w n) := by
  simp only [impl_RoleOk.f, impl_in_is, Option.bind_some, roleB]
  cases decide (0 ≤ w ∧ w ≤ 5) <;> rfl

def credB (k o n w aw an bw bn u z : Int) : Bool :=
  roleB o n && decide (1 ≤ u ∧ u ≤ 9999) && decide (0 ≤ z ∧ z ≤ 99) &&
    (if k = 1 then decide (0 ≤ w ∧ w ≤ 5) && (aw == 0 && an == 0) && (bw == 0 && bn == 0)
     else if k = 2 then decide (w = 0) && roleB aw an && (bw == 0 && bn == 0)
     else if k = 3 then decide (w = 0) && roleB aw an && roleB bw bn && (bw == 0)
     else if k = 4 then decide (w = 0) && roleB aw an && roleB bw bn
     else false)
theorem ifb {α : Type} {b : Bool} {x y : α} : (if b = true then x else y) = (match b with | true => x | false => y) := by cases b <;> rfl
theorem spec_CredOk_is (m : Nat) (k o n w aw an bw bn u z : Int) : spec_CredOk.f (m + 1) k o n w aw an bw bn u z = some (credB k o n w aw an bw bn u z) := by
  simp only [spec_CredOk.f, spec_CredOk.j0, spec_RoleOk_is, spec_l01In_is, Option.bind_some, credB]
  cases roleB o n
  · rfl
  cases decide (1 ≤ u ∧ u ≤ 9999)
  · rfl
  cases decide (0 ≤ z ∧ z ≤ 99)
  · rfl
  simp only [if_true, Bool.not_true, Bool.true_and]
  rw [if_neg (by decide)]
  by_cases h1 : k = 1
  · rw [if_pos h1, if_pos h1]
    cases decide (0 ≤ w ∧ w ≤ 5)
    · rfl
    cases (aw == 0 && an == 0)
    · rfl
    rfl
  rw [if_neg h1, if_neg h1]
  by_cases h2 : k = 2
  · rw [if_pos h2, if_pos h2]
    by_cases h : w = 0
    · rw [if_pos h, decide_eq_true h]
      cases roleB aw an <;> rfl
    · rw [if_neg h, decide_eq_false h]; rfl
  rw [if_neg h2, if_neg h2]
  by_cases h3 : k = 3
  · rw [if_pos h3, if_pos h3]
    by_cases h : w = 0
    · rw [if_pos h, decide_eq_true h]
      cases roleB aw an
      · rfl
      cases roleB bw bn <;> rfl
    · rw [if_neg h, decide_eq_false h]; rfl
  rw [if_neg h3, if_neg h3]
  by_cases h4 : k = 4
  · rw [if_pos h4, if_pos h4]
    by_cases h : w = 0
    · rw [if_pos h, decide_eq_true h]
      cases roleB aw an <;> rfl
    · rw [if_neg h, decide_eq_false h]; rfl
  rw [if_neg h4, if_neg h4]
theorem impl_RoleOk_eq : impl_RoleOk.f = spec_RoleOk.f := by funext a b; rw [spec_RoleOk_is, impl_RoleOk_is]
theorem impl_isPerson_is (w : Int) : impl_isPerson.f w = some (decide (0 ≤ w ∧ w ≤ 5)) := by unfold impl_isPerson.f; rw [impl_in_is]; rfl
theorem impl_CredOk_eq (m : Nat) (k o n w aw an bw bn u z : Int) : impl_CredOk.f (m + 1) k o n w aw an bw bn u z = spec_CredOk.f (m + 1) k o n w aw an bw bn u z := by
  simp only [impl_CredOk.f, impl_CredOk.j0, spec_CredOk.f, spec_CredOk.j0, impl_RoleOk_eq, impl_isPerson_is, impl_in_is, spec_l01In_is]
theorem impl_CredOk_is (m : Nat) (k o n w aw an bw bn u z : Int) : impl_CredOk.f (m + 1) k o n w aw an bw bn u z = some (credB k o n w aw an bw bn u z) := (impl_CredOk_eq m k o n w aw an bw bn u z).trans (spec_CredOk_is m k o n w aw an bw bn u z)

theorem FnExactCredOk : laws_FnExactCredOk.Pure := by
  intro k o n w aw an bw bn u z _ _ _ _ _ _ _ _ _ _
  refine ⟨1, ?_⟩
  simp only [laws_FnExactCredOk.f, laws_toCred.f, laws_toRole.f, Option.bind_some, spec_CredOk_is 0, impl_CredOk_is 0]
  rw [if_neg (by simp)]

end Go.Proofs.Ytkgbmimekaebfaa.Pure
