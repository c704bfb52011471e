/-
The law FnExactVarText of the given program answers true at every input: the plain statement that is left when the printed walk has stepped through the code.
Conditions: the bounds of the given row (sizes of texts and lists, numbers of their kinds); none of our own.
-/
import Derived.Test.YtepjagfbdagkmaaPFnExactVarTextx1
import Derived.Laws.BitsAllLaws
namespace Go.Proofs.Ytepjagfbdagkmaa.Pure
open Go.RowKit Go.Proofs.Ytepjagfbdagkmaa.PFnExactVarText Go.Proofs.YtepjagfbdagkmaaW.PrintWords Go.Proofs.YtepjagfbdagkmaaW.PrintLast Go.Proofs.YtepjagfbdagkmaaW.PrintMore

theorem evp {α : Type} {c : Prop} [Decidable c] {f g : Nat → Option α} {r : α} (hc : c) (h : Ev f r) : Ev (fun k => if c then f k else g k) r := Ev.congr (fun _ => if_pos hc) h
theorem evn {α : Type} {c : Prop} [Decidable c] {f g : Nat → Option α} {r : α} (hc : ¬ c) (h : Ev g r) : Ev (fun k => if c then f k else g k) r := Ev.congr (fun _ => if_neg hc) h
theorem evs {α : Type} {x y : α} (h : x = y) : Ev (fun _ => some x) y := by subst h; exact Ev.now _
theorem evc {α : Type} {x : Option α} {y : α} (h : x = some y) : Ev (fun _ => x) y := by subst h; exact Ev.now _
theorem w64 {n : Int} (h1 : -9223372036854775808 ≤ n) (h2 : n ≤ 9223372036854775807) : wrap64 n = n := IntWalk.wrap64_in n ⟨h1, h2⟩
theorem w64n (n : Nat) (h : n ≤ 9223372036854775807) : wrap64 (n : Int) = (n : Int) := w64 (by omega) (by omega)
theorem w64s (n : Nat) (h : n + 1 ≤ 9223372036854775807) : wrap64 ((n : Int) + 1) = ((n + 1 : Nat) : Int) := by rw [w64 (by omega) (by omega)]; rfl
theorem w64a (a b : Nat) (h : a + b ≤ 9223372036854775807) : wrap64 ((a : Int) + (b : Int)) = ((a + b : Nat) : Int) := by rw [w64 (by omega) (by omega)]; rfl
theorem w64m (a b : Nat) (h : a * b ≤ 9223372036854775807) : wrap64 ((a : Int) * (b : Int)) = ((a * b : Nat) : Int) := by
  have e : ((a * b : Nat) : Int) = (a : Int) * (b : Int) := Int.natCast_mul a b
  rw [w64 (by omega) (by omega), e]
theorem wf64 {n : Int} (h : (Lit.int .i64 n).wf = true) : -9223372036854775808 ≤ n ∧ n ≤ 9223372036854775807 := by
  simp [Lit.wf, IntKind.min, IntKind.max, IntKind.bits, IntKind.signed] at h
  omega
theorem bt_lo (s : ByteArray) (i : Int) : 0 ≤ bt s i := (bt_range s i).1
theorem bt_hi (s : ByteArray) (i : Int) : bt s i ≤ 255 := (bt_range s i).2
theorem wfu32 {n : Int} (h : (Lit.int .u32 n).wf = true) : 0 ≤ n ∧ n < 4294967296 := by
  simp [Lit.wf, IntKind.min, IntKind.max, IntKind.bits, IntKind.signed] at h
  omega
theorem evb {α β : Type} {x : Option α} {f : Nat → α → Option β} {a : α} {r : β} (h : x = some a) (k : Ev (fun n => f n a) r) : Ev (fun n => x.bind (f n)) r := Ev.bind (g := fun _ => x) (evc h) k
theorem i64_nat (a b : Nat) (ha : a < 9223372036854775808) (hb : b < 9223372036854775808) : Go.bits .and .i64 (a : Int) (b : Int) = ((a &&& b : Nat) : Int) ∧ Go.bits .or .i64 (a : Int) (b : Int) = ((a ||| b : Nat) : Int) :=
  bits_nat .i64 63 (by decide) (fun m h0 h1 => by rw [IntKind.wrap_i64]; omega) a b ha hb

def varNums (n : Nat) : List Int := if n > 127 then ((n % 128 + 128 : Nat) : Int) :: varNums (n / 128) else [(n : Int)]
termination_by n
decreasing_by omega
theorem varNums_small {n : Nat} (h : ¬ n > 127) : varNums n = [(n : Int)] := by rw [varNums, if_neg h]
theorem varNums_big {n : Nat} (h : n > 127) : varNums n = ((n % 128 + 128 : Nat) : Int) :: varNums (n / 128) := by rw [varNums, if_pos h]
theorem varNums_len (d : Nat) : ∀ n : Nat, n < 128 ^ d → 0 < d → (varNums n).length ≤ d := by
  induction d with
  | zero => intro n h h0; omega
  | succ d ih =>
    intro n h _
    by_cases hb : n > 127
    · rw [varNums_big hb]
      have hd : 0 < d := by
        rcases Nat.eq_zero_or_pos d with h0 | h0
        · subst h0; simp at h; omega
        · exact h0
      have := ih (n / 128) (by rw [Nat.pow_succ] at h; omega) hd
      simp; omega
    · rw [varNums_small hb]; simp
def vt (n : Nat) : ByteArray := strOfNums (varNums n)

theorem spec_l01In_is (x a b : Int) : spec_l01In.f x a b = some (decide (a ≤ x ∧ x ≤ b)) := by
  unfold spec_l01In.f
  by_cases h : x ≥ a
  · rw [if_pos h]; congr 1; rw [decide_eq_decide]; exact ⟨fun h2 => ⟨h, h2⟩, fun h2 => h2.2⟩
  · rw [if_neg h]; congr 1; symm; rw [decide_eq_false_iff_not]; exact fun h2 => h h2.1

theorem impl_in_is (x a b : Int) : impl_in.f x a b = some (decide (a ≤ x ∧ x ≤ b)) := by
  unfold impl_in.f
  by_cases h : x ≥ a
  · rw [if_pos h]; congr 1; rw [decide_eq_decide]; exact ⟨fun h2 => ⟨h, h2⟩, fun h2 => h2.2⟩
  · rw [if_neg h]; congr 1; symm; rw [decide_eq_false_iff_not]; exact fun h2 => h h2.1

theorem spec_l01Var_l (d : Nat) : ∀ (n : Nat) (acc : List Int), n < 128 ^ d → n ≤ 9223372036854775807 → acc.length + d < 140737488355328 → Ev (fun k => spec_l01Var.l0 k (n : Int) acc) (strOfNums (acc ++ varNums n)) := by
  induction d with
  | zero =>
    intro n acc h h2 h3
    obtain rfl : n = 0 := by simp at h; omega
    refine Ev.step (fun k => by rw [spec_l01Var.l0]) (evn (by simp) (evp (by omega) (evs ?_)))
    rw [varNums_small (by omega)]; rfl
  | succ d ih =>
    intro n acc h h2 h3
    by_cases hb : n > 127
    · refine Ev.step (fun k => by rw [spec_l01Var.l0]) (evp (by omega) (evp (by omega) ?_))
      have e1 : wrap64 (Int.tdiv (n : Int) 128) = ((n / 128 : Nat) : Int) := by rw [Int.tdiv_eq_ediv_of_nonneg (by omega), w64 (by omega) (by omega)]; rfl
      have e2 : (wrap64 ((Int.tmod (n : Int) 128) + 128)) % 256 = ((n % 128 + 128 : Nat) : Int) := by rw [Int.tmod_eq_emod_of_nonneg (by omega), w64 (by omega) (by omega)]; omega
      rw [e1, e2, varNums_big hb]
      have := ih (n / 128) (acc ++ [((n % 128 + 128 : Nat) : Int)]) (by rw [Nat.pow_succ] at h; omega) (by omega) (by simp; omega)
      rw [List.append_assoc] at this
      exact this
    · refine Ev.step (fun k => by rw [spec_l01Var.l0]) (evn (by omega) (evp (by omega) (evs ?_)))
      rw [varNums_small hb, Int.emod_eq_of_lt (by omega) (by omega)]
theorem spec_l01Var_is (n : Nat) (h : n ≤ 9223372036854775807) : Ev (fun k => spec_l01Var.f k (n : Int)) (vt n) := by
  have := spec_l01Var_l 9 n [] (by omega) h (by simp)
  simpa [spec_l01Var.f, vt] using this

theorem i64_and127 (n : Nat) (h : n ≤ 9223372036854775807) : Go.bits .and .i64 (n : Int) 127 = ((n % 128 : Nat) : Int) := by
  have := (i64_nat n 127 (by omega) (by omega)).1
  rw [nat_mask7] at this
  exact this

theorem i64_or128 (x : Nat) (h : x < 128) : Go.bits .or .i64 (x : Int) 128 = ((x + 128 : Nat) : Int) := by
  have := (i64_nat x 128 (by omega) (by omega)).2
  rw [Nat.or_comm, nat_join 7 128 x (by decide) (by omega), Nat.add_comm] at this
  exact this
theorem impl_varText_l (d : Nat) : ∀ (n : Nat) (acc : List Int), n < 128 ^ d → n ≤ 9223372036854775807 → acc.length + d < 140737488355328 → Ev (fun k => impl_varText.l0 k (n : Int) acc) (strOfNums (acc ++ varNums n)) := by
  induction d with
  | zero =>
    intro n acc h h2 h3
    obtain rfl : n = 0 := by simp at h; omega
    refine Ev.step (fun k => by rw [impl_varText.l0]) (evn (by simp) (evp (by omega) (evs ?_)))
    rw [varNums_small (by omega)]; rfl
  | succ d ih =>
    intro n acc h h2 h3
    by_cases hb : n > 127
    · refine Ev.step (fun k => by rw [impl_varText.l0]) (evp (by omega) (evp (by omega) ?_))
      have e1 : (n : Int) / 128 = ((n / 128 : Nat) : Int) := rfl
      have e2 : (Go.bits .or .i64 (Go.bits .and .i64 (n : Int) 127) 128) % 256 = ((n % 128 + 128 : Nat) : Int) := by rw [i64_and127 n h2, i64_or128 _ (by omega)]; omega
      rw [e1, e2, varNums_big hb]
      have := ih (n / 128) (acc ++ [((n % 128 + 128 : Nat) : Int)]) (by rw [Nat.pow_succ] at h; omega) (by omega) (by simp; omega)
      rw [List.append_assoc] at this
      exact this
    · refine Ev.step (fun k => by rw [impl_varText.l0]) (evn (by omega) (evp (by omega) (evs ?_)))
      rw [varNums_small hb, Int.emod_eq_of_lt (by omega) (by omega)]
theorem impl_varText_is (n : Nat) (h : n ≤ 9223372036854775807) : Ev (fun k => impl_varText.f k (n : Int)) (vt n) := by
  have := impl_varText_l 9 n [] (by omega) h (by simp)
  simpa [impl_varText.f, vt] using this

theorem FnExactVarText : laws_FnExactVarText.Pure := by
  intro n hw
  refine Ev.rounds (g := fun k => laws_FnExactVarText.f k n) ?_
  simp only [laws_FnExactVarText.f, spec_VarText.f, impl_VarText.f, spec_l01In_is, impl_in_is, Option.bind_some, decide_eq_true_eq]
  by_cases h : 0 ≤ n ∧ n ≤ 1000000000
  · obtain ⟨n, rfl⟩ := Int.eq_ofNat_of_zero_le h.1
    simp only [h, and_self, if_true]
    exact Ev.bind (Ev.bind (spec_l01Var_is n (by omega)) (Ev.now _)) (Ev.bind (Ev.bind (impl_varText_is n (by omega)) (Ev.now _)) (evp rfl (evn (by simp) (Ev.now _))))
  · simp only [h, if_false]
    exact evb rfl (evb rfl (evp rfl (evn (by simp) (Ev.now _))))

end Go.Proofs.Ytepjagfbdagkmaa.Pure
