/-
The law FnMembersTold of the given program answers true at every input: the plain statement that is left when the printed walk has stepped through the code.
Conditions: the bounds of the given row (sizes of texts and lists, numbers of their kinds); none of our own.
-/
import Derived.Test.YtnebbjcgkoaloaaPFnMembersToldx16
import Derived.Laws.BitsAllLaws
namespace Go.Proofs.Ytnebbjcgkoaloaa.Pure
open Go.RowKit Go.Proofs.Ytnebbjcgkoaloaa.PFnMembersTold Go.Proofs.YtnebbjcgkoaloaaW.PrintWords Go.Proofs.YtnebbjcgkoaloaaW.PrintLast Go.Proofs.YtnebbjcgkoaloaaW.PrintMore
set_option linter.unusedVariables false

theorem evp {α : Type} {c : Prop} [Decidable c] {f g : Nat → Option α} {r : α} (hc : c) (h : Ev f r) : Ev (fun k => if c then f k else g k) r := Ev.congr (fun _ => if_pos hc) h
theorem evn {α : Type} {c : Prop} [Decidable c] {f g : Nat → Option α} {r : α} (hc : ¬ c) (h : Ev g r) : Ev (fun k => if c then f k else g k) r := Ev.congr (fun _ => if_neg hc) h
theorem evs {α : Type} {x y : α} (h : x = y) : Ev (fun _ => some x) y := by subst h; exact Ev.now _
theorem evc {α : Type} {x : Option α} {y : α} (h : x = some y) : Ev (fun _ => x) y := by subst h; exact Ev.now _
theorem w64 {n : Int} (h1 : -9223372036854775808 ≤ n) (h2 : n ≤ 9223372036854775807) : wrap64 n = n := IntWalk.wrap64_in n ⟨h1, h2⟩
theorem w64n (n : Nat) (h : n ≤ 9223372036854775807) : wrap64 (n : Int) = (n : Int) := w64 (by omega) (by omega)
theorem w64s (n : Nat) (h : n + 1 ≤ 9223372036854775807) : wrap64 ((n : Int) + 1) = ((n + 1 : Nat) : Int) := by rw [w64 (by omega) (by omega)]; rfl
theorem w64a (a b : Nat) (h : a + b ≤ 9223372036854775807) : wrap64 ((a : Int) + (b : Int)) = ((a + b : Nat) : Int) := by rw [w64 (by omega) (by omega)]; rfl
theorem w64m (a b : Nat) (h : a * b ≤ 9223372036854775807) : wrap64 ((a : Int) * (b : Int)) = ((a * b : Nat) : Int) := by
  have e : ((a * b : Nat) : Int) = (a : Int) * (b : Int) := Int.natCast_mul a b
  rw [w64 (by omega) (by omega), e]
theorem wf64 {n : Int} (h : (Lit.int .i64 n).wf = true) : -9223372036854775808 ≤ n ∧ n ≤ 9223372036854775807 := by
  simp [Lit.wf, IntKind.min, IntKind.max, IntKind.bits, IntKind.signed] at h
  omega
theorem wfu32 {n : Int} (h : (Lit.int .u32 n).wf = true) : 0 ≤ n ∧ n < 4294967296 := by
  simp [Lit.wf, IntKind.min, IntKind.max, IntKind.bits, IntKind.signed] at h
  omega
theorem evb {α β : Type} {x : Option α} {f : Nat → α → Option β} {a : α} {r : β} (h : x = some a) (k : Ev (fun n => f n a) r) : Ev (fun n => x.bind (f n)) r := Ev.bind (g := fun _ => x) (evc h) k
theorem i64_nat (a b : Nat) (ha : a < 9223372036854775808) (hb : b < 9223372036854775808) : Go.bits .and .i64 (a : Int) (b : Int) = ((a &&& b : Nat) : Int) ∧ Go.bits .or .i64 (a : Int) (b : Int) = ((a ||| b : Nat) : Int) :=
  bits_nat .i64 63 (by decide) (fun m h0 h1 => by rw [IntKind.wrap_i64]; omega) a b ha hb

theorem evo {α : Type} {g : Nat → Option α} {r : α} (h : ∀ m, g (m + 1) = some r) : Ev g r := ⟨1, fun k hk => by obtain ⟨m, rfl⟩ : ∃ m, k = m + 1 := ⟨k - 1, by omega⟩; exact h m⟩

theorem rd_nat (l : List Int) (i : Nat) (h : i < l.length) : rd l (i : Int) = l[i] := by
  unfold rd
  rw [Int.toNat_natCast, List.getD_eq_getElem?_getD, List.getElem?_eq_getElem h]
  rfl

theorem impl_in_is (x a b : Int) : impl_in.f x a b = some (decide (a ≤ x ∧ x ≤ b)) := by
  unfold impl_in.f
  by_cases h : x ≥ a
  · rw [if_pos h]; congr 1; rw [decide_eq_decide]; exact ⟨fun h2 => ⟨h, h2⟩, fun h2 => h2.2⟩
  · rw [if_neg h]; congr 1; symm; rw [decide_eq_false_iff_not]; exact fun h2 => h h2.1

theorem spec_l01In_is (x a b : Int) : spec_l01In.f x a b = some (decide (a ≤ x ∧ x ≤ b)) := by
  unfold spec_l01In.f
  by_cases h : x ≥ a
  · rw [if_pos h]; congr 1; rw [decide_eq_decide]; exact ⟨fun h2 => ⟨h, h2⟩, fun h2 => h2.2⟩
  · rw [if_neg h]; congr 1; symm; rw [decide_eq_false_iff_not]; exact fun h2 => h h2.1

def roleB (w n : Int) : Bool := decide (0 ≤ w ∧ w ≤ 5) && decide (0 ≤ n ∧ n ≤ 3)
theorem spec_RoleOk_is (w n : Int) : spec_RoleOk.f w n = some (roleB w n) := by
  simp only [spec_RoleOk.f, spec_l01In_is, Option.bind_some, roleB]
  cases decide (0 ≤ w ∧ w ≤ 5) <;> rfl
theorem impl_RoleOk_is (w n : Int) : impl_RoleOk.f w n = some (roleB w n) := by
  simp only [impl_RoleOk.f, impl_in_is, Option.bind_some, roleB]
  cases decide (0 ≤ w ∧ w ≤ 5) <;> rfl

def credB (k o n w aw an bw bn u z : Int) : Bool :=
  roleB o n && decide (1 ≤ u ∧ u ≤ 9999) && decide (0 ≤ z ∧ z ≤ 99) &&
    (if k = 1 then decide (0 ≤ w ∧ w ≤ 5) && (aw == 0 && an == 0) && (bw == 0 && bn == 0)
     else if k = 2 then decide (w = 0) && roleB aw an && (bw == 0 && bn == 0)
     else if k = 3 then decide (w = 0) && roleB aw an && roleB bw bn && (bw == 0)
     else if k = 4 then decide (w = 0) && roleB aw an && roleB bw bn
     else false)
theorem ifb {α : Type} {b : Bool} {x y : α} : (if b = true then x else y) = (match b with | true => x | false => y) := by cases b <;> rfl
theorem spec_CredOk_is (m : Nat) (k o n w aw an bw bn u z : Int) : spec_CredOk.f (m + 1) k o n w aw an bw bn u z = some (credB k o n w aw an bw bn u z) := by
  simp only [spec_CredOk.f, spec_CredOk.j0, spec_RoleOk_is, spec_l01In_is, Option.bind_some, credB]
  cases roleB o n
  · rfl
  cases decide (1 ≤ u ∧ u ≤ 9999)
  · rfl
  cases decide (0 ≤ z ∧ z ≤ 99)
  · rfl
  simp only [if_true, Bool.not_true, Bool.true_and]
  rw [if_neg (by decide)]
  by_cases h1 : k = 1
  · rw [if_pos h1, if_pos h1]
    cases decide (0 ≤ w ∧ w ≤ 5)
    · rfl
    cases (aw == 0 && an == 0)
    · rfl
    rfl
  rw [if_neg h1, if_neg h1]
  by_cases h2 : k = 2
  · rw [if_pos h2, if_pos h2]
    by_cases h : w = 0
    · rw [if_pos h, decide_eq_true h]
      cases roleB aw an <;> rfl
    · rw [if_neg h, decide_eq_false h]; rfl
  rw [if_neg h2, if_neg h2]
  by_cases h3 : k = 3
  · rw [if_pos h3, if_pos h3]
    by_cases h : w = 0
    · rw [if_pos h, decide_eq_true h]
      cases roleB aw an
      · rfl
      cases roleB bw bn <;> rfl
    · rw [if_neg h, decide_eq_false h]; rfl
  rw [if_neg h3, if_neg h3]
  by_cases h4 : k = 4
  · rw [if_pos h4, if_pos h4]
    by_cases h : w = 0
    · rw [if_pos h, decide_eq_true h]
      cases roleB aw an <;> rfl
    · rw [if_neg h, decide_eq_false h]; rfl
  rw [if_neg h4, if_neg h4]
theorem impl_RoleOk_eq : impl_RoleOk.f = spec_RoleOk.f := by funext a b; rw [spec_RoleOk_is, impl_RoleOk_is]
theorem impl_isPerson_is (w : Int) : impl_isPerson.f w = some (decide (0 ≤ w ∧ w ≤ 5)) := by unfold impl_isPerson.f; rw [impl_in_is]; rfl
theorem impl_CredOk_eq (m : Nat) (k o n w aw an bw bn u z : Int) : impl_CredOk.f (m + 1) k o n w aw an bw bn u z = spec_CredOk.f (m + 1) k o n w aw an bw bn u z := by
  simp only [impl_CredOk.f, impl_CredOk.j0, spec_CredOk.f, spec_CredOk.j0, impl_RoleOk_eq, impl_isPerson_is, impl_in_is, spec_l01In_is]
theorem impl_CredOk_is (m : Nat) (k o n w aw an bw bn u z : Int) : impl_CredOk.f (m + 1) k o n w aw an bw bn u z = some (credB k o n w aw an bw bn u z) := (impl_CredOk_eq m k o n w aw an bw bn u z).trans (spec_CredOk_is m k o n w aw an bw bn u z)

abbrev C := S29
theorem rdc_nat (l : List C) (i : Nat) (h : i < l.length) : rd_T29 l (i : Int) = l[i] := by
  unfold rd_T29
  rw [Int.toNat_natCast, List.getD_eq_getElem?_getD, List.getElem?_eq_getElem h]
  rfl

def cOk (c : C) : Bool := credB c.f0 c.f1.f0 c.f1.f1 c.f2 c.f3.f0 c.f3.f1 c.f4.f0 c.f4.f1 c.f5 c.f6

abbrev F := S36
abbrev Ro := S27
theorem rdf_nat (l : List F) (i : Nat) (h : i < l.length) : rd_T36 l (i : Int) = l[i] := by
  unfold rd_T36
  rw [Int.toNat_natCast, List.getD_eq_getElem?_getD, List.getElem?_eq_getElem h]
  rfl
theorem ro_ext {a b : Ro} (h1 : a.f0 = b.f0) (h2 : a.f1 = b.f1) : a = b := by cases a; cases b; simp_all
theorem f_ext {a b : F} (h1 : a.f0.f0 = b.f0.f0) (h2 : a.f0.f1 = b.f0.f1) (h3 : a.f1 = b.f1) : a = b := by
  obtain ⟨⟨a1, a2⟩, a3⟩ := a
  obtain ⟨⟨b1, b2⟩, b3⟩ := b
  simp only at h1 h2 h3
  subst h1 h2 h3
  rfl
instance : DecidableEq Ro := fun a b => decidable_of_iff (a.f0 = b.f0 ∧ a.f1 = b.f1) ⟨fun h => ro_ext h.1 h.2, fun h => by subst h; exact ⟨rfl, rfl⟩⟩
instance : DecidableEq F := fun a b => decidable_of_iff (a.f0.f0 = b.f0.f0 ∧ a.f0.f1 = b.f0.f1 ∧ a.f1 = b.f1) ⟨fun h => f_ext h.1 h.2.1 h.2.2, fun h => by subst h; exact ⟨rfl, rfl, rfl⟩⟩
theorem drop_f (l : List F) (i : Nat) (h : i < l.length) : l.drop i = rd_T36 l (i : Int) :: l.drop (i + 1) := by rw [List.drop_eq_getElem_cons h, rdf_nat l i h]
def mkF (a b c : Int) : F := ⟨⟨a, b⟩, c⟩
def putF (l : List F) (f : F) : List F := if f ∈ l then l else l ++ [f]
theorem spec_l06Has_l (l : List F) (hl : l.length ≤ 4000000) (a b c : Int) : ∀ (d i : Nat), i + d = l.length → Ev (fun k => spec_l06Has.l0 k l (i : Int) a b c) (decide (mkF a b c ∈ l.drop i)) := by
  intro d
  induction d with
  | zero =>
    intro i h
    refine Ev.step (fun k => by rw [spec_l06Has.l0]) (evn (by omega) (evs ?_))
    rw [List.drop_of_length_le (by omega)]
    rfl
  | succ d ih =>
    intro i h
    refine Ev.step (fun k => by rw [spec_l06Has.l0]) (evp (by omega) (evp (by omega) ?_))
    rw [drop_f l i (by omega)]
    generalize rd_T36 l (i : Int) = x
    by_cases e : x = mkF a b c
    · refine evp (by subst e; simp [mkF]) (evs ?_)
      rw [e]
      simp
    · refine evn (fun h => e ?_) ?_
      · simp only [Bool.and_eq_true, beq_iff_eq] at h
        exact f_ext h.1.1 h.1.2 h.2
      · rw [w64s i (by omega)]
        have : decide (mkF a b c ∈ x :: l.drop (i + 1)) = decide (mkF a b c ∈ l.drop (i + 1)) := by
          rw [decide_eq_decide, List.mem_cons]
          exact ⟨fun h => h.resolve_left (fun h2 => e h2.symm), Or.inr⟩
        rw [this]
        exact ih (i + 1) (by omega)
theorem spec_l06Has_is (l : List F) (hl : l.length ≤ 4000000) (a b c : Int) : Ev (fun k => spec_l06Has.f k l a b c) (decide (mkF a b c ∈ l)) := spec_l06Has_l l hl a b c l.length 0 (Nat.zero_add _)
theorem spec_l06Put_is (l : List F) (hl : l.length ≤ 4000000) (a b c : Int) : Ev (fun k => spec_l06Put.f k l a b c) (putF l (mkF a b c)) := by
  refine Ev.bind (spec_l06Has_is l hl a b c) ?_
  unfold putF
  by_cases h : mkF a b c ∈ l
  · rw [if_pos h]
    exact evp (decide_eq_true h) (Ev.now _)
  · rw [if_neg h]
    exact evn (by simpa using h) (evp (by omega) (Ev.now _))
theorem putF_len (l : List F) (f : F) : (putF l f).length ≤ l.length + 1 := by
  unfold putF
  split
  · omega
  · simp
theorem puts_len : ∀ (cs l : List F), (cs.foldl putF l).length ≤ l.length + cs.length
  | [], l => by simp
  | c :: cs, l => by
    have h1 := puts_len cs (putF l c)
    have h2 := putF_len l c
    simp only [List.foldl_cons, List.length_cons]
    omega
/-- The index of a fact, or -1. -/
def idxF (f : F) : List F → Nat → Int
  | [], _ => -1
  | x :: l, i => if x = f then (i : Int) else idxF f l (i + 1)
theorem idxF_mem (f : F) : ∀ (l : List F) (i : Nat), (idxF f l i ≥ 0 ↔ f ∈ l)
  | [], i => by simp [idxF]
  | x :: l, i => by
    unfold idxF
    by_cases e : x = f
    · rw [if_pos e]
      exact ⟨fun _ => by rw [e]; exact List.mem_cons_self, fun _ => by omega⟩
    · rw [if_neg e, idxF_mem f l (i + 1), List.mem_cons]
      exact ⟨Or.inr, fun h => h.resolve_left (fun h2 => e h2.symm)⟩
theorem impl_Index_l (l : List F) (hl : l.length ≤ 4000000) (a b c : Int) : ∀ (d i : Nat), i + d = l.length → Ev (fun k => impl_Fact_74.l0 k l (l.length : Int) (i : Int) a b c) (idxF (mkF a b c) (l.drop i) i) := by
  intro d
  induction d with
  | zero =>
    intro i h
    refine Ev.step (fun k => by rw [impl_Fact_74.l0]) (evn (by omega) (evs ?_))
    rw [List.drop_of_length_le (by omega)]
    rfl
  | succ d ih =>
    intro i h
    refine Ev.step (fun k => by rw [impl_Fact_74.l0]) (evp (by omega) (evp (by omega) (evp (by omega) ?_)))
    rw [drop_f l i (by omega), idxF]
    generalize rd_T36 l (i : Int) = x
    by_cases e : x = mkF a b c
    · rw [if_pos e]
      exact evp (by subst e; simp [mkF]) (Ev.now _)
    · rw [if_neg e]
      refine evn (fun h => e ?_) ?_
      · simp only [Bool.and_eq_true, beq_iff_eq] at h
        exact f_ext h.1.1.symm h.1.2.symm h.2.symm
      · rw [w64s i (by omega)]
        exact ih (i + 1) (by omega)
theorem impl_Index_is (l : List F) (hl : l.length ≤ 4000000) (a b c : Int) : Ev (fun k => impl_Fact_74.f k l a b c) (idxF (mkF a b c) l 0) := impl_Index_l l hl a b c l.length 0 (Nat.zero_add _)
theorem impl_Has_is (l : List F) (hl : l.length ≤ 4000000) (a b c : Int) : Ev (fun k => impl_Fact_52.f k l a b c) (decide (mkF a b c ∈ l)) := by
  refine Ev.bind (impl_Index_is l hl a b c) (evs ?_)
  rw [decide_eq_decide]
  exact idxF_mem _ _ _
def okF (f : F) : Prop := (0 ≤ f.f0.f0 ∧ f.f0.f0 ≤ 5) ∧ (0 ≤ f.f0.f1 ∧ f.f0.f1 ≤ 3) ∧ (0 ≤ f.f1 ∧ f.f1 ≤ 5)
instance (f : F) : Decidable (okF f) := inferInstanceAs (Decidable (_ ∧ _))
theorem impl_factOk_is (a b c : Int) : impl_factOk.f a b c = some (decide (okF (mkF a b c))) := by
  unfold impl_factOk.f
  rw [impl_RoleOk_is, Option.bind_some, impl_isPerson_is]
  by_cases h : roleB a b = true
  · rw [if_pos h]
    simp only [Option.bind_some]
    congr 1
    rw [decide_eq_decide]
    unfold roleB at h
    simp only [Bool.and_eq_true, decide_eq_true_eq] at h
    exact ⟨fun h2 => ⟨h.1, h.2, h2⟩, fun h2 => h2.2.2⟩
  · rw [if_neg h]
    congr 1
    symm
    rw [decide_eq_false_iff_not]
    intro h2
    apply h
    unfold roleB
    simp only [Bool.and_eq_true, decide_eq_true_eq]
    exact ⟨h2.1, h2.2.1⟩
/-- The places of a circle's right facts. -/
def posF (r : Ro) : List F → Nat → List Int
  | [], _ => []
  | x :: l, i => if x.f0 = r ∧ okF x then (i : Int) :: posF r l (i + 1) else posF r l (i + 1)
theorem posF_len (r : Ro) : ∀ (l : List F) (i : Nat), (posF r l i).length ≤ l.length
  | [], i => Nat.le_refl _
  | x :: l, i => by
    have := posF_len r l (i + 1)
    unfold posF
    split <;> simp <;> omega
theorem impl_whoOf_l (l : List F) (hl : l.length ≤ 4000000) (a b : Int) : ∀ (d i : Nat) (acc : List Int), i + d = l.length → acc.length ≤ i → Ev (fun k => impl_whoOf.l0 k acc l (l.length : Int) (i : Int) a b) (acc ++ posF ⟨a, b⟩ (l.drop i) i) := by
  intro d
  induction d with
  | zero =>
    intro i acc h ha
    refine Ev.step (fun k => by rw [impl_whoOf.l0]) (evn (by omega) (evs ?_))
    rw [List.drop_of_length_le (by omega), posF, List.append_nil]
  | succ d ih =>
    intro i acc h ha
    refine Ev.step (fun k => by rw [impl_whoOf.l0]) (evp (by omega) (evp (by omega) (evp (by omega) ?_)))
    rw [drop_f l i (by omega), posF, w64s i (by omega)]
    generalize rd_T36 l (i : Int) = x
    by_cases e : x.f0 = ⟨a, b⟩
    · refine evp (by rw [e]; simp) (evb (impl_factOk_is _ _ _) ?_)
      have hx : mkF x.f0.f0 x.f0.f1 x.f1 = x := rfl
      rw [hx]
      by_cases o : okF x
      · rw [if_pos ⟨e, o⟩]
        refine evp (decide_eq_true o) (evp (by omega) ?_)
        have := ih (i + 1) (acc ++ [(i : Int)]) (by omega) (by simp; omega)
        rw [List.append_assoc] at this
        exact this
      · rw [if_neg (fun h => o h.2)]
        exact evn (by simpa using o) (ih (i + 1) acc (by omega) (by omega))
    · rw [if_neg (fun h => e h.1)]
      refine evn (fun h => e ?_) (ih (i + 1) acc (by omega) (by omega))
      simp only [Bool.and_eq_true, beq_iff_eq] at h
      exact ro_ext h.1 h.2
theorem impl_whoOf_is (l : List F) (hl : l.length ≤ 4000000) (a b : Int) : Ev (fun k => impl_whoOf.f k l a b) (posF ⟨a, b⟩ l 0) := impl_whoOf_l l hl a b l.length 0 [] (Nat.zero_add _) (Nat.le_refl _)
theorem impl_who_is (l : List F) (hl : l.length ≤ 4000000) (a b : Int) : Ev (fun k => impl_derive.who k l a b) (posF ⟨a, b⟩ l 0) := by
  refine Ev.bind (impl_whoOf_is l hl a b) (evp ?_ (Ev.now _))
  have := posF_len ⟨a, b⟩ l 0
  omega
theorem Ev_flatM {α : Type} (g : Nat → Int → Option (List α)) (a : Int → List α) : ∀ (p : List Int), (∀ i ∈ p, Ev (fun k => g k i) (a i)) → Ev (fun k => Derive.flatM (g k) p) (p.flatMap a)
  | [], _ => Ev.now _
  | i :: p, h => by
    have h1 := h i (by simp)
    have h2 := Ev_flatM g a p (fun j hj => h j (by simp [hj]))
    exact Ev.bind h1 (Ev.bind h2 (Ev.now _))
/-- Each place of posF is one, and what stands there. -/
theorem posF_at (r : Ro) (L : List F) : ∀ (l : List F) (i : Nat), l = L.drop i → ∀ j ∈ posF r l i, 0 ≤ j ∧ j < (L.length : Int) ∧ (rd_T36 L j).f0 = r ∧ okF (rd_T36 L j)
  | [], i, _, j, hj => by simp [posF] at hj
  | x :: l, i, h, j, hj => by
    have hi : i < L.length := by
      rcases Nat.lt_or_ge i L.length with h1 | h1
      · exact h1
      · rw [List.drop_of_length_le h1] at h; cases h
    rw [drop_f L i hi] at h
    injection h with h1 h2
    unfold posF at hj
    by_cases c : x.f0 = r ∧ okF x
    · rw [if_pos c] at hj
      rcases List.mem_cons.1 hj with rfl | hj
      · rw [← h1]
        exact ⟨by omega, by omega, c.1, c.2⟩
      · exact posF_at r L l (i + 1) h2 j hj
    · rw [if_neg c] at hj
      exact posF_at r L l (i + 1) h2 j hj
theorem posF_map {β : Type} (r : Ro) (L : List F) (g : F → β) : ∀ (l : List F) (i : Nat), l = L.drop i → (∀ x ∈ l, okF x) → (posF r l i).map (fun j => g (rd_T36 L j)) = (l.filter fun x => decide (x.f0 = r)).map g
  | [], i, _, _ => rfl
  | x :: l, i, h, ho => by
    have hi : i < L.length := by
      rcases Nat.lt_or_ge i L.length with h1 | h1
      · exact h1
      · rw [List.drop_of_length_le h1] at h; cases h
    have h0 := h
    rw [drop_f L i hi] at h
    injection h with h1 h2
    have ih := posF_map r L g l (i + 1) h2 (fun y hy => ho y (by simp [hy]))
    unfold posF
    by_cases c : x.f0 = r
    · rw [if_pos ⟨c, ho x (by simp)⟩, List.filter_cons_of_pos (by simp [c]), List.map_cons, List.map_cons, ih, ← h1]
    · rw [if_neg (fun h => c h.1), List.filter_cons_of_neg (by simp [c]), ih]
/-- The facts that a credential tells, in order. -/
def cands (l : List F) (c : C) : List F :=
  if c.f0 = 1 then [⟨c.f1, c.f2⟩]
  else if c.f0 = 2 then (l.filter fun x => decide (x.f0 = c.f3)).map fun x => ⟨c.f1, x.f1⟩
  else if c.f0 = 3 then (l.filter fun x => decide (x.f0 = c.f3)).flatMap fun x => (l.filter fun y => decide (y.f0 = ⟨x.f1, c.f4.f1⟩)).map fun y => ⟨c.f1, y.f1⟩
  else if c.f0 = 4 then (l.filter fun x => decide (x.f0 = c.f3)).flatMap fun x => if (⟨c.f4, x.f1⟩ : F) ∈ l then [⟨c.f1, x.f1⟩] else []
  else []
def follows (l : List F) (c : C) : List F := if cOk c = true then (cands l c).foldl putF l else l

theorem fm_map {α β : Type} (p : α → Bool) (g : α → β) : ∀ l : List α, (l.filter p).map g = l.flatMap fun x => if p x = true then [g x] else []
  | [] => rfl
  | x :: l => by
    rw [List.flatMap_cons, List.filter_cons]
    by_cases h : p x = true
    · rw [if_pos h, if_pos h, List.map_cons, fm_map p g l]; rfl
    · rw [if_neg h, if_neg h, fm_map p g l]; rfl
theorem fm_flat {α β : Type} (p : α → Bool) (g : α → List β) : ∀ l : List α, (l.filter p).flatMap g = l.flatMap fun x => if p x = true then g x else []
  | [] => rfl
  | x :: l => by
    rw [List.flatMap_cons, List.filter_cons]
    by_cases h : p x = true
    · rw [if_pos h, if_pos h, List.flatMap_cons, fm_flat p g l]
    · rw [if_neg h, if_neg h, fm_flat p g l]; rfl
def in3 (c : C) (x y : F) : List F := if decide (y.f0 = ⟨x.f1, c.f4.f1⟩) = true then [⟨c.f1, y.f1⟩] else []
def con (c : C) (L : List F) (x : F) : List F :=
  if decide (x.f0 = c.f3) = true then (if c.f0 = 2 then [⟨c.f1, x.f1⟩] else if c.f0 = 3 then L.flatMap (in3 c x) else if (⟨c.f4, x.f1⟩ : F) ∈ L then [⟨c.f1, x.f1⟩] else []) else []
theorem cands_con (L : List F) (c : C) (h : c.f0 = 2 ∨ c.f0 = 3 ∨ c.f0 = 4) : cands L c = L.flatMap (con c L) := by
  unfold cands
  rcases h with h | h | h
  · rw [if_neg (by omega), if_pos h, fm_map]
    congr 1
    funext x
    unfold con
    rw [if_pos h]
  · rw [if_neg (by omega), if_neg (by omega), if_pos h, fm_flat]
    congr 1
    funext x
    unfold con in3
    rw [if_neg (by omega : ¬ c.f0 = 2), if_pos h, fm_map]
  · rw [if_neg (by omega), if_neg (by omega), if_neg (by omega), if_pos h, fm_flat]
    congr 1
    funext x
    unfold con
    rw [if_neg (by omega : ¬ c.f0 = 2), if_neg (by omega : ¬ c.f0 = 3)]
set_option maxRecDepth 100000 in
theorem spec_Follows_l0 (L : List F) (hL : L.length ≤ 1000) (c : C) (h : c.f0 = 2 ∨ c.f0 = 4) : ∀ (d i : Nat) (acc : List F), i + d = L.length → acc.length ≤ 1000 + i →
    Ev (fun k => spec_Follows.l0 k L acc (i : Int) c.f0 c.f1.f0 c.f1.f1 c.f2 c.f3.f0 c.f3.f1 c.f4.f0 c.f4.f1 c.f5 c.f6) (((L.drop i).flatMap (con c L)).foldl putF acc) := by
  intro d
  induction d with
  | zero =>
    intro i acc hi ha
    refine Ev.step (fun k => by rw [spec_Follows.l0]) (evn (by omega) (evs ?_))
    rw [List.drop_of_length_le (by omega)]
    rfl
  | succ d ih =>
    intro i acc hi ha
    refine Ev.step (fun k => by rw [spec_Follows.l0]) (evp (by omega) (evp (by omega) ?_))
    rw [drop_f L i (by omega), List.flatMap_cons, List.foldl_append, w64s i (by omega)]
    generalize rd_T36 L (i : Int) = x
    unfold con
    by_cases e : x.f0 = c.f3
    · refine evp (by rw [e]; simp) ?_
      rw [if_pos (decide_eq_true e)]
      have hp := putF_len acc ⟨c.f1, x.f1⟩
      by_cases k2 : c.f0 = 2
      · rw [if_pos k2]
        refine evp k2 (Ev.bind (spec_l06Put_is acc (by omega) _ _ _) ?_)
        exact ih (i + 1) _ (by omega) (by show (putF acc ⟨c.f1, x.f1⟩).length ≤ _; omega)
      · rw [if_neg k2, if_neg (by omega : ¬ c.f0 = 3)]
        refine evn k2 (Ev.bind (spec_l06Has_is L (by omega) _ _ _) ?_)
        by_cases m : (⟨c.f4, x.f1⟩ : F) ∈ L
        · rw [if_pos m]
          refine evp (decide_eq_true m) (Ev.bind (spec_l06Put_is acc (by omega) _ _ _) ?_)
          exact ih (i + 1) _ (by omega) (by show (putF acc ⟨c.f1, x.f1⟩).length ≤ _; omega)
        · rw [if_neg m]
          exact evn (by rw [decide_eq_true_eq]; exact m) (ih (i + 1) acc (by omega) (by omega))
    · rw [if_neg (by rw [decide_eq_true_eq]; exact e)]
      refine evn (fun h => e ?_) (ih (i + 1) acc (by omega) (by omega))
      simp only [Bool.and_eq_true, beq_iff_eq] at h
      exact ro_ext h.1 h.2
set_option maxRecDepth 100000 in
theorem spec_Follows_l2 (L : List F) (hL : L.length ≤ 1000) (c : C) (x : F) (i : Nat) (R : List F → List F) (B : Nat) (hB : B ≤ 3000000)
    (hn : ∀ acc : List F, acc.length ≤ B + 1000 → Ev (fun k => spec_Follows.l1 k L acc (wrap64 ((i : Int) + 1)) c.f0 c.f1.f0 c.f1.f1 c.f2 c.f3.f0 c.f3.f1 c.f4.f0 c.f4.f1 c.f5 c.f6) (R acc)) : ∀ (d j : Nat) (acc : List F), j + d = L.length → acc.length ≤ B + j →
    Ev (fun k => spec_Follows.l2 k L acc (i : Int) (j : Int) c.f0 c.f1.f0 c.f1.f1 c.f2 c.f3.f0 c.f3.f1 c.f4.f0 c.f4.f1 c.f5 c.f6 x.f1 c.f4.f1) (R (((L.drop j).flatMap (in3 c x)).foldl putF acc)) := by
  intro d
  induction d with
  | zero =>
    intro j acc hj ha
    refine Ev.step (fun k => by rw [spec_Follows.l2]) (evn (by omega) ?_)
    rw [List.drop_of_length_le (by omega)]
    exact hn acc (by omega)
  | succ d ih =>
    intro j acc hj ha
    refine Ev.step (fun k => by rw [spec_Follows.l2]) (evp (by omega) (evp (by omega) ?_))
    rw [drop_f L j (by omega), List.flatMap_cons, List.foldl_append, w64s j (by omega)]
    generalize rd_T36 L (j : Int) = y
    unfold in3
    by_cases e : y.f0 = ⟨x.f1, c.f4.f1⟩
    · rw [if_pos (decide_eq_true e)]
      have hp := putF_len acc ⟨c.f1, y.f1⟩
      refine evp (by rw [e]; simp) (Ev.bind (spec_l06Put_is acc (by omega) _ _ _) ?_)
      exact ih (j + 1) _ (by omega) (by show (putF acc ⟨c.f1, y.f1⟩).length ≤ _; omega)
    · rw [if_neg (by rw [decide_eq_true_eq]; exact e)]
      refine evn (fun h => e ?_) (ih (j + 1) acc (by omega) (by omega))
      simp only [Bool.and_eq_true, beq_iff_eq] at h
      exact ro_ext h.1 h.2
set_option maxRecDepth 100000 in
theorem spec_Follows_l1 (L : List F) (hL : L.length ≤ 1000) (c : C) (h : c.f0 = 3) : ∀ (d i : Nat) (acc : List F), i + d = L.length → acc.length ≤ 1000 + 1000 * i →
    Ev (fun k => spec_Follows.l1 k L acc (i : Int) c.f0 c.f1.f0 c.f1.f1 c.f2 c.f3.f0 c.f3.f1 c.f4.f0 c.f4.f1 c.f5 c.f6) (((L.drop i).flatMap (con c L)).foldl putF acc) := by
  intro d
  induction d with
  | zero =>
    intro i acc hi ha
    refine Ev.step (fun k => by rw [spec_Follows.l1]) (evn (by omega) (evs ?_))
    rw [List.drop_of_length_le (by omega)]
    rfl
  | succ d ih =>
    intro i acc hi ha
    refine Ev.step (fun k => by rw [spec_Follows.l1]) (evp (by omega) (evp (by omega) ?_))
    rw [drop_f L i (by omega), List.flatMap_cons, List.foldl_append]
    generalize rd_T36 L (i : Int) = x
    have hn : ∀ acc : List F, acc.length ≤ 1000 + 1000 * i + 1000 → Ev (fun k => spec_Follows.l1 k L acc (wrap64 ((i : Int) + 1)) c.f0 c.f1.f0 c.f1.f1 c.f2 c.f3.f0 c.f3.f1 c.f4.f0 c.f4.f1 c.f5 c.f6) (((L.drop (i + 1)).flatMap (con c L)).foldl putF acc) := by
      intro acc ha
      rw [w64s i (by omega)]
      exact ih (i + 1) acc (by omega) (by omega)
    by_cases e : x.f0 = c.f3
    · refine evn (by rw [e]; simp) ?_
      have hc : con c L x = L.flatMap (in3 c x) := by
        unfold con
        rw [if_pos (decide_eq_true e), if_neg (by omega), if_pos h]
      rw [hc]
      exact spec_Follows_l2 L hL c x i (fun acc => ((L.drop (i + 1)).flatMap (con c L)).foldl putF acc) (1000 + 1000 * i) (by omega) hn L.length 0 acc (Nat.zero_add _) (by omega)
    · have hc : con c L x = [] := by
        unfold con
        rw [if_neg (by rw [decide_eq_true_eq]; exact e)]
      rw [hc]
      refine evp ?_ (hn acc (by omega))
      simp only [Bool.or_eq_true, Bool.not_eq_true', beq_eq_false_iff_ne]
      by_cases e1 : x.f0.f0 = c.f3.f0
      · exact Or.inr (fun e2 => e (ro_ext e1 e2))
      · exact Or.inl e1
theorem kind_of (c : C) (h : cOk c = true) : c.f0 = 1 ∨ c.f0 = 2 ∨ c.f0 = 3 ∨ c.f0 = 4 := by
  unfold cOk credB at h
  by_cases h1 : c.f0 = 1
  · exact Or.inl h1
  by_cases h2 : c.f0 = 2
  · exact Or.inr (Or.inl h2)
  by_cases h3 : c.f0 = 3
  · exact Or.inr (Or.inr (Or.inl h3))
  by_cases h4 : c.f0 = 4
  · exact Or.inr (Or.inr (Or.inr h4))
  rw [if_neg h1, if_neg h2, if_neg h3, if_neg h4, Bool.and_false] at h
  cases h
set_option maxRecDepth 100000 in
theorem spec_Follows_is (L : List F) (hL : L.length ≤ 1000) (c : C) : Ev (fun k => spec_Follows.f k L c.f0 c.f1.f0 c.f1.f1 c.f2 c.f3.f0 c.f3.f1 c.f4.f0 c.f4.f1 c.f5 c.f6) (follows L c) := by
  refine evb rfl (evp (by simp; omega) (evb rfl ?_))
  rw [List.nil_append]
  refine Ev.bind (evo fun m => spec_CredOk_is m _ _ _ _ _ _ _ _ _ _) ?_
  unfold follows
  by_cases ho : cOk c = true
  · rw [if_pos ho]
    refine evp ho ?_
    by_cases k1 : c.f0 = 1
    · refine evp k1 (Ev.bind (spec_l06Put_is L (by omega) _ _ _) (evs ?_))
      unfold cands
      rw [if_pos k1]
      rfl
    · refine evn k1 ?_
      by_cases k2 : c.f0 = 2
      · refine evp k2 (Ev.step (fun k => by rw [spec_Follows.j0]) (evp (by simp [k2]) ?_))
        rw [cands_con L c (Or.inl k2)]
        exact spec_Follows_l0 L hL c (Or.inl k2) L.length 0 L (Nat.zero_add _) (by omega)
      · refine evn k2 (Ev.step (fun k => by rw [spec_Follows.j0]) ?_)
        rcases kind_of c ho with h | h | h | h
        · exact absurd h k1
        · exact absurd h k2
        · refine evn (by simp [h]) (evp h ?_)
          rw [cands_con L c (Or.inr (Or.inl h))]
          exact spec_Follows_l1 L hL c h L.length 0 L (Nat.zero_add _) (by omega)
        · refine evp (by simp [h]) ?_
          rw [cands_con L c (Or.inr (Or.inr h))]
          exact spec_Follows_l0 L hL c (Or.inr h) L.length 0 L (Nat.zero_add _) (by omega)
  · rw [if_neg ho]
    exact evn ho (Ev.now _)

def toF (d : Derive.DV) : F := mkF d.1 d.2.1 d.2.2.1
theorem flat_len {α β : Type} (B : Nat) (f : α → List β) : ∀ l : List α, (∀ x ∈ l, (f x).length ≤ B) → (l.flatMap f).length ≤ l.length * B
  | [], _ => by simp
  | x :: l, h => by
    have h1 := h x (by simp)
    have h2 := flat_len B f l (fun y hy => h y (by simp [hy]))
    rw [List.flatMap_cons, List.length_append, List.length_cons, Nat.add_mul]
    omega
theorem flat_one {α β : Type} (f : α → β) : ∀ l : List α, (l.flatMap fun x => [f x]) = l.map f
  | [] => rfl
  | x :: l => by rw [List.flatMap_cons, flat_one f l]; rfl
theorem map_flat {α β γ : Type} (f : α → List β) (g : β → γ) : ∀ l : List α, (l.flatMap f).map g = l.flatMap fun x => (f x).map g
  | [] => rfl
  | x :: l => by rw [List.flatMap_cons, List.map_append, map_flat f g l, List.flatMap_cons]
theorem flat_map {α β γ : Type} (f : α → β) (g : β → List γ) : ∀ l : List α, (l.map f).flatMap g = l.flatMap fun x => g (f x)
  | [] => rfl
  | x :: l => by rw [List.map_cons, List.flatMap_cons, flat_map f g l, List.flatMap_cons]
theorem flat_congr {α β : Type} {f g : α → List β} : ∀ l : List α, (∀ x ∈ l, f x = g x) → l.flatMap f = l.flatMap g
  | [], _ => rfl
  | x :: l, h => by rw [List.flatMap_cons, List.flatMap_cons, h x (by simp), flat_congr l (fun y hy => h y (by simp [hy]))]
theorem pos_flat (r : Ro) (L : List F) (ho : ∀ x ∈ L, okF x) {β : Type} (G : F → List β) : ((posF r L 0).flatMap fun i => G (rd_T36 L i)) = (L.filter fun x => decide (x.f0 = r)).flatMap G := by
  have h := posF_map r L (fun x => x) L 0 (by simp) ho
  rw [List.map_id'] at h
  rw [← h, flat_map]
theorem pos_in (r : Ro) (L : List F) : ∀ i ∈ posF r L 0, 0 ≤ i ∧ i < (L.length : Int) := fun i hi => by
  obtain ⟨h1, h2, _⟩ := posF_at r L L 0 (by simp) i hi
  exact ⟨h1, h2⟩
theorem derive_ev (L : List F) (hL : L.length ≤ 1000) (ho : ∀ x ∈ L, okF x) (c : C) (hc : cOk c = true) : ∃ r : List Derive.DV, r.map toF = cands L c ∧ r.length ≤ 4000000 ∧
    Ev (fun k => Derive.deriveL L.length (impl_derive.who k L) (fun x y z => impl_Fact_74.f k L x y z) (fun i => (rd_T36 L i).f1) c.f0 c.f1.f0 c.f1.f1 c.f2 c.f3.f0 c.f3.f1 c.f4.f0 c.f4.f1) r := by
  have hw := fun a b => impl_who_is L (by omega) a b
  have hx := fun a b d => impl_Index_is L (by omega) a b d
  unfold Derive.deriveL cands
  by_cases k1 : c.f0 = 1
  · simp only [k1, if_true]
    exact ⟨_, rfl, by simp, Ev.now _⟩
  by_cases k2 : c.f0 = 2
  · rw [if_neg k1, if_pos k2]
    simp only [if_neg k1, if_pos k2]
    refine ⟨(posF c.f3 L 0).flatMap fun i => [(c.f1.f0, c.f1.f1, (rd_T36 L i).f1, [i])], ?_, ?_, ?_⟩
    · rw [map_flat]
      show ((posF c.f3 L 0).flatMap fun i => [mkF c.f1.f0 c.f1.f1 (rd_T36 L i).f1]) = _
      rw [flat_one]
      exact posF_map c.f3 L (fun x => (⟨c.f1, x.f1⟩ : F)) L 0 (by simp) ho
    · have h1 := flat_len 1 (fun i => [(c.f1.f0, c.f1.f1, (rd_T36 L i).f1, [i])]) (posF c.f3 L 0) (fun _ _ => by simp)
      have h2 := posF_len c.f3 L 0
      omega
    · refine Ev.bind (hw _ _) (Ev_flatM _ _ _ (fun i hi => ?_))
      unfold Derive.g2
      exact evp (pos_in _ L i hi) (Ev.now _)
  by_cases k3 : c.f0 = 3
  · rw [if_neg k1, if_neg k2, if_pos k3]
    simp only [if_neg k1, if_neg k2, if_pos k3]
    refine ⟨(posF c.f3 L 0).flatMap fun i => (posF ⟨(rd_T36 L i).f1, c.f4.f1⟩ L 0).flatMap fun j => [(c.f1.f0, c.f1.f1, (rd_T36 L j).f1, [i, j])], ?_, ?_, ?_⟩
    · rw [map_flat, ← pos_flat c.f3 L ho]
      refine flat_congr _ (fun i _ => ?_)
      rw [map_flat]
      show ((posF ⟨(rd_T36 L i).f1, c.f4.f1⟩ L 0).flatMap fun j => [mkF c.f1.f0 c.f1.f1 (rd_T36 L j).f1]) = _
      rw [flat_one]
      exact posF_map _ L (fun x => (⟨c.f1, x.f1⟩ : F)) L 0 (by simp) ho
    · have h1 := flat_len 1000 (fun i => (posF ⟨(rd_T36 L i).f1, c.f4.f1⟩ L 0).flatMap fun j => [(c.f1.f0, c.f1.f1, (rd_T36 L j).f1, [i, j])]) (posF c.f3 L 0) (fun i _ => by
        have h3 := flat_len 1 (fun j => [(c.f1.f0, c.f1.f1, (rd_T36 L j).f1, [i, j])]) (posF ⟨(rd_T36 L i).f1, c.f4.f1⟩ L 0) (fun _ _ => by simp)
        have h4 := posF_len ⟨(rd_T36 L i).f1, c.f4.f1⟩ L 0
        omega)
      have h2 := posF_len c.f3 L 0
      omega
    · refine Ev.bind (hw _ _) (Ev_flatM _ _ _ (fun i hi => ?_))
      unfold Derive.g3
      refine evp (pos_in _ L i hi) (Ev.bind (hw _ _) (Ev_flatM _ _ _ (fun j hj => ?_)))
      unfold Derive.g3b
      exact evp (pos_in _ L j hj) (Ev.now _)
  have k4 : c.f0 = 4 := by
    rcases kind_of c hc with h | h | h | h
    · exact absurd h k1
    · exact absurd h k2
    · exact absurd h k3
    · exact h
  rw [if_neg k1, if_neg k2, if_neg k3, if_pos k4]
  simp only [if_neg k1, if_neg k2, if_neg k3, if_pos k4]
  refine ⟨(posF c.f3 L 0).flatMap fun i => if (⟨c.f4, (rd_T36 L i).f1⟩ : F) ∈ L then [(c.f1.f0, c.f1.f1, (rd_T36 L i).f1, [i, idxF (mkF c.f4.f0 c.f4.f1 (rd_T36 L i).f1) L 0])] else [], ?_, ?_, ?_⟩
  · rw [map_flat, ← pos_flat c.f3 L ho]
    refine flat_congr _ (fun i _ => ?_)
    by_cases m : (⟨c.f4, (rd_T36 L i).f1⟩ : F) ∈ L
    · rw [if_pos m, if_pos m]; rfl
    · rw [if_neg m, if_neg m]; rfl
  · have h1 := flat_len 1 (fun i => if (⟨c.f4, (rd_T36 L i).f1⟩ : F) ∈ L then [(c.f1.f0, c.f1.f1, (rd_T36 L i).f1, [i, idxF (mkF c.f4.f0 c.f4.f1 (rd_T36 L i).f1) L 0])] else []) (posF c.f3 L 0) (fun i _ => by split <;> simp)
    have h2 := posF_len c.f3 L 0
    omega
  · refine Ev.bind (hw _ _) (Ev_flatM _ _ _ (fun i hi => ?_))
    unfold Derive.g4
    refine evp (pos_in _ L i hi) (Ev.bind (hx _ _ _) ?_)
    by_cases m : (⟨c.f4, (rd_T36 L i).f1⟩ : F) ∈ L
    · rw [if_pos m]
      exact evp ((idxF_mem _ L 0).2 m) (Ev.now _)
    · rw [if_neg m]
      exact evn (fun h => m ((idxF_mem _ L 0).1 h)) (Ev.now _)
theorem impl_derive_is (L : List F) (hL : L.length ≤ 1000) (ho : ∀ x ∈ L, okF x) (c : C) (hc : cOk c = true) : ∃ ds : List S78, ds.map (fun d => d.f0) = cands L c ∧ ds.length ≤ 4000000 ∧
    Ev (fun k => impl_derive.f k L c.f0 c.f1.f0 c.f1.f1 c.f2 c.f3.f0 c.f3.f1 c.f4.f0 c.f4.f1 c.f5 c.f6) ds := by
  obtain ⟨r, h1, h2, h3⟩ := derive_ev L hL ho c hc
  refine ⟨r.map impl_derive.mk, ?_, by rw [List.length_map]; exact h2, Ev.bind h3 (evp h2 (Ev.now _))⟩
  rw [List.map_map, ← h1]
  rfl
/-- Facts all right, each once: at most 144. -/
structure Inv (l : List F) : Prop where
  nd : l.Nodup
  ok : ∀ x ∈ l, okF x
theorem nodup_le {α : Type} [DecidableEq α] : ∀ (l U : List α), l.Nodup → (∀ x ∈ l, x ∈ U) → l.length ≤ U.length
  | [], U, _, _ => Nat.zero_le _
  | x :: l, U, hn, h => by
    rw [List.nodup_cons] at hn
    have hx := h x (by simp)
    have h1 := nodup_le l (U.erase x) hn.2 (fun y hy => (List.mem_erase_of_ne (fun e => hn.1 (by rw [← e]; exact hy))).2 (h y (by simp [hy])))
    rw [List.length_erase_of_mem hx] at h1
    have : 0 < U.length := List.length_pos_of_mem hx
    simp only [List.length_cons]
    omega
def univ : List F := (List.range 144).map fun n : Nat => mkF ((n / 24 : Nat) : Int) ((n / 6 % 4 : Nat) : Int) ((n % 6 : Nat) : Int)
theorem Inv.le {l : List F} (h : Inv l) : l.length ≤ 144 := by
  have := nodup_le l univ h.nd (fun x hx => by
    obtain ⟨⟨a1, a2⟩, ⟨b1, b2⟩, d1, d2⟩ := h.ok x hx
    unfold univ
    refine List.mem_map.2 ⟨x.f0.f0.toNat * 24 + x.f0.f1.toNat * 6 + x.f1.toNat, List.mem_range.2 (by omega), f_ext ?_ ?_ ?_⟩
    · show (((x.f0.f0.toNat * 24 + x.f0.f1.toNat * 6 + x.f1.toNat) / 24 : Nat) : Int) = _
      omega
    · show (((x.f0.f0.toNat * 24 + x.f0.f1.toNat * 6 + x.f1.toNat) / 6 % 4 : Nat) : Int) = _
      omega
    · show (((x.f0.f0.toNat * 24 + x.f0.f1.toNat * 6 + x.f1.toNat) % 6 : Nat) : Int) = _
      omega)
  simpa [univ] using this
theorem put_inv {l : List F} (h : Inv l) {f : F} (hf : okF f) : Inv (putF l f) := by
  unfold putF
  by_cases m : f ∈ l
  · rw [if_pos m]; exact h
  · rw [if_neg m]
    refine ⟨?_, fun x hx => ?_⟩
    · rw [List.nodup_append]
      exact ⟨h.nd, by simp, fun a ha b hb e => by simp at hb; subst hb; subst e; exact m ha⟩
    · rcases List.mem_append.1 hx with hx | hx
      · exact h.ok x hx
      · simp at hx; subst hx; exact hf
theorem puts_inv : ∀ (cs : List F) {l : List F}, Inv l → (∀ x ∈ cs, okF x) → Inv (cs.foldl putF l)
  | [], l, h, _ => h
  | c :: cs, l, h, hc => puts_inv cs (put_inv h (hc c (by simp))) (fun x hx => hc x (by simp [hx]))
theorem role_ok {c : C} (h : cOk c = true) : (0 ≤ c.f1.f0 ∧ c.f1.f0 ≤ 5) ∧ (0 ≤ c.f1.f1 ∧ c.f1.f1 ≤ 3) := by
  unfold cOk credB at h
  simp only [Bool.and_eq_true] at h
  have h1 := h.1.1.1
  unfold roleB at h1
  simp only [Bool.and_eq_true, decide_eq_true_eq] at h1
  exact h1
theorem who_ok {c : C} (h : cOk c = true) (k : c.f0 = 1) : 0 ≤ c.f2 ∧ c.f2 ≤ 5 := by
  unfold cOk credB at h
  rw [if_pos k] at h
  simp only [Bool.and_eq_true, decide_eq_true_eq] at h
  exact h.2.1.1
theorem cands_ok {l : List F} (h : ∀ x ∈ l, okF x) {c : C} (hc : cOk c = true) : ∀ f ∈ cands l c, okF f := by
  have hr := role_ok hc
  intro f hf
  by_cases k1 : c.f0 = 1
  · unfold cands at hf
    rw [if_pos k1] at hf
    simp at hf
    subst hf
    exact ⟨hr.1, hr.2, who_ok hc k1⟩
  · have hk : c.f0 = 2 ∨ c.f0 = 3 ∨ c.f0 = 4 := by
      rcases kind_of c hc with h | h | h | h
      · exact absurd h k1
      · exact Or.inl h
      · exact Or.inr (Or.inl h)
      · exact Or.inr (Or.inr h)
    rw [cands_con l c hk] at hf
    obtain ⟨x, hx, hm⟩ := List.mem_flatMap.1 hf
    have ox := h x hx
    unfold con at hm
    split at hm
    · split at hm
      · simp at hm; subst hm; exact ⟨hr.1, hr.2, ox.2.2⟩
      · split at hm
        · obtain ⟨y, hy, hm⟩ := List.mem_flatMap.1 hm
          unfold in3 at hm
          split at hm
          · simp at hm; subst hm; exact ⟨hr.1, hr.2, (h y hy).2.2⟩
          · simp at hm
        · split at hm
          · simp at hm; subst hm; exact ⟨hr.1, hr.2, ox.2.2⟩
          · simp at hm
    · simp at hm
theorem follows_inv {l : List F} (h : Inv l) (c : C) : Inv (follows l c) := by
  unfold follows
  by_cases hc : cOk c = true
  · rw [if_pos hc]; exact puts_inv _ h (cands_ok h.ok hc)
  · rw [if_neg hc]; exact h
theorem puts_ge : ∀ (cs l : List F), l.length ≤ (cs.foldl putF l).length
  | [], l => Nat.le_refl _
  | c :: cs, l => by
    have h1 := puts_ge cs (putF l c)
    have h2 : l.length ≤ (putF l c).length := by unfold putF; split <;> simp
    simp only [List.foldl_cons]
    omega
theorem follows_ge (l : List F) (c : C) : l.length ≤ (follows l c).length := by
  unfold follows
  split
  · exact puts_ge _ _
  · exact Nat.le_refl _
def pass (cs : List C) (l : List F) : List F := cs.foldl follows l
theorem pass_inv : ∀ (cs : List C) {l : List F}, Inv l → Inv (pass cs l)
  | [], l, h => h
  | c :: cs, l, h => pass_inv cs (follows_inv h c)
theorem pass_ge : ∀ (cs : List C) (l : List F), l.length ≤ (pass cs l).length
  | [], l => Nat.le_refl _
  | c :: cs, l => Nat.le_trans (follows_ge l c) (pass_ge cs (follows l c))
def fin (cs : List C) : Nat → List F → List F
  | 0, l => l
  | m + 1, l => if (pass cs l).length > l.length then fin cs m (pass cs l) else pass cs l
def factsOf (cs : List C) : List F := fin cs 145 []
theorem drop_c (l : List C) (i : Nat) (h : i < l.length) : l.drop i = rd_T29 l (i : Int) :: l.drop (i + 1) := by rw [List.drop_eq_getElem_cons h, rdc_nat l i h]
theorem spec_Facts_l1 (cs : List C) (hcs : cs.length ≤ 4000000) (l0 : List F) (R : List F) : ∀ (d i : Nat) (l : List F) (b : Bool), i + d = cs.length → Inv l → l0.length ≤ l.length → b = decide (l.length > l0.length) →
    Ev (fun k => spec_FactsOf.l0 k cs (pass (cs.drop i) l) (decide ((pass (cs.drop i) l).length > l0.length))) R → Ev (fun k => spec_FactsOf.l1 k cs l b (i : Int)) R := by
  intro d
  induction d with
  | zero =>
    intro i l b hi hl hg hb he
    refine Ev.step (fun k => by rw [spec_FactsOf.l1]) (evn (by omega) ?_)
    rw [List.drop_of_length_le (by omega)] at he
    rw [hb]
    exact he
  | succ d ih =>
    intro i l b hi hl hg hb he
    refine Ev.step (fun k => by rw [spec_FactsOf.l1]) (evp (by omega) (evp (by omega) ?_))
    rw [drop_c cs i (by omega)] at he
    rw [w64s i (by omega)]
    generalize rd_T29 cs (i : Int) = c at he ⊢
    have hle := hl.le
    have hfg := follows_ge l c
    refine Ev.bind (spec_Follows_is l (by omega) c) ?_
    by_cases g : (follows l c).length > l.length
    · refine evp (by omega) (ih (i + 1) (follows l c) true (by omega) (follows_inv hl c) (by omega) ?_ he)
      symm
      rw [decide_eq_true_eq]
      omega
    · refine evn (by omega) (ih (i + 1) (follows l c) b (by omega) (follows_inv hl c) (by omega) ?_ he)
      rw [hb, decide_eq_decide]
      omega
theorem spec_Facts_l0 (cs : List C) (hcs : cs.length ≤ 4000000) : ∀ (m : Nat) (l : List F), Inv l → 145 ≤ l.length + m → Ev (fun k => spec_FactsOf.l0 k cs l true) (fin cs m l) := by
  intro m
  induction m with
  | zero => intro l h hm; have := h.le; omega
  | succ m ih =>
    intro l h hm
    refine Ev.step (fun k => by rw [spec_FactsOf.l0]) (evp rfl ?_)
    have := spec_Facts_l1 cs hcs l (fin cs (m + 1) l) cs.length 0 l false (Nat.zero_add _) h (Nat.le_refl _) (by symm; rw [decide_eq_false_iff_not]; omega) ?_
    · exact this
    · rw [List.drop_zero, fin]
      by_cases g : (pass cs l).length > l.length
      · rw [if_pos g, decide_eq_true g]
        exact ih (pass cs l) (pass_inv cs h) (by omega)
      · rw [if_neg g, decide_eq_false g]
        exact Ev.step (fun k => by rw [spec_FactsOf.l0]) (evn (by decide) (Ev.now _))
theorem inv_nil : Inv [] := ⟨by simp, fun x hx => by simp at hx⟩
theorem spec_FactsOf_is (cs : List C) (hcs : cs.length ≤ 4000000) : Ev (fun k => spec_FactsOf.f k cs) (factsOf cs) := spec_Facts_l0 cs hcs 145 [] inv_nil (by simp)
theorem rdd_nat (l : List S78) (i : Nat) (h : i < l.length) : rd_T78 l (i : Int) = l[i] := by
  unfold rd_T78
  rw [Int.toNat_natCast, List.getD_eq_getElem?_getD, List.getElem?_eq_getElem h]
  rfl
theorem drop_d (l : List S78) (i : Nat) (h : i < l.length) : l.drop i = rd_T78 l (i : Int) :: l.drop (i + 1) := by rw [List.drop_eq_getElem_cons h, rdd_nat l i h]
abbrev Fo := S72
theorem impl_find_l2 (cs : List C) (B : Int) (cr : Int) (n i : Int) (ds : List S78) (hd : ds.length ≤ 2000000) (R : List F → List F)
    (hn : ∀ (fs : List F) (os : List Fo), os.map (fun o => o.f0) = fs → Inv fs → ∃ o : List Fo, o.map (fun o => o.f0) = R fs ∧ Ev (fun k => impl_findFacts.l1 k cs fs os B cs n (wrap64 (i + 1))) o) :
    ∀ (d j : Nat) (fs : List F) (os : List Fo), j + d = ds.length → (∀ x ∈ ds, okF x.f0) → os.map (fun o => o.f0) = fs → Inv fs → ∃ o : List Fo, o.map (fun o => o.f0) = R (((ds.drop j).map fun x => x.f0).foldl putF fs) ∧ Ev (fun k => impl_findFacts.l2 k cs fs os B cr cs n i ds (ds.length : Int) (j : Int)) o := by
  intro d
  induction d with
  | zero =>
    intro j fs os hj hok ho hi
    obtain ⟨o, o1, o2⟩ := hn fs os ho hi
    refine ⟨o, ?_, Ev.step (fun k => by rw [impl_findFacts.l2]) (evn (by omega) o2)⟩
    rw [List.drop_of_length_le (by omega)]
    exact o1
  | succ d ih =>
    intro j fs os hj hok ho hi
    have hle := hi.le
    have hx : rd_T78 ds (j : Int) ∈ ds := by rw [rdd_nat ds j (by omega)]; exact List.getElem_mem _
    have hxo := hok _ hx
    have hos : os.length = fs.length := by rw [← ho, List.length_map]
    rw [drop_d ds j (by omega), List.map_cons, List.foldl_cons]
    obtain ⟨x, e⟩ : ∃ x, rd_T78 ds (j : Int) = x := ⟨_, rfl⟩
    rw [e] at hxo ⊢
    by_cases m : x.f0 ∈ fs
    · have hp : putF fs x.f0 = fs := by unfold putF; rw [if_pos m]
      rw [hp]
      obtain ⟨o, o1, o2⟩ := ih (j + 1) fs os (by omega) hok ho hi
      refine ⟨o, o1, Ev.step (fun k => by rw [impl_findFacts.l2]) (evp (by omega) (evp (by omega) (evp (by omega) ?_)))⟩
      rw [e, w64s j (by omega)]
      refine Ev.bind (impl_Has_is fs (by omega) _ _ _) (evp ?_ o2)
      rw [decide_eq_true_eq]
      exact m
    · have hp : putF fs x.f0 = fs ++ [x.f0] := by unfold putF; rw [if_neg m]
      have hi2 := put_inv hi hxo
      rw [hp] at hi2 ⊢
      obtain ⟨o, o1, o2⟩ := ih (j + 1) (fs ++ [x.f0]) (os ++ [⟨x.f0, cr, x.f1⟩]) (by omega) hok (by rw [List.map_append, ho]; rfl) hi2
      refine ⟨o, o1, Ev.step (fun k => by rw [impl_findFacts.l2]) (evp (by omega) (evp (by omega) (evp (by omega) ?_)))⟩
      rw [e, w64s j (by omega)]
      refine Ev.bind (impl_Has_is fs (by omega) _ _ _) (evn ?_ (evp (by omega) (evp (by omega) o2)))
      rw [decide_eq_true_eq]
      exact m
theorem impl_find_l1 (cs : List C) (hcs : cs.length ≤ 4000000) (B : Int) (R0 : List F → List F)
    (hn : ∀ (fs : List F) (os : List Fo), os.map (fun o => o.f0) = fs → Inv fs → ∃ o : List Fo, o.map (fun o => o.f0) = R0 fs ∧ Ev (fun k => impl_findFacts.l0 k cs fs os B) o) :
    ∀ (d i : Nat) (fs : List F) (os : List Fo), i + d = cs.length → os.map (fun o => o.f0) = fs → Inv fs → ∃ o : List Fo, o.map (fun o => o.f0) = R0 (pass (cs.drop i) fs) ∧ Ev (fun k => impl_findFacts.l1 k cs fs os B cs (cs.length : Int) (i : Int)) o := by
  intro d
  induction d with
  | zero =>
    intro i fs os h ho hi
    obtain ⟨o, o1, o2⟩ := hn fs os ho hi
    refine ⟨o, ?_, Ev.step (fun k => by rw [impl_findFacts.l1]) (evn (by omega) o2)⟩
    rw [List.drop_of_length_le (by omega)]
    exact o1
  | succ d ih =>
    intro i fs os h ho hi
    have hle := hi.le
    rw [drop_c cs i (by omega)]
    obtain ⟨c, e⟩ : ∃ c, rd_T29 cs (i : Int) = c := ⟨_, rfl⟩
    rw [e]
    have hpass : pass (c :: cs.drop (i + 1)) fs = pass (cs.drop (i + 1)) (follows fs c) := rfl
    rw [hpass]
    by_cases hc : cOk c = true
    · obtain ⟨ds, d1, d2, d3⟩ := impl_derive_is fs (by omega) hi.ok c hc
      have hlen : ds.length ≤ 2000000 := by
        have : ds.length = (cands fs c).length := by rw [← d1, List.length_map]
        rw [this]
        by_cases k1 : c.f0 = 1
        · unfold cands; rw [if_pos k1]; simp
        · have hk : c.f0 = 2 ∨ c.f0 = 3 ∨ c.f0 = 4 := by
            rcases kind_of c hc with h | h | h | h
            · exact absurd h k1
            · exact Or.inl h
            · exact Or.inr (Or.inl h)
            · exact Or.inr (Or.inr h)
          rw [cands_con fs c hk]
          have := flat_len 1000 (con c fs) fs (fun x _ => by
            unfold con
            split
            · split
              · simp
              · split
                · have := flat_len 1 (in3 c x) fs (fun y _ => by unfold in3; split <;> simp)
                  omega
                · split <;> simp
            · simp)
          omega
      have hok : ∀ x ∈ ds, okF x.f0 := fun x hx => cands_ok hi.ok hc _ (by rw [← d1]; exact List.mem_map.2 ⟨x, hx, rfl⟩)
      obtain ⟨o, o1, o2⟩ := impl_find_l2 cs B (i : Int) (cs.length : Int) (i : Int) ds hlen (fun f => R0 (pass (cs.drop (i + 1)) f)) (fun fs os ho hi => by
        rw [w64s i (by omega)]
        exact ih (i + 1) fs os (by omega) ho hi) ds.length 0 fs os (Nat.zero_add _) hok ho hi
      refine ⟨o, ?_, Ev.step (fun k => by rw [impl_findFacts.l1]) (evp (by omega) (evp (by omega) (evp (by omega) ?_)))⟩
      · rw [o1, List.drop_zero, d1]
        unfold follows
        rw [if_pos hc]
      · rw [e]
        refine Ev.bind (evo fun m => impl_CredOk_is m _ _ _ _ _ _ _ _ _ _) (evp hc (evb (show impl_Fact_49.f fs = some fs by unfold impl_Fact_49.f; rw [if_pos (by omega)]) (Ev.bind d3 o2)))
    · obtain ⟨o, o1, o2⟩ := ih (i + 1) fs os (by omega) ho hi
      refine ⟨o, ?_, Ev.step (fun k => by rw [impl_findFacts.l1]) (evp (by omega) (evp (by omega) (evp (by omega) ?_)))⟩
      · rw [o1]
        unfold follows
        rw [if_neg hc]
      · rw [e, w64s i (by omega)]
        exact Ev.bind (evo fun m => impl_CredOk_is m _ _ _ _ _ _ _ _ _ _) (evn hc o2)
theorem impl_find_l0 (cs : List C) (hcs : cs.length ≤ 4000000) : ∀ (m : Nat) (fs : List F) (os : List Fo) (B : Int), os.map (fun o => o.f0) = fs → Inv fs → B < (fs.length : Int) → 145 ≤ fs.length + m → ∃ o : List Fo, o.map (fun o => o.f0) = fin cs m fs ∧ Ev (fun k => impl_findFacts.l0 k cs fs os B) o := by
  intro m
  induction m with
  | zero => intro fs os B ho hi hb hm; have := hi.le; omega
  | succ m ih =>
    intro fs os B ho hi hb hm
    obtain ⟨o, o1, o2⟩ := impl_find_l1 cs hcs (fs.length : Int) (fun f => if f.length > fs.length then fin cs m f else f) (fun f' os' ho' hi' => by
      by_cases g : f'.length > fs.length
      · simp only [if_pos g]
        exact ih f' os' (fs.length : Int) ho' hi' (by omega) (by omega)
      · simp only [if_neg g]
        exact ⟨os', ho', Ev.step (fun k => by rw [impl_findFacts.l0]) (evn (by omega) (Ev.now _))⟩) cs.length 0 fs os (Nat.zero_add _) ho hi
    refine ⟨o, ?_, Ev.step (fun k => by rw [impl_findFacts.l0]) (evp hb (show Ev (fun k => impl_findFacts.l1 k cs fs os (fs.length : Int) cs (cs.length : Int) 0) o from o2))⟩
    rw [o1, List.drop_zero]
    rfl
theorem rdo_nat (l : List Fo) (i : Nat) (h : i < l.length) : rd_T72 l (i : Int) = l[i] := by
  unfold rd_T72
  rw [Int.toNat_natCast, List.getD_eq_getElem?_getD, List.getElem?_eq_getElem h]
  rfl
theorem impl_FactsOf_l (os : List Fo) (hl : os.length ≤ 4000000) : ∀ (d i : Nat) (acc : List F), i + d = os.length → acc.length ≤ i → Ev (fun k => impl_FactsOf.l0 k acc os (os.length : Int) (i : Int)) (acc ++ (os.drop i).map fun o => o.f0) := by
  intro d
  induction d with
  | zero =>
    intro i acc h ha
    refine Ev.step (fun k => by rw [impl_FactsOf.l0]) (evn (by omega) (evs ?_))
    rw [List.drop_of_length_le (by omega)]
    exact (List.append_nil _).symm
  | succ d ih =>
    intro i acc h ha
    have e : os.drop i = rd_T72 os (i : Int) :: os.drop (i + 1) := by rw [List.drop_eq_getElem_cons (by omega : i < os.length), rdo_nat os i (by omega)]
    refine Ev.step (fun k => by rw [impl_FactsOf.l0]) (evp (by omega) (evp (by omega) (evp (by omega) (evp (by omega) ?_))))
    rw [e, List.map_cons, w64s i (by omega)]
    have := ih (i + 1) (acc ++ [(rd_T72 os (i : Int)).f0]) (by omega) (by simp; omega)
    rw [List.append_assoc] at this
    exact this
theorem factsOf_inv (cs : List C) : ∀ (m : Nat) (l : List F), Inv l → Inv (fin cs m l)
  | 0, l, h => h
  | m + 1, l, h => by
    rw [fin]
    split
    · exact factsOf_inv cs m _ (pass_inv cs h)
    · exact pass_inv cs h
theorem factsOf_le (cs : List C) : (factsOf cs).length ≤ 144 := (factsOf_inv cs 145 [] inv_nil).le
theorem impl_FactsOf_is (cs : List C) (hcs : cs.length ≤ 4000000) : Ev (fun k => impl_FactsOf.f k cs) (factsOf cs) := by
  obtain ⟨o, o1, o2⟩ := impl_find_l0 cs hcs 145 [] [] (-1) rfl inv_nil (by decide) (by simp)
  have hl := factsOf_le cs
  have ho : o.length ≤ 4000000 := by
    have : o.length = (factsOf cs).length := by unfold factsOf; rw [← o1, List.length_map]
    omega
  refine Ev.bind o2 ?_
  have := impl_FactsOf_l o ho o.length 0 [] (Nat.zero_add _) (Nat.le_refl _)
  rw [List.nil_append, List.drop_zero, o1] at this
  exact this

theorem factsInv (cs : List C) : Inv (factsOf cs) := factsOf_inv cs 145 [] inv_nil

theorem rd_mid (A : List Int) (v : Int) (R : List Int) : rd (A ++ v :: R) (A.length : Int) = v := by
  unfold rd
  rw [Int.toNat_natCast, List.getD_eq_getElem?_getD, List.getElem?_append_right (Nat.le_refl _)]
  simp
theorem cmpLess_is (a b : Int) : cmp_Less_int.f a b = some (decide (a < b)) := by
  unfold cmp_Less_int.f cmp_isNaN_int.f
  simp
theorem w64p (m : Nat) (h : m ≤ 4000000) : wrap64 (((m + 1 : Nat) : Int) - 1) = (m : Int) := by rw [w64 (by omega) (by omega)]; omega
theorem swap_mid (A : List Int) (a v : Int) (R : List Int) : ((A ++ a :: v :: R).set (A.length + 1) a).set A.length v = A ++ v :: a :: R := by
  rw [List.set_append_right _ _ (by omega), List.set_append_right _ _ (by omega)]
  simp
theorem ins_l1 (n : Nat) (hn : n ≤ 4000000) (T : List Int) (v : Int) : ∀ (m : Nat) (A B : List Int) (i : Nat), A.length = m → (A ++ B).Pairwise (· ≤ ·) → (∀ b ∈ B, v ≤ b) → (A ++ v :: (B ++ T)).length = n → i = A.length + B.length →
    (∀ S : List Int, S.length = i + 1 → S.Pairwise (· ≤ ·) → S.Perm (A ++ v :: B) → ∃ r, Ev (fun k => slices_insertionSortOrdered_int.l0 k (S ++ T) 0 (n : Int) ((i + 1 : Nat) : Int)) r ∧ r.Perm (S ++ T) ∧ r.Pairwise (· ≤ ·)) →
    ∃ r, Ev (fun k => slices_insertionSortOrdered_int.l1 k (A ++ v :: (B ++ T)) 0 (n : Int) (i : Int) (m : Int)) r ∧ r.Perm (A ++ v :: (B ++ T)) ∧ r.Pairwise (· ≤ ·) := by
  intro m
  induction m with
  | zero =>
    intro A B i hA hs hv hl hi K
    obtain rfl : A = [] := List.length_eq_zero_iff.mp hA
    have hi2 : i ≤ 4000000 := by simp at hl hi; omega
    obtain ⟨r, h1, h2, h3⟩ := K (v :: B) (by simp at hi ⊢; omega) (List.pairwise_cons.mpr ⟨hv, hs⟩) (List.Perm.refl _)
    refine ⟨r, Ev.step (fun k => by rw [slices_insertionSortOrdered_int.l1]) (evn (by omega) ?_), h2, h3⟩
    rw [w64s i (by omega)]
    exact h1
  | succ m ih =>
    intro A B i hA hs hv hl hi K
    rcases List.eq_nil_or_concat A with rfl | ⟨A', a, rfl⟩
    · simp at hA
    rw [List.concat_eq_append] at hA hs hl hi K ⊢
    have hA' : A'.length = m := by simp at hA; exact hA
    have hi2 : i + 1 ≤ n := by simp at hl hi; omega
    have e0 : A' ++ [a] ++ v :: (B ++ T) = A' ++ a :: v :: (B ++ T) := by simp
    have hmn : m + 1 < n := by simp at hl; omega
    have hl2 : (A' ++ [a] ++ v :: (B ++ T)).length = n := hl
    have r1 : rd (A' ++ [a] ++ v :: (B ++ T)) ((m + 1 : Nat) : Int) = v := by
      have := rd_mid (A' ++ [a]) v (B ++ T)
      rw [hA] at this
      exact this
    have r2 : rd (A' ++ [a] ++ v :: (B ++ T)) (m : Int) = a := by
      rw [e0]
      have := rd_mid A' a (v :: (B ++ T))
      rw [hA'] at this
      exact this
    by_cases hc : v < a
    · have q : (A' ++ a :: B).Pairwise (· ≤ ·) := by
        have : A' ++ [a] ++ B = A' ++ a :: B := by simp
        rw [← this]
        exact hs
      obtain ⟨r, h1, h2, h3⟩ := ih A' (a :: B) i hA' q (fun b hb => by
        rcases List.mem_cons.mp hb with rfl | hb
        · omega
        · exact hv b hb) (by simp at hl ⊢; omega) (by simp at hi ⊢; omega) (fun S s1 s2 s3 => K S s1 s2 (s3.trans (by
          have : A' ++ [a] ++ v :: B = A' ++ a :: v :: B := by simp
          rw [this]
          exact List.Perm.append_left _ (List.Perm.swap _ _ _))))
      refine ⟨r, Ev.step (fun k => by rw [slices_insertionSortOrdered_int.l1]) (evp (by omega) ?_), h2.trans ?_, h3⟩
      · rw [w64p m (by omega), r1, r2]
        refine evp (by omega) (evp (by omega) (evp (by omega) (evp (by omega) (evb (cmpLess_is _ _) (evp (decide_eq_true hc) ?_)))))
        rw [Int.toNat_natCast, Int.toNat_natCast, e0, ← hA', swap_mid]
        rw [← hA'] at h1
        exact h1
      · rw [e0]
        exact List.Perm.append_left _ (List.Perm.swap _ _ _)
    · obtain ⟨p1, p2, p3⟩ := List.pairwise_append.mp hs
      obtain ⟨p4, p5, p6⟩ := List.pairwise_append.mp p1
      obtain ⟨r, h1, h2, h3⟩ := K (A' ++ [a] ++ v :: B) (by simp at hi ⊢; omega) (List.pairwise_append.mpr ⟨p1, List.pairwise_cons.mpr ⟨hv, p2⟩, fun x hx y hy => by
        have hxa : x ≤ a := by
          rcases List.mem_append.mp hx with hx | hx
          · exact p6 x hx a (List.mem_singleton.mpr rfl)
          · rw [List.mem_singleton.mp hx]
            exact Int.le_refl _
        rcases List.mem_cons.mp hy with rfl | hy
        · omega
        · exact p3 x hx y hy⟩) (List.Perm.refl _)
      have e1 : A' ++ [a] ++ v :: B ++ T = A' ++ [a] ++ v :: (B ++ T) := by simp
      rw [e1] at h1 h2
      refine ⟨r, Ev.step (fun k => by rw [slices_insertionSortOrdered_int.l1]) (evp (by omega) ?_), h2, h3⟩
      rw [w64p m (by omega), r1, r2]
      refine evp (by omega) (evp (by omega) (evp (by omega) (evp (by omega) (evb (cmpLess_is _ _) (evn (by simpa using hc) ?_)))))
      rw [w64s i (by omega)]
      exact h1
theorem ins_l0 (n : Nat) (hn : n ≤ 4000000) : ∀ (T S : List Int), (S ++ T).length = n → S.Pairwise (· ≤ ·) → ∃ r, Ev (fun k => slices_insertionSortOrdered_int.l0 k (S ++ T) 0 (n : Int) (S.length : Int)) r ∧ r.Perm (S ++ T) ∧ r.Pairwise (· ≤ ·) := by
  intro T
  induction T with
  | nil =>
    intro S hl hs
    rw [List.append_nil] at hl ⊢
    exact ⟨S, Ev.step (fun k => by rw [slices_insertionSortOrdered_int.l0]) (evn (by omega) (evs rfl)), List.Perm.refl _, hs⟩
  | cons v T ih =>
    intro S hl hs
    obtain ⟨r, h1, h2, h3⟩ := ins_l1 n hn T v S.length S [] S.length rfl (by rw [List.append_nil]; exact hs) (fun b hb => by simp at hb) hl rfl (fun X x1 x2 x3 => by
      have hX : (X ++ T).length = n := by rw [List.length_append, x1]; simp at hl; omega
      have := ih X hX x2
      rw [x1] at this
      exact this)
    rw [List.nil_append] at h1 h2
    refine ⟨r, Ev.step (fun k => by rw [slices_insertionSortOrdered_int.l0]) (evp (by simp at hl; omega) h1), h2, h3⟩
theorem ins_is (l : List Int) (hl : l.length ≤ 4000000) : ∃ r, Ev (fun k => slices_insertionSortOrdered_int.f k l 0 (l.length : Int)) r ∧ r.Perm l ∧ r.Pairwise (· ≤ ·) := by
  have e1 : wrap64 (0 + 1) = 1 := w64 (by decide) (by decide)
  cases l with
  | nil =>
    refine ⟨[], ?_, List.Perm.refl _, List.Pairwise.nil⟩
    refine Ev.step (fun k => by rw [slices_insertionSortOrdered_int.f, slices_insertionSortOrdered_int.l0]) (evn ?_ (evs rfl))
    rw [e1]
    simp
  | cons a T =>
    obtain ⟨r, h1, h2, h3⟩ := ins_l0 (a :: T).length hl T [a] rfl (List.pairwise_singleton _ _)
    refine ⟨r, ?_, h2, h3⟩
    unfold slices_insertionSortOrdered_int.f
    rw [e1]
    exact h1
theorem sort_is (l : List Int) (hl : l.length ≤ 12) : ∃ r, Ev (fun k => slices_Sort_int_int.f k l) r ∧ r.Perm l ∧ r.Pairwise (· ≤ ·) := by
  obtain ⟨r, h1, h2, h3⟩ := ins_is l (by omega)
  have e : IntKind.u64.wrap (l.length : Int) = (l.length : Int) := by simp [IntKind.wrap, IntKind.bits, IntKind.signed]; omega
  have hv : bits_Len.f (IntKind.u64.wrap (l.length : Int)) = some ((Lib.bitLen (l.length : Int).toNat : Nat) : Int) := by
    rw [e]
    unfold bits_Len.f
    rw [if_pos (by omega)]
  refine ⟨r, evb hv (Ev.bind (g := fun k => slices_pdqsortOrdered_int.f k l 0 (l.length : Int) _) ?_ (Ev.now _)), h2, h3⟩
  refine evp ?_ h1
  rw [w64 (by omega) (by omega)]
  omega

def memF (r : Ro) (l : List F) : List Int := (l.filter fun x => decide (x.f0 = r)).map fun x => x.f1
def spF (a b : Int) (l : List F) : List Int := ((List.range' 0 6).map fun i : Nat => (i : Int)).filter fun i => decide (mkF a b i ∈ l)
theorem impl_MembersOf_l (l : List F) (hl : l.length ≤ 4000000) (a b : Int) (res : List Int) : ∀ (d i : Nat) (acc : List Int), i + d = l.length → acc.length ≤ i → Ev (fun k => slices_Sort_int_int.f k (acc ++ memF ⟨a, b⟩ (l.drop i))) res → Ev (fun k => impl_MembersOf.l0 k acc l (l.length : Int) (i : Int) a b) res := by
  intro d
  induction d with
  | zero =>
    intro i acc h ha hr
    rw [List.drop_of_length_le (by omega), show memF ⟨a, b⟩ [] = [] from rfl, List.append_nil] at hr
    exact Ev.step (fun k => by rw [impl_MembersOf.l0]) (evn (by omega) (Ev.bind hr (Ev.now _)))
  | succ d ih =>
    intro i acc h ha hr
    refine Ev.step (fun k => by rw [impl_MembersOf.l0]) (evp (by omega) (evp (by omega) (evp (by omega) ?_)))
    rw [drop_f l i (by omega)] at hr
    rw [w64s i (by omega)]
    unfold memF at hr
    rw [List.filter_cons] at hr
    generalize rd_T36 l (i : Int) = x at hr ⊢
    by_cases e : x.f0 = ⟨a, b⟩
    · rw [if_pos (decide_eq_true e), List.map_cons] at hr
      refine evp (by rw [e]; simp) (evp (by omega) (ih (i + 1) (acc ++ [x.f1]) (by omega) (by simp; omega) ?_))
      unfold memF
      rw [List.append_assoc]
      exact hr
    · rw [if_neg (by simpa using e)] at hr
      refine evn (fun h => e ?_) (ih (i + 1) acc (by omega) (by omega) hr)
      simp only [Bool.and_eq_true, beq_iff_eq] at h
      exact ro_ext h.1 h.2
theorem spec_MembersOf_l (l : List F) (hl : l.length ≤ 4000000) (a b : Int) : ∀ (d i : Nat) (acc : List Int), i + d = 6 → acc.length ≤ i → Ev (fun k => spec_MembersOf.l0 k l acc (i : Int) a b) (acc ++ ((List.range' i d).map fun i : Nat => (i : Int)).filter fun i => decide (mkF a b i ∈ l)) := by
  intro d
  induction d with
  | zero =>
    intro i acc h ha
    exact Ev.step (fun k => by rw [spec_MembersOf.l0]) (evn (by omega) (evs (by simp)))
  | succ d ih =>
    intro i acc h ha
    refine Ev.step (fun k => by rw [spec_MembersOf.l0]) (evp (by omega) (Ev.bind (spec_l06Has_is l hl a b (i : Int)) ?_))
    rw [w64s i (by omega), List.range'_succ, List.map_cons, List.filter_cons]
    by_cases e : mkF a b (i : Int) ∈ l
    · rw [if_pos (decide_eq_true e)]
      refine evp (decide_eq_true e) (evp (by omega) ?_)
      have := ih (i + 1) (acc ++ [(i : Int)]) (by omega) (by simp; omega)
      rw [List.append_assoc] at this
      exact this
    · rw [if_neg (by simpa using e)]
      exact evn (by simpa using e) (ih (i + 1) acc (by omega) (by omega))
theorem memF_mem (a b x : Int) (l : List F) : x ∈ memF ⟨a, b⟩ l ↔ mkF a b x ∈ l := by
  unfold memF
  rw [List.mem_map]
  constructor
  · rintro ⟨f, hf, rfl⟩
    obtain ⟨h1, h2⟩ := List.mem_filter.mp hf
    have h3 : f.f0 = ⟨a, b⟩ := by simpa using h2
    have : mkF a b f.f1 = f := by obtain ⟨⟨c, d⟩, e⟩ := f; cases h3; rfl
    rw [this]
    exact h1
  · intro h
    exact ⟨mkF a b x, List.mem_filter.mpr ⟨h, by simp [mkF]⟩, rfl⟩
theorem memF_nodup (r : Ro) : ∀ (l : List F), l.Nodup → (memF r l).Nodup := by
  intro l h
  unfold memF
  rw [List.Nodup, List.pairwise_map]
  have h2 : (l.filter fun x => decide (x.f0 = r)).Pairwise (fun x y => x ≠ y) := List.Pairwise.filter _ h
  have h3 : ∀ x ∈ l.filter (fun x => decide (x.f0 = r)), x.f0 = r := fun x hx => by simpa using (List.mem_filter.mp hx).2
  refine List.Pairwise.imp_of_mem ?_ h2
  intro x y hx hy hne he
  apply hne
  have hx0 := h3 x hx
  have hy0 := h3 y hy
  obtain ⟨x0, x1⟩ := x
  obtain ⟨y0, y1⟩ := y
  simp only at hx0 hy0 he
  rw [hx0, hy0, he]
theorem six_nodup : ((List.range' 0 6).map fun i : Nat => (i : Int)).Nodup := by decide
theorem six_sorted : ((List.range' 0 6).map fun i : Nat => (i : Int)).Pairwise (· ≤ ·) := by decide
theorem six_mem (x : Int) : x ∈ ((List.range' 0 6).map fun i : Nat => (i : Int)) ↔ 0 ≤ x ∧ x ≤ 5 := by
  rw [List.mem_map]
  constructor
  · rintro ⟨i, hi, rfl⟩
    have := List.mem_range'.mp hi
    omega
  · intro h
    exact ⟨x.toNat, List.mem_range'.mpr ⟨x.toNat, by omega, by omega⟩, by omega⟩
theorem spF_mem (a b x : Int) {l : List F} (h : Inv l) : x ∈ spF a b l ↔ mkF a b x ∈ l := by
  unfold spF
  rw [List.mem_filter, six_mem]
  constructor
  · rintro ⟨_, h2⟩
    simpa using h2
  · intro hx
    exact ⟨(h.2 _ hx).2.2, by simpa using hx⟩
theorem mem_perm (a b : Int) {l : List F} (h : Inv l) : (memF ⟨a, b⟩ l).Perm (spF a b l) :=
  (List.perm_ext_iff_of_nodup (memF_nodup _ l h.1) (List.Pairwise.filter _ six_nodup)).mpr fun x => (memF_mem a b x l).trans (spF_mem a b x h).symm
theorem spF_len (a b : Int) (l : List F) : (spF a b l).length ≤ 6 := by
  have := List.length_filter_le (fun i => decide (mkF a b i ∈ l)) ((List.range' 0 6).map fun i : Nat => (i : Int))
  exact Nat.le_trans this (by simp)
theorem members_sort (a b : Int) {l : List F} (h : Inv l) : Ev (fun k => slices_Sort_int_int.f k (memF ⟨a, b⟩ l)) (spF a b l) := by
  have hp := mem_perm a b h
  have hl : (memF ⟨a, b⟩ l).length ≤ 12 := by rw [hp.length_eq]; have := spF_len a b l; omega
  obtain ⟨r, h1, h2, h3⟩ := sort_is _ hl
  have : r = spF a b l := List.Perm.eq_of_pairwise (fun x y _ _ hx hy => Int.le_antisymm hx hy) h3 (List.Pairwise.filter _ six_sorted) (h2.trans hp)
  rw [← this]
  exact h1
theorem impl_MembersOf_is (cs : List C) (hcs : cs.length ≤ 4000000) (a b : Int) : Ev (fun k => impl_MembersOf.f k cs a b) (spF a b (factsOf cs)) := by
  have hf := factsOf_le cs
  refine Ev.bind (impl_FactsOf_is cs hcs) ?_
  exact impl_MembersOf_l _ (by omega) a b _ _ 0 [] (Nat.zero_add _) (Nat.le_refl _) (members_sort a b (factsInv cs))
theorem spec_MembersOf_is (cs : List C) (hcs : cs.length ≤ 4000000) (a b : Int) : Ev (fun k => spec_MembersOf.f k cs a b) (spF a b (factsOf cs)) := by
  have hf := factsOf_le cs
  exact Ev.bind (spec_FactsOf_is cs hcs) (spec_MembersOf_l _ (by omega) a b 6 0 [] rfl (Nat.le_refl _))

theorem rdr_nat (l : List Ro) (i : Nat) (h : i < l.length) : rd_T27 l (i : Int) = l[i] := by
  unfold rd_T27
  rw [Int.toNat_natCast, List.getD_eq_getElem?_getD, List.getElem?_eq_getElem h]
  rfl
def rolesF (w : Int) (l : List F) : List Ro := (l.filter fun x => decide (x.f1 = w)).map fun x => x.f0
def rowR (i : Int) (j d : Nat) : List Ro := (List.range' j d).map fun k : Nat => ⟨i, (k : Int)⟩
def allR (i d : Nat) : List Ro := (List.range' i d).flatMap fun i : Nat => rowR (i : Int) 0 4
def spR (w : Int) (l : List F) : List Ro := (allR 0 6).filter fun r => decide (⟨r, w⟩ ∈ l)
theorem impl_RolesOf_l (l : List F) (hl : l.length ≤ 4000000) (w : Int) (res : List Ro) : ∀ (d i : Nat) (acc : List Ro), i + d = l.length → acc.length ≤ i → impl_Role_53.f (acc ++ rolesF w (l.drop i)) = some res → Ev (fun k => impl_RolesOf.l0 k w acc l (l.length : Int) (i : Int)) res := by
  intro d
  induction d with
  | zero =>
    intro i acc h ha hr
    rw [List.drop_of_length_le (by omega), show rolesF w [] = [] from rfl, List.append_nil] at hr
    exact Ev.step (fun k => by rw [impl_RolesOf.l0]) (evn (by omega) (evb hr (Ev.now _)))
  | succ d ih =>
    intro i acc h ha hr
    refine Ev.step (fun k => by rw [impl_RolesOf.l0]) (evp (by omega) (evp (by omega) (evp (by omega) ?_)))
    rw [drop_f l i (by omega)] at hr
    rw [w64s i (by omega)]
    unfold rolesF at hr
    rw [List.filter_cons] at hr
    generalize rd_T36 l (i : Int) = x at hr ⊢
    by_cases e : x.f1 = w
    · rw [if_pos (decide_eq_true e), List.map_cons] at hr
      refine evp e (evp (by omega) (ih (i + 1) (acc ++ [x.f0]) (by omega) (by simp; omega) ?_))
      unfold rolesF
      rw [List.append_assoc]
      exact hr
    · rw [if_neg (by simpa using e)] at hr
      exact evn e (ih (i + 1) acc (by omega) (by omega) hr)
theorem spec_RolesOf_l1 (l : List F) (hl : l.length ≤ 4000000) (w : Int) (i : Nat) (hi : i ≤ 6) (res : List Ro) : ∀ (d j : Nat) (acc : List Ro), j + d = 4 → acc.length ≤ 4 * i + j →
    Ev (fun k => spec_RolesOf.l0 k w l (acc ++ (rowR (i : Int) j d).filter fun r => decide (⟨r, w⟩ ∈ l)) ((i + 1 : Nat) : Int)) res → Ev (fun k => spec_RolesOf.l1 k w l acc (i : Int) (j : Int)) res := by
  intro d
  induction d with
  | zero =>
    intro j acc h ha hr
    have e0 : (rowR (i : Int) j 0).filter (fun r => decide ((⟨r, w⟩ : F) ∈ l)) = [] := rfl
    rw [e0, List.append_nil] at hr
    refine Ev.step (fun k => by rw [spec_RolesOf.l1]) (evn (by omega) ?_)
    rw [w64s i (by omega)]
    exact hr
  | succ d ih =>
    intro j acc h ha hr
    have e0 : rowR (i : Int) j (d + 1) = ⟨(i : Int), (j : Int)⟩ :: rowR (i : Int) (j + 1) d := by
      unfold rowR
      rw [List.range'_succ, List.map_cons]
    rw [e0, List.filter_cons] at hr
    refine Ev.step (fun k => by rw [spec_RolesOf.l1]) (evp (by omega) (Ev.bind (spec_l06Has_is l hl (i : Int) (j : Int) w) ?_))
    rw [w64s j (by omega)]
    by_cases e : mkF (i : Int) (j : Int) w ∈ l
    · have e' : decide ((⟨⟨(i : Int), (j : Int)⟩, w⟩ : F) ∈ l) = true := decide_eq_true e
      rw [if_pos e'] at hr
      refine evp (decide_eq_true e) (evp (by omega) (ih (j + 1) (acc ++ [⟨(i : Int), (j : Int)⟩]) (by omega) (by simp; omega) ?_))
      rw [List.append_assoc]
      exact hr
    · have e' : ¬ decide ((⟨⟨(i : Int), (j : Int)⟩, w⟩ : F) ∈ l) = true := by
        rw [decide_eq_true_eq]
        exact e
      rw [if_neg e'] at hr
      exact evn (by simpa using e) (ih (j + 1) acc (by omega) (by omega) hr)
theorem spec_RolesOf_l0 (l : List F) (hl : l.length ≤ 4000000) (w : Int) : ∀ (d i : Nat) (acc : List Ro), i + d = 6 → acc.length ≤ 4 * i → Ev (fun k => spec_RolesOf.l0 k w l acc (i : Int)) (acc ++ (allR i d).filter fun r => decide (⟨r, w⟩ ∈ l)) := by
  intro d
  induction d with
  | zero =>
    intro i acc h ha
    have e0 : (allR i 0).filter (fun r => decide ((⟨r, w⟩ : F) ∈ l)) = [] := rfl
    rw [e0, List.append_nil]
    exact Ev.step (fun k => by rw [spec_RolesOf.l0]) (evn (by omega) (evs rfl))
  | succ d ih =>
    intro i acc h ha
    have e0 : allR i (d + 1) = rowR (i : Int) 0 4 ++ allR (i + 1) d := by
      unfold allR
      rw [List.range'_succ, List.flatMap_cons]
    refine Ev.step (fun k => by rw [spec_RolesOf.l0]) (evp (by omega) ?_)
    refine spec_RolesOf_l1 l hl w i (by omega) _ 4 0 acc rfl (by omega) ?_
    obtain ⟨q, hq⟩ : ∃ q, (rowR (i : Int) 0 4).filter (fun r => decide ((⟨r, w⟩ : F) ∈ l)) = q := ⟨_, rfl⟩
    have hlen : q.length ≤ 4 := by
      rw [← hq]
      exact Nat.le_trans (List.length_filter_le _ _) (by simp [rowR])
    have := ih (i + 1) (acc ++ q) (by omega) (by rw [List.length_append]; omega)
    rw [e0, List.filter_append, hq, ← List.append_assoc]
    exact this
def leR (x y : Ro) : Prop := x.f0 < y.f0 ∨ (x.f0 = y.f0 ∧ x.f1 ≤ y.f1)
instance (x y : Ro) : Decidable (leR x y) := inferInstanceAs (Decidable (_ ∨ _))
theorem allR_nodup : (allR 0 6).Nodup := by decide
theorem allR_sorted : (allR 0 6).Pairwise leR := by decide
theorem allR_mem (r : Ro) : r ∈ allR 0 6 ↔ (0 ≤ r.f0 ∧ r.f0 ≤ 5) ∧ (0 ≤ r.f1 ∧ r.f1 ≤ 3) := by
  unfold allR rowR
  rw [List.mem_flatMap]
  constructor
  · rintro ⟨i, hi, h⟩
    obtain ⟨k, hk, rfl⟩ := List.mem_map.mp h
    have h1 := List.mem_range'.mp hi
    have h2 := List.mem_range'.mp hk
    dsimp only
    omega
  · rintro ⟨h1, h2⟩
    refine ⟨r.f0.toNat, List.mem_range'.mpr ⟨r.f0.toNat, by omega, by omega⟩, List.mem_map.mpr ⟨r.f1.toNat, List.mem_range'.mpr ⟨r.f1.toNat, by omega, by omega⟩, ?_⟩⟩
    exact ro_ext (by dsimp only; omega) (by dsimp only; omega)
theorem rolesF_mem (w : Int) (r : Ro) (l : List F) : r ∈ rolesF w l ↔ (⟨r, w⟩ : F) ∈ l := by
  unfold rolesF
  rw [List.mem_map]
  constructor
  · rintro ⟨f, hf, rfl⟩
    obtain ⟨h1, h2⟩ := List.mem_filter.mp hf
    have h3 : f.f1 = w := by simpa using h2
    obtain ⟨f0, f1⟩ := f
    cases h3
    exact h1
  · intro h
    exact ⟨⟨r, w⟩, List.mem_filter.mpr ⟨h, by simp⟩, rfl⟩
theorem rolesF_nodup (w : Int) : ∀ (l : List F), l.Nodup → (rolesF w l).Nodup := by
  intro l h
  unfold rolesF
  rw [List.Nodup, List.pairwise_map]
  have h2 : (l.filter fun x => decide (x.f1 = w)).Pairwise (fun x y => x ≠ y) := List.Pairwise.filter _ h
  have h3 : ∀ x ∈ l.filter (fun x => decide (x.f1 = w)), x.f1 = w := fun x hx => by simpa using (List.mem_filter.mp hx).2
  refine List.Pairwise.imp_of_mem ?_ h2
  intro x y hx hy hne he
  apply hne
  have hx0 := h3 x hx
  have hy0 := h3 y hy
  obtain ⟨x0, x1⟩ := x
  obtain ⟨y0, y1⟩ := y
  simp only at hx0 hy0 he
  rw [hx0, hy0, he]
theorem spR_mem (w : Int) (r : Ro) {l : List F} (h : Inv l) : r ∈ spR w l ↔ (⟨r, w⟩ : F) ∈ l := by
  unfold spR
  rw [List.mem_filter, allR_mem]
  constructor
  · rintro ⟨_, h2⟩
    simpa using h2
  · intro hx
    have := h.2 _ hx
    exact ⟨⟨this.1, this.2.1⟩, by simpa using hx⟩
theorem roles_perm (w : Int) {l : List F} (h : Inv l) : (rolesF w l).Perm (spR w l) :=
  (List.perm_ext_iff_of_nodup (rolesF_nodup _ l h.1) (List.Pairwise.filter _ allR_nodup)).mpr fun x => (rolesF_mem w x l).trans (spR_mem w x h).symm
theorem spR_len (w : Int) (l : List F) : (spR w l).length ≤ 24 := by
  have := List.length_filter_le (fun r => decide ((⟨r, w⟩ : F) ∈ l)) (allR 0 6)
  exact Nat.le_trans this (by decide)
theorem of_to (x : Ro) (h : sortOk_ x) : sortOf_ (sortTo_ x) = x := by
  obtain ⟨⟨h1, h2⟩, h3, h4⟩ := h
  unfold sortOf_ sortTo_
  exact ro_ext (by dsimp only; omega) (by dsimp only; omega)
theorem roles_sort (w : Int) {l : List F} (h : Inv l) : impl_Role_53.f (rolesF w l) = some (spR w l) := by
  have hp := roles_perm w h
  have hl : (rolesF w l).length ≤ 4000000 := by rw [hp.length_eq]; have := spR_len w l; omega
  have ho : ∀ x ∈ rolesF w l, sortOk_ x := fun x hx => by
    have := h.2 _ ((rolesF_mem w x l).mp hx)
    exact ⟨this.1, this.2.1⟩
  unfold impl_Role_53.f
  rw [if_pos ⟨hl, ho⟩]
  congr 1
  obtain ⟨h1, h2, h3⟩ := SortR.sortL_spec ((rolesF w l).map sortTo_)
  have hq : ((SortR.sortL ((rolesF w l).map sortTo_)).map sortOf_).Perm (rolesF w l) := by
    have := h2.map sortOf_
    rw [List.map_map] at this
    have e : (rolesF w l).map (sortOf_ ∘ sortTo_) = rolesF w l := (List.map_congr_left fun x hx => of_to x (ho x hx)).trans (List.map_id' _)
    rw [e] at this
    exact this
  refine List.Perm.eq_of_pairwise (le := leR) (fun x y _ _ hx hy => ?_) ?_ (List.Pairwise.filter _ allR_sorted) (hq.trans hp)
  · unfold leR at hx hy
    exact ro_ext (by omega) (by omega)
  · rw [List.pairwise_map, List.pairwise_iff_getElem]
    intro i j hi hj hij
    have := h3 i j hij (by rw [← h1]; exact hj)
    rw [getElem!_pos _ j hj, getElem!_pos _ i hi, SortR.cf_nlt] at this
    unfold leR sortOf_
    dsimp only
    omega
theorem impl_RolesOf_is (cs : List C) (hcs : cs.length ≤ 4000000) (w : Int) : Ev (fun k => impl_RolesOf.f k cs w) (spR w (factsOf cs)) := by
  have hf := factsOf_le cs
  refine Ev.bind (impl_FactsOf_is cs hcs) ?_
  exact impl_RolesOf_l _ (by omega) w _ _ 0 [] (Nat.zero_add _) (Nat.le_refl _) (roles_sort w (factsInv cs))
theorem spec_RolesOf_is (cs : List C) (hcs : cs.length ≤ 4000000) (w : Int) : Ev (fun k => spec_RolesOf.f k cs w) (spR w (factsOf cs)) := by
  have hf := factsOf_le cs
  exact Ev.bind (spec_FactsOf_is cs hcs) (spec_RolesOf_l0 _ (by omega) w 6 0 [] rfl (Nat.le_refl _))

theorem impl_Clone_is (l : List F) (hl : l.length ≤ 4000000) : impl_Fact_49.f l = some l := by unfold impl_Fact_49.f; rw [if_pos hl]
theorem impl_Follows_l (ds : List S78) (hd : ds.length ≤ 4000000) : ∀ (d j : Nat) (acc : List F), j + d = ds.length → acc.length ≤ 4000000 + j → acc.length + d ≤ 4000000 → Ev (fun k => impl_Follows.l0 k acc ds (ds.length : Int) (j : Int)) (((ds.drop j).map fun x => x.f0).foldl putF acc) := by
  intro d
  induction d with
  | zero =>
    intro j acc h _ hb
    rw [List.drop_of_length_le (by omega)]
    refine Ev.step (fun k => by rw [impl_Follows.l0]) ?_
    exact evn (by omega) (Ev.now _)
  | succ d ih =>
    intro j acc h _ hb
    refine Ev.step (fun k => by rw [impl_Follows.l0]) (evp (by omega) (evp (by omega) (evp (by omega) ?_)))
    rw [drop_d ds j (by omega), w64s j (by omega), List.map_cons, List.foldl_cons]
    generalize rd_T78 ds (j : Int) = x
    refine Ev.bind (impl_Has_is acc (by omega) _ _ _) ?_
    have hx : mkF x.f0.f0.f0 x.f0.f0.f1 x.f0.f1 = x.f0 := rfl
    rw [hx]
    by_cases e : x.f0 ∈ acc
    · have hp : putF acc x.f0 = acc := by unfold putF; rw [if_pos e]
      rw [hp]
      exact evp (decide_eq_true e) (ih (j + 1) acc (by omega) (by omega) (by omega))
    · have hp : putF acc x.f0 = acc ++ [x.f0] := by unfold putF; rw [if_neg e]
      rw [hp]
      exact evn (by simpa using e) (evp (by omega) (ih (j + 1) (acc ++ [x.f0]) (by omega) (by simp; omega) (by simp; omega)))
theorem cands_len (l : List F) (hl : l.length ≤ 1000) (c : C) : (cands l c).length ≤ 1000000 := by
  have hfl : ∀ p : F → Bool, (l.filter p).length ≤ 1000 := fun p => Nat.le_trans (List.length_filter_le _ _) hl
  unfold cands
  split
  · simp
  split
  · rw [List.length_map]
    exact Nat.le_trans (hfl _) (by decide)
  split
  · refine Nat.le_trans (flat_len 1000 _ _ fun x _ => ?_) ?_
    · rw [List.length_map]
      exact hfl _
    · have := hfl fun x => decide (x.f0 = c.f3)
      omega
  split
  · refine Nat.le_trans (flat_len 1 _ _ fun x _ => ?_) ?_
    · split <;> simp
    · have := hfl fun x => decide (x.f0 = c.f3)
      omega
  · simp
theorem impl_Follows_is (l : List F) (hi : Inv l) (c : C) : Ev (fun k => impl_Follows.f k l c.f0 c.f1.f0 c.f1.f1 c.f2 c.f3.f0 c.f3.f1 c.f4.f0 c.f4.f1 c.f5 c.f6) (follows l c) := by
  have hl := hi.le
  refine evb (impl_Clone_is l (by omega)) (Ev.bind (evo (fun m => impl_CredOk_is m _ _ _ _ _ _ _ _ _ _)) ?_)
  unfold follows
  by_cases hc : cOk c = true
  · rw [if_pos hc]
    refine evp hc ?_
    obtain ⟨ds, d1, d2, d3⟩ := impl_derive_is l (by omega) hi.ok c hc
    refine Ev.bind d3 ?_
    have hdl : ds.length ≤ 1000000 := by
      have := cands_len l (by omega) c
      rw [← d1, List.length_map] at this
      exact this
    have := impl_Follows_l ds d2 ds.length 0 l (Nat.zero_add _) (by omega) (by omega)
    rw [List.drop_zero, d1] at this
    exact this
  · rw [if_neg hc]
    exact evn hc (Ev.now _)

theorem i64_and255 (a : Int) : 0 ≤ Go.bits .and .i64 a 255 ∧ Go.bits .and .i64 a 255 ≤ 255 := by
  show 0 ≤ IntKind.i64.wrap ((BitVec.ofInt 64 a &&& BitVec.ofInt 64 255).toNat : Int) ∧ IntKind.i64.wrap ((BitVec.ofInt 64 a &&& BitVec.ofInt 64 255).toNat : Int) ≤ 255
  rw [BitVec.toNat_and, show (BitVec.ofInt 64 255).toNat = 255 from rfl, nat_mask8, IntKind.wrap_i64]
  omega
theorem rd_range {l : List Int} (hl : ∀ x ∈ l, (Lit.int .u8 x).wf = true) (i : Int) : 0 ≤ rd l i ∧ rd l i ≤ 255 := by
  unfold rd
  rw [List.getD_eq_getElem?_getD]
  cases h : l[i.toNat]? with
  | none => simp
  | some x =>
    have := hl x (List.mem_of_getElem? h)
    simp [Lit.wf, IntKind.min, IntKind.max, IntKind.bits, IntKind.signed] at this
    simp only [Option.getD_some]
    omega
theorem spec_l01New_l (l : List Int) : ∀ (d i : Nat) (h : Int), i + d = 4000 → ∃ h', Ev (fun k => spec_l01New.l0 k l h (i : Int)) (l, 0, h') := by
  intro d
  induction d with
  | zero =>
    intro i h h1
    refine ⟨h, Ev.step (fun k => by rw [spec_l01New.l0]) ?_⟩
    by_cases c : (i : Int) < (l.length : Int)
    · exact evp c (evn (by omega) (evs rfl))
    · exact evn c (evs rfl)
  | succ d ih =>
    intro i h h1
    by_cases c : (i : Int) < (l.length : Int)
    · obtain ⟨h', hh⟩ := ih (i + 1) (Go.bits .and .i64 (wrap64 ((wrap64 ((wrap64 (h * 131)) + (wrap64 (rd l (i : Int))))) + 7)) 1073741823) (by omega)
      refine ⟨h', Ev.step (fun k => by rw [spec_l01New.l0]) (evp c (evp (by omega) (evp (by omega) ?_)))⟩
      rw [w64s i (by omega)]
      exact hh
    · exact ⟨h, Ev.step (fun k => by rw [spec_l01New.l0]) (evn c (evs rfl))⟩
theorem spec_l01New_is (l : List Int) : ∃ h', Ev (fun k => spec_l01New.f k l) (l, 0, h') := spec_l01New_l l 4000 0 _ rfl
theorem spec_l01Byte_is (l : List Int) (hl : ∀ x ∈ l, (Lit.int .u8 x).wf = true) (hm : l.length ≤ 9223372036854775000) (i : Nat) (h : Int) : ∃ (x : Int) (i' : Nat) (h' : Int), spec_l01Byte.f l (i : Int) h = some (x, (i' : Int), h') ∧ 0 ≤ x ∧ x ≤ 255 := by
  unfold spec_l01Byte.f
  by_cases c : (i : Int) < (l.length : Int)
  · rw [if_pos c, if_pos (by omega)]
    rw [w64s i (by omega)]
    exact ⟨_, i + 1, _, rfl, i64_and255 _⟩
  · rw [if_neg c]
    exact ⟨_, i, _, rfl, i64_and255 _⟩
theorem spec_l01Below_is (l : List Int) (hl : ∀ x ∈ l, (Lit.int .u8 x).wf = true) (hm : l.length ≤ 9223372036854775000) (i : Nat) (h n : Int) (hn : 0 < n) : ∃ (x : Int) (i' : Nat) (h' : Int), spec_l01Below.f l (i : Int) h n = some (x, (i' : Int), h') ∧ 0 ≤ x ∧ x < n := by
  unfold spec_l01Below.f
  rw [if_neg (by omega)]
  by_cases c : n ≤ 256
  · rw [if_pos c]
    obtain ⟨x, i', h', e, r1, r2⟩ := spec_l01Byte_is l hl hm i h
    rw [e, Option.bind_some, if_neg (by omega)]
    refine ⟨_, i', h', rfl, ?_, ?_⟩
    · exact Int.tmod_nonneg _ r1
    · exact Int.tmod_lt_of_pos _ hn
  · rw [if_neg c]
    obtain ⟨x, i1, h1, e1, a1, a2⟩ := spec_l01Byte_is l hl hm i h
    obtain ⟨y, i2, h2, e2, b1, b2⟩ := spec_l01Byte_is l hl hm i1 h1
    obtain ⟨z, i3, h3, e3, c1, c2⟩ := spec_l01Byte_is l hl hm i2 h2
    obtain ⟨u, i4, h4, e4, d1, d2⟩ := spec_l01Byte_is l hl hm i3 h3
    rw [e1, Option.bind_some]
    dsimp only
    rw [e2, Option.bind_some]
    dsimp only
    rw [e3, Option.bind_some]
    dsimp only
    rw [e4, Option.bind_some, if_neg (by omega)]
    have q1 : wrap64 (x * 16777216) = x * 16777216 := w64 (by omega) (by omega)
    have q2 : wrap64 (y * 65536) = y * 65536 := w64 (by omega) (by omega)
    have q3 : wrap64 (z * 256) = z * 256 := w64 (by omega) (by omega)
    have q4 : wrap64 (x * 16777216 + y * 65536) = x * 16777216 + y * 65536 := w64 (by omega) (by omega)
    have q5 : wrap64 (x * 16777216 + y * 65536 + z * 256) = x * 16777216 + y * 65536 + z * 256 := w64 (by omega) (by omega)
    have q6 : wrap64 (x * 16777216 + y * 65536 + z * 256 + u) = x * 16777216 + y * 65536 + z * 256 + u := w64 (by omega) (by omega)
    rw [q1, q2, q3, q4, q5, q6]
    exact ⟨_, i4, h4, rfl, Int.tmod_nonneg _ (by omega), Int.tmod_lt_of_pos _ hn⟩

theorem spec_l01PickInt_is (l : List Int) (hl : ∀ x ∈ l, (Lit.int .u8 x).wf = true) (hm : l.length ≤ 9223372036854775000) (i : Nat) (h : Int) (p : List Int) (hp : 0 < p.length) : ∃ (x : Int) (i' : Nat) (h' : Int), spec_l01PickInt.f l (i : Int) h p = some (x, (i' : Int), h') := by
  unfold spec_l01PickInt.f
  obtain ⟨x, i', h', e, r1, r2⟩ := spec_l01Below_is l hl hm i h (p.length : Int) (by omega)
  rw [e, Option.bind_some, if_pos r1, if_pos r2]
  exact ⟨_, _, _, rfl⟩
theorem spec_l05Role_is (l : List Int) (hl : ∀ x ∈ l, (Lit.int .u8 x).wf = true) (hm : l.length ≤ 9223372036854775000) (i : Nat) (h : Int) : ∃ (a b : Int) (i' : Nat) (h' : Int), spec_l05Role.f l (i : Int) h = some (a, b, (i' : Int), h') := by
  unfold spec_l05Role.f
  obtain ⟨x, i1, h1, e, -, -⟩ := spec_l01Below_is l hl hm i h 3 (by decide)
  rw [e, Option.bind_some]
  obtain ⟨y, i2, h2, e2, -, -⟩ := spec_l01Below_is l hl hm i1 h1 2 (by decide)
  dsimp only
  rw [e2, Option.bind_some]
  exact ⟨_, _, _, _, rfl⟩
theorem spec_l05Cred_is (l : List Int) (hl : ∀ x ∈ l, (Lit.int .u8 x).wf = true) (hm : l.length ≤ 9223372036854775000) (i : Nat) (h : Int) : ∃ (a0 a1 a2 a3 a4 a5 a6 a7 a8 a9 : Int) (i' : Nat) (h' : Int), spec_l05Cred.f l (i : Int) h = some (a0, a1, a2, a3, a4, a5, a6, a7, a8, a9, (i' : Int), h') := by
  unfold spec_l05Cred.f
  obtain ⟨k, i1, h1, e1⟩ := spec_l01PickInt_is l hl hm i h [1, 1, 2, 3, 4] (by decide)
  rw [e1, Option.bind_some]
  obtain ⟨a, b, i2, h2, e2⟩ := spec_l05Role_is l hl hm i1 h1
  dsimp only
  rw [e2, Option.bind_some]
  obtain ⟨u, i3, h3, e3⟩ := spec_l01PickInt_is l hl hm i2 h2 [5, 50, 9999, 2] (by decide)
  dsimp only
  rw [e3, Option.bind_some]
  obtain ⟨z, i4, h4, e4, -, -⟩ := spec_l01Below_is l hl hm i3 h3 2 (by decide)
  dsimp only
  rw [e4, Option.bind_some]
  dsimp only
  by_cases c1 : k = 1
  · rw [if_pos c1]
    obtain ⟨x, i5, h5, e5, -, -⟩ := spec_l01Below_is l hl hm i4 h4 6 (by decide)
    rw [e5, Option.bind_some]
    exact ⟨_, _, _, _, _, _, _, _, _, _, _, _, rfl⟩
  rw [if_neg c1]
  by_cases c2 : k = 2
  · rw [if_pos c2]
    obtain ⟨x, y, i5, h5, e5⟩ := spec_l05Role_is l hl hm i4 h4
    rw [e5, Option.bind_some]
    exact ⟨_, _, _, _, _, _, _, _, _, _, _, _, rfl⟩
  rw [if_neg c2]
  by_cases c3 : k = 3
  · rw [if_pos c3]
    obtain ⟨x, y, i5, h5, e5⟩ := spec_l05Role_is l hl hm i4 h4
    rw [e5, Option.bind_some]
    obtain ⟨v, i6, h6, e6, -, -⟩ := spec_l01Below_is l hl hm i5 h5 2 (by decide)
    dsimp only
    rw [e6, Option.bind_some]
    exact ⟨_, _, _, _, _, _, _, _, _, _, _, _, rfl⟩
  rw [if_neg c3]
  by_cases c4 : k = 4
  · rw [if_pos c4]
    obtain ⟨x, y, i5, h5, e5⟩ := spec_l05Role_is l hl hm i4 h4
    rw [e5, Option.bind_some]
    obtain ⟨v, t, i6, h6, e6⟩ := spec_l05Role_is l hl hm i5 h5
    dsimp only
    rw [e6, Option.bind_some]
    exact ⟨_, _, _, _, _, _, _, _, _, _, _, _, rfl⟩
  rw [if_neg c4]
  exact ⟨_, _, _, _, _, _, _, _, _, _, _, _, rfl⟩
theorem spec_l06Creds_l (l : List Int) (hl : ∀ x ∈ l, (Lit.int .u8 x).wf = true) (hm : l.length ≤ 9223372036854775000) : ∀ (d n : Nat) (acc : List C) (i : Nat) (h : Int), n + d = 9 → acc.length = n → ∃ (L : List C) (i' : Nat) (h' : Int), Ev (fun k => spec_l06Creds.l0 k acc (n : Int) l (i : Int) h) (L, (i' : Int), h') ∧ L.length ≤ 9 := by
  intro d
  induction d with
  | zero =>
    intro n acc i h hn ha
    obtain ⟨x, i1, h1, e, r1, r2⟩ := spec_l01Below_is l hl hm i h 9 (by decide)
    refine ⟨acc, i1, h1, Ev.step (fun k => by rw [spec_l06Creds.l0]) (evb e (evn ?_ (evs rfl))), by omega⟩
    dsimp only
    rw [w64 (by omega) (by omega)]
    omega
  | succ d ih =>
    intro n acc i h hn ha
    obtain ⟨x, i1, h1, e, r1, r2⟩ := spec_l01Below_is l hl hm i h 9 (by decide)
    have ew : wrap64 (1 + x) = 1 + x := w64 (by omega) (by omega)
    by_cases c : (n : Int) < 1 + x
    · obtain ⟨a0, a1, a2, a3, a4, a5, a6, a7, a8, a9, i2, h2, e2⟩ := spec_l05Cred_is l hl hm i1 h1
      obtain ⟨L, i3, h3, e3, e4⟩ := ih (n + 1) (acc ++ [⟨a0, ⟨a1, a2⟩, a3, ⟨a4, a5⟩, ⟨a6, a7⟩, a8, a9⟩]) i2 h2 (by omega) (by rw [List.length_append, ha]; rfl)
      refine ⟨L, i3, h3, Ev.step (fun k => by rw [spec_l06Creds.l0]) (evb e ?_), e4⟩
      dsimp only
      rw [ew]
      refine evp c (evb e2 (evp (by omega) ?_))
      rw [w64s n (by omega)]
      exact e3
    · refine ⟨acc, i1, h1, Ev.step (fun k => by rw [spec_l06Creds.l0]) (evb e ?_), by omega⟩
      dsimp only
      rw [ew]
      exact evn c (evs rfl)
theorem spec_l06Creds_is (l : List Int) (hl : ∀ x ∈ l, (Lit.int .u8 x).wf = true) (hm : l.length ≤ 9223372036854775000) (i : Nat) (h : Int) : ∃ (L : List C) (i' : Nat) (h' : Int), Ev (fun k => spec_l06Creds.f k l (i : Int) h) (L, (i' : Int), h') ∧ L.length ≤ 9 := spec_l06Creds_l l hl hm 9 0 [] i h rfl rfl

theorem spec_l05Any_is (l : List Int) (hl : ∀ x ∈ l, (Lit.int .u8 x).wf = true) (hm : l.length ≤ 9223372036854775000) (i : Nat) (h : Int) : ∃ (a0 a1 a2 a3 a4 a5 a6 a7 a8 a9 : Int) (i' : Nat) (h' : Int), spec_l05Any.f l (i : Int) h = some (a0, a1, a2, a3, a4, a5, a6, a7, a8, a9, (i' : Int), h') := by
  unfold spec_l05Any.f
  obtain ⟨k, i1, h1, e1, k0, k1⟩ := spec_l01Below_is l hl hm i h 10 (by decide)
  rw [e1, Option.bind_some]
  obtain ⟨y, i2, h2, e2, y0, y1⟩ := spec_l01Below_is l hl hm i1 h1 60 (by decide)
  dsimp only
  rw [e2, Option.bind_some]
  obtain ⟨a0, a1, a2, a3, a4, a5, a6, a7, a8, a9, i3, h3, e3⟩ := spec_l05Cred_is l hl hm i2 h2
  dsimp only
  rw [e3, Option.bind_some]
  dsimp only
  by_cases c0 : k = 0
  · rw [if_pos c0]
    exact ⟨_, _, _, _, _, _, _, _, _, _, _, _, rfl⟩
  rw [if_neg c0]
  by_cases c1 : k = 1
  · rw [if_pos c1]
    exact ⟨_, _, _, _, _, _, _, _, _, _, _, _, rfl⟩
  rw [if_neg c1]
  by_cases c2 : k = 2
  · rw [if_pos c2]
    exact ⟨_, _, _, _, _, _, _, _, _, _, _, _, rfl⟩
  rw [if_neg c2]
  by_cases c3 : k = 3
  · rw [if_pos c3]
    exact ⟨_, _, _, _, _, _, _, _, _, _, _, _, rfl⟩
  rw [if_neg c3]
  by_cases c4 : k = 4
  · have t0 : 0 ≤ Int.tmod y 3 := Int.tmod_nonneg _ y0
    have t1 : Int.tmod y 3 < (([0, 10000, 1] : List Int).length : Int) := Int.tmod_lt_of_pos _ (by decide)
    rw [if_pos c4, Option.bind_some, if_pos t0, if_pos t1]
    exact ⟨_, _, _, _, _, _, _, _, _, _, _, _, rfl⟩
  rw [if_neg c4]
  exact ⟨_, _, _, _, _, _, _, _, _, _, _, _, rfl⟩
theorem spec_l05AnyRole_is (l : List Int) (hl : ∀ x ∈ l, (Lit.int .u8 x).wf = true) (hm : l.length ≤ 9223372036854775000) (i : Nat) (h : Int) : ∃ (a b : Int) (i' : Nat) (h' : Int), spec_l05AnyRole.f l (i : Int) h = some (a, b, (i' : Int), h') := by
  unfold spec_l05AnyRole.f
  obtain ⟨a, b, i1, h1, e1⟩ := spec_l05Role_is l hl hm i h
  rw [e1, Option.bind_some]
  obtain ⟨y, i2, h2, e2, y0, y1⟩ := spec_l01Below_is l hl hm i1 h1 8 (by decide)
  dsimp only
  rw [e2, Option.bind_some]
  dsimp only
  by_cases c0 : y = 0
  · obtain ⟨x, i3, h3, e3⟩ := spec_l01PickInt_is l hl hm i2 h2 [(-1), 6, 5] (by decide)
    rw [if_pos c0, e3, Option.bind_some]
    exact ⟨_, _, _, _, rfl⟩
  rw [if_neg c0]
  by_cases c1 : y = 1
  · obtain ⟨x, i3, h3, e3⟩ := spec_l01PickInt_is l hl hm i2 h2 [(-1), 4, 3] (by decide)
    rw [if_pos c1, e3, Option.bind_some]
    exact ⟨_, _, _, _, rfl⟩
  rw [if_neg c1]
  exact ⟨_, _, _, _, rfl⟩

theorem spec_l06Any_is (l : List Int) (hl : ∀ x ∈ l, (Lit.int .u8 x).wf = true) (hm : l.length ≤ 9223372036854775000) (i : Nat) (h : Int) : ∃ (L : List C) (i' : Nat) (h' : Int), Ev (fun k => spec_l06Any.f k l (i : Int) h) (L, (i' : Int), h') ∧ L.length ≤ 10 := by
  obtain ⟨L, i1, h1, e1, e2⟩ := spec_l06Creds_is l hl hm i h
  obtain ⟨y, i2, h2, e3, y0, y1⟩ := spec_l01Below_is l hl hm i1 h1 4 (by decide)
  have eo : spec_l01Once.f l (i1 : Int) h1 4 = some ((y == 0), (i2 : Int), h2) := by
    unfold spec_l01Once.f
    rw [e3, Option.bind_some]
  by_cases c : (y == 0) = true
  · obtain ⟨a0, a1, a2, a3, a4, a5, a6, a7, a8, a9, i3, h3, e4⟩ := spec_l05Any_is l hl hm i2 h2
    exact ⟨L ++ [⟨a0, ⟨a1, a2⟩, a3, ⟨a4, a5⟩, ⟨a6, a7⟩, a8, a9⟩], i3, h3, Ev.bind e1 (evb eo (evp c (evb e4 (evp (by dsimp only; omega) (Ev.now _))))), by rw [List.length_append]; simp; omega⟩
  · exact ⟨L, i2, h2, Ev.bind e1 (evb eo (evn c (Ev.now _))), by omega⟩
theorem spec_DrawFollows_is (l : List Int) (hl : ∀ x ∈ l, (Lit.int .u8 x).wf = true) (hm : l.length ≤ 9223372036854775000) : ∃ (L : List C) (a0 a1 a2 a3 a4 a5 a6 a7 a8 a9 : Int), Ev (fun k => spec_DrawFollows.f k l) (factsOf L, a0, a1, a2, a3, a4, a5, a6, a7, a8, a9) := by
  obtain ⟨h0, e0⟩ := spec_l01New_is l
  obtain ⟨a0, a1, a2, a3, a4, a5, a6, a7, a8, a9, i3, h3, e4⟩ := spec_l05Any_is l hl hm 0 h0
  obtain ⟨L, i1, h1, e1, e2⟩ := spec_l06Creds_is l hl hm i3 h3
  exact ⟨L, a0, a1, a2, a3, a4, a5, a6, a7, a8, a9, Ev.bind e0 (evb e4 (Ev.bind e1 (Ev.bind (spec_FactsOf_is L (by omega)) (Ev.now _))))⟩
theorem spec_DrawFactsOf_is (l : List Int) (hl : ∀ x ∈ l, (Lit.int .u8 x).wf = true) (hm : l.length ≤ 9223372036854775000) : ∃ L : List C, Ev (fun k => spec_DrawFactsOf.f k l) L ∧ L.length ≤ 10 := by
  obtain ⟨h0, e0⟩ := spec_l01New_is l
  obtain ⟨L, i1, h1, e1, e2⟩ := spec_l06Any_is l hl hm 0 h0
  exact ⟨L, Ev.bind e0 (Ev.bind e1 (Ev.now _)), e2⟩
theorem spec_DrawIsMember_is (l : List Int) (hl : ∀ x ∈ l, (Lit.int .u8 x).wf = true) (hm : l.length ≤ 9223372036854775000) : ∃ (L : List C) (a b w : Int), Ev (fun k => spec_DrawIsMember.f k l) (L, a, b, w) ∧ L.length ≤ 10 := by
  obtain ⟨h0, e0⟩ := spec_l01New_is l
  obtain ⟨y, i2, h2, e3, y0, y1⟩ := spec_l01Below_is l hl hm 0 h0 8 (by decide)
  obtain ⟨a, b, i4, h4, e4⟩ := spec_l05AnyRole_is l hl hm i2 h2
  obtain ⟨L, i1, h1, e1, e2⟩ := spec_l06Any_is l hl hm i4 h4
  exact ⟨L, a, b, wrap64 (y - 1), Ev.bind e0 (evb e3 (evb e4 (Ev.bind e1 (Ev.now _)))), e2⟩
theorem spec_DrawAlive_is (l : List Int) (hl : ∀ x ∈ l, (Lit.int .u8 x).wf = true) (hm : l.length ≤ 9223372036854775000) : ∃ (L : List C) (n : Int), Ev (fun k => spec_DrawAlive.f k l) (L, n) ∧ L.length ≤ 10 := by
  obtain ⟨h0, e0⟩ := spec_l01New_is l
  obtain ⟨x, i3, h3, e3⟩ := spec_l01PickInt_is l hl hm 0 h0 [0, 5, 6, 51, 9999, 10000] (by decide)
  obtain ⟨L, i1, h1, e1, e2⟩ := spec_l06Any_is l hl hm i3 h3
  exact ⟨L, x, Ev.bind e0 (evb e3 (Ev.bind e1 (Ev.now _))), e2⟩

theorem sameFacts_l (l : List F) (hl : l.length ≤ 4000000) : ∀ (d i : Nat), i + d = l.length → Ev (fun k => laws_sameFacts.l0 k l l (i : Int)) true := by
  intro d
  induction d with
  | zero =>
    intro i h
    exact Ev.step (fun k => by rw [laws_sameFacts.l0]) (evn (by omega) (Ev.now _))
  | succ d ih =>
    intro i h
    refine Ev.step (fun k => by rw [laws_sameFacts.l0]) (evp (by omega) (evp (by omega) (evp (by omega) (evn (by simp) ?_))))
    rw [w64s i (by omega)]
    exact ih (i + 1) (by omega)
theorem sameFacts_is (l : List F) (hl : l.length ≤ 4000000) : Ev (fun k => laws_sameFacts.f k l l) true := evp rfl (sameFacts_l l hl l.length 0 (Nat.zero_add _))

def alive (l : List C) (now : Int) : List C := l.filter fun c => cOk c && decide (c.f5 ≥ now)
theorem alive_cons (c : C) (l : List C) (now : Int) : alive (c :: l) now = (if cOk c = true ∧ c.f5 ≥ now then c :: alive l now else alive l now) := by
  unfold alive
  rw [List.filter_cons]
  by_cases h : cOk c = true ∧ c.f5 ≥ now
  · rw [if_pos h, if_pos (by simp [h.1, h.2])]
  · rw [if_neg h, if_neg (by simpa using h)]
theorem spec_Alive_l (l : List C) (hl : l.length ≤ 4000000) (now : Int) : ∀ (d i : Nat) (acc : List C), i + d = l.length → acc.length ≤ i → Ev (fun k => spec_Alive.l0 k l now acc (i : Int)) (acc ++ alive (l.drop i) now) := by
  intro d
  induction d with
  | zero =>
    intro i acc h _
    refine Ev.step (fun k => by rw [spec_Alive.l0]) ?_
    refine evn (by omega) (evs ?_)
    rw [List.drop_of_length_le (by omega)]
    exact (List.append_nil _).symm
  | succ d ih =>
    intro i acc h ha
    have hi : i < l.length := by omega
    have e : l.drop i = rd_T29 l (i : Int) :: l.drop (i + 1) := by rw [List.drop_eq_getElem_cons hi, rdc_nat l i hi]
    refine Ev.step (fun k => by rw [spec_Alive.l0]) ?_
    refine evp (by omega) (evp (by omega) ?_)
    rw [e, alive_cons, w64s i (by omega)]
    refine Ev.bind (evo fun m => spec_CredOk_is m _ _ _ _ _ _ _ _ _ _) ?_
    by_cases h1 : cOk (rd_T29 l (i : Int)) = true
    · refine evp h1 ?_
      by_cases h2 : (rd_T29 l (i : Int)).f5 ≥ now
      · rw [if_pos ⟨h1, h2⟩]
        refine evp h2 (evp (by omega) ?_)
        have := ih (i + 1) (acc ++ [rd_T29 l (i : Int)]) (by omega) (by rw [List.length_append]; simp; omega)
        rw [List.append_assoc] at this
        exact this
      · rw [if_neg (fun h => h2 h.2)]
        exact evn h2 (ih (i + 1) acc (by omega) (by omega))
    · rw [if_neg (fun h => h1 h.1)]
      exact evn h1 (ih (i + 1) acc (by omega) (by omega))
theorem spec_Alive_is (l : List C) (hl : l.length ≤ 4000000) (now : Int) : Ev (fun k => spec_Alive.f k l now) (alive l now) := spec_Alive_l l hl now l.length 0 [] (Nat.zero_add _) (Nat.le_refl _)
theorem impl_Alive_l (l : List C) (hl : l.length ≤ 4000000) (now : Int) : ∀ (d i : Nat) (acc : List C), i + d = l.length → acc.length ≤ i → Ev (fun k => impl_Alive.l0 k now acc l (l.length : Int) (i : Int)) (acc ++ alive (l.drop i) now) := by
  intro d
  induction d with
  | zero =>
    intro i acc h _
    refine Ev.step (fun k => by rw [impl_Alive.l0]) ?_
    refine evn (by omega) (evs ?_)
    rw [List.drop_of_length_le (by omega)]
    exact (List.append_nil _).symm
  | succ d ih =>
    intro i acc h ha
    have hi : i < l.length := by omega
    have e : l.drop i = rd_T29 l (i : Int) :: l.drop (i + 1) := by rw [List.drop_eq_getElem_cons hi, rdc_nat l i hi]
    refine Ev.step (fun k => by rw [impl_Alive.l0]) ?_
    refine evp (by omega) (evp (by omega) (evp (by omega) ?_))
    rw [e, alive_cons, w64s i (by omega)]
    refine Ev.bind (evo fun m => impl_CredOk_is m _ _ _ _ _ _ _ _ _ _) ?_
    by_cases h1 : cOk (rd_T29 l (i : Int)) = true
    · refine evp h1 ?_
      by_cases h2 : (rd_T29 l (i : Int)).f5 ≥ now
      · rw [if_pos ⟨h1, h2⟩]
        refine evp h2 (evp (by omega) ?_)
        have := ih (i + 1) (acc ++ [rd_T29 l (i : Int)]) (by omega) (by rw [List.length_append]; simp; omega)
        rw [List.append_assoc] at this
        exact this
      · rw [if_neg (fun h => h2 h.2)]
        exact evn h2 (ih (i + 1) acc (by omega) (by omega))
    · rw [if_neg (fun h => h1 h.1)]
      exact evn h1 (ih (i + 1) acc (by omega) (by omega))
theorem impl_Alive_is (l : List C) (hl : l.length ≤ 4000000) (now : Int) : Ev (fun k => impl_Alive.f k l now) (alive l now) := impl_Alive_l l hl now l.length 0 [] (Nat.zero_add _) (Nat.le_refl _)

theorem sameInts_l (l : List Int) (hl : l.length ≤ 4000000) : ∀ (d i : Nat), i + d = l.length → Ev (fun k => laws_sameInts.l0 k l l (i : Int)) true := by
  intro d
  induction d with
  | zero =>
    intro i h
    exact Ev.step (fun k => by rw [laws_sameInts.l0]) (evn (by omega) (Ev.now _))
  | succ d ih =>
    intro i h
    refine Ev.step (fun k => by rw [laws_sameInts.l0]) (evp (by omega) (evp (by omega) (evp (by omega) (evp rfl ?_))))
    rw [w64s i (by omega)]
    exact ih (i + 1) (by omega)
theorem sameInts_is (l : List Int) (hl : l.length ≤ 4000000) : Ev (fun k => laws_sameInts.f k l l) true := evp rfl (sameInts_l l hl l.length 0 (Nat.zero_add _))

theorem sameCreds_l (l : List C) (hl : l.length ≤ 4000000) : ∀ (d i : Nat), i + d = l.length → Ev (fun k => laws_sameCreds.l0 k l l (i : Int)) true := by
  intro d
  induction d with
  | zero =>
    intro i h
    exact Ev.step (fun k => by rw [laws_sameCreds.l0]) (evn (by omega) (Ev.now _))
  | succ d ih =>
    intro i h
    refine Ev.step (fun k => by rw [laws_sameCreds.l0]) (evp (by omega) (evp (by omega) (evp (by omega) (evn (by simp) ?_))))
    rw [w64s i (by omega)]
    exact ih (i + 1) (by omega)
theorem sameCreds_is (l : List C) (hl : l.length ≤ 4000000) : Ev (fun k => laws_sameCreds.f k l l) true := evp rfl (sameCreds_l l hl l.length 0 (Nat.zero_add _))
theorem alive_len (l : List C) (now : Int) : (alive l now).length ≤ l.length := List.length_filter_le _ _
theorem impl_IsMember_is (cs : List C) (hcs : cs.length ≤ 4000000) (a b w : Int) : Ev (fun k => impl_IsMember.f k cs a b w) (decide (mkF a b w ∈ factsOf cs)) := by
  have hf := factsOf_le cs
  exact Ev.bind (impl_FactsOf_is _ hcs) (Ev.bind (impl_Has_is _ (by omega) a b w) (Ev.now _))
theorem spec_IsMember_is (cs : List C) (hcs : cs.length ≤ 4000000) (a b w : Int) : Ev (fun k => spec_IsMember.f k cs a b w) (decide (mkF a b w ∈ factsOf cs)) := by
  have hf := factsOf_le cs
  exact Ev.bind (spec_FactsOf_is _ hcs) (Ev.bind (spec_l06Has_is _ (by omega) a b w) (Ev.now _))
theorem Told_end (G L M A : List C) (hL : L.length ≤ 1000) (hM : M.length ≤ 1000) (hA : A.length ≤ 1000) (w now : Int) (R : List Ro) (hR : R.length ≤ 1000) (a0 a1 a2 a3 a4 a5 a6 a7 a8 a9 r0 r1 : Int) : Ev (fun k => laws_FnMembersTold.l0 k (factsOf G) L M w A now R R (R.length : Int) a0 a1 a2 a3 a4 a5 a6 a7 a8 a9 r0 r1) true := by
  have hG := factsOf_le G
  have hF := factsOf_le L
  refine Ev.step (fun k => by rw [laws_FnMembersTold.l0]) (evn (by omega) ?_)
  have hfl := follows_inv (factsInv G) (⟨a0, ⟨a1, a2⟩, a3, ⟨a4, a5⟩, ⟨a6, a7⟩, a8, a9⟩ : C)
  have hle := hfl.le
  refine Ev.bind (impl_Follows_is (factsOf G) (factsInv G) ⟨a0, ⟨a1, a2⟩, a3, ⟨a4, a5⟩, ⟨a6, a7⟩, a8, a9⟩) ?_
  refine Ev.bind (spec_Follows_is (factsOf G) (by omega) ⟨a0, ⟨a1, a2⟩, a3, ⟨a4, a5⟩, ⟨a6, a7⟩, a8, a9⟩) ?_
  refine Ev.bind (sameFacts_is _ (by omega)) (evp rfl ?_)
  refine Ev.bind (impl_FactsOf_is L (by omega)) (Ev.bind (spec_FactsOf_is L (by omega)) (Ev.bind (sameFacts_is _ (by omega)) (evp rfl ?_)))
  refine Ev.bind (impl_IsMember_is M (by omega) r0 r1 w) (Ev.bind (spec_IsMember_is M (by omega) r0 r1 w) (evp (by simp) ?_))
  have hs := spF_len r0 r1 (factsOf M)
  refine Ev.bind (impl_MembersOf_is M (by omega) r0 r1) (Ev.bind (spec_MembersOf_is M (by omega) r0 r1) (Ev.bind (sameInts_is _ (by omega)) (evp rfl (evp rfl ?_))))
  have ha := alive_len A now
  exact Ev.bind (impl_Alive_is A (by omega) now) (Ev.bind (spec_Alive_is A (by omega) now) (Ev.bind (sameCreds_is _ (by omega)) (Ev.now _)))
theorem Told_l0 (G L M A : List C) (hL : L.length ≤ 1000) (hM : M.length ≤ 1000) (hA : A.length ≤ 1000) (w now : Int) (R : List Ro) (hR : R.length ≤ 1000) (a0 a1 a2 a3 a4 a5 a6 a7 a8 a9 r0 r1 : Int) : ∀ (d i : Nat), i + d = R.length → Ev (fun k => laws_FnMembersTold.l0 k (factsOf G) L M w A now R R (i : Int) a0 a1 a2 a3 a4 a5 a6 a7 a8 a9 r0 r1) true := by
  intro d
  induction d with
  | zero =>
    intro i h
    have hi : i = R.length := by omega
    subst hi
    exact Told_end G L M A hL hM hA w now R hR a0 a1 a2 a3 a4 a5 a6 a7 a8 a9 r0 r1
  | succ d ih =>
    intro i h
    refine Ev.step (fun k => by rw [laws_FnMembersTold.l0]) (evp (by omega) (evp rfl (evp (by omega) (evp (by omega) (evn (by simp) ?_)))))
    rw [w64s i (by omega)]
    exact ih (i + 1) (by omega)
theorem FnMembersTold : laws_FnMembersTold.Pure := by
  intro l hm hm2 hl
  refine Ev.rounds (g := fun k => laws_FnMembersTold.f k l) ?_
  simp only [laws_FnMembersTold.f, laws_big.f]
  refine evb rfl ?_
  by_cases h0 : (l.length : Int) > 1048576
  · exact evp (decide_eq_true h0) (Ev.now _)
  have hlen : l.length ≤ 9223372036854775000 := by omega
  refine evn (by simpa using h0) ?_
  obtain ⟨G, a0, a1, a2, a3, a4, a5, a6, a7, a8, a9, e1⟩ := spec_DrawFollows_is l hl hlen
  obtain ⟨L, e2, hL⟩ := spec_DrawFactsOf_is l hl hlen
  obtain ⟨M, r0, r1, w, e3, hM⟩ := spec_DrawIsMember_is l hl hlen
  obtain ⟨A, now, e4, hA⟩ := spec_DrawAlive_is l hl hlen
  have hR := spR_len w (factsOf M)
  refine Ev.bind e1 (Ev.bind e2 (Ev.bind e3 (Ev.bind e4 (Ev.bind (impl_RolesOf_is M (by omega) w) (Ev.bind (spec_RolesOf_is M (by omega) w) ?_)))))
  exact Told_l0 G L M A (by omega) (by omega) (by omega) w now _ (by omega) a0 a1 a2 a3 a4 a5 a6 a7 a8 a9 r0 r1 _ 0 (Nat.zero_add _)

end Go.Proofs.Ytnebbjcgkoaloaa.Pure
