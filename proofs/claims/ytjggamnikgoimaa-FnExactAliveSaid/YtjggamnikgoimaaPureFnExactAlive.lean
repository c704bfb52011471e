/-
The law FnExactAlive of the given program answers true at every input: the plain statement that is left when the printed walk has stepped through the code.
Conditions: the bounds of the given row (sizes of texts and lists, numbers of their kinds); none of our own.
-/
import Derived.Test.YtjggamnikgoimaaPFnExactAlivex6
import Derived.Laws.BitsAllLaws
namespace Go.Proofs.Ytjggamnikgoimaa.Pure
open Go.RowKit Go.Proofs.Ytjggamnikgoimaa.PFnExactAlive Go.Proofs.YtjggamnikgoimaaW.PrintWords Go.Proofs.YtjggamnikgoimaaW.PrintLast Go.Proofs.YtjggamnikgoimaaW.PrintMore
set_option linter.unusedVariables false

theorem evp {α : Type} {c : Prop} [Decidable c] {f g : Nat → Option α} {r : α} (hc : c) (h : Ev f r) : Ev (fun k => if c then f k else g k) r := Ev.congr (fun _ => if_pos hc) h
theorem evn {α : Type} {c : Prop} [Decidable c] {f g : Nat → Option α} {r : α} (hc : ¬ c) (h : Ev g r) : Ev (fun k => if c then f k else g k) r := Ev.congr (fun _ => if_neg hc) h
theorem evs {α : Type} {x y : α} (h : x = y) : Ev (fun _ => some x) y := by subst h; exact Ev.now _
theorem evc {α : Type} {x : Option α} {y : α} (h : x = some y) : Ev (fun _ => x) y := by subst h; exact Ev.now _
theorem w64 {n : Int} (h1 : -9223372036854775808 ≤ n) (h2 : n ≤ 9223372036854775807) : wrap64 n = n := IntWalk.wrap64_in n ⟨h1, h2⟩
theorem w64n (n : Nat) (h : n ≤ 9223372036854775807) : wrap64 (n : Int) = (n : Int) := w64 (by omega) (by omega)
theorem w64s (n : Nat) (h : n + 1 ≤ 9223372036854775807) : wrap64 ((n : Int) + 1) = ((n + 1 : Nat) : Int) := by rw [w64 (by omega) (by omega)]; rfl
theorem w64a (a b : Nat) (h : a + b ≤ 9223372036854775807) : wrap64 ((a : Int) + (b : Int)) = ((a + b : Nat) : Int) := by rw [w64 (by omega) (by omega)]; rfl
theorem w64m (a b : Nat) (h : a * b ≤ 9223372036854775807) : wrap64 ((a : Int) * (b : Int)) = ((a * b : Nat) : Int) := by
  have e : ((a * b : Nat) : Int) = (a : Int) * (b : Int) := Int.natCast_mul a b
  rw [w64 (by omega) (by omega), e]
theorem wf64 {n : Int} (h : (Lit.int .i64 n).wf = true) : -9223372036854775808 ≤ n ∧ n ≤ 9223372036854775807 := by
  simp [Lit.wf, IntKind.min, IntKind.max, IntKind.bits, IntKind.signed] at h
  omega
theorem bt_lo (s : ByteArray) (i : Int) : 0 ≤ bt s i := (bt_range s i).1
theorem bt_hi (s : ByteArray) (i : Int) : bt s i ≤ 255 := (bt_range s i).2
theorem wfu32 {n : Int} (h : (Lit.int .u32 n).wf = true) : 0 ≤ n ∧ n < 4294967296 := by
  simp [Lit.wf, IntKind.min, IntKind.max, IntKind.bits, IntKind.signed] at h
  omega
theorem evb {α β : Type} {x : Option α} {f : Nat → α → Option β} {a : α} {r : β} (h : x = some a) (k : Ev (fun n => f n a) r) : Ev (fun n => x.bind (f n)) r := Ev.bind (g := fun _ => x) (evc h) k
theorem i64_nat (a b : Nat) (ha : a < 9223372036854775808) (hb : b < 9223372036854775808) : Go.bits .and .i64 (a : Int) (b : Int) = ((a &&& b : Nat) : Int) ∧ Go.bits .or .i64 (a : Int) (b : Int) = ((a ||| b : Nat) : Int) :=
  bits_nat .i64 63 (by decide) (fun m h0 h1 => by rw [IntKind.wrap_i64]; omega) a b ha hb

theorem evo {α : Type} {g : Nat → Option α} {r : α} (h : ∀ m, g (m + 1) = some r) : Ev g r := ⟨1, fun k hk => by obtain ⟨m, rfl⟩ : ∃ m, k = m + 1 := ⟨k - 1, by omega⟩; exact h m⟩

theorem tl_inj {a b : ByteArray} : a.toList = b.toList ↔ a = b := by
  rw [ByteArray.toList_eq, ByteArray.toList_eq]
  exact ⟨fun h => ByteArray.ext (Array.toList_inj.mp h), fun h => by rw [h]⟩
theorem son_bytesOf (s : ByteArray) : strOfNums (bytesOf s) = s := by
  apply tl_inj.1
  rw [ByteArray.toList_eq, ByteArray.toList_eq, strOfNums_data, bytesOf, List.map_map]
  have : ((fun n : Int => UInt8.ofNat n.toNat) ∘ fun b : UInt8 => (b.toNat : Int)) = id := by
    funext b; simp
  rw [this, List.map_id]
theorem bytesOf_son (l : List Int) (h : ∀ b ∈ l, 0 ≤ b ∧ b ≤ 255) : bytesOf (strOfNums l) = l := by
  rw [bytesOf, strOfNums_data, List.map_map]
  have : l.map ((fun b : UInt8 => (b.toNat : Int)) ∘ fun n : Int => UInt8.ofNat n.toNat) = l.map id := by
    apply List.map_congr_left
    intro b hb
    have := h b hb
    simp only [Function.comp, id, UInt8.toNat_ofNat']
    omega
  rw [this, List.map_id]
theorem bytesOf_inj {a b : ByteArray} (h : bytesOf a = bytesOf b) : a = b := by rw [← son_bytesOf a, ← son_bytesOf b, h]
theorem bytesOf_extract (s : ByteArray) (a b : Nat) : bytesOf (s.extract a b) = ((bytesOf s).drop a).take (b - a) := by
  unfold bytesOf
  rw [ByteArray.data_extract]
  simp [List.map_take, List.map_drop, List.extract]
theorem bytesOf_append (a b : ByteArray) : bytesOf (a ++ b) = bytesOf a ++ bytesOf b := by
  unfold bytesOf
  rw [ByteArray.data_append]
  simp
theorem bytesOf_range (s : ByteArray) : ∀ b ∈ bytesOf s, 0 ≤ b ∧ b ≤ 255 := by
  intro b hb
  unfold bytesOf at hb
  obtain ⟨c, _, rfl⟩ := List.mem_map.1 hb
  have := c.toNat_lt
  omega
theorem bytesOf_drop (s : ByteArray) (i : Nat) (h : i < s.size) : (bytesOf s).drop i = bt s (i : Int) :: (bytesOf s).drop (i + 1) := by
  have hl : i < (bytesOf s).length := by rw [bytesOf_length]; exact h
  rw [List.drop_eq_getElem_cons hl]
  congr 1
  have := rd_bytesOf s (i : Int)
  rw [← this]
  unfold rd
  simp [List.getD_eq_getElem?_getD, hl]
theorem bt_nat (s : ByteArray) (i : Int) : ∃ n : Nat, bt s i = (n : Int) ∧ n < 256 := by
  have h := bt_range s i
  exact ⟨(bt s i).toNat, by omega, by omega⟩

theorem rd_nat (l : List Int) (i : Nat) (h : i < l.length) : rd l (i : Int) = l[i] := by
  unfold rd
  rw [Int.toNat_natCast, List.getD_eq_getElem?_getD, List.getElem?_eq_getElem h]
  rfl

theorem impl_in_is (x a b : Int) : impl_in.f x a b = some (decide (a ≤ x ∧ x ≤ b)) := by
  unfold impl_in.f
  by_cases h : x ≥ a
  · rw [if_pos h]; congr 1; rw [decide_eq_decide]; exact ⟨fun h2 => ⟨h, h2⟩, fun h2 => h2.2⟩
  · rw [if_neg h]; congr 1; symm; rw [decide_eq_false_iff_not]; exact fun h2 => h h2.1

theorem spec_l01In_is (x a b : Int) : spec_l01In.f x a b = some (decide (a ≤ x ∧ x ≤ b)) := by
  unfold spec_l01In.f
  by_cases h : x ≥ a
  · rw [if_pos h]; congr 1; rw [decide_eq_decide]; exact ⟨fun h2 => ⟨h, h2⟩, fun h2 => h2.2⟩
  · rw [if_neg h]; congr 1; symm; rw [decide_eq_false_iff_not]; exact fun h2 => h h2.1

def roleB (w n : Int) : Bool := decide (0 ≤ w ∧ w ≤ 5) && decide (0 ≤ n ∧ n ≤ 3)
theorem spec_RoleOk_is (w n : Int) : spec_RoleOk.f w n = some (roleB w n) := by
  simp only [spec_RoleOk.f, spec_l01In_is, Option.bind_some, roleB]
  cases decide (0 ≤ w ∧ w ≤ 5) <;> rfl
theorem impl_RoleOk_is (w n : Int) : impl_RoleOk.f w n = some (roleB w n) := by
  simp only [impl_RoleOk.f, impl_in_is, Option.bind_some, roleB]
  cases decide (0 ≤ w ∧ w ≤ 5) <;> rfl

def credB (k o n w aw an bw bn u z : Int) : Bool :=
  roleB o n && decide (1 ≤ u ∧ u ≤ 9999) && decide (0 ≤ z ∧ z ≤ 99) &&
    (if k = 1 then decide (0 ≤ w ∧ w ≤ 5) && (aw == 0 && an == 0) && (bw == 0 && bn == 0)
     else if k = 2 then decide (w = 0) && roleB aw an && (bw == 0 && bn == 0)
     else if k = 3 then decide (w = 0) && roleB aw an && roleB bw bn && (bw == 0)
     else if k = 4 then decide (w = 0) && roleB aw an && roleB bw bn
     else false)
theorem ifb {α : Type} {b : Bool} {x y : α} : (if b = true then x else y) = (match b with | true => x | false => y) := by cases b <;> rfl
theorem spec_CredOk_is (m : Nat) (k o n w aw an bw bn u z : Int) : spec_CredOk.f (m + 1) k o n w aw an bw bn u z = some (credB k o n w aw an bw bn u z) := by
  simp only [spec_CredOk.f, spec_CredOk.j0, spec_RoleOk_is, spec_l01In_is, Option.bind_some, credB]
  cases roleB o n
  · rfl
  cases decide (1 ≤ u ∧ u ≤ 9999)
  · rfl
  cases decide (0 ≤ z ∧ z ≤ 99)
  · rfl
  simp only [if_true, Bool.not_true, Bool.true_and]
  rw [if_neg (by decide)]
  by_cases h1 : k = 1
  · rw [if_pos h1, if_pos h1]
    cases decide (0 ≤ w ∧ w ≤ 5)
    · rfl
    cases (aw == 0 && an == 0)
    · rfl
    rfl
  rw [if_neg h1, if_neg h1]
  by_cases h2 : k = 2
  · rw [if_pos h2, if_pos h2]
    by_cases h : w = 0
    · rw [if_pos h, decide_eq_true h]
      cases roleB aw an <;> rfl
    · rw [if_neg h, decide_eq_false h]; rfl
  rw [if_neg h2, if_neg h2]
  by_cases h3 : k = 3
  · rw [if_pos h3, if_pos h3]
    by_cases h : w = 0
    · rw [if_pos h, decide_eq_true h]
      cases roleB aw an
      · rfl
      cases roleB bw bn <;> rfl
    · rw [if_neg h, decide_eq_false h]; rfl
  rw [if_neg h3, if_neg h3]
  by_cases h4 : k = 4
  · rw [if_pos h4, if_pos h4]
    by_cases h : w = 0
    · rw [if_pos h, decide_eq_true h]
      cases roleB aw an <;> rfl
    · rw [if_neg h, decide_eq_false h]; rfl
  rw [if_neg h4, if_neg h4]
theorem impl_RoleOk_eq : impl_RoleOk.f = spec_RoleOk.f := by funext a b; rw [spec_RoleOk_is, impl_RoleOk_is]
theorem impl_isPerson_is (w : Int) : impl_isPerson.f w = some (decide (0 ≤ w ∧ w ≤ 5)) := by unfold impl_isPerson.f; rw [impl_in_is]; rfl
theorem impl_CredOk_eq (m : Nat) (k o n w aw an bw bn u z : Int) : impl_CredOk.f (m + 1) k o n w aw an bw bn u z = spec_CredOk.f (m + 1) k o n w aw an bw bn u z := by
  simp only [impl_CredOk.f, impl_CredOk.j0, spec_CredOk.f, spec_CredOk.j0, impl_RoleOk_eq, impl_isPerson_is, impl_in_is, spec_l01In_is]
theorem impl_CredOk_is (m : Nat) (k o n w aw an bw bn u z : Int) : impl_CredOk.f (m + 1) k o n w aw an bw bn u z = some (credB k o n w aw an bw bn u z) := (impl_CredOk_eq m k o n w aw an bw bn u z).trans (spec_CredOk_is m k o n w aw an bw bn u z)

abbrev C := S51
abbrev LC := S59
def conv (x : LC) : C := ⟨x.f0, ⟨x.f1.f0, x.f1.f1⟩, x.f2, ⟨x.f3.f0, x.f3.f1⟩, ⟨x.f4.f0, x.f4.f1⟩, x.f5, x.f6⟩
theorem rdc_nat (l : List C) (i : Nat) (h : i < l.length) : rd_T51 l (i : Int) = l[i] := by
  unfold rd_T51
  rw [Int.toNat_natCast, List.getD_eq_getElem?_getD, List.getElem?_eq_getElem h]
  rfl
theorem rdl_nat (l : List LC) (i : Nat) (h : i < l.length) : rd_T59 l (i : Int) = l[i] := by
  unfold rd_T59
  rw [Int.toNat_natCast, List.getD_eq_getElem?_getD, List.getElem?_eq_getElem h]
  rfl
theorem toCredS_l (l : List LC) (hl : l.length ≤ 4000000) : ∀ (d i : Nat), i + d = l.length → Ev (fun k => laws_toCredS.l0 k l ((l.map conv).take i ++ List.replicate d z51) (i : Int)) (l.map conv) := by
  intro d
  induction d with
  | zero =>
    intro i h
    refine Ev.step (fun k => by rw [laws_toCredS.l0]) ?_
    refine evn (by omega) (evs ?_)
    rw [List.take_of_length_le (by rw [List.length_map]; omega), List.replicate_zero, List.append_nil]
  | succ d ih =>
    intro i h
    have hm : (l.map conv).length = l.length := List.length_map _
    have hn : ((l.map conv).take i ++ List.replicate (d + 1) z51).length = l.length := by rw [List.length_append, List.length_take, List.length_replicate, hm]; omega
    refine Ev.step (fun k => by rw [laws_toCredS.l0]) ?_
    refine evp (by omega) (evp (by omega) ?_)
    simp only [laws_toCred.f, laws_toRole.f, Option.bind_some]
    refine evp (by omega) ?_
    rw [w64s i (by omega)]
    refine Ev.congr (fun k => ?_) (ih (i + 1) (by omega))
    congr 1
    rw [Int.toNat_natCast, List.set_append_right _ _ (by rw [List.length_take, hm]; omega), List.length_take, hm, show i - min i l.length = 0 by omega, List.replicate_succ, List.set_cons_zero, List.take_succ_eq_append_getElem (by omega : i < (l.map conv).length), List.append_assoc, List.getElem_map, rdl_nat l i (by omega)]
    rfl
theorem toCredS_is (l : List LC) (hl : l.length ≤ 4000000) : Ev (fun k => laws_toCredS.f k l) (l.map conv) := by
  unfold laws_toCredS.f
  refine evp (by omega) (evp (by omega) ?_)
  rw [Int.toNat_natCast]
  exact toCredS_l l hl l.length 0 (Nat.zero_add _)
theorem eqCredS_l (l : List C) (hl : l.length ≤ 4000000) : ∀ (d i : Nat), i + d = l.length → Ev (fun k => laws_eqCredS.l0 k l l (i : Int)) true := by
  intro d
  induction d with
  | zero =>
    intro i h
    refine Ev.step (fun k => by rw [laws_eqCredS.l0]) ?_
    exact evn (by omega) (evs rfl)
  | succ d ih =>
    intro i h
    refine Ev.step (fun k => by rw [laws_eqCredS.l0]) ?_
    refine evp (by omega) (evp (by omega) (evp (by omega) ?_))
    simp only [laws_eqCred.f, laws_eqRole.f, if_true, Option.bind_some]
    rw [w64s i (by omega)]
    exact ih (i + 1) (by omega)
theorem eqCredS_is (l : List C) (hl : l.length ≤ 4000000) : Ev (fun k => laws_eqCredS.f k l l) true := by
  unfold laws_eqCredS.f
  exact evp rfl (eqCredS_l l hl l.length 0 (Nat.zero_add _))

def crow (m : Int) : C := ⟨m, ⟨m + 1, m + 1 + 1⟩, m + 1 + 1 + 1, ⟨m + 1 + 1 + 1 + 1, m + 1 + 1 + 1 + 1 + 1⟩, ⟨m + 1 + 1 + 1 + 1 + 1 + 1, m + 1 + 1 + 1 + 1 + 1 + 1 + 1⟩, m + 1 + 1 + 1 + 1 + 1 + 1 + 1 + 1, m + 1 + 1 + 1 + 1 + 1 + 1 + 1 + 1 + 1⟩
def cramp (n : Nat) : List C := (List.range n).map fun i : Nat => crow (10 * (i : Int) + 1)
theorem cramp_len (n : Nat) : (cramp n).length = n := by simp [cramp]
theorem cramp_rd (n i : Nat) (h : i < n) : rd_T51 (cramp n) (i : Int) = crow (10 * (i : Int) + 1) := by
  rw [rdc_nat _ i (by rw [cramp_len]; exact h)]
  simp [cramp]
theorem cramp_take (n i : Nat) (h : i < n) : (cramp n).take (i + 1) = (cramp n).take i ++ [crow (10 * (i : Int) + 1)] := by
  rw [List.take_succ_eq_append_getElem (by rw [cramp_len]; exact h), ← rdc_nat _ i (by rw [cramp_len]; exact h), cramp_rd n i h]
theorem rdc_set (l : List C) (i : Nat) (v : C) (h : i < l.length) : rd_T51 (l.set i v) (i : Int) = v := by
  rw [rdc_nat _ i (by rw [List.length_set]; exact h)]
  simp
theorem ten (m : Int) (h0 : 0 ≤ m) (h1 : m ≤ 9000000000000000000) : wrap64 (m + 1) = m + 1 ∧ wrap64 (m + 1 + 1) = m + 1 + 1 ∧ wrap64 (m + 1 + 1 + 1) = m + 1 + 1 + 1 ∧ wrap64 (m + 1 + 1 + 1 + 1) = m + 1 + 1 + 1 + 1 ∧ wrap64 (m + 1 + 1 + 1 + 1 + 1) = m + 1 + 1 + 1 + 1 + 1 ∧ wrap64 (m + 1 + 1 + 1 + 1 + 1 + 1) = m + 1 + 1 + 1 + 1 + 1 + 1 ∧ wrap64 (m + 1 + 1 + 1 + 1 + 1 + 1 + 1) = m + 1 + 1 + 1 + 1 + 1 + 1 + 1 ∧ wrap64 (m + 1 + 1 + 1 + 1 + 1 + 1 + 1 + 1) = m + 1 + 1 + 1 + 1 + 1 + 1 + 1 + 1 ∧ wrap64 (m + 1 + 1 + 1 + 1 + 1 + 1 + 1 + 1 + 1) = m + 1 + 1 + 1 + 1 + 1 + 1 + 1 + 1 + 1 ∧ wrap64 (m + 1 + 1 + 1 + 1 + 1 + 1 + 1 + 1 + 1 + 1) = m + 1 + 1 + 1 + 1 + 1 + 1 + 1 + 1 + 1 + 1 := by
  refine ⟨?_, ?_, ?_, ?_, ?_, ?_, ?_, ?_, ?_, ?_⟩ <;> exact w64 (by omega) (by omega)
theorem markCredS_l (l : List C) (hl : l.length ≤ 4000000) : ∀ (d i : Nat), i + d = l.length → Ev (fun k => laws_markCredS.l0 k ((cramp l.length).take i ++ l.drop i) (10 * (i : Int) + 1) (i : Int)) (10 * (l.length : Int) + 1, cramp l.length) := by
  intro d
  induction d with
  | zero =>
    intro i h
    refine Ev.step (fun k => by rw [laws_markCredS.l0]) ?_
    have hi : i = l.length := by omega
    subst hi
    refine evn (by rw [List.length_append, List.length_take, List.length_drop, cramp_len]; omega) (evs ?_)
    rw [List.take_of_length_le (by rw [cramp_len]; exact Nat.le_refl _), List.drop_of_length_le (Nat.le_refl _), List.append_nil]
  | succ d ih =>
    intro i h
    have hn : ((cramp l.length).take i ++ l.drop i).length = l.length := by rw [List.length_append, List.length_take, List.length_drop, cramp_len]; omega
    obtain ⟨e1, e2, e3, e4, e5, e6, e7, e8, e9, e10⟩ := ten (10 * (i : Int) + 1) (by omega) (by omega)
    refine Ev.step (fun k => by rw [laws_markCredS.l0]) ?_
    refine evp (by omega) (evp (by omega) ?_)
    have hi : i < ((cramp l.length).take i ++ l.drop i).length := by omega
    simp only [Option.bind_some, Int.toNat_natCast, rdc_set _ _ _ hi, List.set_set, e1, e2, e3, e4, e5, e6, e7, e8, e9, e10]
    have e11 : 10 * (i : Int) + 1 + 1 + 1 + 1 + 1 + 1 + 1 + 1 + 1 + 1 + 1 = 10 * ((i + 1 : Nat) : Int) + 1 := by omega
    rw [w64s i (by omega), e11]
    refine Ev.congr (fun k => ?_) (ih (i + 1) (by omega))
    congr 1
    rw [cramp_take _ i (by omega), List.set_append_right _ _ (by rw [List.length_take, cramp_len]; omega), List.length_take, cramp_len, show i - min i l.length = 0 by omega, List.drop_eq_getElem_cons (by omega : i < l.length), List.set_cons_zero, List.append_assoc]
    rfl
theorem markCredS_is (l : List C) (hl : l.length ≤ 4000000) : Ev (fun k => laws_markCredS.f k l 1) (10 * (l.length : Int) + 1, cramp l.length) := markCredS_l l hl l.length 0 (Nat.zero_add _)
theorem heldCredS_l (n : Nat) (hl : n ≤ 4000000) : ∀ (d i : Nat), i + d = n → Ev (fun k => laws_heldCredS.l0 k (cramp n) (10 * (i : Int) + 1) (i : Int)) (10 * (n : Int) + 1) := by
  have hr := cramp_len n
  intro d
  induction d with
  | zero =>
    intro i h
    refine Ev.step (fun k => by rw [laws_heldCredS.l0]) ?_
    refine evn (by omega) (evs ?_)
    omega
  | succ d ih =>
    intro i h
    obtain ⟨e1, e2, e3, e4, e5, e6, e7, e8, e9, e10⟩ := ten (10 * (i : Int) + 1) (by omega) (by omega)
    refine Ev.step (fun k => by rw [laws_heldCredS.l0]) ?_
    simp only [cramp_rd n i (by omega), e1, e2, e3, e4, e5, e6, e7, e8, e9, e10]
    refine evp (by omega) (evp (by omega) (evp rfl (evp rfl (evp rfl (evp rfl (evp rfl (evp rfl (evp rfl (evp rfl (evp rfl (evp rfl ?_)))))))))))
    have e11 : 10 * (i : Int) + 1 + 1 + 1 + 1 + 1 + 1 + 1 + 1 + 1 + 1 + 1 = 10 * ((i + 1 : Nat) : Int) + 1 := by omega
    rw [w64s i (by omega), e11]
    exact ih (i + 1) (by omega)
theorem heldCredS_is (n : Nat) (hl : n ≤ 4000000) : Ev (fun k => laws_heldCredS.f k (cramp n) 1) (10 * (n : Int) + 1) := heldCredS_l n hl n 0 (Nat.zero_add _)

def cOk (c : C) : Bool := credB c.f0 c.f1.f0 c.f1.f1 c.f2 c.f3.f0 c.f3.f1 c.f4.f0 c.f4.f1 c.f5 c.f6
def alive (l : List C) (now : Int) : List C := l.filter fun c => cOk c && decide (c.f5 ≥ now)
theorem alive_cons (c : C) (l : List C) (now : Int) : alive (c :: l) now = (if cOk c = true ∧ c.f5 ≥ now then c :: alive l now else alive l now) := by
  unfold alive
  rw [List.filter_cons]
  by_cases h : cOk c = true ∧ c.f5 ≥ now
  · rw [if_pos h, if_pos (by simp [h.1, h.2])]
  · rw [if_neg h, if_neg (by simpa using h)]
theorem spec_Alive_l (l : List C) (hl : l.length ≤ 4000000) (now : Int) : ∀ (d i : Nat) (acc : List C), i + d = l.length → acc.length ≤ i → Ev (fun k => spec_Alive.l0 k l now acc (i : Int)) (acc ++ alive (l.drop i) now) := by
  intro d
  induction d with
  | zero =>
    intro i acc h _
    refine Ev.step (fun k => by rw [spec_Alive.l0]) ?_
    refine evn (by omega) (evs ?_)
    rw [List.drop_of_length_le (by omega)]
    exact (List.append_nil _).symm
  | succ d ih =>
    intro i acc h ha
    have hi : i < l.length := by omega
    have e : l.drop i = rd_T51 l (i : Int) :: l.drop (i + 1) := by rw [List.drop_eq_getElem_cons hi, rdc_nat l i hi]
    refine Ev.step (fun k => by rw [spec_Alive.l0]) ?_
    refine evp (by omega) (evp (by omega) ?_)
    rw [e, alive_cons, w64s i (by omega)]
    refine Ev.bind (evo fun m => spec_CredOk_is m _ _ _ _ _ _ _ _ _ _) ?_
    by_cases h1 : cOk (rd_T51 l (i : Int)) = true
    · refine evp h1 ?_
      by_cases h2 : (rd_T51 l (i : Int)).f5 ≥ now
      · rw [if_pos ⟨h1, h2⟩]
        refine evp h2 (evp (by omega) ?_)
        have := ih (i + 1) (acc ++ [rd_T51 l (i : Int)]) (by omega) (by rw [List.length_append]; simp; omega)
        rw [List.append_assoc] at this
        exact this
      · rw [if_neg (fun h => h2 h.2)]
        exact evn h2 (ih (i + 1) acc (by omega) (by omega))
    · rw [if_neg (fun h => h1 h.1)]
      exact evn h1 (ih (i + 1) acc (by omega) (by omega))
theorem spec_Alive_is (l : List C) (hl : l.length ≤ 4000000) (now : Int) : Ev (fun k => spec_Alive.f k l now) (alive l now) := spec_Alive_l l hl now l.length 0 [] (Nat.zero_add _) (Nat.le_refl _)
theorem impl_Alive_l (l : List C) (hl : l.length ≤ 4000000) (now : Int) : ∀ (d i : Nat) (acc : List C), i + d = l.length → acc.length ≤ i → Ev (fun k => impl_Alive.l0 k now acc l (l.length : Int) (i : Int)) (acc ++ alive (l.drop i) now) := by
  intro d
  induction d with
  | zero =>
    intro i acc h _
    refine Ev.step (fun k => by rw [impl_Alive.l0]) ?_
    refine evn (by omega) (evs ?_)
    rw [List.drop_of_length_le (by omega)]
    exact (List.append_nil _).symm
  | succ d ih =>
    intro i acc h ha
    have hi : i < l.length := by omega
    have e : l.drop i = rd_T51 l (i : Int) :: l.drop (i + 1) := by rw [List.drop_eq_getElem_cons hi, rdc_nat l i hi]
    refine Ev.step (fun k => by rw [impl_Alive.l0]) ?_
    refine evp (by omega) (evp (by omega) (evp (by omega) ?_))
    rw [e, alive_cons, w64s i (by omega)]
    refine Ev.bind (evo fun m => impl_CredOk_is m _ _ _ _ _ _ _ _ _ _) ?_
    by_cases h1 : cOk (rd_T51 l (i : Int)) = true
    · refine evp h1 ?_
      by_cases h2 : (rd_T51 l (i : Int)).f5 ≥ now
      · rw [if_pos ⟨h1, h2⟩]
        refine evp h2 (evp (by omega) ?_)
        have := ih (i + 1) (acc ++ [rd_T51 l (i : Int)]) (by omega) (by rw [List.length_append]; simp; omega)
        rw [List.append_assoc] at this
        exact this
      · rw [if_neg (fun h => h2 h.2)]
        exact evn h2 (ih (i + 1) acc (by omega) (by omega))
    · rw [if_neg (fun h => h1 h.1)]
      exact evn h1 (ih (i + 1) acc (by omega) (by omega))
theorem impl_Alive_is (l : List C) (hl : l.length ≤ 4000000) (now : Int) : Ev (fun k => impl_Alive.f k l now) (alive l now) := impl_Alive_l l hl now l.length 0 [] (Nat.zero_add _) (Nat.le_refl _)
theorem FnExactAlive : laws_FnExactAlive.Pure := by
  intro l now hm _
  refine Ev.rounds (g := fun k => laws_FnExactAlive.f k l now) ?_
  simp only [laws_FnExactAlive.f, laws_szCredS.f]
  have hm2 : l.length ≤ 9223372036854775807 := by simp only [maxLen] at hm; omega
  have e0 : wrap64 (1048576 - (l.length : Int)) = 1048576 - (l.length : Int) := w64 (by omega) (by omega)
  rw [e0]
  by_cases h0 : 1048576 - (l.length : Int) < 0
  · rw [if_pos h0]
    exact evb rfl (evp (by decide) (Ev.now _))
  rw [if_neg h0]
  refine evb rfl (evn h0 ?_)
  have hl : l.length ≤ 4000000 := by omega
  have hc : (l.map conv).length ≤ 4000000 := by rw [List.length_map]; exact hl
  have hr : (alive (l.map conv) now).length ≤ 4000000 := Nat.le_trans (List.length_filter_le _ _) hc
  refine Ev.bind (toCredS_is l hl) (Ev.bind (spec_Alive_is _ hc now) (Ev.bind (toCredS_is l hl) (Ev.bind (impl_Alive_is _ hc now) (Ev.bind (eqCredS_is _ hr) (evp rfl ?_)))))
  refine Ev.bind (toCredS_is l hl) (Ev.bind (eqCredS_is _ hc) (evp rfl ?_))
  refine Ev.bind (markCredS_is _ hc) (evn (by dsimp only; omega) (Ev.bind (eqCredS_is _ hr) ?_))
  refine Ev.step (fun k => by rw [laws_FnExactAlive.j0]) (evn (by decide) ?_)
  refine Ev.bind (markCredS_is _ hr) (Ev.bind (heldCredS_is _ hr) (evn (by omega) (evp rfl ?_)))
  refine Ev.bind (toCredS_is l hl) (Ev.bind (impl_Alive_is _ hc now) (Ev.bind (eqCredS_is _ hr) (evp rfl ?_)))
  exact Ev.bind (heldCredS_is _ hr) (evn (by omega) (evp rfl (Ev.now _)))

end Go.Proofs.Ytjggamnikgoimaa.Pure
