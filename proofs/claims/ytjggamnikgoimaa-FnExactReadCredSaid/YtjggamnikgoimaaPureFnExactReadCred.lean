/-
The law FnExactReadCred of the given program answers true at every input: the plain statement that is left when the printed walk has stepped through the code.
Conditions: the bounds of the given row (sizes of texts and lists, numbers of their kinds); none of our own.
-/
import Derived.Test.YtjggamnikgoimaaPFnExactReadCredx9
import Derived.Laws.BitsAllLaws
namespace Go.Proofs.Ytjggamnikgoimaa.Pure
open Go.RowKit Go.Proofs.Ytjggamnikgoimaa.PFnExactReadCred Go.Proofs.YtjggamnikgoimaaW.PrintWords Go.Proofs.YtjggamnikgoimaaW.PrintLast Go.Proofs.YtjggamnikgoimaaW.PrintMore
set_option linter.unusedVariables false

theorem evp {α : Type} {c : Prop} [Decidable c] {f g : Nat → Option α} {r : α} (hc : c) (h : Ev f r) : Ev (fun k => if c then f k else g k) r := Ev.congr (fun _ => if_pos hc) h
theorem evn {α : Type} {c : Prop} [Decidable c] {f g : Nat → Option α} {r : α} (hc : ¬ c) (h : Ev g r) : Ev (fun k => if c then f k else g k) r := Ev.congr (fun _ => if_neg hc) h
theorem evs {α : Type} {x y : α} (h : x = y) : Ev (fun _ => some x) y := by subst h; exact Ev.now _
theorem evc {α : Type} {x : Option α} {y : α} (h : x = some y) : Ev (fun _ => x) y := by subst h; exact Ev.now _
theorem w64 {n : Int} (h1 : -9223372036854775808 ≤ n) (h2 : n ≤ 9223372036854775807) : wrap64 n = n := IntWalk.wrap64_in n ⟨h1, h2⟩
theorem w64n (n : Nat) (h : n ≤ 9223372036854775807) : wrap64 (n : Int) = (n : Int) := w64 (by omega) (by omega)
theorem w64s (n : Nat) (h : n + 1 ≤ 9223372036854775807) : wrap64 ((n : Int) + 1) = ((n + 1 : Nat) : Int) := by rw [w64 (by omega) (by omega)]; rfl
theorem w64a (a b : Nat) (h : a + b ≤ 9223372036854775807) : wrap64 ((a : Int) + (b : Int)) = ((a + b : Nat) : Int) := by rw [w64 (by omega) (by omega)]; rfl
theorem w64m (a b : Nat) (h : a * b ≤ 9223372036854775807) : wrap64 ((a : Int) * (b : Int)) = ((a * b : Nat) : Int) := by
  have e : ((a * b : Nat) : Int) = (a : Int) * (b : Int) := Int.natCast_mul a b
  rw [w64 (by omega) (by omega), e]
theorem wf64 {n : Int} (h : (Lit.int .i64 n).wf = true) : -9223372036854775808 ≤ n ∧ n ≤ 9223372036854775807 := by
  simp [Lit.wf, IntKind.min, IntKind.max, IntKind.bits, IntKind.signed] at h
  omega
theorem bt_lo (s : ByteArray) (i : Int) : 0 ≤ bt s i := (bt_range s i).1
theorem bt_hi (s : ByteArray) (i : Int) : bt s i ≤ 255 := (bt_range s i).2
theorem wfu32 {n : Int} (h : (Lit.int .u32 n).wf = true) : 0 ≤ n ∧ n < 4294967296 := by
  simp [Lit.wf, IntKind.min, IntKind.max, IntKind.bits, IntKind.signed] at h
  omega
theorem evb {α β : Type} {x : Option α} {f : Nat → α → Option β} {a : α} {r : β} (h : x = some a) (k : Ev (fun n => f n a) r) : Ev (fun n => x.bind (f n)) r := Ev.bind (g := fun _ => x) (evc h) k
theorem i64_nat (a b : Nat) (ha : a < 9223372036854775808) (hb : b < 9223372036854775808) : Go.bits .and .i64 (a : Int) (b : Int) = ((a &&& b : Nat) : Int) ∧ Go.bits .or .i64 (a : Int) (b : Int) = ((a ||| b : Nat) : Int) :=
  bits_nat .i64 63 (by decide) (fun m h0 h1 => by rw [IntKind.wrap_i64]; omega) a b ha hb

theorem evo {α : Type} {g : Nat → Option α} {r : α} (h : ∀ m, g (m + 1) = some r) : Ev g r := ⟨1, fun k hk => by obtain ⟨m, rfl⟩ : ∃ m, k = m + 1 := ⟨k - 1, by omega⟩; exact h m⟩

theorem tl_inj {a b : ByteArray} : a.toList = b.toList ↔ a = b := by
  rw [ByteArray.toList_eq, ByteArray.toList_eq]
  exact ⟨fun h => ByteArray.ext (Array.toList_inj.mp h), fun h => by rw [h]⟩
theorem son_bytesOf (s : ByteArray) : strOfNums (bytesOf s) = s := by
  apply tl_inj.1
  rw [ByteArray.toList_eq, ByteArray.toList_eq, strOfNums_data, bytesOf, List.map_map]
  have : ((fun n : Int => UInt8.ofNat n.toNat) ∘ fun b : UInt8 => (b.toNat : Int)) = id := by
    funext b; simp
  rw [this, List.map_id]
theorem bytesOf_son (l : List Int) (h : ∀ b ∈ l, 0 ≤ b ∧ b ≤ 255) : bytesOf (strOfNums l) = l := by
  rw [bytesOf, strOfNums_data, List.map_map]
  have : l.map ((fun b : UInt8 => (b.toNat : Int)) ∘ fun n : Int => UInt8.ofNat n.toNat) = l.map id := by
    apply List.map_congr_left
    intro b hb
    have := h b hb
    simp only [Function.comp, id, UInt8.toNat_ofNat']
    omega
  rw [this, List.map_id]
theorem bytesOf_inj {a b : ByteArray} (h : bytesOf a = bytesOf b) : a = b := by rw [← son_bytesOf a, ← son_bytesOf b, h]
theorem bytesOf_extract (s : ByteArray) (a b : Nat) : bytesOf (s.extract a b) = ((bytesOf s).drop a).take (b - a) := by
  unfold bytesOf
  rw [ByteArray.data_extract]
  simp [List.map_take, List.map_drop, List.extract]
theorem bytesOf_append (a b : ByteArray) : bytesOf (a ++ b) = bytesOf a ++ bytesOf b := by
  unfold bytesOf
  rw [ByteArray.data_append]
  simp
theorem bytesOf_range (s : ByteArray) : ∀ b ∈ bytesOf s, 0 ≤ b ∧ b ≤ 255 := by
  intro b hb
  unfold bytesOf at hb
  obtain ⟨c, _, rfl⟩ := List.mem_map.1 hb
  have := c.toNat_lt
  omega
theorem bytesOf_drop (s : ByteArray) (i : Nat) (h : i < s.size) : (bytesOf s).drop i = bt s (i : Int) :: (bytesOf s).drop (i + 1) := by
  have hl : i < (bytesOf s).length := by rw [bytesOf_length]; exact h
  rw [List.drop_eq_getElem_cons hl]
  congr 1
  have := rd_bytesOf s (i : Int)
  rw [← this]
  unfold rd
  simp [List.getD_eq_getElem?_getD, hl]
theorem bt_nat (s : ByteArray) (i : Int) : ∃ n : Nat, bt s i = (n : Int) ∧ n < 256 := by
  have h := bt_range s i
  exact ⟨(bt s i).toNat, by omega, by omega⟩

theorem rd_nat (l : List Int) (i : Nat) (h : i < l.length) : rd l (i : Int) = l[i] := by
  unfold rd
  rw [Int.toNat_natCast, List.getD_eq_getElem?_getD, List.getElem?_eq_getElem h]
  rfl

theorem spec_l01In_is (x a b : Int) : spec_l01In.f x a b = some (decide (a ≤ x ∧ x ≤ b)) := by
  unfold spec_l01In.f
  by_cases h : x ≥ a
  · rw [if_pos h]; congr 1; rw [decide_eq_decide]; exact ⟨fun h2 => ⟨h, h2⟩, fun h2 => h2.2⟩
  · rw [if_neg h]; congr 1; symm; rw [decide_eq_false_iff_not]; exact fun h2 => h h2.1

theorem impl_in_is (x a b : Int) : impl_in.f x a b = some (decide (a ≤ x ∧ x ≤ b)) := by
  unfold impl_in.f
  by_cases h : x ≥ a
  · rw [if_pos h]; congr 1; rw [decide_eq_decide]; exact ⟨fun h2 => ⟨h, h2⟩, fun h2 => h2.2⟩
  · rw [if_neg h]; congr 1; symm; rw [decide_eq_false_iff_not]; exact fun h2 => h h2.1

def varNums (n : Nat) : List Int := if n > 127 then ((n % 128 + 128 : Nat) : Int) :: varNums (n / 128) else [(n : Int)]
termination_by n
decreasing_by omega
theorem varNums_small {n : Nat} (h : ¬ n > 127) : varNums n = [(n : Int)] := by rw [varNums, if_neg h]
theorem varNums_big {n : Nat} (h : n > 127) : varNums n = ((n % 128 + 128 : Nat) : Int) :: varNums (n / 128) := by rw [varNums, if_pos h]
theorem varNums_len (d : Nat) : ∀ n : Nat, n < 128 ^ d → 0 < d → (varNums n).length ≤ d := by
  induction d with
  | zero => intro n h h0; omega
  | succ d ih =>
    intro n h _
    by_cases hb : n > 127
    · rw [varNums_big hb]
      have hd : 0 < d := by
        rcases Nat.eq_zero_or_pos d with h0 | h0
        · subst h0; simp at h; omega
        · exact h0
      have := ih (n / 128) (by rw [Nat.pow_succ] at h; omega) hd
      simp; omega
    · rw [varNums_small hb]; simp
def vt (n : Nat) : ByteArray := strOfNums (varNums n)

/-- The number whose bytes are bs (all above 127 but the last). -/
def varVal : List Nat → Nat → Nat
  | [], x => x
  | b :: bs, x => b % 128 + 128 * varVal bs x
theorem varVal_pos : ∀ (bs : List Nat) (x : Nat), 0 < x → 0 < varVal bs x
  | [], x, h => h
  | b :: bs, x, h => by have := varVal_pos bs x h; unfold varVal; omega
theorem varNums_val : ∀ (bs : List Nat) (x : Nat), (∀ b ∈ bs, 127 < b ∧ b < 256) → x < 128 → (x = 0 → bs = []) → varNums (varVal bs x) = bs.map (fun b : Nat => (b : Int)) ++ [(x : Int)]
  | [], x, _, hx, _ => by unfold varVal; rw [varNums_small (by omega)]; rfl
  | b :: bs, x, hb, hx, h0 => by
    have hb0 := hb b (by simp)
    have hx0 : 0 < x := by
      rcases Nat.eq_zero_or_pos x with h | h
      · exact absurd (h0 h) (by simp)
      · exact h
    have hp := varVal_pos bs x hx0
    have ih := varNums_val bs x (fun c hc => hb c (by simp [hc])) hx (fun h => by omega)
    unfold varVal
    rw [varNums_big (by omega)]
    have e1 : (b % 128 + 128 * varVal bs x) % 128 + 128 = b := by omega
    have e2 : (b % 128 + 128 * varVal bs x) / 128 = varVal bs x := by omega
    rw [e1, e2, ih]; rfl
theorem varNums_ne (n : Nat) : varNums n ≠ [] := by
  by_cases h : n > 127
  · rw [varNums_big h]; simp
  · rw [varNums_small h]; simp
theorem varNums_last (n : Nat) : ∀ (l : List Int), varNums n = l ++ [0] → l = [] := by
  induction n using Nat.strongRecOn with
  | _ n ih =>
    intro l h
    by_cases hb : n > 127
    · rw [varNums_big hb] at h
      cases l with
      | nil => simp at h; exact absurd h.2 (varNums_ne _)
      | cons c l =>
        simp at h
        have := ih (n / 128) (by omega) l h.2
        subst this
        have h2 := h.2
        by_cases hb2 : n / 128 > 127
        · rw [varNums_big hb2] at h2
          simp at h2
          exact absurd h2.2 (varNums_ne _)
        · rw [varNums_small hb2] at h2
          simp at h2
          omega
    · rw [varNums_small hb] at h
      cases l with
      | nil => rfl
      | cons c l => simp at h
theorem varNums_range (n : Nat) : ∀ b ∈ varNums n, 0 ≤ b ∧ b ≤ 255 := by
  induction n using Nat.strongRecOn with
  | _ n ih =>
    by_cases hb : n > 127
    · rw [varNums_big hb]
      intro b hm
      rcases List.mem_cons.1 hm with h | h
      · subst h; omega
      · exact ih (n / 128) (by omega) b h
    · rw [varNums_small hb]
      intro b hm
      simp at hm; subst hm; omega
theorem bytesOf_vt (n : Nat) : bytesOf (vt n) = varNums n := bytesOf_son _ (varNums_range n)
theorem varVal_snoc : ∀ (bs : List Nat) (b x : Nat), varVal (bs ++ [b]) x = varVal bs (b % 128 + 128 * x)
  | [], b, x => rfl
  | c :: bs, b, x => by simp [varVal, varVal_snoc bs b x]
theorem varVal_add : ∀ (bs : List Nat) (x : Nat), varVal bs x = varVal bs 0 + 128 ^ bs.length * x
  | [], x => by simp [varVal]
  | c :: bs, x => by simp only [varVal, varVal_add bs x, List.length_cons, Nat.pow_succ, Nat.mul_add, Nat.mul_comm, Nat.mul_left_comm]; omega
theorem varVal_lt : ∀ (bs : List Nat), varVal bs 0 < 128 ^ bs.length
  | [] => by simp [varVal]
  | c :: bs => by have := varVal_lt bs; simp only [varVal, List.length_cons, Nat.pow_succ]; omega
/-- What stands in s from place p on, k bytes (all above 127, with the sum n) having been read; l more may be. -/
def rvGo (s : ByteArray) (p : Nat) : Nat → Nat → Nat → Int × Int × Bool
  | 0, _, _ => (0, 0, false)
  | l + 1, k, n => if p + k < s.size then
      (if bt s ((p + k : Nat) : Int) > 127 then rvGo s p l (k + 1) (n + 128 ^ k * ((bt s ((p + k : Nat) : Int)).toNat % 128))
       else if (bt s ((p + k : Nat) : Int) = 0 ∧ k > 0) ∨ n + 128 ^ k * (bt s ((p + k : Nat) : Int)).toNat > 1000000000 then (0, 0, false)
       else (((n + 128 ^ k * (bt s ((p + k : Nat) : Int)).toNat : Nat) : Int), ((p + k + 1 : Nat) : Int), true))
    else (0, 0, false)
def readVar (s : ByteArray) (at_ : Int) : Int × Int × Bool := if 0 ≤ at_ ∧ at_ ≤ s.size then rvGo s at_.toNat 5 0 0 else (0, 0, false)

theorem spec_l01Var_l (d : Nat) : ∀ (n : Nat) (acc : List Int), n < 128 ^ d → n ≤ 9223372036854775807 → acc.length + d < 140737488355328 → Ev (fun k => spec_l01Var.l0 k (n : Int) acc) (strOfNums (acc ++ varNums n)) := by
  induction d with
  | zero =>
    intro n acc h h2 h3
    obtain rfl : n = 0 := by simp at h; omega
    refine Ev.step (fun k => by rw [spec_l01Var.l0]) (evn (by simp) (evp (by omega) (evs ?_)))
    rw [varNums_small (by omega)]; rfl
  | succ d ih =>
    intro n acc h h2 h3
    by_cases hb : n > 127
    · refine Ev.step (fun k => by rw [spec_l01Var.l0]) (evp (by omega) (evp (by omega) ?_))
      have e1 : wrap64 (Int.tdiv (n : Int) 128) = ((n / 128 : Nat) : Int) := by rw [Int.tdiv_eq_ediv_of_nonneg (by omega), w64 (by omega) (by omega)]; rfl
      have e2 : (wrap64 ((Int.tmod (n : Int) 128) + 128)) % 256 = ((n % 128 + 128 : Nat) : Int) := by rw [Int.tmod_eq_emod_of_nonneg (by omega), w64 (by omega) (by omega)]; omega
      rw [e1, e2, varNums_big hb]
      have := ih (n / 128) (acc ++ [((n % 128 + 128 : Nat) : Int)]) (by rw [Nat.pow_succ] at h; omega) (by omega) (by simp; omega)
      rw [List.append_assoc] at this
      exact this
    · refine Ev.step (fun k => by rw [spec_l01Var.l0]) (evn (by omega) (evp (by omega) (evs ?_)))
      rw [varNums_small hb, Int.emod_eq_of_lt (by omega) (by omega)]
theorem spec_l01Var_is (n : Nat) (h : n ≤ 9223372036854775807) : Ev (fun k => spec_l01Var.f k (n : Int)) (vt n) := by
  have := spec_l01Var_l 9 n [] (by omega) h (by simp)
  simpa [spec_l01Var.f, vt] using this

theorem i64_and127 (n : Nat) (h : n ≤ 9223372036854775807) : Go.bits .and .i64 (n : Int) 127 = ((n % 128 : Nat) : Int) := by
  have := (i64_nat n 127 (by omega) (by omega)).1
  rw [nat_mask7] at this
  exact this

theorem shl_i64 (a m : Nat) (hm : m ≤ 64) (h : a * 2 ^ m < 9223372036854775808) : shl .i64 (a : Int) (m : Int) = ((a * 2 ^ m : Nat) : Int) := by
  have e : (((m : Int)).toNat) = m := rfl
  have e2 : min m IntKind.i64.bits = m := Nat.min_eq_left hm
  unfold shl
  rw [e, e2]
  have e3 : (a : Int) * 2 ^ m = ((a * 2 ^ m : Nat) : Int) := by simp
  rw [e3, IntKind.wrap_i64]
  omega
theorem rv_or (n x k : Nat) (hn : n < 128 ^ k) (hx : x < 128) (hk : k < 5) : Go.bits .or .i64 (n : Int) (shl .i64 (x : Int) ((7 * k : Nat) : Int)) = ((n + 128 ^ k * x : Nat) : Int) := by
  have e0 : (2 : Nat) ^ (7 * k) = 128 ^ k := by rw [Nat.pow_mul]
  have hp : 128 ^ k ≤ 128 ^ 4 := Nat.pow_le_pow_right (by omega) (by omega)
  have hmul : x * 128 ^ k ≤ 127 * 128 ^ 4 := Nat.mul_le_mul (by omega) hp
  rw [shl_i64 x (7 * k) (by omega) (by rw [e0]; omega), e0, (i64_nat n (x * 128 ^ k) (by omega) (by omega)).2]
  rw [Nat.or_comm, nat_join (7 * k) (x * 128 ^ k) n (by rw [e0]; exact Nat.mul_mod_left _ _) (by rw [e0]; exact hn), Nat.add_comm, Nat.mul_comm]
theorem impl_ReadVar_l (s : ByteArray) (hs : s.size ≤ 140737488351232) (p : Nat) (hp : p ≤ s.size) (l : Nat) : ∀ (k n : Nat), k + l = 5 → n < 128 ^ k → Ev (fun r => impl_ReadVar.l0 r s (p : Int) (n : Int) (k : Int)) (rvGo s p l k n) := by
  induction l with
  | zero =>
    intro k n hk hn
    refine Ev.step (fun r => by rw [impl_ReadVar.l0]) ?_
    refine evn (by omega) (Ev.step (fun r => by rw [impl_ReadVar.j1]) ?_)
    exact evn (by simp) (evs rfl)
  | succ l ih =>
    intro k n hk hn
    have HN := Aside0.mk hn
    clear hn
    have hk5 : k < 5 := by omega
    have e0 := w64a p k (by omega)
    refine Ev.step (fun r => by rw [impl_ReadVar.l0]) ?_
    refine evp (by omega) (Ev.step (fun r => by rw [impl_ReadVar.j1]) ?_)
    rw [e0]
    unfold rvGo
    by_cases h1 : p + k < s.size
    · rw [if_pos h1]
      refine evp (by rw [decide_eq_true_eq]; omega) (evp (by omega) (evp (by omega) ?_))
      obtain ⟨b, hb, hb2⟩ := bt_nat s ((p + k : Nat) : Int)
      have e1 : wrap64 (7 * (k : Int)) = ((7 * k : Nat) : Int) := w64m 7 k (by omega)
      have e2 := w64n b (by omega)
      have e3 := i64_and127 b (Nat.le_trans (Nat.le_of_lt hb2) (by decide))
      have e4 := Aside0.mk (rv_or n (b % 128) k HN.out (Nat.mod_lt _ (by decide)) hk5)
      have e5 := w64s k (by omega)
      have e6 := w64s (p + k) (by omega)
      have e7 : ((b : Nat) : Int).toNat = b := rfl
      simp only [hb, e1, e2, e3, e4.out, e5, e6, e7]
      clear e0 e1 e2 e3 e4 e5 e6 e7
      generalize hm : 128 ^ k = m at *
      have HM := Aside0.mk hm
      clear hm
      refine evp (by omega) ?_
      by_cases h2 : (b : Int) > 127
      · rw [if_pos h2]
        refine evp h2 (ih (k + 1) _ (by omega) ?_)
        rw [Nat.pow_succ, HM.out]
        have h3 : m * (b % 128) ≤ m * 127 := Nat.mul_le_mul_left _ (by omega)
        have h4 := HN.out
        omega
      · rw [if_neg h2]
        have e8 : b % 128 = b := by omega
        rw [e8]
        refine evn h2 ?_
        by_cases h3 : (b : Int) = 0
        · refine evp h3 ?_
          by_cases h4 : (k : Int) > 0
          · exact evp h4 (evs (by rw [if_pos (.inl ⟨h3, by omega⟩)]))
          · refine evn h4 ?_
            by_cases h5 : ((n + m * b : Nat) : Int) > 1000000000
            · exact evp h5 (evs (by rw [if_pos (.inr (by omega))]))
            · exact evn h5 (evs (by rw [if_neg (by omega)]))
        · refine evn h3 ?_
          by_cases h5 : ((n + m * b : Nat) : Int) > 1000000000
          · exact evp h5 (evs (by rw [if_pos (.inr (by omega))]))
          · exact evn h5 (evs (by rw [if_neg (by omega)]))
    · rw [if_neg h1]
      exact evn (by rw [decide_eq_true_eq]; omega) (Ev.now _)
theorem impl_ReadVar_is (s : ByteArray) (hs : s.size ≤ 140737488351232) (p : Int) : Ev (fun r => impl_ReadVar.f r s p) (readVar s p) := by
  unfold readVar
  refine evb (impl_in_is _ _ _) ?_
  by_cases h : 0 ≤ p ∧ p ≤ s.size
  · rw [if_pos h]
    obtain ⟨q, rfl⟩ := Int.eq_ofNat_of_zero_le h.1
    exact evp (by simpa using h) (impl_ReadVar_l s hs q (by omega) 5 0 0 (by omega) (by omega))
  · rw [if_neg h]
    exact evn (by simpa using h) (Ev.now _)

/-- The bytes of s from p on, as numbers. -/
def btsN (s : ByteArray) (p k : Nat) : List Nat := (List.range k).map fun j => (bt s ((p + j : Nat) : Int)).toNat
theorem btsN_succ (s : ByteArray) (p k : Nat) : btsN s p (k + 1) = btsN s p k ++ [(bt s ((p + k : Nat) : Int)).toNat] := by simp [btsN, List.range_succ]
theorem btsN_len (s : ByteArray) (p k : Nat) : (btsN s p k).length = k := by simp [btsN]
theorem btsN_extract (s : ByteArray) (p k : Nat) (h : p + k ≤ s.size) : (btsN s p k).map (fun b : Nat => (b : Int)) = bytesOf (s.extract p (p + k)) := by
  induction k with
  | zero => rw [bytesOf_extract]; simp [btsN]
  | succ k ih =>
    rw [btsN_succ, List.map_append, ih (by omega), bytesOf_extract, bytesOf_extract]
    have e1 : p + (k + 1) - p = k + 1 := by omega
    have e2 : p + k - p = k := by omega
    rw [e1, e2]
    have hd := bytesOf_drop s (p + k) (by omega)
    have hl : k < ((bytesOf s).drop p).length := by rw [List.length_drop, bytesOf_length]; omega
    rw [List.take_succ_eq_append_getElem hl]
    congr 1
    have hg : ((bytesOf s).drop p)[k] = bt s ((p + k : Nat) : Int) := by
      rw [List.getElem_drop]
      have hl2 : p + k < (bytesOf s).length := by rw [bytesOf_length]; omega
      have := rd_bytesOf s ((p + k : Nat) : Int)
      rw [← this]
      unfold rd
      have e3 : ((p + k : Nat) : Int).toNat = p + k := rfl
      rw [e3]
      simp [List.getD_eq_getElem?_getD, hl2]
    rw [hg]
    have := bt_lo s ((p + k : Nat) : Int)
    simp only [List.map_cons, List.map_nil]
    congr 1
    omega
theorem spec_ReadVar_l (s : ByteArray) (hs : s.size ≤ 140737488351232) (p : Nat) (hp : p ≤ s.size) (l : Nat) : ∀ (k : Nat), k + l = 5 → p + k ≤ s.size → (∀ b ∈ btsN s p k, 127 < b ∧ b < 256) → Ev (fun r => spec_ReadVar.l0 r s (p : Int) ((varVal (btsN s p k) 0 : Nat) : Int) ((128 ^ k : Nat) : Int) ((p + k : Nat) : Int)) (rvGo s p l k (varVal (btsN s p k) 0)) := by
  induction l with
  | zero =>
    intro k hk hpk hb
    have e0 : wrap64 ((p : Int) + 5) = ((p + 5 : Nat) : Int) := w64a p 5 (by omega)
    refine Ev.step (fun r => by rw [spec_ReadVar.l0]) ?_
    rw [e0]
    have hj : Ev (fun r => spec_ReadVar.j1 r s (p : Int) ((varVal (btsN s p k) 0 : Nat) : Int) ((128 ^ k : Nat) : Int) ((p + k : Nat) : Int) false) (rvGo s p 0 k (varVal (btsN s p k) 0)) := by
      refine Ev.step (fun r => by rw [spec_ReadVar.j1]) ?_
      exact evn (by simp) (evs rfl)
    have hd : decide (((p + k : Nat) : Int) < ((p + 5 : Nat) : Int)) = false := by simp; omega
    rw [hd]
    by_cases h1 : ((p + k : Nat) : Int) < (s.size : Int)
    · exact evp h1 hj
    · exact evn h1 hj
  | succ l ih =>
    intro k hk hpk hb
    have e0 : wrap64 ((p : Int) + 5) = ((p + 5 : Nat) : Int) := w64a p 5 (by omega)
    have HV := Aside0.mk (varVal_lt (btsN s p k))
    rw [btsN_len] at HV
    have HP : Aside0 (128 ^ k ≤ 128 ^ 4) := ⟨Nat.pow_le_pow_right (by omega) (by omega)⟩
    have hd : decide (((p + k : Nat) : Int) < ((p + 5 : Nat) : Int)) = true := by rw [decide_eq_true_eq]; omega
    refine Ev.step (fun r => by rw [spec_ReadVar.l0]) ?_
    rw [e0]
    clear e0
    unfold rvGo
    by_cases h1 : p + k < s.size
    · rw [if_pos h1]
      refine evp (by omega) ?_
      rw [hd]
      clear hd
      refine Ev.step (fun r => by rw [spec_ReadVar.j1]) ?_
      refine evp rfl (evp (by omega) (evp (by omega) ?_))
      obtain ⟨b, hbe, hb2⟩ := bt_nat s ((p + k : Nat) : Int)
      have hk4 : k + 1 ≤ 5 := by omega
      have hmul : 128 ^ k * (b % 128) ≤ 128 ^ 4 * 127 := Nat.mul_le_mul HP.out (by omega)
      have hsum : varVal (btsN s p k) 0 + 128 ^ k * (b % 128) ≤ 9223372036854775807 := by
        have h1 := HV.out
        have h2 := HP.out
        generalize 128 ^ k = m at *
        generalize varVal (btsN s p k) 0 = v at *
        clear hbe hb
        omega
      have hmul2 : 128 ^ k * (b % 128) ≤ 9223372036854775807 := Nat.le_trans (Nat.le_add_left _ _) hsum
      have e2 := w64n b (by omega)
      have e3 : Int.tmod (b : Int) 128 = ((b % 128 : Nat) : Int) := by rw [Int.tmod_eq_emod_of_nonneg (Int.natCast_nonneg b)]; rfl
      have e4 : ((b % 128 : Nat) : Int) * ((128 ^ k : Nat) : Int) = ((128 ^ k * (b % 128) : Nat) : Int) := by rw [Nat.mul_comm, Int.natCast_mul]
      have e5 := w64n (128 ^ k * (b % 128)) hmul2
      have e6 := w64a (varVal (btsN s p k) 0) (128 ^ k * (b % 128)) hsum
      have e7 := w64s (p + k) (by clear hmul hsum hmul2 e2 e3 e4 e5 e6; omega)
      have e8 : wrap64 (((128 ^ k : Nat) : Int) * 128) = ((128 ^ (k + 1) : Nat) : Int) := by
        rw [Nat.pow_succ]
        exact w64m (128 ^ k) 128 (Nat.le_trans (Nat.mul_le_mul_right 128 HP.out) (by decide))
      have e9 : ((b : Nat) : Int).toNat = b := rfl
      simp only [hbe, e2, e3, e4, e5, e6, e7, e8, e9]
      have HX : Aside0 (bytesOf (s.extract p (p + k + 1)) = (btsN s p k).map (fun b : Nat => (b : Int)) ++ [(b : Int)]) := ⟨by
        rw [Nat.add_assoc, ← btsN_extract s p (k + 1) (by clear hmul hsum hmul2 e2 e3 e4 e5 e6 e7 e8; omega), btsN_succ, List.map_append, hbe]; rfl⟩
      have HS : Aside0 (btsN s p (k + 1) = btsN s p k ++ [b]) := ⟨by rw [btsN_succ, hbe]; rfl⟩
      have HVal : Aside0 (varVal (btsN s p k) (b % 128) = varVal (btsN s p k) 0 + 128 ^ k * (b % 128)) := ⟨by have := varVal_add (btsN s p k) (b % 128); rw [btsN_len] at this; exact this⟩
      clear hmul hmul2 e2 e3 e4 e5 e6 e7 e8 e9 HV HP hbe
      by_cases h2 : (b : Int) < 128
      · have e10 : b % 128 = b := by clear hsum; omega
        rw [e10] at HVal hsum
        rw [e10, if_neg (by omega)]
        clear e10
        refine evp h2 ?_
        rw [← HVal.out] at hsum ⊢
        obtain ⟨v, hv⟩ : ∃ v, v = varVal (btsN s p k) b := ⟨_, rfl⟩
        rw [← hv] at hsum ⊢
        have HW := Aside0.mk hv
        clear hv
        by_cases h5 : (v : Int) > 1000000000
        · exact evp h5 (evs (by rw [if_pos (.inr (by omega))]))
        · refine evn h5 (Ev.bind (spec_l01Var_is _ hsum) (evp (by omega) (evp (by omega) (evp (by omega) ?_))))
          have e11 : ((p : Int)).toNat = p := rfl
          have e12 : (((p + k + 1 : Nat) : Int)).toNat = p + k + 1 := rfl
          rw [e11, e12]
          by_cases h6 : b = 0 ∧ k > 0
          · refine evn (fun h => ?_) (evs (by rw [if_pos (.inl ⟨by omega, h6.2⟩)]))
            have h := congrArg bytesOf (tl_inj.1 h)
            rw [bytesOf_vt, HX.out, h6.1] at h
            have h := varNums_last _ _ h
            have h := congrArg List.length h
            rw [List.length_map, btsN_len] at h
            simp at h; omega
          · refine evp ?_ (evs (by rw [if_neg (by omega)]))
            apply tl_inj.2
            apply bytesOf_inj
            rw [bytesOf_vt, HX.out, HW.out]
            refine varNums_val _ _ hb (by omega) (fun h => ?_)
            have : k = 0 := by omega
            subst this
            rfl
      · rw [if_pos (by omega)]
        refine evn h2 ?_
        have hv : varVal (btsN s p (k + 1)) 0 = varVal (btsN s p k) 0 + 128 ^ k * (b % 128) := by rw [HS.out, varVal_snoc, Nat.mul_zero, Nat.add_zero, HVal.out]
        have := ih (k + 1) (by omega) (by omega) (by
          intro c hc
          rw [HS.out] at hc
          rcases List.mem_append.1 hc with h | h
          · exact hb c h
          · simp at h; subst h; omega)
        rw [hv] at this
        exact this
    · rw [if_neg h1]
      refine evn (by omega) (Ev.step (fun r => by rw [spec_ReadVar.j1]) ?_)
      exact evn (by simp) (Ev.now _)
theorem spec_ReadVar_is (s : ByteArray) (hs : s.size ≤ 140737488351232) (p : Int) : Ev (fun r => spec_ReadVar.f r s p) (readVar s p) := by
  unfold readVar
  refine evb (spec_l01In_is _ _ _) ?_
  by_cases h : 0 ≤ p ∧ p ≤ s.size
  · rw [if_pos h]
    obtain ⟨q, rfl⟩ := Int.eq_ofNat_of_zero_le h.1
    have := spec_ReadVar_l s hs q (by omega) 5 0 (by omega) (by omega) (by simp [btsN])
    exact evp (by simpa using h) this
  · rw [if_neg h]
    exact evn (by simpa using h) (Ev.now _)

def roleB (w n : Int) : Bool := decide (0 ≤ w ∧ w ≤ 5) && decide (0 ≤ n ∧ n ≤ 3)
theorem spec_RoleOk_is (w n : Int) : spec_RoleOk.f w n = some (roleB w n) := by
  simp only [spec_RoleOk.f, spec_l01In_is, Option.bind_some, roleB]
  cases decide (0 ≤ w ∧ w ≤ 5) <;> rfl
theorem impl_RoleOk_is (w n : Int) : impl_RoleOk.f w n = some (roleB w n) := by
  simp only [impl_RoleOk.f, impl_in_is, Option.bind_some, roleB]
  cases decide (0 ≤ w ∧ w ≤ 5) <;> rfl

def credB (k o n w aw an bw bn u z : Int) : Bool :=
  roleB o n && decide (1 ≤ u ∧ u ≤ 9999) && decide (0 ≤ z ∧ z ≤ 99) &&
    (if k = 1 then decide (0 ≤ w ∧ w ≤ 5) && (aw == 0 && an == 0) && (bw == 0 && bn == 0)
     else if k = 2 then decide (w = 0) && roleB aw an && (bw == 0 && bn == 0)
     else if k = 3 then decide (w = 0) && roleB aw an && roleB bw bn && (bw == 0)
     else if k = 4 then decide (w = 0) && roleB aw an && roleB bw bn
     else false)
theorem ifb {α : Type} {b : Bool} {x y : α} : (if b = true then x else y) = (match b with | true => x | false => y) := by cases b <;> rfl
theorem spec_CredOk_is (m : Nat) (k o n w aw an bw bn u z : Int) : spec_CredOk.f (m + 1) k o n w aw an bw bn u z = some (credB k o n w aw an bw bn u z) := by
  simp only [spec_CredOk.f, spec_CredOk.j0, spec_RoleOk_is, spec_l01In_is, Option.bind_some, credB]
  cases roleB o n
  · rfl
  cases decide (1 ≤ u ∧ u ≤ 9999)
  · rfl
  cases decide (0 ≤ z ∧ z ≤ 99)
  · rfl
  simp only [if_true, Bool.not_true, Bool.true_and]
  rw [if_neg (by decide)]
  by_cases h1 : k = 1
  · rw [if_pos h1, if_pos h1]
    cases decide (0 ≤ w ∧ w ≤ 5)
    · rfl
    cases (aw == 0 && an == 0)
    · rfl
    rfl
  rw [if_neg h1, if_neg h1]
  by_cases h2 : k = 2
  · rw [if_pos h2, if_pos h2]
    by_cases h : w = 0
    · rw [if_pos h, decide_eq_true h]
      cases roleB aw an <;> rfl
    · rw [if_neg h, decide_eq_false h]; rfl
  rw [if_neg h2, if_neg h2]
  by_cases h3 : k = 3
  · rw [if_pos h3, if_pos h3]
    by_cases h : w = 0
    · rw [if_pos h, decide_eq_true h]
      cases roleB aw an
      · rfl
      cases roleB bw bn <;> rfl
    · rw [if_neg h, decide_eq_false h]; rfl
  rw [if_neg h3, if_neg h3]
  by_cases h4 : k = 4
  · rw [if_pos h4, if_pos h4]
    by_cases h : w = 0
    · rw [if_pos h, decide_eq_true h]
      cases roleB aw an <;> rfl
    · rw [if_neg h, decide_eq_false h]; rfl
  rw [if_neg h4, if_neg h4]
theorem impl_RoleOk_eq : impl_RoleOk.f = spec_RoleOk.f := by funext a b; rw [spec_RoleOk_is, impl_RoleOk_is]
theorem impl_isPerson_is (w : Int) : impl_isPerson.f w = some (decide (0 ≤ w ∧ w ≤ 5)) := by unfold impl_isPerson.f; rw [impl_in_is]; rfl
theorem impl_CredOk_eq (m : Nat) (k o n w aw an bw bn u z : Int) : impl_CredOk.f (m + 1) k o n w aw an bw bn u z = spec_CredOk.f (m + 1) k o n w aw an bw bn u z := by
  simp only [impl_CredOk.f, impl_CredOk.j0, spec_CredOk.f, spec_CredOk.j0, impl_RoleOk_eq, impl_isPerson_is, impl_in_is, spec_l01In_is]
theorem impl_CredOk_is (m : Nat) (k o n w aw an bw bn u z : Int) : impl_CredOk.f (m + 1) k o n w aw an bw bn u z = some (credB k o n w aw an bw bn u z) := (impl_CredOk_eq m k o n w aw an bw bn u z).trans (spec_CredOk_is m k o n w aw an bw bn u z)

theorem vt_size (n : Nat) (h : n < 128 ^ 9) : (vt n).size ≤ 9 := by unfold vt; rw [strOfNums_size]; exact varNums_len 9 n h (by omega)
def small (n : Int) : Prop := 0 ≤ n ∧ n ≤ 9999
theorem vt_small {n : Int} (h : small n) : (vt n.toNat).size ≤ 9 := vt_size _ (by unfold small at h; omega)
theorem spec_Var_small {n : Int} (h : small n) : Ev (fun k => spec_l01Var.f k n) (vt n.toNat) := by
  have := spec_l01Var_is n.toNat (by unfold small at h; omega)
  rwa [Int.toNat_of_nonneg h.1] at this
theorem credB_small {k o n w aw an bw bn u z : Int} (h : credB k o n w aw an bw bn u z = true) : small k ∧ small o ∧ small n ∧ small w ∧ small aw ∧ small an ∧ small bw ∧ small bn ∧ small u ∧ small z := by
  simp only [credB, roleB, Bool.and_eq_true, decide_eq_true_eq] at h
  obtain ⟨⟨⟨⟨ho, hn⟩, hu⟩, hz⟩, hr⟩ := h
  unfold small
  split at hr
  · simp only [Bool.and_eq_true, decide_eq_true_eq, beq_iff_eq] at hr; omega
  · split at hr
    · simp only [Bool.and_eq_true, decide_eq_true_eq, beq_iff_eq] at hr; omega
    · split at hr
      · simp only [Bool.and_eq_true, decide_eq_true_eq, beq_iff_eq] at hr; omega
      · split at hr
        · simp only [Bool.and_eq_true, decide_eq_true_eq] at hr; omega
        · simp at hr
def credT (k o n w aw an bw bn u z : Int) : ByteArray :=
  if credB k o n w aw an bw bn u z = true then vt k.toNat ++ vt o.toNat ++ vt n.toNat ++ vt w.toNat ++ vt aw.toNat ++ vt an.toNat ++ vt bw.toNat ++ vt bn.toNat ++ vt u.toNat ++ vt z.toNat else ⟨#[]⟩
def joinVt (acc : ByteArray) (l : List Int) : ByteArray := l.foldl (fun t n => t ++ vt n.toNat) acc

theorem spec_CredText_is (k o n w aw an bw bn u z : Int) : Ev (fun m => spec_CredText.f m k o n w aw an bw bn u z) (credT k o n w aw an bw bn u z) := by
  unfold spec_CredText.f credT
  refine Ev.bind (evo fun m => spec_CredOk_is m k o n w aw an bw bn u z) ?_
  by_cases h : credB k o n w aw an bw bn u z = true
  · obtain ⟨h0, h1, h2, h3, h4, h5, h6, h7, h8, h9⟩ := credB_small h
    have s0 := vt_small h0
    have s1 := vt_small h1
    have s2 := vt_small h2
    have s3 := vt_small h3
    have s4 := vt_small h4
    have s5 := vt_small h5
    have s6 := vt_small h6
    have s7 := vt_small h7
    have s8 := vt_small h8
    have s9 := vt_small h9
    rw [if_pos h]
    refine evp h ?_
    refine Ev.bind (spec_Var_small h0) (Ev.bind (spec_Var_small h1) (evp (by omega) ?_))
    refine Ev.bind (spec_Var_small h2) (evp (by simp only [ByteArray.size_append]; omega) ?_)
    refine Ev.bind (spec_Var_small h3) (evp (by simp only [ByteArray.size_append]; omega) ?_)
    refine Ev.bind (spec_Var_small h4) (evp (by simp only [ByteArray.size_append]; omega) ?_)
    refine Ev.bind (spec_Var_small h5) (evp (by simp only [ByteArray.size_append]; omega) ?_)
    refine Ev.bind (spec_Var_small h6) (evp (by simp only [ByteArray.size_append]; omega) ?_)
    refine Ev.bind (spec_Var_small h7) (evp (by simp only [ByteArray.size_append]; omega) ?_)
    refine Ev.bind (spec_Var_small h8) (evp (by simp only [ByteArray.size_append]; omega) ?_)
    refine Ev.bind (spec_Var_small h9) (evp (by simp only [ByteArray.size_append]; omega) (evs rfl))
  · rw [if_neg h]
    exact evn h (evs rfl)

theorem rvGo_text (s : ByteArray) (p : Nat) (l : Nat) : ∀ (k : Nat), p + k ≤ s.size → (∀ b ∈ btsN s p k, 127 < b ∧ b < 256) → ∀ (v nx : Int), rvGo s p l k (varVal (btsN s p k) 0) = (v, nx, true) →
    ∃ n m : Nat, v = (n : Int) ∧ nx = (m : Int) ∧ p ≤ m ∧ m ≤ s.size ∧ n ≤ 1000000000 ∧ s.extract p m = vt n := by
  induction l with
  | zero => intro k _ _ v nx h; simp [rvGo] at h
  | succ l ih =>
    intro k hpk hb v nx h
    unfold rvGo at h
    by_cases h1 : p + k < s.size
    · rw [if_pos h1] at h
      obtain ⟨b, hbe, hb2⟩ := bt_nat s ((p + k : Nat) : Int)
      have HX : bytesOf (s.extract p (p + k + 1)) = (btsN s p k).map (fun b : Nat => (b : Int)) ++ [(b : Int)] := by
        rw [Nat.add_assoc, ← btsN_extract s p (k + 1) (by omega), btsN_succ, List.map_append, hbe]; rfl
      have HS : btsN s p (k + 1) = btsN s p k ++ [b] := by rw [btsN_succ, hbe]; rfl
      rw [hbe] at h
      by_cases h2 : (b : Int) > 127
      · rw [if_pos h2] at h
        have hv : varVal (btsN s p (k + 1)) 0 = varVal (btsN s p k) 0 + 128 ^ k * (b % 128) := by
          have := varVal_add (btsN s p k) (b % 128)
          rw [btsN_len] at this
          rw [HS, varVal_snoc, Nat.mul_zero, Nat.add_zero, this]
        have e9 : ((b : Nat) : Int).toNat = b := rfl
        rw [e9, ← hv] at h
        exact ih (k + 1) (by omega) (by
          intro c hc
          rw [HS] at hc
          rcases List.mem_append.1 hc with h | h
          · exact hb c h
          · simp at h; subst h; omega) v nx h
      · rw [if_neg h2] at h
        have e9 : ((b : Nat) : Int).toNat = b := rfl
        rw [e9] at h
        have hval : varVal (btsN s p k) b = varVal (btsN s p k) 0 + 128 ^ k * b := by
          have := varVal_add (btsN s p k) b
          rw [btsN_len] at this
          exact this
        rw [← hval] at h
        by_cases h3 : ((b : Int) = 0 ∧ k > 0) ∨ varVal (btsN s p k) b > 1000000000
        · rw [if_pos h3] at h; simp at h
        · rw [if_neg h3] at h
          simp only [Prod.mk.injEq, and_true] at h
          refine ⟨varVal (btsN s p k) b, p + k + 1, h.1.symm, h.2.symm, by omega, by omega, by omega, ?_⟩
          apply bytesOf_inj
          rw [bytesOf_vt, HX]
          symm
          refine varNums_val _ _ hb (by omega) (fun h => ?_)
          have : k = 0 := by
            rcases Nat.eq_zero_or_pos k with h0 | h0
            · exact h0
            · exact absurd (Or.inl ⟨by omega, h0⟩) h3
          subst this
          rfl
    · rw [if_neg h1] at h; simp at h
theorem readVar_text (s : ByteArray) (p : Nat) (v nx : Int) (h : readVar s (p : Int) = (v, nx, true)) : ∃ n m : Nat, v = (n : Int) ∧ nx = (m : Int) ∧ p ≤ m ∧ m ≤ s.size ∧ n ≤ 1000000000 ∧ s.extract p m = vt n := by
  unfold readVar at h
  by_cases c : 0 ≤ (p : Int) ∧ (p : Int) ≤ s.size
  · rw [if_pos c] at h
    exact rvGo_text s p 5 0 (by omega) (by simp [btsN]) v nx h
  · rw [if_neg c] at h; simp at h

abbrev T11 := Int × Int × Int × Int × Int × Int × Int × Int × Int × Int × Bool
def zero11 : T11 := (0, 0, 0, 0, 0, 0, 0, 0, 0, 0, false)
def tup (l : List Int) : T11 := (rd l 0, rd l 1, rd l 2, rd l 3, rd l 4, rd l 5, rd l 6, rd l 7, rd l 8, rd l 9, true)
def lOk (l : List Int) : Bool := credB (rd l 0) (rd l 1) (rd l 2) (rd l 3) (rd l 4) (rd l 5) (rd l 6) (rd l 7) (rd l 8) (rd l 9)
def rdN (s : ByteArray) : Nat → Int → List Int → Option (List Int × Int)
  | 0, a, acc => some (acc, a)
  | d + 1, a, acc => if (readVar s a).2.2 = true then rdN s d (readVar s a).2.1 (acc ++ [(readVar s a).1]) else none
theorem extract_join (s : ByteArray) (a b : Nat) (h : a ≤ b) : s.extract 0 a ++ s.extract a b = s.extract 0 b := by
  apply bytesOf_inj
  rw [bytesOf_append, bytesOf_extract, bytesOf_extract, bytesOf_extract, List.drop_zero, Nat.sub_zero, Nat.sub_zero]
  have : b = a + (b - a) := by omega
  conv => rhs; rw [this, List.take_add]
theorem rdN_text (s : ByteArray) : ∀ (d : Nat) (a : Nat) (acc l : List Int) (e : Int), rdN s d (a : Int) acc = some (l, e) → a ≤ s.size → s.extract 0 a = joinVt ⟨#[]⟩ acc → ∃ m : Nat, e = (m : Int) ∧ m ≤ s.size ∧ s.extract 0 m = joinVt ⟨#[]⟩ l ∧ l.length = acc.length + d := by
  intro d
  induction d with
  | zero =>
    intro a acc l e h ha hs
    simp only [rdN, Option.some.injEq, Prod.mk.injEq] at h
    obtain ⟨rfl, rfl⟩ := h
    exact ⟨a, rfl, ha, hs, rfl⟩
  | succ d ih =>
    intro a acc l e h ha hs
    simp only [rdN] at h
    by_cases c : (readVar s (a : Int)).2.2 = true
    · rw [if_pos c] at h
      obtain ⟨n, m, h1, h2, h3, h4, _, h5⟩ := readVar_text s a (readVar s (a : Int)).1 (readVar s (a : Int)).2.1 (by rw [← c])
      rw [h1, h2] at h
      obtain ⟨m', k1, k2, k3, k4⟩ := ih m (acc ++ [(n : Int)]) l e h h4 (by
        unfold joinVt
        rw [List.foldl_append]
        show _ = joinVt ⟨#[]⟩ acc ++ vt n
        rw [← hs, ← h5, extract_join s a m h3])
      refine ⟨m', k1, k2, k3, ?_⟩
      rw [k4, List.length_append]
      simp; omega
    · rw [if_neg c] at h; simp at h
theorem list10 {l : List Int} (h : l.length = 10) : ∃ a b c d e f g i j k, l = [a, b, c, d, e, f, g, i, j, k] := by
  match l, h with
  | [a, b, c, d, e, f, g, i, j, k], _ => exact ⟨a, b, c, d, e, f, g, i, j, k, rfl⟩
def readCred (s : ByteArray) : T11 :=
  match rdN s 10 0 [] with
  | none => zero11
  | some (l, e) => if lOk l = true ∧ e = (s.size : Int) then tup l else zero11
theorem credT_join (l : List Int) (h : l.length = 10) (hc : lOk l = true) : credT (rd l 0) (rd l 1) (rd l 2) (rd l 3) (rd l 4) (rd l 5) (rd l 6) (rd l 7) (rd l 8) (rd l 9) = joinVt ⟨#[]⟩ l := by
  unfold credT
  rw [if_pos (show credB (rd l 0) (rd l 1) (rd l 2) (rd l 3) (rd l 4) (rd l 5) (rd l 6) (rd l 7) (rd l 8) (rd l 9) = true from hc)]
  obtain ⟨a, b, c, d, e, f, g, i, j, k, rfl⟩ := list10 h
  simp only [joinVt, List.foldl_cons, List.foldl_nil]
  rw [show (⟨#[]⟩ : ByteArray) ++ vt a.toNat = vt a.toNat from ByteArray.empty_append]
  rfl
theorem extract_all (s : ByteArray) (m : Nat) (hm : m ≤ s.size) : s.extract 0 m = s ↔ m = s.size := by
  constructor
  · intro h
    have := congrArg ByteArray.size h
    rw [ByteArray.size_extract] at this
    omega
  · intro h
    subst h
    apply bytesOf_inj
    rw [bytesOf_extract, List.drop_zero, Nat.sub_zero, List.take_of_length_le (by rw [bytesOf_length]; exact Nat.le_refl _)]
theorem spec_ReadCred_l (s : ByteArray) (hs : s.size ≤ 140737488351232) : ∀ (d i : Nat) (a : Int) (acc : List Int), i + d = 10 → acc.length = i → (∀ l e, rdN s d a acc = some (l, e) → ∃ m : Nat, e = (m : Int) ∧ m ≤ s.size ∧ s.extract 0 m = joinVt ⟨#[]⟩ l) →
    Ev (fun k => spec_ReadCred.l0 k s acc a (i : Int)) (match rdN s d a acc with | none => zero11 | some (l, e) => if lOk l = true ∧ e = (s.size : Int) then tup l else zero11) := by
  intro d
  induction d with
  | zero =>
    intro i a acc h1 h2 h3
    obtain ⟨m, k1, k2, k3⟩ := h3 acc a rfl
    simp only [rdN]
    refine Ev.step (fun k => by rw [spec_ReadCred.l0]) (evn (by omega) ?_)
    refine evp (by omega) (evp (by omega) (evp (by omega) (evp (by omega) (evp (by omega) (evp (by omega) (evp (by omega) (evp (by omega) (evp (by omega) (evp (by omega) ?_)))))))))
    refine Ev.bind (evo fun q => spec_CredOk_is q _ _ _ _ _ _ _ _ _ _) ?_
    by_cases c : lOk acc = true
    · refine evp c (Ev.bind (spec_CredText_is _ _ _ _ _ _ _ _ _ _) ?_)
      rw [credT_join acc (by omega) c, ← k3]
      by_cases ce : m = s.size
      · rw [show (if lOk acc = true ∧ a = (s.size : Int) then tup acc else zero11) = tup acc from if_pos ⟨c, by omega⟩]
        exact evp (by rw [(extract_all s m k2).2 ce]) (evs rfl)
      · rw [show (if lOk acc = true ∧ a = (s.size : Int) then tup acc else zero11) = zero11 from if_neg (fun h => ce (by omega))]
        exact evn (fun h => ce ((extract_all s m k2).1 (tl_inj.1 h))) (evs rfl)
    · rw [show (if lOk acc = true ∧ a = (s.size : Int) then tup acc else zero11) = zero11 from if_neg (fun h => c h.1)]
      exact evn c (evs rfl)
  | succ d ih =>
    intro i a acc h1 h2 h3
    refine Ev.step (fun k => by rw [spec_ReadCred.l0]) (evp (by omega) (Ev.bind (spec_ReadVar_is s hs a) ?_))
    by_cases c : (readVar s a).2.2 = true
    · have hr : rdN s (d + 1) a acc = rdN s d (readVar s a).2.1 (acc ++ [(readVar s a).1]) := if_pos c
      rw [hr] at h3 ⊢
      refine evp c (evp (by omega) ?_)
      rw [w64s i (by omega)]
      exact ih (i + 1) _ _ (by omega) (by rw [List.length_append, h2]; rfl) h3
    · have hr : rdN s (d + 1) a acc = none := if_neg c
      rw [hr]
      exact evn c (evs rfl)
theorem rdN_good (s : ByteArray) (l : List Int) (e : Int) (h : rdN s 10 0 [] = some (l, e)) : ∃ m : Nat, e = (m : Int) ∧ m ≤ s.size ∧ s.extract 0 m = joinVt ⟨#[]⟩ l := by
  obtain ⟨m, k1, k2, k3, _⟩ := rdN_text s 10 0 [] l e h (Nat.zero_le _) (by
    apply bytesOf_inj
    rw [bytesOf_extract]
    rfl)
  exact ⟨m, k1, k2, k3⟩
theorem spec_ReadCred_is (s : ByteArray) (hs : s.size ≤ 140737488351232) : Ev (fun k => spec_ReadCred.f k s) (readCred s) := spec_ReadCred_l s hs 10 0 0 [] rfl rfl (fun l e h => rdN_good s l e h)
theorem impl_readVars_l (s : ByteArray) (hs : s.size ≤ 140737488351232) : ∀ (d i : Nat) (a : Int) (acc : List Int), i + d = 10 → acc.length = i →
    Ev (fun k => impl_readVars.l0 k s a acc 10 (i : Int)) (match rdN s d a acc with | none => (([] : List Int), (0 : Int), false) | some (l, e) => (l, e, true)) := by
  intro d
  induction d with
  | zero =>
    intro i a acc h1 h2
    refine Ev.step (fun k => by rw [impl_readVars.l0]) ?_
    exact evn (by omega) (evs rfl)
  | succ d ih =>
    intro i a acc h1 h2
    refine Ev.step (fun k => by rw [impl_readVars.l0]) (evp (by omega) (Ev.bind (impl_ReadVar_is s hs a) ?_))
    by_cases c : (readVar s a).2.2 = true
    · have hr : rdN s (d + 1) a acc = rdN s d (readVar s a).2.1 (acc ++ [(readVar s a).1]) := if_pos c
      rw [hr]
      refine evp c (evp (by omega) ?_)
      rw [w64s i (by omega)]
      exact ih (i + 1) _ _ (by omega) (by rw [List.length_append, h2]; rfl)
    · have hr : rdN s (d + 1) a acc = none := if_neg c
      rw [hr]
      exact evn c (evs rfl)
theorem impl_ReadCred_is (s : ByteArray) (hs : s.size ≤ 140737488351232) : Ev (fun k => impl_ReadCred.f k s) (readCred s) := by
  unfold impl_ReadCred.f readCred
  refine Ev.bind (impl_readVars_l s hs 10 0 0 [] rfl rfl) ?_
  cases h : rdN s 10 0 [] with
  | none =>
    refine evn (by simp) (Ev.step (fun k => by rw [impl_ReadCred.j0]) ?_)
    exact evp rfl (evs rfl)
  | some p =>
    obtain ⟨l, e⟩ := p
    obtain ⟨_, _, _, _, hl⟩ := rdN_text s 10 0 [] l e h (Nat.zero_le _) (by apply bytesOf_inj; rw [bytesOf_extract]; rfl)
    have hl10 : l.length = 10 := by simpa using hl
    refine evp rfl ?_
    dsimp only
    refine Ev.step (fun k => by rw [impl_ReadCred.j0]) ?_
    by_cases ce : e = (s.size : Int)
    · refine evn (by simp [ce]) ?_
      refine evp (by omega) (evp (by omega) (evp (by omega) (evp (by omega) (evp (by omega) (evp (by omega) (evp (by omega) (evp (by omega) (evp (by omega) (evp (by omega) ?_)))))))))
      refine Ev.bind (evo fun q => impl_CredOk_is q _ _ _ _ _ _ _ _ _ _) ?_
      by_cases c : lOk l = true
      · exact evp c (evs (show tup l = _ from (if_pos ⟨c, ce⟩).symm))
      · exact evn c (evs (show zero11 = _ from (if_neg (fun h => c h.1)).symm))
    · refine evp (by simpa using ce) (evs (show zero11 = _ from (if_neg (fun h => ce h.2)).symm))
theorem FnExactReadCred : laws_FnExactReadCred.Pure := by
  intro s hs
  refine Ev.rounds (g := fun k => laws_FnExactReadCred.f k s) ?_
  simp only [laws_FnExactReadCred.f]
  by_cases h0 : (s.size : Int) > 1048576
  · exact evp h0 (Ev.now _)
  refine evn h0 (Ev.bind (spec_ReadCred_is s hs) (Ev.bind (impl_ReadCred_is s hs) ?_))
  simp only [laws_eqCred.f, laws_eqRole.f, if_true, Option.bind_some]
  exact evn (by simp) (Ev.now _)

end Go.Proofs.Ytjggamnikgoimaa.Pure
