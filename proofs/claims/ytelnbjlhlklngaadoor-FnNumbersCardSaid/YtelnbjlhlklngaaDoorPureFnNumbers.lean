/-
The law FnNumbers of the given program answers true at every input: the plain statement that is left when the printed walk has stepped through the code.
Conditions: the bounds of the given row (sizes of texts and lists, numbers of their kinds); none of our own.
-/
import Derived.Test.YtelnbjlhlklngaaDoorPFnNumbersx4
import Derived.Laws.BitsAllLaws
namespace Go.Proofs.YtelnbjlhlklngaaDoor.Pure
open Go.RowKit Go.Proofs.YtelnbjlhlklngaaDoor.PFnNumbers Go.Proofs.YtelnbjlhlklngaaDoorW.PrintWords Go.Proofs.YtelnbjlhlklngaaDoorW.PrintLast Go.Proofs.YtelnbjlhlklngaaDoorW.PrintMore
set_option linter.unusedVariables false

theorem evp {α : Type} {c : Prop} [Decidable c] {f g : Nat → Option α} {r : α} (hc : c) (h : Ev f r) : Ev (fun k => if c then f k else g k) r := Ev.congr (fun _ => if_pos hc) h
theorem evn {α : Type} {c : Prop} [Decidable c] {f g : Nat → Option α} {r : α} (hc : ¬ c) (h : Ev g r) : Ev (fun k => if c then f k else g k) r := Ev.congr (fun _ => if_neg hc) h
theorem evs {α : Type} {x y : α} (h : x = y) : Ev (fun _ => some x) y := by subst h; exact Ev.now _
theorem evc {α : Type} {x : Option α} {y : α} (h : x = some y) : Ev (fun _ => x) y := by subst h; exact Ev.now _
theorem w64 {n : Int} (h1 : -9223372036854775808 ≤ n) (h2 : n ≤ 9223372036854775807) : wrap64 n = n := IntWalk.wrap64_in n ⟨h1, h2⟩
theorem w64n (n : Nat) (h : n ≤ 9223372036854775807) : wrap64 (n : Int) = (n : Int) := w64 (by omega) (by omega)
theorem w64s (n : Nat) (h : n + 1 ≤ 9223372036854775807) : wrap64 ((n : Int) + 1) = ((n + 1 : Nat) : Int) := by rw [w64 (by omega) (by omega)]; rfl
theorem w64a (a b : Nat) (h : a + b ≤ 9223372036854775807) : wrap64 ((a : Int) + (b : Int)) = ((a + b : Nat) : Int) := by rw [w64 (by omega) (by omega)]; rfl
theorem w64m (a b : Nat) (h : a * b ≤ 9223372036854775807) : wrap64 ((a : Int) * (b : Int)) = ((a * b : Nat) : Int) := by
  have e : ((a * b : Nat) : Int) = (a : Int) * (b : Int) := Int.natCast_mul a b
  rw [w64 (by omega) (by omega), e]
theorem wf64 {n : Int} (h : (Lit.int .i64 n).wf = true) : -9223372036854775808 ≤ n ∧ n ≤ 9223372036854775807 := by
  simp [Lit.wf, IntKind.min, IntKind.max, IntKind.bits, IntKind.signed] at h
  omega
theorem bt_lo (s : ByteArray) (i : Int) : 0 ≤ bt s i := (bt_range s i).1
theorem bt_hi (s : ByteArray) (i : Int) : bt s i ≤ 255 := (bt_range s i).2
theorem wfu32 {n : Int} (h : (Lit.int .u32 n).wf = true) : 0 ≤ n ∧ n < 4294967296 := by
  simp [Lit.wf, IntKind.min, IntKind.max, IntKind.bits, IntKind.signed] at h
  omega
theorem evb {α β : Type} {x : Option α} {f : Nat → α → Option β} {a : α} {r : β} (h : x = some a) (k : Ev (fun n => f n a) r) : Ev (fun n => x.bind (f n)) r := Ev.bind (g := fun _ => x) (evc h) k
theorem i64_nat (a b : Nat) (ha : a < 9223372036854775808) (hb : b < 9223372036854775808) : Go.bits .and .i64 (a : Int) (b : Int) = ((a &&& b : Nat) : Int) ∧ Go.bits .or .i64 (a : Int) (b : Int) = ((a ||| b : Nat) : Int) :=
  bits_nat .i64 63 (by decide) (fun m h0 h1 => by rw [IntKind.wrap_i64]; omega) a b ha hb

theorem tl_inj {a b : ByteArray} : a.toList = b.toList ↔ a = b := by
  rw [ByteArray.toList_eq, ByteArray.toList_eq]
  exact ⟨fun h => ByteArray.ext (Array.toList_inj.mp h), fun h => by rw [h]⟩
theorem son_bytesOf (s : ByteArray) : strOfNums (bytesOf s) = s := by
  apply tl_inj.1
  rw [ByteArray.toList_eq, ByteArray.toList_eq, strOfNums_data, bytesOf, List.map_map]
  have : ((fun n : Int => UInt8.ofNat n.toNat) ∘ fun b : UInt8 => (b.toNat : Int)) = id := by
    funext b; simp
  rw [this, List.map_id]
theorem bytesOf_son (l : List Int) (h : ∀ b ∈ l, 0 ≤ b ∧ b ≤ 255) : bytesOf (strOfNums l) = l := by
  rw [bytesOf, strOfNums_data, List.map_map]
  have : l.map ((fun b : UInt8 => (b.toNat : Int)) ∘ fun n : Int => UInt8.ofNat n.toNat) = l.map id := by
    apply List.map_congr_left
    intro b hb
    have := h b hb
    simp only [Function.comp, id, UInt8.toNat_ofNat']
    omega
  rw [this, List.map_id]
theorem bytesOf_inj {a b : ByteArray} (h : bytesOf a = bytesOf b) : a = b := by rw [← son_bytesOf a, ← son_bytesOf b, h]
theorem bytesOf_extract (s : ByteArray) (a b : Nat) : bytesOf (s.extract a b) = ((bytesOf s).drop a).take (b - a) := by
  unfold bytesOf
  rw [ByteArray.data_extract]
  simp [List.map_take, List.map_drop, List.extract]
theorem bytesOf_append (a b : ByteArray) : bytesOf (a ++ b) = bytesOf a ++ bytesOf b := by
  unfold bytesOf
  rw [ByteArray.data_append]
  simp
theorem bytesOf_range (s : ByteArray) : ∀ b ∈ bytesOf s, 0 ≤ b ∧ b ≤ 255 := by
  intro b hb
  unfold bytesOf at hb
  obtain ⟨c, _, rfl⟩ := List.mem_map.1 hb
  have := c.toNat_lt
  omega
theorem bytesOf_drop (s : ByteArray) (i : Nat) (h : i < s.size) : (bytesOf s).drop i = bt s (i : Int) :: (bytesOf s).drop (i + 1) := by
  have hl : i < (bytesOf s).length := by rw [bytesOf_length]; exact h
  rw [List.drop_eq_getElem_cons hl]
  congr 1
  have := rd_bytesOf s (i : Int)
  rw [← this]
  unfold rd
  simp [List.getD_eq_getElem?_getD, hl]
theorem bt_nat (s : ByteArray) (i : Int) : ∃ n : Nat, bt s i = (n : Int) ∧ n < 256 := by
  have h := bt_range s i
  exact ⟨(bt s i).toNat, by omega, by omega⟩

def varNums (n : Nat) : List Int := if n > 127 then ((n % 128 + 128 : Nat) : Int) :: varNums (n / 128) else [(n : Int)]
termination_by n
decreasing_by omega
theorem varNums_small {n : Nat} (h : ¬ n > 127) : varNums n = [(n : Int)] := by rw [varNums, if_neg h]
theorem varNums_big {n : Nat} (h : n > 127) : varNums n = ((n % 128 + 128 : Nat) : Int) :: varNums (n / 128) := by rw [varNums, if_pos h]
theorem varNums_len (d : Nat) : ∀ n : Nat, n < 128 ^ d → 0 < d → (varNums n).length ≤ d := by
  induction d with
  | zero => intro n h h0; omega
  | succ d ih =>
    intro n h _
    by_cases hb : n > 127
    · rw [varNums_big hb]
      have hd : 0 < d := by
        rcases Nat.eq_zero_or_pos d with h0 | h0
        · subst h0; simp at h; omega
        · exact h0
      have := ih (n / 128) (by rw [Nat.pow_succ] at h; omega) hd
      simp; omega
    · rw [varNums_small hb]; simp
def vt (n : Nat) : ByteArray := strOfNums (varNums n)

theorem i64_and127 (n : Nat) (h : n ≤ 9223372036854775807) : Go.bits .and .i64 (n : Int) 127 = ((n % 128 : Nat) : Int) := by
  have := (i64_nat n 127 (by omega) (by omega)).1
  rw [nat_mask7] at this
  exact this

theorem i64_or128 (x : Nat) (h : x < 128) : Go.bits .or .i64 (x : Int) 128 = ((x + 128 : Nat) : Int) := by
  have := (i64_nat x 128 (by omega) (by omega)).2
  rw [Nat.or_comm, nat_join 7 128 x (by decide) (by omega), Nat.add_comm] at this
  exact this
theorem impl_varText_l (d : Nat) : ∀ (n : Nat) (acc : List Int), n < 128 ^ d → n ≤ 9223372036854775807 → acc.length + d < 140737488355328 → Ev (fun k => impl_varText.l0 k (n : Int) acc) (strOfNums (acc ++ varNums n)) := by
  induction d with
  | zero =>
    intro n acc h h2 h3
    obtain rfl : n = 0 := by simp at h; omega
    refine Ev.step (fun k => by rw [impl_varText.l0]) (evn (by simp) (evp (by omega) (evs ?_)))
    rw [varNums_small (by omega)]; rfl
  | succ d ih =>
    intro n acc h h2 h3
    by_cases hb : n > 127
    · refine Ev.step (fun k => by rw [impl_varText.l0]) (evp (by omega) (evp (by omega) ?_))
      have e1 : (n : Int) / 128 = ((n / 128 : Nat) : Int) := rfl
      have e2 : (Go.bits .or .i64 (Go.bits .and .i64 (n : Int) 127) 128) % 256 = ((n % 128 + 128 : Nat) : Int) := by rw [i64_and127 n h2, i64_or128 _ (by omega)]; omega
      rw [e1, e2, varNums_big hb]
      have := ih (n / 128) (acc ++ [((n % 128 + 128 : Nat) : Int)]) (by rw [Nat.pow_succ] at h; omega) (by omega) (by simp; omega)
      rw [List.append_assoc] at this
      exact this
    · refine Ev.step (fun k => by rw [impl_varText.l0]) (evn (by omega) (evp (by omega) (evs ?_)))
      rw [varNums_small hb, Int.emod_eq_of_lt (by omega) (by omega)]
theorem impl_varText_is (n : Nat) (h : n ≤ 9223372036854775807) : Ev (fun k => impl_varText.f k (n : Int)) (vt n) := by
  have := impl_varText_l 9 n [] (by omega) h (by simp)
  simpa [impl_varText.f, vt] using this

/-- The number whose bytes are bs (all above 127 but the last). -/
def varVal : List Nat → Nat → Nat
  | [], x => x
  | b :: bs, x => b % 128 + 128 * varVal bs x
theorem varVal_pos : ∀ (bs : List Nat) (x : Nat), 0 < x → 0 < varVal bs x
  | [], x, h => h
  | b :: bs, x, h => by have := varVal_pos bs x h; unfold varVal; omega
theorem varNums_val : ∀ (bs : List Nat) (x : Nat), (∀ b ∈ bs, 127 < b ∧ b < 256) → x < 128 → (x = 0 → bs = []) → varNums (varVal bs x) = bs.map (fun b : Nat => (b : Int)) ++ [(x : Int)]
  | [], x, _, hx, _ => by unfold varVal; rw [varNums_small (by omega)]; rfl
  | b :: bs, x, hb, hx, h0 => by
    have hb0 := hb b (by simp)
    have hx0 : 0 < x := by
      rcases Nat.eq_zero_or_pos x with h | h
      · exact absurd (h0 h) (by simp)
      · exact h
    have hp := varVal_pos bs x hx0
    have ih := varNums_val bs x (fun c hc => hb c (by simp [hc])) hx (fun h => by omega)
    unfold varVal
    rw [varNums_big (by omega)]
    have e1 : (b % 128 + 128 * varVal bs x) % 128 + 128 = b := by omega
    have e2 : (b % 128 + 128 * varVal bs x) / 128 = varVal bs x := by omega
    rw [e1, e2, ih]; rfl
theorem varNums_ne (n : Nat) : varNums n ≠ [] := by
  by_cases h : n > 127
  · rw [varNums_big h]; simp
  · rw [varNums_small h]; simp
theorem varNums_last (n : Nat) : ∀ (l : List Int), varNums n = l ++ [0] → l = [] := by
  induction n using Nat.strongRecOn with
  | _ n ih =>
    intro l h
    by_cases hb : n > 127
    · rw [varNums_big hb] at h
      cases l with
      | nil => simp at h; exact absurd h.2 (varNums_ne _)
      | cons c l =>
        simp at h
        have := ih (n / 128) (by omega) l h.2
        subst this
        have h2 := h.2
        by_cases hb2 : n / 128 > 127
        · rw [varNums_big hb2] at h2
          simp at h2
          exact absurd h2.2 (varNums_ne _)
        · rw [varNums_small hb2] at h2
          simp at h2
          omega
    · rw [varNums_small hb] at h
      cases l with
      | nil => rfl
      | cons c l => simp at h
theorem varNums_range (n : Nat) : ∀ b ∈ varNums n, 0 ≤ b ∧ b ≤ 255 := by
  induction n using Nat.strongRecOn with
  | _ n ih =>
    by_cases hb : n > 127
    · rw [varNums_big hb]
      intro b hm
      rcases List.mem_cons.1 hm with h | h
      · subst h; omega
      · exact ih (n / 128) (by omega) b h
    · rw [varNums_small hb]
      intro b hm
      simp at hm; subst hm; omega
theorem bytesOf_vt (n : Nat) : bytesOf (vt n) = varNums n := bytesOf_son _ (varNums_range n)
theorem varVal_snoc : ∀ (bs : List Nat) (b x : Nat), varVal (bs ++ [b]) x = varVal bs (b % 128 + 128 * x)
  | [], b, x => rfl
  | c :: bs, b, x => by simp [varVal, varVal_snoc bs b x]
theorem varVal_add : ∀ (bs : List Nat) (x : Nat), varVal bs x = varVal bs 0 + 128 ^ bs.length * x
  | [], x => by simp [varVal]
  | c :: bs, x => by simp only [varVal, varVal_add bs x, List.length_cons, Nat.pow_succ, Nat.mul_add, Nat.mul_comm, Nat.mul_left_comm]; omega
theorem varVal_lt : ∀ (bs : List Nat), varVal bs 0 < 128 ^ bs.length
  | [] => by simp [varVal]
  | c :: bs => by have := varVal_lt bs; simp only [varVal, List.length_cons, Nat.pow_succ]; omega
/-- What stands in s from place p on, k bytes (all above 127, with the sum n) having been read; l more may be. -/
def rvGo (s : ByteArray) (p : Nat) : Nat → Nat → Nat → Int × Int × Bool
  | 0, _, _ => (0, 0, false)
  | l + 1, k, n => if p + k < s.size then
      (if bt s ((p + k : Nat) : Int) > 127 then rvGo s p l (k + 1) (n + 128 ^ k * ((bt s ((p + k : Nat) : Int)).toNat % 128))
       else if (bt s ((p + k : Nat) : Int) = 0 ∧ k > 0) ∨ n + 128 ^ k * (bt s ((p + k : Nat) : Int)).toNat > 1000000000 then (0, 0, false)
       else (((n + 128 ^ k * (bt s ((p + k : Nat) : Int)).toNat : Nat) : Int), ((p + k + 1 : Nat) : Int), true))
    else (0, 0, false)
def readVar (s : ByteArray) (at_ : Int) : Int × Int × Bool := if 0 ≤ at_ ∧ at_ ≤ s.size then rvGo s at_.toNat 5 0 0 else (0, 0, false)

theorem impl_in_is (x a b : Int) : impl_in.f x a b = some (decide (a ≤ x ∧ x ≤ b)) := by
  unfold impl_in.f
  by_cases h : x ≥ a
  · rw [if_pos h]; congr 1; rw [decide_eq_decide]; exact ⟨fun h2 => ⟨h, h2⟩, fun h2 => h2.2⟩
  · rw [if_neg h]; congr 1; symm; rw [decide_eq_false_iff_not]; exact fun h2 => h h2.1

theorem shl_i64 (a m : Nat) (hm : m ≤ 64) (h : a * 2 ^ m < 9223372036854775808) : shl .i64 (a : Int) (m : Int) = ((a * 2 ^ m : Nat) : Int) := by
  have e : (((m : Int)).toNat) = m := rfl
  have e2 : min m IntKind.i64.bits = m := Nat.min_eq_left hm
  unfold shl
  rw [e, e2]
  have e3 : (a : Int) * 2 ^ m = ((a * 2 ^ m : Nat) : Int) := by simp
  rw [e3, IntKind.wrap_i64]
  omega
theorem rv_or (n x k : Nat) (hn : n < 128 ^ k) (hx : x < 128) (hk : k < 5) : Go.bits .or .i64 (n : Int) (shl .i64 (x : Int) ((7 * k : Nat) : Int)) = ((n + 128 ^ k * x : Nat) : Int) := by
  have e0 : (2 : Nat) ^ (7 * k) = 128 ^ k := by rw [Nat.pow_mul]
  have hp : 128 ^ k ≤ 128 ^ 4 := Nat.pow_le_pow_right (by omega) (by omega)
  have hmul : x * 128 ^ k ≤ 127 * 128 ^ 4 := Nat.mul_le_mul (by omega) hp
  rw [shl_i64 x (7 * k) (by omega) (by rw [e0]; omega), e0, (i64_nat n (x * 128 ^ k) (by omega) (by omega)).2]
  rw [Nat.or_comm, nat_join (7 * k) (x * 128 ^ k) n (by rw [e0]; exact Nat.mul_mod_left _ _) (by rw [e0]; exact hn), Nat.add_comm, Nat.mul_comm]
theorem impl_ReadVar_l (s : ByteArray) (hs : s.size ≤ 140737488351232) (p : Nat) (hp : p ≤ s.size) (l : Nat) : ∀ (k n : Nat), k + l = 5 → n < 128 ^ k → Ev (fun r => impl_ReadVar.l0 r s (p : Int) (n : Int) (k : Int)) (rvGo s p l k n) := by
  induction l with
  | zero =>
    intro k n hk hn
    refine Ev.step (fun r => by rw [impl_ReadVar.l0]) ?_
    refine evn (by omega) (Ev.step (fun r => by rw [impl_ReadVar.j1]) ?_)
    exact evn (by simp) (evs rfl)
  | succ l ih =>
    intro k n hk hn
    have HN := Aside0.mk hn
    clear hn
    have hk5 : k < 5 := by omega
    have e0 := w64a p k (by omega)
    refine Ev.step (fun r => by rw [impl_ReadVar.l0]) ?_
    refine evp (by omega) (Ev.step (fun r => by rw [impl_ReadVar.j1]) ?_)
    rw [e0]
    unfold rvGo
    by_cases h1 : p + k < s.size
    · rw [if_pos h1]
      refine evp (by rw [decide_eq_true_eq]; omega) (evp (by omega) (evp (by omega) ?_))
      obtain ⟨b, hb, hb2⟩ := bt_nat s ((p + k : Nat) : Int)
      have e1 : wrap64 (7 * (k : Int)) = ((7 * k : Nat) : Int) := w64m 7 k (by omega)
      have e2 := w64n b (by omega)
      have e3 := i64_and127 b (Nat.le_trans (Nat.le_of_lt hb2) (by decide))
      have e4 := Aside0.mk (rv_or n (b % 128) k HN.out (Nat.mod_lt _ (by decide)) hk5)
      have e5 := w64s k (by omega)
      have e6 := w64s (p + k) (by omega)
      have e7 : ((b : Nat) : Int).toNat = b := rfl
      simp only [hb, e1, e2, e3, e4.out, e5, e6, e7]
      clear e0 e1 e2 e3 e4 e5 e6 e7
      generalize hm : 128 ^ k = m at *
      have HM := Aside0.mk hm
      clear hm
      refine evp (by omega) ?_
      by_cases h2 : (b : Int) > 127
      · rw [if_pos h2]
        refine evp h2 (ih (k + 1) _ (by omega) ?_)
        rw [Nat.pow_succ, HM.out]
        have h3 : m * (b % 128) ≤ m * 127 := Nat.mul_le_mul_left _ (by omega)
        have h4 := HN.out
        omega
      · rw [if_neg h2]
        have e8 : b % 128 = b := by omega
        rw [e8]
        refine evn h2 ?_
        by_cases h3 : (b : Int) = 0
        · refine evp h3 ?_
          by_cases h4 : (k : Int) > 0
          · exact evp h4 (evs (by rw [if_pos (.inl ⟨h3, by omega⟩)]))
          · refine evn h4 ?_
            by_cases h5 : ((n + m * b : Nat) : Int) > 1000000000
            · exact evp h5 (evs (by rw [if_pos (.inr (by omega))]))
            · exact evn h5 (evs (by rw [if_neg (by omega)]))
        · refine evn h3 ?_
          by_cases h5 : ((n + m * b : Nat) : Int) > 1000000000
          · exact evp h5 (evs (by rw [if_pos (.inr (by omega))]))
          · exact evn h5 (evs (by rw [if_neg (by omega)]))
    · rw [if_neg h1]
      exact evn (by rw [decide_eq_true_eq]; omega) (Ev.now _)
theorem impl_ReadVar_is (s : ByteArray) (hs : s.size ≤ 140737488351232) (p : Int) : Ev (fun r => impl_ReadVar.f r s p) (readVar s p) := by
  unfold readVar
  refine evb (impl_in_is _ _ _) ?_
  by_cases h : 0 ≤ p ∧ p ≤ s.size
  · rw [if_pos h]
    obtain ⟨q, rfl⟩ := Int.eq_ofNat_of_zero_le h.1
    exact evp (by simpa using h) (impl_ReadVar_l s hs q (by omega) 5 0 0 (by omega) (by omega))
  · rw [if_neg h]
    exact evn (by simpa using h) (Ev.now _)

theorem rvGo_props (s : ByteArray) (_hs : s.size ≤ 140737488351232) (p : Nat) (l : Nat) : ∀ (k n : Nat), (rvGo s p l k n).2.2 = true → 0 ≤ (rvGo s p l k n).1 ∧ (rvGo s p l k n).1 ≤ 1000000000 ∧ 0 ≤ (rvGo s p l k n).2.1 ∧ (rvGo s p l k n).2.1 ≤ s.size := by
  induction l with
  | zero => intro k n h; simp [rvGo] at h
  | succ l ih =>
    intro k n h
    unfold rvGo at h ⊢
    by_cases h1 : p + k < s.size
    · rw [if_pos h1] at h ⊢
      by_cases h2 : bt s ((p + k : Nat) : Int) > 127
      · rw [if_pos h2] at h ⊢
        exact ih _ _ h
      · rw [if_neg h2] at h ⊢
        generalize n + 128 ^ k * (bt s ((p + k : Nat) : Int)).toNat = v at *
        by_cases h3 : (bt s ((p + k : Nat) : Int) = 0 ∧ k > 0) ∨ v > 1000000000
        · rw [if_pos h3] at h; simp at h
        · rw [if_neg h3]
          refine ⟨?_, ?_, ?_, ?_⟩ <;> simp only <;> omega
    · rw [if_neg h1] at h; simp at h
theorem readVar_props (s : ByteArray) (hs : s.size ≤ 140737488351232) (p : Int) (h : (readVar s p).2.2 = true) : 0 ≤ (readVar s p).1 ∧ (readVar s p).1 ≤ 1000000000 ∧ 0 ≤ (readVar s p).2.1 ∧ (readVar s p).2.1 ≤ s.size := by
  unfold readVar at h ⊢
  by_cases h1 : 0 ≤ p ∧ p ≤ s.size
  · rw [if_pos h1] at h ⊢; exact rvGo_props s hs _ _ _ _ h
  · rw [if_neg h1] at h; simp at h
def readShort (s : ByteArray) (p : Int) : ByteArray × Int × Bool :=
  if (readVar s p).2.2 = true ∧ (readVar s p).1 ≤ 20000 ∧ (readVar s p).1 + (readVar s p).2.1 ≤ s.size then
    (s.extract (readVar s p).2.1.toNat ((readVar s p).2.1 + (readVar s p).1).toNat, (readVar s p).2.1 + (readVar s p).1, true)
  else (⟨#[]⟩, 0, false)

theorem impl_ReadShort_is (s : ByteArray) (hs : s.size ≤ 140737488351232) (p : Int) : Ev (fun r => impl_ReadShort.f r s p) (readShort s p) := by
  unfold impl_ReadShort.f readShort
  refine Ev.bind (impl_ReadVar_is s hs p) ?_
  have hp := readVar_props s hs p
  generalize readVar s p = r at hp ⊢
  obtain ⟨n, q, o⟩ := r
  simp only at hp ⊢
  by_cases ho : o = true
  · refine evp ho ?_
    obtain ⟨h1, h2, h3, h4⟩ := hp ho
    have e1 : wrap64 ((s.size : Int) - q) = (s.size : Int) - q := w64 (by omega) (by omega)
    have e2 : wrap64 (q + n) = q + n := w64 (by omega) (by omega)
    rw [e1, e2]
    by_cases h5 : n > 20000
    · exact evp h5 (evs (by rw [if_neg (by omega)]))
    · refine evn h5 ?_
      by_cases h6 : n > (s.size : Int) - q
      · exact evp h6 (evs (by rw [if_neg (by omega)]))
      · exact evn h6 (evp h3 (evp (by omega) (evp (by omega) (evs (by rw [if_pos ⟨ho, by omega, by omega⟩])))))
  · exact evn ho (evs (by rw [if_neg (fun h => ho h.1)]))

def hexD (x : Nat) : Int := if x < 10 then ((48 + x : Nat) : Int) else ((87 + x : Nat) : Int)
def hexL (l : List Int) : List Int := l.flatMap fun b => [hexD (b.toNat / 16), hexD (b.toNat % 16)]
theorem hexL_cons (b : Int) (l : List Int) : hexL (b :: l) = [hexD (b.toNat / 16), hexD (b.toNat % 16)] ++ hexL l := rfl
def hexOf (s : ByteArray) : ByteArray × Bool := if s.size > 20000 then (⟨#[]⟩, false) else (strOfNums (hexL (bytesOf s)), true)

theorem u8_and15' (n : Nat) (h : n < 256) : Go.bits .and .u8 (n : Int) 15 = ((n % 16 : Nat) : Int) := by
  have := u8_and_nat n 15 h (by omega)
  rw [nat_mask4] at this
  exact this
theorem hexTab (x : Nat) (h : x < 16) : bt (⟨#[48, 49, 50, 51, 52, 53, 54, 55, 56, 57, 97, 98, 99, 100, 101, 102]⟩ : ByteArray) (x : Int) = hexD x := by
  have : ∀ y : Fin 16, bt (⟨#[48, 49, 50, 51, 52, 53, 54, 55, 56, 57, 97, 98, 99, 100, 101, 102]⟩ : ByteArray) ((y.val : Nat) : Int) = hexD y.val := by decide
  exact this ⟨x, h⟩
theorem impl_Hex_l (s : ByteArray) (hs : s.size ≤ 20000) (d : Nat) : ∀ (i : Nat) (acc : List Int), i + d = s.size → acc.length + 2 * d ≤ 40000 → Ev (fun k => impl_Hex.l0 k s acc (s.size : Int) (i : Int)) (strOfNums (acc ++ hexL ((bytesOf s).drop i)), true) := by
  induction d with
  | zero =>
    intro i acc hi ha
    refine Ev.step (fun k => by rw [impl_Hex.l0]) (evn (by omega) (evs ?_))
    rw [List.drop_eq_nil_of_le (by rw [bytesOf_length]; omega)]
    simp [hexL]
  | succ d ih =>
    intro i acc hi ha
    obtain ⟨n, hn, hn2⟩ := bt_nat s (i : Int)
    refine Ev.step (fun k => by rw [impl_Hex.l0]) (evp (by omega) (evp (by omega) (evp (by omega) ?_)))
    rw [hn, u8_and15' n hn2]
    have e1 : (n : Int) / 16 = ((n / 16 : Nat) : Int) := rfl
    rw [e1]
    refine evp (by omega) (evp (by omega) (evp (by omega) (evp (by omega) (evb rfl (evp (by simp; omega) ?_)))))
    rw [w64 (by omega) (by omega), hexTab _ (by omega), hexTab _ (by omega)]
    have := ih (i + 1) (acc ++ [hexD (n / 16), hexD (n % 16)]) (by omega) (by simp; omega)
    rw [bytesOf_drop s i (by omega), hn, hexL_cons, ← List.append_assoc]
    exact this
theorem impl_Hex_is (s : ByteArray) : Ev (fun k => impl_Hex.f k s) (hexOf s) := by
  unfold hexOf
  simp only [impl_Hex.f]
  by_cases h : (s.size : Int) > 20000
  · exact evp h (evs (by rw [if_pos (by omega)]))
  · refine evn h ?_
    rw [if_neg (by omega)]
    have := impl_Hex_l s (by omega) s.size 0 [] (by omega) (by simp; omega)
    simpa using this

def hexV (x : Nat) : Int := if 48 ≤ x ∧ x ≤ 57 then (x : Int) - 48 else if 97 ≤ x ∧ x ≤ 102 then (x : Int) - 87 else -1
theorem hexV_lt (x : Nat) : hexV x < 16 := by unfold hexV; split <;> (try split) <;> omega
theorem hexV_ge (x : Nat) : -1 ≤ hexV x := by unfold hexV; split <;> (try split) <;> omega
def unhexGo : List Int → List Int → ByteArray × Bool
  | acc, a :: b :: l => if hexV a.toNat < 0 ∨ hexV b.toNat < 0 then (⟨#[]⟩, false) else unhexGo (acc ++ [16 * hexV a.toNat + hexV b.toNat]) l
  | acc, _ => (strOfNums acc, true)
theorem unhexGo_cons (acc : List Int) (a b : Int) (l : List Int) : unhexGo acc (a :: b :: l) = if hexV a.toNat < 0 ∨ hexV b.toNat < 0 then (⟨#[]⟩, false) else unhexGo (acc ++ [16 * hexV a.toNat + hexV b.toNat]) l := by rw [unhexGo]
def unhexOf (s : ByteArray) : ByteArray × Bool := if s.size ≤ 40000 ∧ s.size % 2 = 0 then unhexGo [] (bytesOf s) else (⟨#[]⟩, false)

theorem indexHex (n : Nat) (h : n < 256) : strings_IndexByte.f (⟨#[48, 49, 50, 51, 52, 53, 54, 55, 56, 57, 97, 98, 99, 100, 101, 102]⟩ : ByteArray) (n : Int) = some (hexV n) := by
  have : ∀ y : Fin 256, strings_IndexByte.f (⟨#[48, 49, 50, 51, 52, 53, 54, 55, 56, 57, 97, 98, 99, 100, 101, 102]⟩ : ByteArray) ((y.val : Nat) : Int) = some (hexV y.val) := by decide +kernel
  exact this ⟨n, h⟩
theorem or_hex (a b : Int) (ha : 0 ≤ a) (ha2 : a < 16) (hb : 0 ≤ b) (hb2 : b < 16) : (Go.bits .or .i64 (wrap64 (a * 16)) b) % 256 = 16 * a + b := by
  obtain ⟨x, rfl⟩ := Int.eq_ofNat_of_zero_le ha
  obtain ⟨y, rfl⟩ := Int.eq_ofNat_of_zero_le hb
  have e : wrap64 ((x : Int) * 16) = ((x * 16 : Nat) : Int) := w64m x 16 (by omega)
  rw [e, (i64_nat (x * 16) y (by omega) (by omega)).2, nat_join 4 (x * 16) y (by omega) (by omega)]
  omega
theorem impl_Unhex_l (s : ByteArray) (hs : s.size ≤ 40000) (d : Nat) : ∀ (i : Nat) (acc : List Int), i + 2 * d = s.size → acc.length + d ≤ 20000 → Ev (fun k => impl_Unhex.l0 k s acc (i : Int)) (unhexGo acc ((bytesOf s).drop i)) := by
  induction d with
  | zero =>
    intro i acc hi ha
    refine Ev.step (fun k => by rw [impl_Unhex.l0]) (evn (by omega) (evs ?_))
    rw [List.drop_eq_nil_of_le (by rw [bytesOf_length]; omega)]
    rfl
  | succ d ih =>
    intro i acc hi ha
    refine Ev.step (fun k => by rw [impl_Unhex.l0]) (evp (by omega) (evp (by omega) ?_))
    rw [w64s i (by omega)]
    obtain ⟨m, hm, hm2⟩ := bt_nat s (i : Int)
    obtain ⟨n, hn, hn2⟩ := bt_nat s ((i + 1 : Nat) : Int)
    rw [bytesOf_drop s i (by omega), bytesOf_drop s (i + 1) (by omega), hm, hn, unhexGo_cons]
    have e1 : ((m : Nat) : Int).toNat = m := rfl
    have e2 : ((n : Nat) : Int).toNat = n := rfl
    rw [e1, e2]
    refine evb (indexHex m hm2) (evp (by omega) (evp (by omega) (evb (indexHex n hn2) ?_)))
    by_cases h1 : hexV m < 0
    · exact evp h1 (evs (by rw [if_pos (.inl h1)]))
    · refine evn h1 ?_
      by_cases h2 : hexV n < 0
      · exact evp h2 (evs (by rw [if_pos (.inr h2)]))
      · refine evn h2 (evp (by omega) ?_)
        rw [if_neg (by omega), or_hex _ _ (by omega) (hexV_lt m) (by omega) (hexV_lt n)]
        have e4 : wrap64 ((i : Int) + 2) = ((i + 2 : Nat) : Int) := w64a i 2 (by omega)
        rw [e4]
        exact ih (i + 2) _ (by omega) (by rw [List.length_append, List.length_singleton]; omega)
theorem impl_Unhex_is (s : ByteArray) : Ev (fun k => impl_Unhex.f k s) (unhexOf s) := by
  unfold impl_Unhex.f unhexOf
  by_cases h2 : (s.size : Int) % 2 = 0
  · refine evp h2 (Ev.step (fun k => by rw [impl_Unhex.j0]) ?_)
    by_cases h : (s.size : Int) > 40000
    · rw [if_neg (by omega)]
      exact evp (by simpa using h) (Ev.now _)
    · rw [if_pos ⟨by omega, by omega⟩]
      have h3 := impl_Unhex_l s (by omega) (s.size / 2) 0 [] (by omega) (by simp; omega)
      exact evn (by simpa using h) h3
  · rw [if_neg (by omega)]
    refine evn h2 (Ev.step (fun k => by rw [impl_Unhex.j0]) ?_)
    exact evp rfl (Ev.now _)

theorem i64_and255 (a : Int) : 0 ≤ Go.bits .and .i64 a 255 ∧ Go.bits .and .i64 a 255 ≤ 255 := by
  show 0 ≤ IntKind.i64.wrap ((BitVec.ofInt 64 a &&& BitVec.ofInt 64 255).toNat : Int) ∧ IntKind.i64.wrap ((BitVec.ofInt 64 a &&& BitVec.ofInt 64 255).toNat : Int) ≤ 255
  rw [BitVec.toNat_and, show (BitVec.ofInt 64 255).toNat = 255 from rfl, nat_mask8, IntKind.wrap_i64]
  omega
theorem rd_range {l : List Int} (hl : ∀ x ∈ l, (Lit.int .u8 x).wf = true) (i : Int) : 0 ≤ rd l i ∧ rd l i ≤ 255 := by
  unfold rd
  rw [List.getD_eq_getElem?_getD]
  cases h : l[i.toNat]? with
  | none => simp
  | some x =>
    have := hl x (List.mem_of_getElem? h)
    simp [Lit.wf, IntKind.min, IntKind.max, IntKind.bits, IntKind.signed] at this
    simp only [Option.getD_some]
    omega
theorem spec_l01New_l (l : List Int) : ∀ (d i : Nat) (h : Int), i + d = 4000 → ∃ h', Ev (fun k => spec_l01New.l0 k l h (i : Int)) (l, 0, h') := by
  intro d
  induction d with
  | zero =>
    intro i h h1
    refine ⟨h, Ev.step (fun k => by rw [spec_l01New.l0]) ?_⟩
    by_cases c : (i : Int) < (l.length : Int)
    · exact evp c (evn (by omega) (evs rfl))
    · exact evn c (evs rfl)
  | succ d ih =>
    intro i h h1
    by_cases c : (i : Int) < (l.length : Int)
    · obtain ⟨h', hh⟩ := ih (i + 1) (Go.bits .and .i64 (wrap64 ((wrap64 ((wrap64 (h * 131)) + (wrap64 (rd l (i : Int))))) + 7)) 1073741823) (by omega)
      refine ⟨h', Ev.step (fun k => by rw [spec_l01New.l0]) (evp c (evp (by omega) (evp (by omega) ?_)))⟩
      rw [w64s i (by omega)]
      exact hh
    · exact ⟨h, Ev.step (fun k => by rw [spec_l01New.l0]) (evn c (evs rfl))⟩
theorem spec_l01New_is (l : List Int) : ∃ h', Ev (fun k => spec_l01New.f k l) (l, 0, h') := spec_l01New_l l 4000 0 _ rfl
theorem spec_l01Byte_is (l : List Int) (hl : ∀ x ∈ l, (Lit.int .u8 x).wf = true) (hm : l.length ≤ 9223372036854775000) (i : Nat) (h : Int) : ∃ (x : Int) (i' : Nat) (h' : Int), spec_l01Byte.f l (i : Int) h = some (x, (i' : Int), h') ∧ 0 ≤ x ∧ x ≤ 255 := by
  unfold spec_l01Byte.f
  by_cases c : (i : Int) < (l.length : Int)
  · rw [if_pos c, if_pos (by omega)]
    rw [w64s i (by omega)]
    exact ⟨_, i + 1, _, rfl, i64_and255 _⟩
  · rw [if_neg c]
    exact ⟨_, i, _, rfl, i64_and255 _⟩
theorem spec_l01Below_is (l : List Int) (hl : ∀ x ∈ l, (Lit.int .u8 x).wf = true) (hm : l.length ≤ 9223372036854775000) (i : Nat) (h n : Int) (hn : 0 < n) : ∃ (x : Int) (i' : Nat) (h' : Int), spec_l01Below.f l (i : Int) h n = some (x, (i' : Int), h') ∧ 0 ≤ x ∧ x < n := by
  unfold spec_l01Below.f
  rw [if_neg (by omega)]
  by_cases c : n ≤ 256
  · rw [if_pos c]
    obtain ⟨x, i', h', e, r1, r2⟩ := spec_l01Byte_is l hl hm i h
    rw [e, Option.bind_some, if_neg (by omega)]
    refine ⟨_, i', h', rfl, ?_, ?_⟩
    · exact Int.tmod_nonneg _ r1
    · exact Int.tmod_lt_of_pos _ hn
  · rw [if_neg c]
    obtain ⟨x, i1, h1, e1, a1, a2⟩ := spec_l01Byte_is l hl hm i h
    obtain ⟨y, i2, h2, e2, b1, b2⟩ := spec_l01Byte_is l hl hm i1 h1
    obtain ⟨z, i3, h3, e3, c1, c2⟩ := spec_l01Byte_is l hl hm i2 h2
    obtain ⟨u, i4, h4, e4, d1, d2⟩ := spec_l01Byte_is l hl hm i3 h3
    rw [e1, Option.bind_some]
    dsimp only
    rw [e2, Option.bind_some]
    dsimp only
    rw [e3, Option.bind_some]
    dsimp only
    rw [e4, Option.bind_some, if_neg (by omega)]
    have q1 : wrap64 (x * 16777216) = x * 16777216 := w64 (by omega) (by omega)
    have q2 : wrap64 (y * 65536) = y * 65536 := w64 (by omega) (by omega)
    have q3 : wrap64 (z * 256) = z * 256 := w64 (by omega) (by omega)
    have q4 : wrap64 (x * 16777216 + y * 65536) = x * 16777216 + y * 65536 := w64 (by omega) (by omega)
    have q5 : wrap64 (x * 16777216 + y * 65536 + z * 256) = x * 16777216 + y * 65536 + z * 256 := w64 (by omega) (by omega)
    have q6 : wrap64 (x * 16777216 + y * 65536 + z * 256 + u) = x * 16777216 + y * 65536 + z * 256 + u := w64 (by omega) (by omega)
    rw [q1, q2, q3, q4, q5, q6]
    exact ⟨_, i4, h4, rfl, Int.tmod_nonneg _ (by omega), Int.tmod_lt_of_pos _ hn⟩

theorem spec_l01Text_l (l : List Int) (hl : ∀ x ∈ l, (Lit.int .u8 x).wf = true) (hm : l.length ≤ 9223372036854775000) (n : Int) (hn : n ≤ 5000) : ∀ (d i : Nat) (acc : List Int) (a : Nat) (h : Int), (i : Int) + d = max n 0 → acc.length = i →
    ∃ (t : ByteArray) (a' : Nat) (h' : Int), (t.size : Int) = max n 0 ∧ Ev (fun k => spec_l01Text.l0 k n acc (i : Int) l (a : Int) h) (t, (a' : Int), h') := by
  intro d
  induction d with
  | zero =>
    intro i acc a h h1 h2
    refine ⟨strOfNums acc, a, h, by rw [strOfNums_size]; omega, Ev.step (fun k => by rw [spec_l01Text.l0]) ?_⟩
    exact evn (by omega) (evs rfl)
  | succ d ih =>
    intro i acc a h h1 h2
    obtain ⟨x, a1, h1', e, _, _⟩ := spec_l01Byte_is l hl hm a h
    obtain ⟨t, a', h', t1, t2⟩ := ih (i + 1) (acc ++ [x % 256]) a1 h1' (by omega) (by rw [List.length_append, h2]; rfl)
    refine ⟨t, a', h', t1, Ev.step (fun k => by rw [spec_l01Text.l0]) (evp (by omega) (evb e ?_))⟩
    refine evp (by omega) ?_
    rw [w64s i (by omega)]
    exact t2
theorem spec_l01Text_is (l : List Int) (hl : ∀ x ∈ l, (Lit.int .u8 x).wf = true) (hm : l.length ≤ 9223372036854775000) (a : Nat) (h n : Int) : ∃ (t : ByteArray) (a' : Nat) (h' : Int), (t.size : Int) = max (min n 5000) 0 ∧ Ev (fun k => spec_l01Text.f k l (a : Int) h n) (t, (a' : Int), h') := by
  unfold spec_l01Text.f
  by_cases c : n > 5000
  · obtain ⟨t, a', h', t1, t2⟩ := spec_l01Text_l l hl hm 5000 (by omega) 5000 0 [] a h (by omega) rfl
    refine ⟨t, a', h', by omega, evp c ?_⟩
    refine Ev.step (fun k => by rw [spec_l01Text.j0]) ?_
    exact t2
  · obtain ⟨t, a', h', t1, t2⟩ := spec_l01Text_l l hl hm n (by omega) n.toNat 0 [] a h (by omega) rfl
    refine ⟨t, a', h', by omega, evn c ?_⟩
    refine Ev.step (fun k => by rw [spec_l01Text.j0]) ?_
    exact t2
theorem rd_mem (l : List Int) (i : Int) (h0 : 0 ≤ i) (h1 : i < l.length) : rd l i ∈ l := by
  unfold rd
  rw [List.getD_eq_getElem?_getD, List.getElem?_eq_getElem (by omega)]
  exact List.getElem_mem _
theorem spec_l01PickInt_is (l : List Int) (hl : ∀ x ∈ l, (Lit.int .u8 x).wf = true) (hm : l.length ≤ 9223372036854775000) (a : Nat) (h : Int) (s : List Int) (hs : 0 < s.length) : ∃ (x : Int) (a' : Nat) (h' : Int), spec_l01PickInt.f l (a : Int) h s = some (x, (a' : Int), h') ∧ x ∈ s := by
  unfold spec_l01PickInt.f
  obtain ⟨x, a', h', e, r1, r2⟩ := spec_l01Below_is l hl hm a h (s.length : Int) (by omega)
  rw [e, Option.bind_some, if_pos r1, if_pos r2]
  exact ⟨_, a', h', rfl, rd_mem s x r1 r2⟩

theorem dc_nd : ∀ (m n : Nat), n < 10 ^ m → 0 < m → Lib.nDigits n ≤ m := by
  intro m
  induction m with
  | zero => intro n _ h0; omega
  | succ m ih =>
    intro n hn _
    rw [Lib.nDigits]
    split
    · omega
    · rename_i h10
      have hm : 0 < m := by
        rcases Nat.eq_zero_or_pos m with h0 | h0
        · subst h0; omega
        · exact h0
      have : n / 10 < 10 ^ m := by rw [Nat.pow_succ] at hn; omega
      have := ih (n / 10) this hm
      omega

def stepV (a : Nat) (b : UInt8) : Nat := 10 * a + (b.toNat - 48)
def dgt (b : UInt8) : Bool := decide (48 ≤ b.toNat) && decide (b.toNat ≤ 57)
theorem fold_ge : ∀ (l : List UInt8) (a : Nat), a ≤ l.foldl stepV a
  | [], a => Nat.le_refl _
  | b :: l, a => by
    have := fold_ge l (stepV a b)
    have h2 : a ≤ stepV a b := by unfold stepV; omega
    rw [List.foldl_cons]
    omega
theorem dig_of (d : Nat) (h : d < 10) : (UInt8.ofNat (48 + d)).toNat = 48 + d := by
  rw [UInt8.toNat_ofNat']
  omega
theorem dd_all (n : Nat) : (Lib.decDigits n).all dgt = true := by
  induction n using Nat.strongRecOn with
  | _ n ih =>
    rw [Lib.decDigits]
    split
    · rename_i h
      unfold dgt
      simp only [List.all_cons, List.all_nil, dig_of n h, Bool.and_true, Bool.and_eq_true, decide_eq_true_eq]
      omega
    · rename_i h
      rw [List.all_append, ih (n / 10) (by omega)]
      have := dig_of (n % 10) (by omega)
      unfold dgt
      simp only [List.all_cons, List.all_nil, this, Bool.and_true, Bool.true_and, Bool.and_eq_true, decide_eq_true_eq]
      omega
theorem dd_val (n : Nat) : (Lib.decDigits n).foldl stepV 0 = n := by
  induction n using Nat.strongRecOn with
  | _ n ih =>
    rw [Lib.decDigits]
    split
    · rename_i h
      simp only [List.foldl_cons, List.foldl_nil, stepV, dig_of n h]
      omega
    · rename_i h
      rw [List.foldl_append, ih (n / 10) (by omega)]
      have := dig_of (n % 10) (by omega)
      simp only [List.foldl_cons, List.foldl_nil, stepV, this]
      omega
theorem parse_fold : ∀ (l : List UInt8) (a : Nat), l.all dgt = true → l.foldl stepV a ≤ 10000000000 → Lib.parseUint10 a l = .ok (l.foldl stepV a)
  | [], a, _, _ => rfl
  | b :: l, a, h, hv => by
    rw [List.all_cons, Bool.and_eq_true] at h
    have hb := h.1
    simp [dgt] at hb
    rw [List.foldl_cons] at hv ⊢
    have h2 := fold_ge l (stepV a b)
    have h3 : stepV a b = a * 10 + (b.toNat - 48) := by unfold stepV; omega
    have ih := parse_fold l (stepV a b) h.2 hv
    rw [Lib.parseUint10, if_pos hb, if_neg (by omega), if_neg (by omega), ← h3, ih]
theorem dd_len (n : Nat) (h : n ≤ 1000000000) : (Lib.decDigits n).length ≤ 10 := by
  rw [Lib.decDigits_length]
  exact dc_nd 10 n (by omega) (by omega)
theorem atoi_dd (n : Nat) (h : n ≤ 1000000000) : Lib.atoiAll (Lib.decDigits n) = .ok (n : Int) := by
  have hp := parse_fold (Lib.decDigits n) 0 (dd_all n) (by rw [dd_val]; omega)
  rw [dd_val] at hp
  have ha := dd_all n
  cases hl : Lib.decDigits n with
  | nil =>
    have := Lib.decDigits_length n
    rw [hl] at this
    have h2 : 0 < Lib.nDigits n := by rw [Lib.nDigits]; split <;> omega
    simp at this
    omega
  | cons c r =>
    rw [hl] at hp ha
    rw [List.all_cons, Bool.and_eq_true] at ha
    have hc := ha.1
    simp [dgt] at hc
    have e : (if c.toNat = 43 ∨ c.toNat = 45 then r else c :: r) = c :: r := if_neg (by omega)
    have ep : Lib.parseMag (c :: r) = .ok n := by unfold Lib.parseMag; rw [if_neg (by simp), hp]
    simp only [Lib.atoiAll, e, ep]
    rw [if_neg (by omega), if_neg (by omega), if_neg (by omega)]
theorem itoa_nat (v : Int) (h : 0 ≤ v) : Lib.itoa v = Lib.decDigits v.toNat := by unfold Lib.itoa; rw [if_neg (by omega)]
theorem rdV_yes (s : ByteArray) (n : Nat) (h : n ≤ 1000000000) (e : s.data.toList = Lib.decDigits n) : TabN.rdV s = ((n : Int), true) := by
  unfold TabN.rdV
  rw [e, atoi_dd n h]
  dsimp only
  rw [if_pos ⟨by omega, by omega⟩, ByteArray.toList_eq, e, itoa_nat _ (by omega)]
  simp
theorem rdV_no (s : ByteArray) (h : ¬ ∃ n : Nat, n ≤ 1000000000 ∧ s.data.toList = Lib.decDigits n) : TabN.rdV s = (0, false) := by
  unfold TabN.rdV
  split
  · rename_i v hv
    split
    · rename_i hc
      split
      · rename_i he
        exfalso
        apply h
        refine ⟨v.toNat, by omega, ?_⟩
        rw [← itoa_nat v hc.1, ← ByteArray.toList_eq]
        exact (eq_of_beq he).symm
      · rfl
    · rfl
  · rfl

theorem bt_head (s : ByteArray) (i : Nat) (c : Int) (tl : List Int) (h : (bytesOf s).drop i = c :: tl) : i < s.size ∧ bt s (i : Int) = c ∧ (bytesOf s).drop (i + 1) = tl := by
  have hlt : i < s.size := by
    rcases Nat.lt_or_ge i s.size with h1 | h1
    · exact h1
    · rw [List.drop_eq_nil_of_le (by rw [bytesOf_length]; exact h1)] at h
      cases h
  rw [bytesOf_drop s i hlt] at h
  injection h with h1 h2
  exact ⟨hlt, h1, h2⟩
theorem pow128_split (m x : Nat) : m * (x % 128) + 128 * m * (x / 128) = m * x := by
  have h : m * x = m * (128 * (x / 128) + x % 128) := by rw [Nat.div_add_mod]
  rw [h, Nat.mul_add, Nat.add_comm]
  congr 1
  rw [Nat.mul_comm 128 m, Nat.mul_assoc]
theorem rvGo_vt (s : ByteArray) (p : Nat) (tl : List Int) (l : Nat) : ∀ (k n x : Nat), (varNums x).length ≤ l → (x = 0 → k = 0) → n + 128 ^ k * x ≤ 1000000000 → (bytesOf s).drop (p + k) = varNums x ++ tl →
    rvGo s p l k n = (((n + 128 ^ k * x : Nat) : Int), ((p + k + (varNums x).length : Nat) : Int), true) := by
  induction l with
  | zero => intro k n x h1; exact absurd (List.length_eq_zero_iff.1 (Nat.le_zero.1 h1)) (varNums_ne x)
  | succ l ih =>
    intro k n x h1 h2 h3 h4
    by_cases hb : x > 127
    · rw [varNums_big hb] at h1 h4 ⊢
      obtain ⟨a1, a2, a3⟩ := bt_head s (p + k) _ _ h4
      unfold rvGo
      rw [if_pos a1, a2, if_pos (by omega)]
      have e : (((x % 128 + 128 : Nat) : Int)).toNat % 128 = x % 128 := by
        have : (((x % 128 + 128 : Nat) : Int)).toNat = x % 128 + 128 := rfl
        rw [this]; omega
      rw [e]
      have hs := pow128_split (128 ^ k) x
      have hp : 128 ^ (k + 1) = 128 * 128 ^ k := by rw [Nat.pow_succ, Nat.mul_comm]
      have hv : n + 128 ^ k * (x % 128) + 128 ^ (k + 1) * (x / 128) = n + 128 ^ k * x := by rw [hp, Nat.add_assoc, hs]
      have := ih (k + 1) (n + 128 ^ k * (x % 128)) (x / 128) (by simp at h1; omega) (fun h => by exfalso; clear hv hs hp; omega) (by rw [hv]; exact h3) a3
      rw [this, hv]
      simp only [List.length_cons]
      have e2 : p + (k + 1) + (varNums (x / 128)).length = p + k + ((varNums (x / 128)).length + 1) := by clear hv hs hp h3; omega
      rw [e2]
    · rw [varNums_small hb] at h1 h4 ⊢
      obtain ⟨a1, a2, a3⟩ := bt_head s (p + k) _ _ h4
      unfold rvGo
      rw [if_pos a1, a2, if_neg (by omega)]
      have e : ((x : Nat) : Int).toNat = x := rfl
      rw [e]
      have hc : ¬ (((x : Int) = 0 ∧ k > 0) ∨ n + 128 ^ k * x > 1000000000) := by
        rintro (⟨c1, c2⟩ | c)
        · have := h2 (by omega); omega
        · exact absurd h3 (Nat.not_le.2 c)
      rw [if_neg hc]
      rfl
theorem readVar_vt (s : ByteArray) (p x : Nat) (tl : List Int) (hx : x ≤ 1000000000) (h : (bytesOf s).drop p = varNums x ++ tl) : readVar s (p : Int) = ((x : Int), ((p + (varNums x).length : Nat) : Int), true) := by
  have hp : p < s.size := by
    rcases Nat.lt_or_ge p s.size with h1 | h1
    · exact h1
    · rw [List.drop_eq_nil_of_le (by rw [bytesOf_length]; exact h1)] at h
      have := congrArg List.length h
      simp only [List.length_nil, List.length_append] at this
      exact absurd (List.length_eq_zero_iff.1 (by omega)) (varNums_ne x)
  unfold readVar
  rw [if_pos ⟨by omega, by omega⟩]
  have := rvGo_vt s p tl 5 0 0 x (varNums_len 5 x (by omega) (by omega)) (fun _ => rfl) (by omega) (by simpa using h)
  have e : ((p : Nat) : Int).toNat = p := rfl
  rw [e, this]
  simp
theorem vt_len (n : Nat) : (vt n).size = (varNums n).length := by rw [← bytesOf_length, bytesOf_vt]
theorem readShort_vt (t : ByteArray) (ht : t.size ≤ 20000) : readShort (vt t.size ++ t) 0 = (t, (((vt t.size ++ t).size : Nat) : Int), true) := by
  have h := readVar_vt (vt t.size ++ t) 0 t.size (bytesOf t) (by omega) (by rw [List.drop_zero, bytesOf_append, bytesOf_vt])
  have e : ((0 : Nat) : Int) = 0 := rfl
  rw [e] at h
  have hz : (vt t.size ++ t).size = (varNums t.size).length + t.size := by rw [ByteArray.size_append, vt_len]
  unfold readShort
  rw [h]
  simp only
  rw [if_pos ⟨trivial, by omega, by rw [hz]; omega⟩]
  have e1 : (((0 + (varNums t.size).length : Nat) : Int)).toNat = (varNums t.size).length := by omega
  have e2 : ((((0 + (varNums t.size).length : Nat) : Int)) + ((t.size : Nat) : Int)).toNat = (varNums t.size).length + t.size := by omega
  rw [e1, e2, hz]
  refine Prod.ext ?_ (Prod.ext ?_ rfl)
  · apply bytesOf_inj
    rw [bytesOf_extract, bytesOf_append, bytesOf_vt]
    rw [List.drop_left' rfl, List.take_of_length_le (by rw [bytesOf_length]; omega)]
  · simp only; omega
theorem hexV_D (x : Nat) (h : x < 16) : hexV (hexD x).toNat = (x : Int) := by
  have : ∀ y : Fin 16, hexV (hexD y.val).toNat = ((y.val : Nat) : Int) := by decide
  exact this ⟨x, h⟩
theorem unhexGo_hex : ∀ (l acc : List Int), (∀ b ∈ l, 0 ≤ b ∧ b ≤ 255) → unhexGo acc (hexL l) = (strOfNums (acc ++ l), true)
  | [], acc, _ => by simp [hexL, unhexGo]
  | b :: l, acc, h => by
    have hb := h b (by simp)
    have ih := unhexGo_hex l (acc ++ [b]) (fun c hc => h c (by simp [hc]))
    have e : hexL (b :: l) = hexD (b.toNat / 16) :: hexD (b.toNat % 16) :: hexL l := by rw [hexL_cons]; rfl
    rw [e, unhexGo_cons, hexV_D _ (by omega), hexV_D _ (by omega), if_neg (by omega)]
    have e2 : 16 * ((b.toNat / 16 : Nat) : Int) + ((b.toNat % 16 : Nat) : Int) = b := by omega
    rw [e2, ih, List.append_assoc]
    rfl
theorem hexD_range (x : Nat) (h : x < 16) : 0 ≤ hexD x ∧ hexD x ≤ 255 := by unfold hexD; split <;> omega
theorem hexL_range (l : List Int) (h : ∀ b ∈ l, 0 ≤ b ∧ b ≤ 255) : ∀ b ∈ hexL l, 0 ≤ b ∧ b ≤ 255 := by
  intro b hb
  unfold hexL at hb
  obtain ⟨c, hc, hm⟩ := List.mem_flatMap.1 hb
  have := h c hc
  simp at hm
  rcases hm with rfl | rfl
  · exact hexD_range _ (by omega)
  · exact hexD_range _ (by omega)
theorem hexL_len (l : List Int) : (hexL l).length = 2 * l.length := by
  induction l with
  | nil => rfl
  | cons b l ih => rw [hexL_cons, List.length_append, ih]; simp; omega
theorem unhexOf_hex (t : ByteArray) (h : t.size ≤ 20000) : unhexOf (strOfNums (hexL (bytesOf t))) = (t, true) := by
  have hz : (strOfNums (hexL (bytesOf t))).size = 2 * t.size := by rw [strOfNums_size, hexL_len, bytesOf_length]
  unfold unhexOf
  rw [if_pos ⟨by omega, by omega⟩, bytesOf_son _ (hexL_range _ (bytesOf_range t)), unhexGo_hex _ _ (bytesOf_range t)]
  rw [List.nil_append, son_bytesOf]

theorem nm_big (l : List Int) : laws_big.f l = some (decide ((l.length : Int) > 1048576)) := rfl
theorem spec_l01Number_is (l : List Int) (hl : ∀ x ∈ l, (Lit.int .u8 x).wf = true) (hm : l.length ≤ 9223372036854775000) (a : Nat) (h : Int) : ∃ (x : Int) (a' : Nat) (h' : Int), spec_l01Number.f l (a : Int) h = some (x, (a' : Int), h') := by
  unfold spec_l01Number.f
  obtain ⟨x, a1, h1, e, _⟩ := spec_l01Below_is l hl hm a h 4 (by omega)
  rw [e, Option.bind_some]
  dsimp only
  by_cases c0 : x = 0
  · rw [if_pos c0]
    obtain ⟨y, a2, h2, e2, _⟩ := spec_l01PickInt_is l hl hm a1 h1 [(-1), 0, 127, 128, 16383, 16384, 1000000000, 1000000001, 9223372036854775807, (-9223372036854775808)] (by simp)
    rw [e2]
    exact ⟨_, a2, h2, rfl⟩
  · rw [if_neg c0]
    by_cases c1 : x = 1
    · rw [if_pos c1]
      obtain ⟨y, a2, h2, e2, _⟩ := spec_l01Below_is l hl hm a1 h1 1000000000 (by omega)
      rw [e2]
      exact ⟨_, a2, h2, rfl⟩
    · rw [if_neg c1]
      obtain ⟨y, a2, h2, e2, _⟩ := spec_l01Below_is l hl hm a1 h1 400 (by omega)
      rw [e2]
      exact ⟨_, a2, h2, rfl⟩
theorem spec_DrawVarText_is (l : List Int) (hl : ∀ x ∈ l, (Lit.int .u8 x).wf = true) (hm : l.length ≤ 9223372036854775000) : ∃ n : Int, Ev (fun k => spec_DrawVarText.f k l) n := by
  obtain ⟨h0, e0⟩ := spec_l01New_is l
  obtain ⟨x, a, h, e⟩ := spec_l01Number_is l hl hm 0 h0
  exact ⟨x, Ev.bind e0 (evb e (Ev.now _))⟩
theorem spec_l01Long_l (n : Nat) (x : Int) (hn : n ≤ 30000) (d : Nat) : ∀ (i : Nat) (acc : List Int), i + d = n → acc.length = n → ∃ t : ByteArray, t.size = n ∧ Ev (fun k => spec_l01Long.l0 k (n : Int) x acc (i : Int)) t := by
  induction d with
  | zero =>
    intro i acc hi ha
    refine ⟨strOfNums acc, by rw [strOfNums_size]; exact ha, Ev.step (fun k => by rw [spec_l01Long.l0]) (evn (by omega) (Ev.now _))⟩
  | succ d ih =>
    intro i acc hi ha
    obtain ⟨t, h1, h2⟩ := ih (i + 1) (acc.set (i : Int).toNat x) (by omega) (by rw [List.length_set]; exact ha)
    refine ⟨t, h1, Ev.step (fun k => by rw [spec_l01Long.l0]) (evp (by omega) (evp (by omega) (evp (by omega) ?_)))⟩
    rw [w64s i (by omega)]
    exact h2
theorem spec_l01Long_is (n : Nat) (x : Int) (hn : n ≤ 30000) : ∃ t : ByteArray, t.size = n ∧ Ev (fun k => spec_l01Long.f k (n : Int) x) t := by
  obtain ⟨t, h1, h2⟩ := spec_l01Long_l n x hn n 0 (List.replicate ((n : Int)).toNat 0) (by omega) (by rw [List.length_replicate]; rfl)
  exact ⟨t, h1, evp (by omega) (evp (by omega) h2)⟩
theorem spec_DrawHex_is (l : List Int) (hl : ∀ x ∈ l, (Lit.int .u8 x).wf = true) (hm : l.length ≤ 9223372036854775000) : ∃ t : ByteArray, t.size ≤ 30000 ∧ Ev (fun k => spec_DrawHex.f k l) t := by
  obtain ⟨h0, e0⟩ := spec_l01New_is l
  obtain ⟨x, a1, h1, e1, _⟩ := spec_l01Below_is l hl hm 0 h0 60 (by omega)
  have eo : spec_l01Once.f l ((0 : Nat) : Int) h0 60 = some ((x == 0), (a1 : Int), h1) := by unfold spec_l01Once.f; rw [e1]; rfl
  by_cases c : (x == 0) = true
  · obtain ⟨y, a2, h2, e2, y0, y1⟩ := spec_l01Below_is l hl hm a1 h1 2 (by omega)
    obtain ⟨n, rfl⟩ := Int.eq_ofNat_of_zero_le y0
    have ew : wrap64 (20000 + (n : Int)) = ((20000 + n : Nat) : Int) := w64a 20000 n (by omega)
    obtain ⟨t, t1, t2⟩ := spec_l01Long_is (20000 + n) 200 (by omega)
    refine ⟨t, by omega, Ev.bind e0 (evb eo (evp c (evb e2 ?_)))⟩
    rw [ew]
    exact Ev.bind t2 (Ev.now _)
  · obtain ⟨y, a2, h2, e2, y0, y1⟩ := spec_l01Below_is l hl hm a1 h1 30 (by omega)
    obtain ⟨t, a3, h3, t1, t2⟩ := spec_l01Text_is l hl hm a2 h2 y
    exact ⟨t, by omega, Ev.bind e0 (evb eo (evn c (evb e2 (Ev.bind t2 (Ev.now _)))))⟩
theorem impl_VarText_is (n : Nat) (h : n ≤ 1000000000) : Ev (fun k => impl_VarText.f k (n : Int)) (vt n, true) := by
  refine evb (impl_in_is _ _ _) (evp (by simp; omega) ?_)
  exact Ev.bind (impl_varText_is n (by omega)) (Ev.now _)
theorem impl_ShortText_is (t : ByteArray) (h : t.size ≤ 20000) : Ev (fun k => impl_ShortText.f k t) (vt t.size ++ t, true) := by
  refine evn (by omega) (Ev.bind (impl_varText_is t.size (by omega)) (evp ?_ (Ev.now _)))
  have := varNums_len 5 t.size (by omega) (by omega)
  rw [vt_len]; omega
theorem nm_last (n : Nat) (t : ByteArray) (hn : n ≤ 1000000000) (ht : t.size ≤ 300) : Ev (fun k => laws_FnNumbers.j2 k (n : Int) (vt n) true (n : Int) (((vt n).size + 1 : Nat) : Int) true (n : Int) true t) true := by
  have hs : (vt t.size ++ t).size ≤ 140737488351232 := by
    have := varNums_len 5 t.size (by omega) (by omega)
    rw [ByteArray.size_append, vt_len]; omega
  have hv := varNums_len 5 n (by omega) (by omega)
  rw [← vt_len] at hv
  refine Ev.step (fun k => by rw [laws_FnNumbers.j2]) ?_
  refine Ev.bind (impl_ShortText_is t (by omega)) (Ev.bind (impl_ReadShort_is _ hs 0) (Ev.bind (impl_Hex_is t) (Ev.bind (impl_Unhex_is _) ?_)))
  have eh : hexOf t = (strOfNums (hexL (bytesOf t)), true) := by unfold hexOf; rw [if_neg (by omega)]
  rw [readShort_vt t (by omega), eh]
  simp only
  rw [unhexOf_hex t (by omega)]
  refine evp (by trivial) (evp (by trivial) (evp (by trivial) (evp (by trivial) (evp (by trivial) (evp (by trivial) (evp (by trivial) (evp (by trivial) (evp (by trivial) (evp ?_ (evp (by trivial) (evp (by trivial) (evs ?_))))))))))))
  · rw [w64s _ (by omega)]
  · simp
theorem nm_mid (l : List Int) (hl : ∀ x ∈ l, (Lit.int .u8 x).wf = true) (hm : l.length ≤ 9223372036854775000) (n : Nat) (hn : n ≤ 1000000000) : Ev (fun k => laws_FnNumbers.j1 k l (n : Int)) true := by
  have hv := varNums_len 5 n (by omega) (by omega)
  rw [← vt_len] at hv
  have z1 : (⟨#[120]⟩ : ByteArray).size = 1 := rfl
  have z2 : (⟨#[121]⟩ : ByteArray).size = 1 := rfl
  have hz : (((⟨#[120]⟩ : ByteArray) ++ vt n) ++ (⟨#[121]⟩ : ByteArray)).size ≤ 140737488351232 := by rw [ByteArray.size_append, ByteArray.size_append]; omega
  have hr : readVar (((⟨#[120]⟩ : ByteArray) ++ vt n) ++ (⟨#[121]⟩ : ByteArray)) ((1 : Nat) : Int) = ((n : Int), ((1 + (varNums n).length : Nat) : Int), true) := by
    apply readVar_vt _ 1 n [121] hn
    rw [bytesOf_append, bytesOf_append, bytesOf_vt]
    rfl
  obtain ⟨t, ht, et⟩ := spec_DrawHex_is l hl hm
  refine Ev.step (fun k => by rw [laws_FnNumbers.j1]) ?_
  refine Ev.bind (impl_VarText_is n hn) (evp (by dsimp only; omega) (evp (by dsimp only; rw [ByteArray.size_append]; omega) (Ev.bind (impl_ReadVar_is _ hz 1) ?_)))
  have hr1 : readVar (((⟨#[120]⟩ : ByteArray) ++ vt n) ++ (⟨#[121]⟩ : ByteArray)) 1 = ((n : Int), (((vt n).size + 1 : Nat) : Int), true) := by
    have := hr
    rw [← vt_len, Nat.add_comm 1] at this
    exact this
  have hd : impl_Decimal.f (n : Int) = some ⟨(Lib.decDigits n).toArray⟩ := by
    unfold impl_Decimal.f
    rw [if_pos (by omega), itoa_nat _ (by omega)]
    rfl
  have hrd : impl_ReadDecimal.f ⟨(Lib.decDigits n).toArray⟩ = some ((n : Int), true) := by
    have hl2 := dd_len n hn
    have : (ByteArray.mk (Lib.decDigits n).toArray).size = (Lib.decDigits n).length := by show (Lib.decDigits n).toArray.size = _; simp
    unfold impl_ReadDecimal.f
    rw [if_pos (by omega), rdV_yes _ n hn (by simp)]
  simp only [hr1]
  refine evb hd (evb hrd (Ev.bind et ?_))
  by_cases c : (t.size : Int) > 300
  · exact evp c (nm_last n _ hn (by decide))
  · exact evn c (nm_last n t hn (by omega))
theorem FnNumbers : laws_FnNumbers.Pure := by
  intro l _ hm hl
  have hm' : l.length ≤ 9223372036854775000 := by omega
  refine Ev.rounds (g := fun k => laws_FnNumbers.f k l) ?_
  refine evb (nm_big l) ?_
  by_cases hb : (l.length : Int) > 1048576
  · exact evp (by simpa using hb) (Ev.now _)
  refine evn (by simpa using hb) ?_
  obtain ⟨n, en⟩ := spec_DrawVarText_is l hl hm'
  refine Ev.bind en ?_
  have h12 : Ev (fun k => laws_FnNumbers.j1 k l 12345) true := nm_mid l hl hm' 12345 (by omega)
  by_cases c : n < 0
  · refine evp c (Ev.step (fun k => by rw [laws_FnNumbers.j0]) ?_)
    exact evp rfl h12
  · refine evn c (Ev.step (fun k => by rw [laws_FnNumbers.j0]) ?_)
    by_cases c2 : n > 1000000000
    · exact evp (by simpa using c2) h12
    · refine evn (by simpa using c2) ?_
      obtain ⟨m, rfl⟩ := Int.eq_ofNat_of_zero_le (by omega : 0 ≤ n)
      exact nm_mid l hl hm' m (by omega)

end Go.Proofs.YtelnbjlhlklngaaDoor.Pure
